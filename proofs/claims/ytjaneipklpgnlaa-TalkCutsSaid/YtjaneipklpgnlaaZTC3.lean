/-
What is proved: aquifer/aquiferlaw20.TalkCuts answers true for every input, and leaves its arguments as they were.
-/
import Derived.RangeFuncNested
import Derived.RangeFuncBound
import Derived.RangeFuncCalls
import Derived.RangeFuncLeaves
import Derived.Shelf.Abstract
import Derived.Shelf.RegionOpen
import Derived.WalkKit
import Derived.OwnWalkIn
import Derived.TacticsInMore
import Derived.LoopNIn
import Derived.LoopIn
import Derived.Test.YtjaneipklpgnlaaZTC2
import Derived.Maps.AppendAt
import Derived.Test.YtjaneipklpgnlaaZTC1
import Derived.OpenShut
import Derived.Test.YtjaneipklpgnlaaRows
import Derived.ProofKit
import Derived.ShutString
import Derived.ChangeOld
import Derived.Below
import Derived.SizedLaws
section
namespace Go.Proofs.Ytjaneipklpgnlaa.Q
open Go Go.RowKit Go.Shelf Go.Proofs.YtjaneipklpgnlaaW.PrintWords Go.Proofs.YtjaneipklpgnlaaW.PrintLast Go.Proofs.YtjaneipklpgnlaaW.PrintMore
attribute [local go_sem] Oper.semAt_some
set_option linter.unusedSimpArgs false
set_option linter.unusedVariables false
/-- What a round over 'of' keeps: what lay below n₀, and the iterator's three boxes. -/
def KpOf (n₀ B : Nat) (W W' : World) : Prop := Below n₀ W W' ∧ ∀ k t v, (t = 57 ∨ t = 3) → B ≤ k → k < B + 3 → Boxed W k t v → Boxed W' k t v
theorem kpOf_t {n₀ B : Nat} {X Y Z : World} (h : KpOf n₀ B X Y) (h' : KpOf n₀ B Y Z) : KpOf n₀ B X Z := ⟨h.1.trans h'.1, fun k t v h0 h1 h2 hb => h'.2 k t v h0 h1 h2 (h.2 k t v h0 h1 h2 hb)⟩
theorem kpOf_b {n₀ B : Nat} {w : World} (hn : n₀ ≤ w.heap.size) (W : World) (l : Nat) (o o' : Obj) (hl : w.heap.size ≤ l) (h : W.heap[l]? = some o) (ho : o.isCells = false) (hw : o.isWalk = false) : KpOf n₀ B W (W.putObj l o') :=
  ⟨belowK_b hn W l o o' hl h ho hw, fun k t v _ _ _ hb => hb.kept (grownBy_putObj' W l o') (fun e => by
    cases e
    rw [show W.heap[l]? = _ from hb] at h
    cases h
    cases ho)⟩
def enc84 (x : S84) : Value := .agg #[.int .i64 x.f0, .int .i64 x.f1, .int .i64 x.f2, .string x.f3]
set_option maxHeartbeats 1000000 in
theorem of_in (F : Fence) (n : Nat) (h32 : F.fn 65) (hro : F.round = none) (A : Option Addr) (len c : Nat) (tag kind : Int) (w : World) :
    CallsIn F n Try.prog 65 #[.slice A len c, .int .i64 tag, .int .i64 kind] w fun e w' => e = .returned (.func (.func 71) #[] #[.pointer (some ⟨w.heap.size, 0, none⟩), .pointer (some ⟨w.heap.size + 1, 0, none⟩), .pointer (some ⟨w.heap.size + 1 + 1, 0, none⟩)]) ∧ w' = ((w.alloc (.cells #[.slice A len c] 57)).alloc (.cells #[.int .i64 tag] 3)).alloc (.cells #[.int .i64 kind] 3) := by
  refine callsIn_of_wp Try.func65 rfl h32 ?_ hro
  simp only [Try.ntmps65, List.size_toArray, List.length_cons, List.length_nil, Nat.reduceAdd, Nat.reduceSub, Array.replicate_succ, Array.replicate_zero, List.push_toArray, List.append_toArray, List.nil_append, List.cons_append]
  gi_wp2
  go_ret
  exact ⟨rfl, rfl⟩
set_option maxRecDepth 100000 in
set_option maxHeartbeats 4000000 in
theorem of1_in (F : Fence) (n : Nat) (h38 : F.fn 71) (hro : F.round = none) (hn : 1 ≤ n) (l B : Nat) (A : Option Addr) (c : Nat) (xs : List S84) (tag kind : Int) (w : World) (hr : Kd.C k84 w A xs.length xs) (hlen : xs.length ≤ 1048576) (J Jx : List S84 → World → Prop)
    (hY : ∀ pre x W, J pre W → pre.length < xs.length → YieldAt F (n - 1) Try.prog l #[enc84 x] W fun e W' =>
      (e = .returned (.bool true) ∧ J (pre ++ [x]) W' ∧ KpOf w.heap.size B W W') ∨ (e = .returned (.bool false) ∧ Jx (pre ++ [x]) W'))
    (W : World) (hW : Below w.heap.size w W) (b1 : Boxed W B 57 (.slice A xs.length c)) (b2 : Boxed W (B + 1) 3 (.int .i64 tag)) (b3 : Boxed W (B + 1 + 1) 3 (.int .i64 kind)) (hJ : AbidesFrom W.heap.size J) (h0 : J [] W) :
    CallsIn F n Try.prog 71 #[.func (.yield l) #[] #[], .pointer (some ⟨B, 0, none⟩), .pointer (some ⟨B + 1, 0, none⟩), .pointer (some ⟨B + 1 + 1, 0, none⟩)] W fun e W' => (∃ v, e = .returned v) ∧
      ((∃ ys, ys = xs.filter (isOf tag kind) ∧ J ys W') ∨ (∃ pre, pre <+: xs.filter (isOf tag kind) ∧ Jx pre W')) := by
  have c1 := b1.cell
  have HR := Aside0.mk hr
  have HW := Aside0.mk hW
  have HY := Aside0.mk hY
  clear hr hW hY
  have hu84 := Try.underlying84
  have hja : ∀ s W' o, J s W' → J s (W'.alloc o) := fun s W' o h => hJ s W' _ none h (World.grownBy_alloc W' o none) (fun r e => by cases e)
  have HJA := Aside0.mk hja
  clear hja hJ
  refine callsIn_of_wp Try.func71 rfl h38 ?_ hro
  simp only [Try.ntmps71, List.size_toArray, List.length_cons, List.length_nil, Nat.reduceAdd, Nat.reduceSub, Array.replicate_succ, Array.replicate_zero, List.push_toArray, List.append_toArray, List.nil_append, List.cons_append]
  gi_wp2
  gi_loopw [9] (fun i wr => ∃ k : Nat, k ≤ xs.length ∧ i = .int .i64 k ∧ J ((xs.take k).filter (isOf tag kind)) wr ∧ Aside0 (Below w.heap.size w wr) ∧ Boxed wr (B + 1) 3 (.int .i64 tag) ∧ Boxed wr (B + 1 + 1) 3 (.int .i64 kind))
    (fun i _ => xs.length - (intOf i).toNat)
  case atStart => exact ⟨0, Nat.zero_le _, rfl, h0, HW, b2, b3⟩
  case round =>
    obtain ⟨k, hk, rfl, hJs, HB, c2, c3⟩ := hrel
    have d2 := c2.cell
    have d3 := c3.cell
    by_cases hlt : k < xs.length
    · obtain ⟨ad, e, x0, x1, x2, x3⟩ := at_T84 HR.out (k : Int) (by omega) (by omega)
      subst e
      have hx : rd_T84 xs (k : Int) = xs[k] := by simp [rd_T84, hlt]
      rw [hx, Int.toNat_natCast] at x0 x1 x2 x3
      have hd : (xs.take (k + 1)).filter (isOf tag kind) = (xs.take k).filter (isOf tag kind) ++ (if isOf tag kind xs[k] then [xs[k]] else []) := by
        rw [List.take_succ_eq_append_getElem hlt, List.filter_append]
        cases h : isOf tag kind xs[k] <;> simp [h]
      have hp : (xs.take (k + 1)).filter (isOf tag kind) <+: xs.filter (isOf tag kind) := (List.take_prefix _ _).filter _
      have hln : ((xs.take k).filter (isOf tag kind)).length < xs.length := Nat.lt_of_le_of_lt (List.length_filter_le _ _) (by rw [List.length_take]; omega)
      have HP := Aside0.mk hp
      clear hp
      generalize xs[k] = x at x0 x1 x2 x3 hd
      have HD := Aside0.mk hd
      clear hx hd
      replace x0 := (HB.out.cell (World.block_lt_of_cell? w _ x0)).trans x0
      replace x1 := (HB.out.cell (World.block_lt_of_cell? w _ x1)).trans x1
      replace x2 := (HB.out.cell (World.block_lt_of_cell? w _ x2)).trans x2
      replace x3 := (HB.out.cell (World.block_lt_of_cell? w _ x3)).trans x3
      have hnew : ∀ o, Boxed (wr.alloc o) (B + 1) 3 (.int .i64 tag) := fun o => c2.alloc o
      have hnew3 : ∀ o, Boxed (wr.alloc o) (B + 1 + 1) 3 (.int .i64 kind) := fun o => c3.alloc o
      have e2 := fun o => (c2.alloc o).cell
      have e3 := fun o => (c3.alloc o).cell
      obtain ⟨y0, y1, y2, y3⟩ := x
      by_cases h1 : y0 = tag
      · by_cases h2 : y1 = kind
        · subst h1
          subst h2
          obtain ⟨fn, tmps, assign, body, hy, hR⟩ := HY.out _ ⟨y0, y1, y2, y3⟩ (wr.alloc (.cells #[.int .i64 y0, .int .i64 y1, .int .i64 y2, .string y3] 84 (0, 0))) (HJA.out _ _ _ hJs) hln
          have hI : isOf y0 y1 ⟨y0, y1, y2, y3⟩ = true := by simp [isOf]
          have hD := HD.out
          rw [hI, if_pos rfl] at hD
          clear HD
          have HD := Aside0.mk hD
          clear hD
          simp only [enc84] at hy
          gi_wp2
          refine hR.mono ?_
          rintro e W3 (⟨rfl, hJ3, hk3⟩ | ⟨rfl, hJx3⟩)
          · rw [← HD.out] at hJ3
            have c2' := hk3.2 _ _ _ (.inr rfl) (by omega) (by omega) (hnew _)
            have c3' := hk3.2 _ _ _ (.inr rfl) (by omega) (by omega) (hnew3 _)
            have HB3 := Aside0.mk ((HB.out.alloc (by have := HB.out.size; omega) _).trans hk3.1)
            clear hk3
            gi_wp2
            go_roundw
            case rel => exact ⟨k + 1, by omega, by go_num, hJ3, HB3, c2', c3'⟩
            case measure => simp [intOf]; omega
          · rw [← HD.out] at hJx3
            gi_wp2
            refine bodyPost_ret (results_none rfl _ _ _) rfl ?_
            exact ⟨⟨_, rfl⟩, .inr ⟨_, HP.out, hJx3⟩⟩
        · subst h1
          have hI : isOf y0 kind ⟨y0, y1, y2, y3⟩ = false := by simp [isOf, h2]
          have hD := HD.out
          rw [hI, if_neg (by simp), List.append_nil] at hD
          clear HD
          have hJ' := hJs
          rw [← hD] at hJ'
          clear hD
          gi_wp2
          refine ⟨fun _ h => (by cases h), ?_⟩
          gi_wp2
          go_roundw
          case rel => exact ⟨k + 1, by omega, by go_num, HJA.out _ _ _ hJ', ⟨HB.out.alloc (by have := HB.out.size; omega) _⟩, hnew _, hnew3 _⟩
          case measure => simp [intOf]; omega
      · have hI : isOf tag kind ⟨y0, y1, y2, y3⟩ = false := by simp [isOf, h1]
        have hD := HD.out
        rw [hI, if_neg (by simp), List.append_nil] at hD
        clear HD
        have hJ' := hJs
        rw [← hD] at hJ'
        clear hD
        gi_wp2
        refine ⟨fun _ h => (by cases h), ?_⟩
        gi_wp2
        go_roundw
        case rel => exact ⟨k + 1, by omega, by go_num, HJA.out _ _ _ hJ', ⟨HB.out.alloc (by have := HB.out.size; omega) _⟩, hnew _, hnew3 _⟩
        case measure => simp [intOf]; omega
    · obtain rfl : k = xs.length := by omega
      gi_wp2
      go_end0
      exact ⟨⟨_, rfl⟩, .inl ⟨_, by rw [List.take_length], hJs⟩⟩
theorem of_stops (F : Fence) (n : Nat) (h38 : F.fn 71) (hro : F.round = none) (hn : 1 ≤ n) (B : Nat) (A : Option Addr) (c : Nat) (xs : List S84) (tag kind : Int) (w : World) (hr : Kd.C k84 w A xs.length xs) (hlen : xs.length ≤ 1048576) (w1 : World) (hW1 : Below w.heap.size w w1)
    (b1 : Boxed w1 B 57 (.slice A xs.length c)) (b2 : Boxed w1 (B + 1) 3 (.int .i64 tag)) (b3 : Boxed w1 (B + 1 + 1) 3 (.int .i64 kind)) :
    SeqStopsK F n Try.prog 71 #[.pointer (some ⟨B, 0, none⟩), .pointer (some ⟨B + 1, 0, none⟩), .pointer (some ⟨B + 1 + 1, 0, none⟩)] (fun x : S84 => #[enc84 x]) (KpOf w.heap.size B) (fun ys => ys = xs.filter (isOf tag kind)) (fun pre => pre <+: xs.filter (isOf tag kind)) xs.length w1 := fun l J Jx W hW hJ hJx hY h0 =>
  of1_in F n h38 hro hn l B A c xs tag kind w hr hlen J Jx hY W (hW1.trans (hW.mono hW1.size)) ((hW.block _ b1.lt).trans b1) ((hW.block _ b2.lt).trans b2) ((hW.block _ b3.lt).trans b3) hJ h0
end Go.Proofs.Ytjaneipklpgnlaa.Q
end
section
namespace Go.Proofs.Ytjaneipklpgnlaa.Q
open Go Go.RowKit Go.Shelf Go.Proofs.YtjaneipklpgnlaaW.PrintWords Go.Proofs.YtjaneipklpgnlaaW.PrintLast Go.Proofs.YtjaneipklpgnlaaW.PrintMore
attribute [local go_sem] Oper.semAt_some
set_option linter.unusedSimpArgs false
set_option linter.unusedVariables false
def numV : List S84 → Int
  | [] => 0
  | x :: _ => x.f2
set_option maxRecDepth 100000 in
set_option maxHeartbeats 4000000 in
theorem num_in (F : Fence) (n : Nat) (h0 : F.fn 57) (h32 : F.fn 65) (h38 : F.fn 71) (hro : F.round = none) (hn : 5 ≤ n) (A : Option Addr) (c : Nat) (xs : List S84) (tag : Int) (w : World) (hr : Kd.C k84 w A xs.length xs) (hlen : xs.length ≤ 1048576) :
    CallsIn F n Try.prog 57 #[.slice A xs.length c, .int .i64 tag] w fun e W' => e = .returned (.tuple #[.int .i64 (numV (xs.filter (isOf tag 0))), .bool (decide (xs.filter (isOf tag 0) ≠ []))]) ∧ Below w.heap.size w W' := by
  have h1 : 1 ≤ n := by omega
  refine callsIn_of_wp_marks Try.func57 rfl h0 ?_ hro
  simp only [Try.ntmps57, List.size_toArray, List.length_cons, List.length_nil, Nat.reduceAdd, Nat.reduceSub, Array.replicate_succ, Array.replicate_zero, List.push_toArray, List.append_toArray, List.nil_append, List.cons_append]
  gi_wp2_with (gi_at_call 65; refine (of_in F (n - 1) h32 hro _ _ _ _ _ _).mono ?_; rintro e w' ⟨rfl, rfl⟩)
  obtain ⟨Z, hZ⟩ : ∃ Z, Z = (w.alloc (.cells #[.int .i64 0] 3)).alloc (.cells #[.bool false] 4) := ⟨_, rfl⟩
  have bR := Boxed.new w 3 (.int .i64 0)
  have bQ := Boxed.new (w.alloc (.cells #[.int .i64 0] 3)) 4 (.bool false)
  have bR := bR.alloc (.cells #[.bool false] 4)
  have hB0 : Below w.heap.size w Z := by rw [hZ]; exact ((Below.refl _ w).alloc (Nat.le_refl _) _).alloc (by simp) _
  have hsz : Z.heap.size = w.heap.size + 1 + 1 := by rw [hZ]; simp
  rw [World.size_alloc] at bQ
  rw [← hZ] at bR bQ ⊢
  clear hZ
  have b1 := ((Boxed.new Z 57 (.slice A xs.length c)).alloc (.cells #[.int .i64 tag] 3)).alloc (.cells #[.int .i64 0] 3)
  have b2 := (Boxed.new (Z.alloc (.cells #[.slice A xs.length c] 57)) 3 (.int .i64 tag)).alloc (.cells #[.int .i64 0] 3)
  have b3 := Boxed.new ((Z.alloc (.cells #[.slice A xs.length c] 57)).alloc (.cells #[.int .i64 tag] 3)) 3 (.int .i64 0)
  simp only [World.size_alloc] at b2 b3
  rw [hsz] at b1 b2 b3
  replace hB0 := ((hB0.alloc (by omega) (.cells #[.slice A xs.length c] 57)).alloc (by simp; omega) (.cells #[.int .i64 tag] 3)).alloc (by simp; omega) (.cells #[.int .i64 0] 3)
  replace bR := ((bR.alloc (.cells #[.slice A xs.length c] 57)).alloc (.cells #[.int .i64 tag] 3)).alloc (.cells #[.int .i64 0] 3)
  replace bQ := ((bQ.alloc (.cells #[.slice A xs.length c] 57)).alloc (.cells #[.int .i64 tag] 3)).alloc (.cells #[.int .i64 0] 3)
  have hszW : (((Z.alloc (.cells #[.slice A xs.length c] 57)).alloc (.cells #[.int .i64 tag] 3)).alloc (.cells #[.int .i64 0] 3)).heap.size = w.heap.size + 5 := by simp; omega
  obtain ⟨W0, hW0⟩ : ∃ W0, ((Z.alloc (.cells #[.slice A xs.length c] 57)).alloc (.cells #[.int .i64 tag] 3)).alloc (.cells #[.int .i64 0] 3) = W0 := ⟨_, rfl⟩
  rw [hW0] at b1 b2 b3 bR bQ hB0 hszW ⊢
  clear hW0
  refine wpIn_rangeFunc_ownH hro h1 (gf := 71) (lb := #[.pointer (some ⟨(w.heap.size + 1 + 1), 0, none⟩), .pointer (some ⟨(w.heap.size + 1 + 1) + 1, 0, none⟩), .pointer (some ⟨(w.heap.size + 1 + 1) + 1 + 1, 0, none⟩)]) rfl h38 (enters_of Try.func71 (by kernel_rfl) rfl)
    (of_stops F (n - 1) h38 hro (by omega) (w.heap.size + 1 + 1) A c xs tag 0 w hr hlen W0 hB0 b1 b2 b3) kpOf_t (kpOf_b (by omega)) (Below.refl _ _) (fun _ => rfl)
    (fun pre W => ((pre = [] ∧ Boxed W w.heap.size 3 (.int .i64 0)) ∧ Boxed W (w.heap.size + 1) 4 (.bool false)) ∧ Below w.heap.size w W)
    (fun c pre W => ((c = .ret ∧ pre ≠ []) ∧ Boxed W w.heap.size 3 (.int .i64 (numV pre)) ∧ Boxed W (w.heap.size + 1) 4 (.bool true)) ∧ Below w.heap.size w W)
    (OwnFrom.and (OwnFrom.and (OwnFrom.and (ownFrom_pure _ _) (Own.from (boxed_own _ _ _) _)) (Own.from (boxed_own _ _ _) _)) (ownFrom_below (Nat.le_refl _) (by omega)))
    (fun c => OwnFrom.and (OwnFrom.and (ownFrom_pure _ _) (OwnFrom.and (Own.from (boxed_own _ _ _) _) (Own.from (boxed_own _ _ _) _))) (ownFrom_below (Nat.le_refl _) (by omega)))
    ⟨⟨⟨rfl, bR⟩, bQ⟩, hB0⟩
    (fun x a' W => ∃ Bx, w.heap.size + 1 < Bx ∧ W.heap[Bx]? = some (.cells #[.int .i64 x.f0, .int .i64 x.f1, .int .i64 x.f2, .string x.f3] 84 (0, 0)) ∧ a' = { tmps := #[.slice A xs.length c, .int .i64 tag, undef, undef, .pointer (some ⟨w.heap.size, 0, none⟩), .pointer (some ⟨w.heap.size + 1, 0, none⟩), .pointer (some ⟨Bx, 0, none⟩), .slice A xs.length c, .int .i64 tag, .func (.func 71) #[] #[.pointer (some ⟨(w.heap.size + 1 + 1), 0, none⟩), .pointer (some ⟨(w.heap.size + 1 + 1) + 1, 0, none⟩), .pointer (some ⟨(w.heap.size + 1 + 1) + 1 + 1, 0, none⟩)], enc84 x, undef, undef], defers := [] })
    (fun x a' _ X Y row hs hg hr => by obtain ⟨Bx, e1, e2, e3⟩ := hs; exact ⟨Bx, e1, (grownBy_keeps_cells hg (fun r e => (hr r e).2) e2 rfl).trans e2, e3⟩)
    ?assign ?body ?done ?stop
  case assign =>
    rintro l pre x W K ⟨⟨⟨rfl, bR1⟩, bB1⟩, hB1⟩ hK
    simp only [enc84] at hK ⊢
    have hu84 := Try.underlying84
    gi_wp2
    exact hK _ _ ((KeepsOthers.alloc _ _).from _) ⟨(Below.refl _ W).alloc hB1.size _, fun k t v _ _ _ hb => hb.alloc _⟩ ⟨⟨⟨by first | rfl | trivial, bR1.alloc _⟩, bB1.alloc _⟩, hB1.alloc hB1.size _⟩ ⟨W.heap.size, bB1.lt, World.alloc_heap_new W _, rfl⟩
  case body =>
    rintro l pre x a' W hl ⟨r, hr⟩ ⟨⟨⟨rfl, bR1⟩, bB1⟩, hB1⟩ ⟨Bx, hBx, bX, rfl⟩ hlt
    have cR := bR1.cell
    have fR := bR1.frozen
    have cB := bB1.cell
    have fB := bB1.frozen
    have cX : W.cell? ⟨Bx, 2, none⟩ = some (.int .i64 x.f2) := (blk_cell bX 2).trans rfl
    gi_wp2
    exact ⟨((KeepsOthers.setCell _ _ _).trans (KeepsOthers.setCell _ _ _)).from _, ⟨⟨by first | rfl | trivial, by simp⟩, (bR1.set _).other (by omega) _, (bB1.other (by omega) _).set _⟩, (hB1.setCell (p := ⟨w.heap.size, 0, none⟩) (by simp) _).setCell (p := ⟨w.heap.size + 1, 0, none⟩) (by simp) _⟩
  case done =>
    rintro D zs W hD rfl ⟨⟨⟨hp, bR1⟩, bB1⟩, hB1⟩ hK
    have cR := bR1.cell
    have fR := bR1.frozen
    have cB := bB1.cell
    have fB := bB1.frozen
    gi_wp2
    have hK' := ((KeepsOthers.setCell W ⟨w.heap.size, 0, none⟩ (.int .i64 0)).trans (KeepsOthers.setCell _ ⟨w.heap.size + 1, 0, none⟩ (.bool false))).same D _ hK rfl
    refine ⟨by simp, .inl ⟨_, _, rfl, run_takeDeferred hK', ?_⟩⟩
    have hc4 := cell_kept ((bR1.set (.int .i64 0)).other (B' := w.heap.size + 1) (by omega) (.bool false)).cell (grownBy_putObj' _ D (.deferred none)) (fun r e => by cases e; exact ⟨_, hK', rfl⟩)
    have hc5 := cell_kept ((bB1.other (B' := w.heap.size) (by omega) (.int .i64 0)).set (.bool false)).cell (grownBy_putObj' _ D (.deferred none)) (fun r e => by cases e; exact ⟨_, hK', rfl⟩)
    refine ⟨.tuple #[.int .i64 0, .bool false], ?_, by rw [hp]; rfl, ((hB1.setCell (p := ⟨w.heap.size, 0, none⟩) (by simp) _).setCell (p := ⟨w.heap.size + 1, 0, none⟩) (by simp) _).trans (belowK_b (w := w) (Nat.le_refl _) _ D _ _ (by omega) hK' rfl rfl)⟩
    simp [results, Try.f57, go_sem, hc4, hc5]
  case stop =>
    rintro D c pre W hD hpre ⟨⟨⟨rfl, hne⟩, bR1, bB1⟩, hB1⟩ hK
    gi_wp2
    refine ⟨by simp, .inl ⟨_, _, rfl, run_takeDeferred hK, ?_⟩⟩
    have hc4 := cell_kept bR1.cell (grownBy_putObj' _ D (.deferred none)) (fun r e => by cases e; exact ⟨_, hK, rfl⟩)
    have hc5 := cell_kept bB1.cell (grownBy_putObj' _ D (.deferred none)) (fun r e => by cases e; exact ⟨_, hK, rfl⟩)
    refine ⟨.tuple #[.int .i64 (numV pre), .bool true], ?_, ?_, hB1.trans (belowK_b (w := w) (Nat.le_refl _) W D _ _ (by omega) hK rfl rfl)⟩
    · simp [results, Try.f57, go_sem, hc4, hc5]
    · obtain ⟨u, hu⟩ := hpre
      rw [← hu]
      cases pre with
      | nil => exact absurd rfl hne
      | cons y t => rfl
theorem field_Num.calls (A0 : Option Addr) (c0 : Nat) (l0 : List S84) (a1 : Int) (r1 : Int) (r2 : Bool) (w : World) (hr0 : Kd.C k84 w A0 l0.length l0) (hc0 : l0.length ≤ c0) (h : field_Num.f l0 a1 = some (r1, r2)) :
    Calls Try.prog 57 #[.slice A0 l0.length c0, .int .i64 a1] w fun e w' => e = .returned (.tuple #[.int .i64 r1, .bool r2]) ∧ Below w.heap.size w w' := by
  unfold field_Num.f at h
  split at h
  · rename_i hl
    refine callsIn_wide.1 ((num_in Fence.wide 5 trivial trivial trivial rfl (Nat.le_refl _) A0 c0 l0 a1 w hr0 hl).mono ?_)
    rintro e W' ⟨rfl, hb⟩
    refine ⟨?_, hb⟩
    have h := Option.some.inj h
    cases hq : l0.filter (isOf a1 0) with
    | nil => rw [hq] at h; cases h; rfl
    | cons x t => rw [hq] at h; cases h; rfl
  · cases h
end Go.Proofs.Ytjaneipklpgnlaa.Q
end
section
namespace Go.Proofs.Ytjaneipklpgnlaa.Q
open Go Go.RowKit Go.Shelf Go.Proofs.YtjaneipklpgnlaaW.PrintWords Go.Proofs.YtjaneipklpgnlaaW.PrintLast Go.Proofs.YtjaneipklpgnlaaW.PrintMore
attribute [local go_sem] Oper.semAt_some
set_option linter.unusedSimpArgs false
set_option linter.unusedVariables false
def textV : List S84 → ByteArray
  | [] => ⟨#[]⟩
  | x :: _ => x.f3
set_option maxRecDepth 100000 in
set_option maxHeartbeats 4000000 in
theorem text_in (F : Fence) (n : Nat) (h0 : F.fn 58) (h32 : F.fn 65) (h38 : F.fn 71) (hro : F.round = none) (hn : 5 ≤ n) (A : Option Addr) (c : Nat) (xs : List S84) (tag : Int) (w : World) (hr : Kd.C k84 w A xs.length xs) (hlen : xs.length ≤ 1048576) :
    CallsIn F n Try.prog 58 #[.slice A xs.length c, .int .i64 tag] w fun e W' => e = .returned (.tuple #[.string (textV (xs.filter (isOf tag 1))), .bool (decide (xs.filter (isOf tag 1) ≠ []))]) ∧ Below w.heap.size w W' := by
  have h1 : 1 ≤ n := by omega
  refine callsIn_of_wp_marks Try.func58 rfl h0 ?_ hro
  simp only [Try.ntmps58, List.size_toArray, List.length_cons, List.length_nil, Nat.reduceAdd, Nat.reduceSub, Array.replicate_succ, Array.replicate_zero, List.push_toArray, List.append_toArray, List.nil_append, List.cons_append]
  gi_wp2_with (gi_at_call 65; refine (of_in F (n - 1) h32 hro _ _ _ _ _ _).mono ?_; rintro e w' ⟨rfl, rfl⟩)
  obtain ⟨Z, hZ⟩ : ∃ Z, Z = (w.alloc (.cells #[.string ⟨#[]⟩] 9)).alloc (.cells #[.bool false] 4) := ⟨_, rfl⟩
  have bR := Boxed.new w 9 (.string ⟨#[]⟩)
  have bQ := Boxed.new (w.alloc (.cells #[.string ⟨#[]⟩] 9)) 4 (.bool false)
  have bR := bR.alloc (.cells #[.bool false] 4)
  have hB0 : Below w.heap.size w Z := by rw [hZ]; exact ((Below.refl _ w).alloc (Nat.le_refl _) _).alloc (by simp) _
  have hsz : Z.heap.size = w.heap.size + 1 + 1 := by rw [hZ]; simp
  rw [World.size_alloc] at bQ
  rw [← hZ] at bR bQ ⊢
  clear hZ
  have b1 := ((Boxed.new Z 57 (.slice A xs.length c)).alloc (.cells #[.int .i64 tag] 3)).alloc (.cells #[.int .i64 1] 3)
  have b2 := (Boxed.new (Z.alloc (.cells #[.slice A xs.length c] 57)) 3 (.int .i64 tag)).alloc (.cells #[.int .i64 1] 3)
  have b3 := Boxed.new ((Z.alloc (.cells #[.slice A xs.length c] 57)).alloc (.cells #[.int .i64 tag] 3)) 3 (.int .i64 1)
  simp only [World.size_alloc] at b2 b3
  rw [hsz] at b1 b2 b3
  replace hB0 := ((hB0.alloc (by omega) (.cells #[.slice A xs.length c] 57)).alloc (by simp; omega) (.cells #[.int .i64 tag] 3)).alloc (by simp; omega) (.cells #[.int .i64 1] 3)
  replace bR := ((bR.alloc (.cells #[.slice A xs.length c] 57)).alloc (.cells #[.int .i64 tag] 3)).alloc (.cells #[.int .i64 1] 3)
  replace bQ := ((bQ.alloc (.cells #[.slice A xs.length c] 57)).alloc (.cells #[.int .i64 tag] 3)).alloc (.cells #[.int .i64 1] 3)
  have hszW : (((Z.alloc (.cells #[.slice A xs.length c] 57)).alloc (.cells #[.int .i64 tag] 3)).alloc (.cells #[.int .i64 1] 3)).heap.size = w.heap.size + 5 := by simp; omega
  obtain ⟨W0, hW0⟩ : ∃ W0, ((Z.alloc (.cells #[.slice A xs.length c] 57)).alloc (.cells #[.int .i64 tag] 3)).alloc (.cells #[.int .i64 1] 3) = W0 := ⟨_, rfl⟩
  rw [hW0] at b1 b2 b3 bR bQ hB0 hszW ⊢
  clear hW0
  refine wpIn_rangeFunc_ownH hro h1 (gf := 71) (lb := #[.pointer (some ⟨(w.heap.size + 1 + 1), 0, none⟩), .pointer (some ⟨(w.heap.size + 1 + 1) + 1, 0, none⟩), .pointer (some ⟨(w.heap.size + 1 + 1) + 1 + 1, 0, none⟩)]) rfl h38 (enters_of Try.func71 (by kernel_rfl) rfl)
    (of_stops F (n - 1) h38 hro (by omega) (w.heap.size + 1 + 1) A c xs tag 1 w hr hlen W0 hB0 b1 b2 b3) kpOf_t (kpOf_b (by omega)) (Below.refl _ _) (fun _ => rfl)
    (fun pre W => ((pre = [] ∧ Boxed W w.heap.size 9 (.string ⟨#[]⟩)) ∧ Boxed W (w.heap.size + 1) 4 (.bool false)) ∧ Below w.heap.size w W)
    (fun c pre W => ((c = .ret ∧ pre ≠ []) ∧ Boxed W w.heap.size 9 (.string (textV pre)) ∧ Boxed W (w.heap.size + 1) 4 (.bool true)) ∧ Below w.heap.size w W)
    (OwnFrom.and (OwnFrom.and (OwnFrom.and (ownFrom_pure _ _) (Own.from (boxed_own _ _ _) _)) (Own.from (boxed_own _ _ _) _)) (ownFrom_below (Nat.le_refl _) (by omega)))
    (fun c => OwnFrom.and (OwnFrom.and (ownFrom_pure _ _) (OwnFrom.and (Own.from (boxed_own _ _ _) _) (Own.from (boxed_own _ _ _) _))) (ownFrom_below (Nat.le_refl _) (by omega)))
    ⟨⟨⟨rfl, bR⟩, bQ⟩, hB0⟩
    (fun x a' W => ∃ Bx, w.heap.size + 1 < Bx ∧ W.heap[Bx]? = some (.cells #[.int .i64 x.f0, .int .i64 x.f1, .int .i64 x.f2, .string x.f3] 84 (0, 0)) ∧ a' = { tmps := #[.slice A xs.length c, .int .i64 tag, undef, undef, .pointer (some ⟨w.heap.size, 0, none⟩), .pointer (some ⟨w.heap.size + 1, 0, none⟩), .pointer (some ⟨Bx, 0, none⟩), .slice A xs.length c, .int .i64 tag, .func (.func 71) #[] #[.pointer (some ⟨(w.heap.size + 1 + 1), 0, none⟩), .pointer (some ⟨(w.heap.size + 1 + 1) + 1, 0, none⟩), .pointer (some ⟨(w.heap.size + 1 + 1) + 1 + 1, 0, none⟩)], enc84 x, undef, undef], defers := [] })
    (fun x a' _ X Y row hs hg hr => by obtain ⟨Bx, e1, e2, e3⟩ := hs; exact ⟨Bx, e1, (grownBy_keeps_cells hg (fun r e => (hr r e).2) e2 rfl).trans e2, e3⟩)
    ?assign ?body ?done ?stop
  case assign =>
    rintro l pre x W K ⟨⟨⟨rfl, bR1⟩, bB1⟩, hB1⟩ hK
    simp only [enc84] at hK ⊢
    have hu84 := Try.underlying84
    gi_wp2
    exact hK _ _ ((KeepsOthers.alloc _ _).from _) ⟨(Below.refl _ W).alloc hB1.size _, fun k t v _ _ _ hb => hb.alloc _⟩ ⟨⟨⟨by first | rfl | trivial, bR1.alloc _⟩, bB1.alloc _⟩, hB1.alloc hB1.size _⟩ ⟨W.heap.size, bB1.lt, World.alloc_heap_new W _, rfl⟩
  case body =>
    rintro l pre x a' W hl ⟨r, hr⟩ ⟨⟨⟨rfl, bR1⟩, bB1⟩, hB1⟩ ⟨Bx, hBx, bX, rfl⟩ hlt
    have cR := bR1.cell
    have fR := bR1.frozen
    have cB := bB1.cell
    have fB := bB1.frozen
    have cX : W.cell? ⟨Bx, 3, none⟩ = some (.string x.f3) := (blk_cell bX 3).trans rfl
    gi_wp2
    exact ⟨((KeepsOthers.setCell _ _ _).trans (KeepsOthers.setCell _ _ _)).from _, ⟨⟨by first | rfl | trivial, by simp⟩, (bR1.set _).other (by omega) _, (bB1.other (by omega) _).set _⟩, (hB1.setCell (p := ⟨w.heap.size, 0, none⟩) (by simp) _).setCell (p := ⟨w.heap.size + 1, 0, none⟩) (by simp) _⟩
  case done =>
    rintro D zs W hD rfl ⟨⟨⟨hp, bR1⟩, bB1⟩, hB1⟩ hK
    have cR := bR1.cell
    have fR := bR1.frozen
    have cB := bB1.cell
    have fB := bB1.frozen
    gi_wp2
    have hK' := ((KeepsOthers.setCell W ⟨w.heap.size, 0, none⟩ (.string ⟨#[]⟩)).trans (KeepsOthers.setCell _ ⟨w.heap.size + 1, 0, none⟩ (.bool false))).same D _ hK rfl
    refine ⟨by simp, .inl ⟨_, _, rfl, run_takeDeferred hK', ?_⟩⟩
    have hc4 := cell_kept ((bR1.set (.string ⟨#[]⟩)).other (B' := w.heap.size + 1) (by omega) (.bool false)).cell (grownBy_putObj' _ D (.deferred none)) (fun r e => by cases e; exact ⟨_, hK', rfl⟩)
    have hc5 := cell_kept ((bB1.other (B' := w.heap.size) (by omega) (.string ⟨#[]⟩)).set (.bool false)).cell (grownBy_putObj' _ D (.deferred none)) (fun r e => by cases e; exact ⟨_, hK', rfl⟩)
    refine ⟨.tuple #[.string ⟨#[]⟩, .bool false], ?_, by rw [hp]; rfl, ((hB1.setCell (p := ⟨w.heap.size, 0, none⟩) (by simp) _).setCell (p := ⟨w.heap.size + 1, 0, none⟩) (by simp) _).trans (belowK_b (w := w) (Nat.le_refl _) _ D _ _ (by omega) hK' rfl rfl)⟩
    simp [results, Try.f58, go_sem, hc4, hc5]
  case stop =>
    rintro D c pre W hD hpre ⟨⟨⟨rfl, hne⟩, bR1, bB1⟩, hB1⟩ hK
    gi_wp2
    refine ⟨by simp, .inl ⟨_, _, rfl, run_takeDeferred hK, ?_⟩⟩
    have hc4 := cell_kept bR1.cell (grownBy_putObj' _ D (.deferred none)) (fun r e => by cases e; exact ⟨_, hK, rfl⟩)
    have hc5 := cell_kept bB1.cell (grownBy_putObj' _ D (.deferred none)) (fun r e => by cases e; exact ⟨_, hK, rfl⟩)
    refine ⟨.tuple #[.string (textV pre), .bool true], ?_, ?_, hB1.trans (belowK_b (w := w) (Nat.le_refl _) W D _ _ (by omega) hK rfl rfl)⟩
    · simp [results, Try.f58, go_sem, hc4, hc5]
    · obtain ⟨u, hu⟩ := hpre
      rw [← hu]
      cases pre with
      | nil => exact absurd rfl hne
      | cons y t => rfl
theorem field_Text.calls (A0 : Option Addr) (c0 : Nat) (l0 : List S84) (a1 : Int) (r1 : ByteArray) (r2 : Bool) (w : World) (hr0 : Kd.C k84 w A0 l0.length l0) (hc0 : l0.length ≤ c0) (h : field_Text.f l0 a1 = some (r1, r2)) :
    Calls Try.prog 58 #[.slice A0 l0.length c0, .int .i64 a1] w fun e w' => e = .returned (.tuple #[.string r1, .bool r2]) ∧ Below w.heap.size w w' := by
  unfold field_Text.f at h
  split at h
  · rename_i hl
    refine callsIn_wide.1 ((text_in Fence.wide 5 trivial trivial trivial rfl (Nat.le_refl _) A0 c0 l0 a1 w hr0 hl).mono ?_)
    rintro e W' ⟨rfl, hb⟩
    refine ⟨?_, hb⟩
    have h := Option.some.inj h
    cases hq : l0.filter (isOf a1 1) with
    | nil => rw [hq] at h; cases h; rfl
    | cons x t => rw [hq] at h; cases h; rfl
  · cases h
end Go.Proofs.Ytjaneipklpgnlaa.Q
end
section
namespace Go.Proofs.Ytjaneipklpgnlaa.Q
open Go Go.RowKit Go.Shelf Go.Proofs.YtjaneipklpgnlaaW.PrintWords Go.Proofs.YtjaneipklpgnlaaW.PrintLast Go.Proofs.YtjaneipklpgnlaaW.PrintMore
attribute [local go_sem] Oper.semAt_some
set_option linter.unusedSimpArgs false
set_option linter.unusedVariables false
def strF (x : S84) : Value := .string x.f3
set_option maxRecDepth 100000 in
set_option maxHeartbeats 4000000 in
theorem texts_in (F : Fence) (n : Nat) (h0 : F.fn 46) (h32 : F.fn 65) (h38 : F.fn 71) (hro : F.round = none) (hn : 5 ≤ n) (A : Option Addr) (c : Nat) (xs : List S84) (tag : Int) (w : World) (hr : Kd.C k84 w A xs.length xs) (hlen : xs.length ≤ 1048576) :
    CallsIn F n Try.prog 46 #[.slice A xs.length c, .int .i64 tag] w fun e W' => ∃ v, e = .returned v ∧ W'.ownsRow w.heap.size 9 1 v (xs.filter (isOf tag 1)).length ((xs.filter (isOf tag 1)).map strF) ∧ Below w.heap.size w W' := by
  have h1 : 1 ≤ n := by omega
  obtain ⟨i0, hi, hz0, hz1, hz2⟩ := info_parts info9
  refine callsIn_of_wp_marks Try.func46 rfl h0 ?_ hro
  simp only [Try.ntmps46, List.size_toArray, List.length_cons, List.length_nil, Nat.reduceAdd, Nat.reduceSub, Array.replicate_succ, Array.replicate_zero, List.push_toArray, List.append_toArray, List.nil_append, List.cons_append]
  gi_wp2_with (gi_at_call 65; refine (of_in F (n - 1) h32 hro _ _ _ _ _ _).mono ?_; rintro e w' ⟨rfl, rfl⟩)
  obtain ⟨Z, hZ⟩ : ∃ Z, Z = w.alloc (.cells #[.slice none 0 0] 86) := ⟨_, rfl⟩
  have bO := Boxed.new w 86 (.slice none 0 0)
  have hB0 : Below w.heap.size w Z := by rw [hZ]; exact (Below.refl _ w).alloc (Nat.le_refl _) _
  have hsz : Z.heap.size = w.heap.size + 1 := by rw [hZ]; simp
  rw [← hZ] at bO ⊢
  clear hZ
  have b1 := ((Boxed.new Z 57 (.slice A xs.length c)).alloc (.cells #[.int .i64 tag] 3)).alloc (.cells #[.int .i64 1] 3)
  have b2 := (Boxed.new (Z.alloc (.cells #[.slice A xs.length c] 57)) 3 (.int .i64 tag)).alloc (.cells #[.int .i64 1] 3)
  have b3 := Boxed.new ((Z.alloc (.cells #[.slice A xs.length c] 57)).alloc (.cells #[.int .i64 tag] 3)) 3 (.int .i64 1)
  simp only [World.size_alloc] at b2 b3
  rw [hsz] at b1 b2 b3
  replace hB0 := ((hB0.alloc (by omega) (.cells #[.slice A xs.length c] 57)).alloc (by simp; omega) (.cells #[.int .i64 tag] 3)).alloc (by simp; omega) (.cells #[.int .i64 1] 3)
  replace bO := ((bO.alloc (.cells #[.slice A xs.length c] 57)).alloc (.cells #[.int .i64 tag] 3)).alloc (.cells #[.int .i64 1] 3)
  have hszW : (((Z.alloc (.cells #[.slice A xs.length c] 57)).alloc (.cells #[.int .i64 tag] 3)).alloc (.cells #[.int .i64 1] 3)).heap.size = w.heap.size + 4 := by simp; omega
  obtain ⟨W0, hW0⟩ : ∃ W0, ((Z.alloc (.cells #[.slice A xs.length c] 57)).alloc (.cells #[.int .i64 tag] 3)).alloc (.cells #[.int .i64 1] 3) = W0 := ⟨_, rfl⟩
  rw [hW0] at b1 b2 b3 bO hB0 hszW ⊢
  clear hW0
  refine wpIn_rangeFunc_ownH hro h1 (gf := 71) (lb := #[.pointer (some ⟨w.heap.size + 1, 0, none⟩), .pointer (some ⟨w.heap.size + 1 + 1, 0, none⟩), .pointer (some ⟨w.heap.size + 1 + 1 + 1, 0, none⟩)]) rfl h38 (enters_of Try.func71 (by kernel_rfl) rfl)
    (of_stops F (n - 1) h38 hro (by omega) (w.heap.size + 1) A c xs tag 1 w hr hlen W0 hB0 b1 b2 b3) kpOf_t (kpOf_b (by omega)) (Below.refl _ _) (fun _ => rfl)
    (fun pre W => (∃ v, Boxed W w.heap.size 86 v ∧ W.ownsRow w.heap.size 9 1 v pre.length (pre.map strF) ∧ True) ∧ Below w.heap.size w W)
    (fun c pre W => False)
    (OwnFrom.and (Own.from (holdsRow_own w.heap.size w.heap.size 86 9 1 (fun pre : List S84 => pre.length) (fun pre : List S84 => pre.map strF) (fun _ _ => True)) _) (ownFrom_below (Nat.le_refl _) (by omega)))
    (fun _ _ _ _ _ hs _ _ => hs)
    ⟨⟨_, bO, World.ownsRow_nil _ _ _ _, trivial⟩, hB0⟩
    (fun x a' W => ∃ Bx, w.heap.size < Bx ∧ W.heap[Bx]? = some (.cells #[.int .i64 x.f0, .int .i64 x.f1, .int .i64 x.f2, .string x.f3] 84 (0, 0)) ∧ a' = { tmps := #[.slice A xs.length c, .int .i64 tag, undef, undef, .slice none 0 0, .pointer (some ⟨w.heap.size, 0, none⟩), .pointer (some ⟨Bx, 0, none⟩), .slice A xs.length c, .int .i64 tag, .func (.func 71) #[] #[.pointer (some ⟨w.heap.size + 1, 0, none⟩), .pointer (some ⟨w.heap.size + 1 + 1, 0, none⟩), .pointer (some ⟨w.heap.size + 1 + 1 + 1, 0, none⟩)], enc84 x, undef, undef, undef, undef, undef, undef], defers := [] })
    (fun x a' _ X Y row hs hg hr => by obtain ⟨Bx, e1, e2, e3⟩ := hs; exact ⟨Bx, e1, (grownBy_keeps_cells hg (fun r e => (hr r e).2) e2 rfl).trans e2, e3⟩)
    ?assign ?body ?done ?stop
  case assign =>
    rintro l pre x W K ⟨⟨v, bO1, hrow, _⟩, hB1⟩ hK
    simp only [enc84] at hK ⊢
    have hu84 := Try.underlying84
    gi_wp2
    exact hK _ _ ((KeepsOthers.alloc _ _).from _) ⟨(Below.refl _ W).alloc hB1.size _, fun k t v _ _ _ hb => hb.alloc _⟩ ⟨⟨v, bO1.alloc _, hrow.alloc _, trivial⟩, hB1.alloc hB1.size _⟩ ⟨W.heap.size, bO1.lt, World.alloc_heap_new W _, rfl⟩
  case body =>
    rintro l pre x a' W hl ⟨r, hr⟩ ⟨⟨v, hv, hrow, _⟩, hB⟩ ⟨Bx, hBx, bX, rfl⟩ hlt
    have hml : pre.length + 1 ≤ maxLen := by unfold maxLen; omega
    have hc := hv.cell
    have cX : W.cell? ⟨Bx, 3, none⟩ = some (.string x.f3) := (blk_cell bX 3).trans rfl
    gi_wp2_with (gi_at_builtin; refine wpListIn_append_own _ rfl _ _ 86 rfl w.heap.size 9 i0 (.string ⟨#[]⟩) 1 16 Try.underlying86 hi hz0 hz1 hz2 rfl (by decide) _ _ _ rfl (hrow.alloc _) ⟨W.heap.size, 0, none⟩ 1 1 [.string x.f3] rfl rfl (cell_one_new _ _ _) (by simp [Value.oneCell']) (by omega) (by omega) (by have := hB.size; simp; omega) ?_; intro v' w1 hown' hgrow _; obtain ⟨g', cap', rfl⟩ := ownsRow_succ hown'; obtain ⟨hv1, hv2, hr2, hk2, hb2⟩ := hv.appended (by decide) hrow hB.size (Nat.le_refl _) hown' hgrow; have hc1 := hv1.cell; have hf1 := hv1.frozen)
    refine ⟨hk2.from _, ⟨hb2, fun k t u ht h1 h2 hb => ?_⟩, ⟨_, hv2, by simpa [strF] using hr2, trivial⟩, hB.trans hb2⟩
    exact ((hb.alloc _).kept hgrow (hb.not_row (by rcases ht with rfl | rfl <;> decide) hrow)).other (by omega) _
  case done =>
    rintro D ys W hD rfl ⟨⟨v, hv, hrow, _⟩, hB⟩ hK
    have hc := hv.cell
    gi_wp2
    refine ⟨by simp, .inl ⟨_, _, rfl, run_takeDeferred hK, ?_⟩⟩
    exact ⟨_, results_tmp rfl _ _ _, v, rfl, ownsRow_putObj hrow _ hK rfl, hB.trans (belowK_b (w := w) (Nat.le_refl _) W D _ _ (by omega) hK rfl rfl)⟩
  case stop =>
    rintro D c pre W _ _ h _
    exact h.elim
theorem field_Texts.calls (A0 : Option Addr) (c0 : Nat) (l0 : List S84) (a1 : Int) (r : List ByteArray) (w : World) (hr0 : Kd.C k84 w A0 l0.length l0) (hc0 : l0.length ≤ c0) (h : field_Texts.f l0 a1 = some r) :
    Calls Try.prog 46 #[.slice A0 l0.length c0, .int .i64 a1] w fun e w' => ∃ v0_ : Value, e = .returned (v0_) ∧ Kd.R Kd.string 9 w' w.heap.size (fun _ => True) v0_ r ∧ Below w.heap.size w w' := by
  unfold field_Texts.f at h
  split at h
  · rename_i hl
    have h := Option.some.inj h
    subst h
    refine callsIn_wide.1 ((texts_in Fence.wide 5 trivial trivial trivial rfl (Nat.le_refl _) A0 c0 l0 a1 w hr0 hl).mono ?_)
    rintro e W' ⟨v, rfl, ho, hb⟩
    refine ⟨v, rfl, ?_, hb⟩
    have hm : (l0.filter (isOf a1 1)).map strF = ((l0.filter (isOf a1 1)).map (·.f3)).map Value.string := by simp [strF]
    rw [hm] at ho
    have hle : (l0.filter (isOf a1 1)).length = ((l0.filter (isOf a1 1)).map (·.f3)).length := by simp
    rw [hle] at ho
    exact Kd.R_of_own ho (fun _ _ => trivial)
  · cases h
end Go.Proofs.Ytjaneipklpgnlaa.Q
end

namespace Go.Proofs.Ytjaneipklpgnlaa.Q
open Go.RowKit Go.Proofs.YtjaneipklpgnlaaW.PrintWords Go.Proofs.YtjaneipklpgnlaaW.PrintLast Go.Proofs.YtjaneipklpgnlaaW.PrintMore Go.Proofs.YtjaneipklpgnlaaK
attribute [local go_sem] max2_int min2_int max_two min_two max_three min_three max_four min_four   -- for this text's walks alone
attribute [local go_sem ↓] Go.Proofs.YtjaneipklpgnlaaK.isSome_setCell
set_option linter.unusedVariables false
set_option linter.unusedSimpArgs false

/-! ### talk_reader_num: function 34 -/
def talk_reader_num.f (l0 : List (S84)) (a1 : Int) : Option (Int) := (field_Num.f l0 a1).bind fun bt354 => (some bt354.1)
set_option maxHeartbeats 8000000 in
set_option maxRecDepth 100000 in
theorem talk_reader_num.calls (A0 : Option Addr) (c0 : Nat) (l0 : List (S84)) (a1 : Int) (r : Int) (w : World) (hr0 : Kd.C k84 w A0 l0.length l0) (hc0 : l0.length ≤ c0) (h : talk_reader_num.f l0 a1 = some r) :
    Calls Try.prog 34 #[.slice A0 l0.length c0, .int .i64 a1] w fun e w' => e = .returned (.int .i64 r) ∧ Below w.heap.size w w' := by
  have HR0 := Aside0.mk hr0
  have HC0 := Aside0.mk hc0
  clear hr0 hc0
  have HB := Aside0.mk (Below.refl w.heap.size w)
  have H : ((field_Num.f l0 a1).bind fun bt354 => (some bt354.1)) = some r := h
  clear h
  replace H := Option.bind_eq_some_iff.mp H
  obtain ⟨⟨t354, t355⟩, A30, H⟩ := H
  replace H : (some t354) = some r := H
  have A3 := Aside0.mk A30
  clear A30
  obtain rfl := Option.some.inj H
  go_enter Try.func34, Try.ntmps34
  go_wp2_with (first | ((with_reducible refine gate_callee (f := 57) rfl ?_); refine goesL_ (some 10) rfl rfl Try.func57 (by kernel_rfl) rfl #[.slice A0 l0.length c0, .int .i64 a1] rfl (by (try simp only [List.map_toArray, List.map_cons, List.map_nil]); first | done | rfl | (simp only [List.length_drop, List.length_take]; rfl)) ?_; (with_reducible refine (field_Num.calls _ _ l0 a1 t354 t355 _ ?side1 ?side2 A3.out).mono ?_); (case side1 => exact CU HR0.out); (case side2 => exact HC0.out); rintro e w4 ⟨rfl, hb⟩; refine ⟨_, rfl, ?_⟩; have n0_ := Aside0.mk (below_step (belU HB.out) hb); clear HB; have HB := n0_; clear n0_; (try clear hb); (try clear hb2); (try clear hk); (try clear hi)))
  go_ret
  exact ⟨by first | rfl | (simp [errW_none, errW_some] <;> rfl) | (simp [*, errW_none, errW_some] <;> rfl), belU HB.out⟩

end Go.Proofs.Ytjaneipklpgnlaa.Q

namespace Go.Proofs.Ytjaneipklpgnlaa.Q
open Go.RowKit Go.Proofs.YtjaneipklpgnlaaW.PrintWords Go.Proofs.YtjaneipklpgnlaaW.PrintLast Go.Proofs.YtjaneipklpgnlaaW.PrintMore Go.Proofs.YtjaneipklpgnlaaK
attribute [local go_sem] max2_int min2_int max_two min_two max_three min_three max_four min_four   -- for this text's walks alone
attribute [local go_sem ↓] Go.Proofs.YtjaneipklpgnlaaK.isSome_setCell
set_option linter.unusedVariables false
set_option linter.unusedSimpArgs false

/-! ### talk_reader_text: function 35 -/
def talk_reader_text.f (l0 : List (S84)) (a1 : Int) : Option (ByteArray) := (field_Text.f l0 a1).bind fun bt356 => (some bt356.1)
set_option maxHeartbeats 8000000 in
set_option maxRecDepth 100000 in
theorem talk_reader_text.calls (A0 : Option Addr) (c0 : Nat) (l0 : List (S84)) (a1 : Int) (r : ByteArray) (w : World) (hr0 : Kd.C k84 w A0 l0.length l0) (hc0 : l0.length ≤ c0) (h : talk_reader_text.f l0 a1 = some r) :
    Calls Try.prog 35 #[.slice A0 l0.length c0, .int .i64 a1] w fun e w' => e = .returned (.string r) ∧ Below w.heap.size w w' := by
  have HR0 := Aside0.mk hr0
  have HC0 := Aside0.mk hc0
  clear hr0 hc0
  have HB := Aside0.mk (Below.refl w.heap.size w)
  have H : ((field_Text.f l0 a1).bind fun bt356 => (some bt356.1)) = some r := h
  clear h
  replace H := Option.bind_eq_some_iff.mp H
  obtain ⟨⟨t356, t357⟩, A30, H⟩ := H
  replace H : (some t356) = some r := H
  have A3 := Aside0.mk A30
  clear A30
  obtain rfl := Option.some.inj H
  go_enter Try.func35, Try.ntmps35
  go_wp2_with (first | ((with_reducible refine gate_callee (f := 58) rfl ?_); refine goesL_ (some 10) rfl rfl Try.func58 (by kernel_rfl) rfl #[.slice A0 l0.length c0, .int .i64 a1] rfl (by (try simp only [List.map_toArray, List.map_cons, List.map_nil]); first | done | rfl | (simp only [List.length_drop, List.length_take]; rfl)) ?_; (with_reducible refine (field_Text.calls _ _ l0 a1 t356 t357 _ ?side1 ?side2 A3.out).mono ?_); (case side1 => exact CU HR0.out); (case side2 => exact HC0.out); rintro e w4 ⟨rfl, hb⟩; refine ⟨_, rfl, ?_⟩; have n0_ := Aside0.mk (below_step (belU HB.out) hb); clear HB; have HB := n0_; clear n0_; (try clear hb); (try clear hb2); (try clear hk); (try clear hi)))
  go_ret
  exact ⟨by first | rfl | (simp [errW_none, errW_some] <;> rfl) | (simp [*, errW_none, errW_some] <;> rfl), belU HB.out⟩

end Go.Proofs.Ytjaneipklpgnlaa.Q

namespace Go.Proofs.Ytjaneipklpgnlaa.Q
open Go.RowKit Go.Proofs.YtjaneipklpgnlaaW.PrintWords Go.Proofs.YtjaneipklpgnlaaW.PrintLast Go.Proofs.YtjaneipklpgnlaaW.PrintMore Go.Proofs.YtjaneipklpgnlaaK
attribute [local go_sem] max2_int min2_int max_two min_two max_three min_three max_four min_four   -- for this text's walks alone
attribute [local go_sem ↓] Go.Proofs.YtjaneipklpgnlaaK.isSome_setCell
set_option linter.unusedVariables false
set_option linter.unusedSimpArgs false

/-! ### talk_ReadRequest_1: function 33 -/
def talk_ReadRequest_1.f (l0 : List (S84)) : Option (Int × Int × Int × Int × Int × Int × ByteArray × ByteArray) := (talk_reader_num.f l0 1).bind fun t359 => ((talk_reader_num.f l0 2).bind fun t360 => ((talk_reader_num.f l0 3).bind fun t361 => ((talk_reader_num.f l0 4).bind fun t362 => ((talk_reader_num.f l0 5).bind fun t363 => ((talk_reader_num.f l0 6).bind fun t364 => ((talk_reader_text.f l0 7).bind fun t365 => ((talk_reader_text.f l0 8).bind fun t366 => (some (t359, t360, t361, t362, t363, t364, t365, t366)))))))))
set_option maxHeartbeats 8000000 in
set_option maxRecDepth 100000 in
theorem talk_ReadRequest_1.calls (A0 : Option Addr) (c0 : Nat) (l0 : List (S84)) (r1 : Int) (r2 : Int) (r3 : Int) (r4 : Int) (r5 : Int) (r6 : Int) (r7 : ByteArray) (r8 : ByteArray) (w : World) (hr0 : Kd.C k84 w A0 l0.length l0) (hc0 : l0.length ≤ c0) (h : talk_ReadRequest_1.f l0 = some (r1, r2, r3, r4, r5, r6, r7, r8)) :
    Calls Try.prog 33 #[.slice A0 l0.length c0] w fun e w' => e = .returned (.agg #[.int .i64 r1, .int .i64 r2, .int .i64 r3, .int .i64 r4, .int .i64 r5, .int .i64 r6, .string r7, .string r8]) ∧ Below w.heap.size w w' := by
  have hu23 := Try.underlying23
  have HR0 := Aside0.mk hr0
  have HC0 := Aside0.mk hc0
  clear hr0 hc0
  have HB := Aside0.mk (Below.refl w.heap.size w)
  have H : ((talk_reader_num.f l0 1).bind fun t359 => ((talk_reader_num.f l0 2).bind fun t360 => ((talk_reader_num.f l0 3).bind fun t361 => ((talk_reader_num.f l0 4).bind fun t362 => ((talk_reader_num.f l0 5).bind fun t363 => ((talk_reader_num.f l0 6).bind fun t364 => ((talk_reader_text.f l0 7).bind fun t365 => ((talk_reader_text.f l0 8).bind fun t366 => (some (t359, t360, t361, t362, t363, t364, t365, t366)))))))))) = some (r1, r2, r3, r4, r5, r6, r7, r8) := h
  clear h
  replace H := Option.bind_eq_some_iff.mp H
  obtain ⟨t359, A20, H⟩ := H
  replace H : ((talk_reader_num.f l0 2).bind fun t360 => ((talk_reader_num.f l0 3).bind fun t361 => ((talk_reader_num.f l0 4).bind fun t362 => ((talk_reader_num.f l0 5).bind fun t363 => ((talk_reader_num.f l0 6).bind fun t364 => ((talk_reader_text.f l0 7).bind fun t365 => ((talk_reader_text.f l0 8).bind fun t366 => (some (t359, t360, t361, t362, t363, t364, t365, t366))))))))) = some (r1, r2, r3, r4, r5, r6, r7, r8) := H
  have A2 := Aside0.mk A20
  clear A20
  replace H := Option.bind_eq_some_iff.mp H
  obtain ⟨t360, A30, H⟩ := H
  replace H : ((talk_reader_num.f l0 3).bind fun t361 => ((talk_reader_num.f l0 4).bind fun t362 => ((talk_reader_num.f l0 5).bind fun t363 => ((talk_reader_num.f l0 6).bind fun t364 => ((talk_reader_text.f l0 7).bind fun t365 => ((talk_reader_text.f l0 8).bind fun t366 => (some (t359, t360, t361, t362, t363, t364, t365, t366)))))))) = some (r1, r2, r3, r4, r5, r6, r7, r8) := H
  have A3 := Aside0.mk A30
  clear A30
  replace H := Option.bind_eq_some_iff.mp H
  obtain ⟨t361, A40, H⟩ := H
  replace H : ((talk_reader_num.f l0 4).bind fun t362 => ((talk_reader_num.f l0 5).bind fun t363 => ((talk_reader_num.f l0 6).bind fun t364 => ((talk_reader_text.f l0 7).bind fun t365 => ((talk_reader_text.f l0 8).bind fun t366 => (some (t359, t360, t361, t362, t363, t364, t365, t366))))))) = some (r1, r2, r3, r4, r5, r6, r7, r8) := H
  have A4 := Aside0.mk A40
  clear A40
  replace H := Option.bind_eq_some_iff.mp H
  obtain ⟨t362, A50, H⟩ := H
  replace H : ((talk_reader_num.f l0 5).bind fun t363 => ((talk_reader_num.f l0 6).bind fun t364 => ((talk_reader_text.f l0 7).bind fun t365 => ((talk_reader_text.f l0 8).bind fun t366 => (some (t359, t360, t361, t362, t363, t364, t365, t366)))))) = some (r1, r2, r3, r4, r5, r6, r7, r8) := H
  have A5 := Aside0.mk A50
  clear A50
  replace H := Option.bind_eq_some_iff.mp H
  obtain ⟨t363, A60, H⟩ := H
  replace H : ((talk_reader_num.f l0 6).bind fun t364 => ((talk_reader_text.f l0 7).bind fun t365 => ((talk_reader_text.f l0 8).bind fun t366 => (some (t359, t360, t361, t362, t363, t364, t365, t366))))) = some (r1, r2, r3, r4, r5, r6, r7, r8) := H
  have A6 := Aside0.mk A60
  clear A60
  replace H := Option.bind_eq_some_iff.mp H
  obtain ⟨t364, A70, H⟩ := H
  replace H : ((talk_reader_text.f l0 7).bind fun t365 => ((talk_reader_text.f l0 8).bind fun t366 => (some (t359, t360, t361, t362, t363, t364, t365, t366)))) = some (r1, r2, r3, r4, r5, r6, r7, r8) := H
  have A7 := Aside0.mk A70
  clear A70
  replace H := Option.bind_eq_some_iff.mp H
  obtain ⟨t365, A80, H⟩ := H
  replace H : ((talk_reader_text.f l0 8).bind fun t366 => (some (t359, t360, t361, t362, t363, t364, t365, t366))) = some (r1, r2, r3, r4, r5, r6, r7, r8) := H
  have A8 := Aside0.mk A80
  clear A80
  replace H := Option.bind_eq_some_iff.mp H
  obtain ⟨t366, A90, H⟩ := H
  replace H : (some (t359, t360, t361, t362, t363, t364, t365, t366)) = some (r1, r2, r3, r4, r5, r6, r7, r8) := H
  have A9 := Aside0.mk A90
  clear A90
  simp only [Option.some.injEq, Prod.mk.injEq] at H
  obtain ⟨rfl, rfl, rfl, rfl, rfl, rfl, rfl, rfl⟩ := H
  go_enter Try.func33, Try.ntmps33
  go_wp2_with (first | ((with_reducible refine gate_dst (N := 2) rfl ?_); refine box_event ?hg (N := 2) ?hd (cs := #[.int .i64 0, .int .i64 0, .int .i64 0, .int .i64 0, .int .i64 0, .int .i64 0, .string (⟨#[]⟩ : ByteArray), .string (⟨#[]⟩ : ByteArray)]) (t := 23) ?hr ?_; (case hd => rfl); (case hg => rfl); (case hr => first | (go_simp; done) | (go_simp; rfl)); intro gb358 hg w10 hbox hb; have n0_ := Aside0.mk (below_step (belU HB.out) hb); have n1_ := Aside0.mk (hbox); have n2_ := Aside0.mk ((by rw [hg]; exact (sizU HB.out) : w.heap.size ≤ gb358)); have n3_ := Aside0.mk ((by rw [hg]; exact (sizU HB.out) : w.heap.size ≤ gb358)); clear HB; have HB := n0_; have BK358 := n1_; have GW358 := n2_; have GE358 := n3_; clear n0_ n1_ n2_ n3_; clear hb hbox hg) | ((with_reducible refine gate_callee (f := 34) rfl ?_); refine goesL_ (some 4) rfl rfl Try.func34 (by kernel_rfl) rfl #[.slice A0 l0.length c0, .int .i64 1] rfl (by (try simp only [List.map_toArray, List.map_cons, List.map_nil]); first | done | rfl | (simp only [List.length_drop, List.length_take]; rfl)) ?_; (with_reducible refine (talk_reader_num.calls _ _ l0 1 t359 _ ?side1 ?side2 A2.out).mono ?_); (case side1 => exact CU (Kd.C_below HR0.out HB.out)); (case side2 => exact HC0.out); rintro e w11 ⟨rfl, hb⟩; refine ⟨_, rfl, ?_⟩; have n0_ := Aside0.mk (blk_below (blkU BK358.out) hb); have n1_ := Aside0.mk (below_step (belG HB.out GE358.out) hb); clear BK358; clear HB; have BK358 := n0_; have HB := n1_; clear n0_ n1_; (try clear hb); (try clear hb2); (try clear hk); (try clear hi)) | ((with_reducible refine gate_callee (f := 34) rfl ?_); refine goesL_ (some 6) rfl rfl Try.func34 (by kernel_rfl) rfl #[.slice A0 l0.length c0, .int .i64 2] rfl (by (try simp only [List.map_toArray, List.map_cons, List.map_nil]); first | done | rfl | (simp only [List.length_drop, List.length_take]; rfl)) ?_; (with_reducible refine (talk_reader_num.calls _ _ l0 2 t360 _ ?side1 ?side2 A3.out).mono ?_); (case side1 => exact CU (Kd.C_below HR0.out HB.out)); (case side2 => exact HC0.out); rintro e w12 ⟨rfl, hb⟩; refine ⟨_, rfl, ?_⟩; have n0_ := Aside0.mk (blk_below (blkU BK358.out) hb); have n1_ := Aside0.mk (below_step (belG HB.out GE358.out) hb); clear BK358; clear HB; have BK358 := n0_; have HB := n1_; clear n0_ n1_; (try clear hb); (try clear hb2); (try clear hk); (try clear hi)) | ((with_reducible refine gate_callee (f := 34) rfl ?_); refine goesL_ (some 8) rfl rfl Try.func34 (by kernel_rfl) rfl #[.slice A0 l0.length c0, .int .i64 3] rfl (by (try simp only [List.map_toArray, List.map_cons, List.map_nil]); first | done | rfl | (simp only [List.length_drop, List.length_take]; rfl)) ?_; (with_reducible refine (talk_reader_num.calls _ _ l0 3 t361 _ ?side1 ?side2 A4.out).mono ?_); (case side1 => exact CU (Kd.C_below HR0.out HB.out)); (case side2 => exact HC0.out); rintro e w13 ⟨rfl, hb⟩; refine ⟨_, rfl, ?_⟩; have n0_ := Aside0.mk (blk_below (blkU BK358.out) hb); have n1_ := Aside0.mk (below_step (belG HB.out GE358.out) hb); clear BK358; clear HB; have BK358 := n0_; have HB := n1_; clear n0_ n1_; (try clear hb); (try clear hb2); (try clear hk); (try clear hi)) | ((with_reducible refine gate_callee (f := 34) rfl ?_); refine goesL_ (some 10) rfl rfl Try.func34 (by kernel_rfl) rfl #[.slice A0 l0.length c0, .int .i64 4] rfl (by (try simp only [List.map_toArray, List.map_cons, List.map_nil]); first | done | rfl | (simp only [List.length_drop, List.length_take]; rfl)) ?_; (with_reducible refine (talk_reader_num.calls _ _ l0 4 t362 _ ?side1 ?side2 A5.out).mono ?_); (case side1 => exact CU (Kd.C_below HR0.out HB.out)); (case side2 => exact HC0.out); rintro e w14 ⟨rfl, hb⟩; refine ⟨_, rfl, ?_⟩; have n0_ := Aside0.mk (blk_below (blkU BK358.out) hb); have n1_ := Aside0.mk (below_step (belG HB.out GE358.out) hb); clear BK358; clear HB; have BK358 := n0_; have HB := n1_; clear n0_ n1_; (try clear hb); (try clear hb2); (try clear hk); (try clear hi)) | ((with_reducible refine gate_callee (f := 34) rfl ?_); refine goesL_ (some 12) rfl rfl Try.func34 (by kernel_rfl) rfl #[.slice A0 l0.length c0, .int .i64 5] rfl (by (try simp only [List.map_toArray, List.map_cons, List.map_nil]); first | done | rfl | (simp only [List.length_drop, List.length_take]; rfl)) ?_; (with_reducible refine (talk_reader_num.calls _ _ l0 5 t363 _ ?side1 ?side2 A6.out).mono ?_); (case side1 => exact CU (Kd.C_below HR0.out HB.out)); (case side2 => exact HC0.out); rintro e w15 ⟨rfl, hb⟩; refine ⟨_, rfl, ?_⟩; have n0_ := Aside0.mk (blk_below (blkU BK358.out) hb); have n1_ := Aside0.mk (below_step (belG HB.out GE358.out) hb); clear BK358; clear HB; have BK358 := n0_; have HB := n1_; clear n0_ n1_; (try clear hb); (try clear hb2); (try clear hk); (try clear hi)) | ((with_reducible refine gate_callee (f := 34) rfl ?_); refine goesL_ (some 14) rfl rfl Try.func34 (by kernel_rfl) rfl #[.slice A0 l0.length c0, .int .i64 6] rfl (by (try simp only [List.map_toArray, List.map_cons, List.map_nil]); first | done | rfl | (simp only [List.length_drop, List.length_take]; rfl)) ?_; (with_reducible refine (talk_reader_num.calls _ _ l0 6 t364 _ ?side1 ?side2 A7.out).mono ?_); (case side1 => exact CU (Kd.C_below HR0.out HB.out)); (case side2 => exact HC0.out); rintro e w16 ⟨rfl, hb⟩; refine ⟨_, rfl, ?_⟩; have n0_ := Aside0.mk (blk_below (blkU BK358.out) hb); have n1_ := Aside0.mk (below_step (belG HB.out GE358.out) hb); clear BK358; clear HB; have BK358 := n0_; have HB := n1_; clear n0_ n1_; (try clear hb); (try clear hb2); (try clear hk); (try clear hi)) | ((with_reducible refine gate_callee (f := 35) rfl ?_); refine goesL_ (some 16) rfl rfl Try.func35 (by kernel_rfl) rfl #[.slice A0 l0.length c0, .int .i64 7] rfl (by (try simp only [List.map_toArray, List.map_cons, List.map_nil]); first | done | rfl | (simp only [List.length_drop, List.length_take]; rfl)) ?_; (with_reducible refine (talk_reader_text.calls _ _ l0 7 t365 _ ?side1 ?side2 A8.out).mono ?_); (case side1 => exact CU (Kd.C_below HR0.out HB.out)); (case side2 => exact HC0.out); rintro e w17 ⟨rfl, hb⟩; refine ⟨_, rfl, ?_⟩; have n0_ := Aside0.mk (blk_below (blkU BK358.out) hb); have n1_ := Aside0.mk (below_step (belG HB.out GE358.out) hb); clear BK358; clear HB; have BK358 := n0_; have HB := n1_; clear n0_ n1_; (try clear hb); (try clear hb2); (try clear hk); (try clear hi)) | ((with_reducible refine gate_callee (f := 35) rfl ?_); refine goesL_ (some 18) rfl rfl Try.func35 (by kernel_rfl) rfl #[.slice A0 l0.length c0, .int .i64 8] rfl (by (try simp only [List.map_toArray, List.map_cons, List.map_nil]); first | done | rfl | (simp only [List.length_drop, List.length_take]; rfl)) ?_; (with_reducible refine (talk_reader_text.calls _ _ l0 8 t366 _ ?side1 ?side2 A9.out).mono ?_); (case side1 => exact CU (Kd.C_below HR0.out HB.out)); (case side2 => exact HC0.out); rintro e w18 ⟨rfl, hb⟩; refine ⟨_, rfl, ?_⟩; have n0_ := Aside0.mk (blk_below (blkU BK358.out) hb); have n1_ := Aside0.mk (below_step (belG HB.out GE358.out) hb); clear BK358; clear HB; have BK358 := n0_; have HB := n1_; clear n0_ n1_; (try clear hb); (try clear hb2); (try clear hk); (try clear hi); have hcz19_0 : w18.cell? ⟨gb358, 0, none⟩ = some (.int .i64 0) := (blk_cell BK358.out 0).trans rfl; have hcz19_1 : w18.cell? ⟨gb358, 1, none⟩ = some (.int .i64 0) := (blk_cell BK358.out 1).trans rfl; have hcz19_2 : w18.cell? ⟨gb358, 2, none⟩ = some (.int .i64 0) := (blk_cell BK358.out 2).trans rfl; have hcz19_3 : w18.cell? ⟨gb358, 3, none⟩ = some (.int .i64 0) := (blk_cell BK358.out 3).trans rfl; have hcz19_4 : w18.cell? ⟨gb358, 4, none⟩ = some (.int .i64 0) := (blk_cell BK358.out 4).trans rfl; have hcz19_5 : w18.cell? ⟨gb358, 5, none⟩ = some (.int .i64 0) := (blk_cell BK358.out 5).trans rfl; have hcz19_6 : w18.cell? ⟨gb358, 6, none⟩ = some (.string (⟨#[]⟩ : ByteArray)) := (blk_cell BK358.out 6).trans rfl; have hcz19_7 : w18.cell? ⟨gb358, 7, none⟩ = some (.string (⟨#[]⟩ : ByteArray)) := (blk_cell BK358.out 7).trans rfl; have hfz19_0 := blk_frozen BK358.out 0; have hfz19_1 := blk_frozen BK358.out 1; have hfz19_2 := blk_frozen BK358.out 2; have hfz19_3 := blk_frozen BK358.out 3; have hfz19_4 := blk_frozen BK358.out 4; have hfz19_5 := blk_frozen BK358.out 5; have hfz19_6 := blk_frozen BK358.out 6; have hfz19_7 := blk_frozen BK358.out 7))
  refine bodyPost_ret (results_cell_row rfl _ _ gb358 23 #[.int .i64 t359, .int .i64 t360, .int .i64 t361, .int .i64 t362, .int .i64 t363, .int .i64 t364, .string t365, .string t366] (0, 0) _ rfl (blkP BK358.out (by rfl)) Try.underlying23 rfl (by kernel_rfl)) rfl ?_
  exact ⟨by first | rfl | (simp [errW_none, errW_some] <;> rfl) | (simp [*, errW_none, errW_some] <;> rfl), belG HB.out GE358.out⟩

end Go.Proofs.Ytjaneipklpgnlaa.Q

namespace Go.Proofs.Ytjaneipklpgnlaa.Q
open Go Go.RowKit Go.Proofs.YtjaneipklpgnlaaW.PrintWords Go.Proofs.YtjaneipklpgnlaaW.PrintLast Go.Proofs.YtjaneipklpgnlaaW.PrintMore
attribute [local go_sem ↓] Go.Proofs.YtjaneipklpgnlaaK.isSome_setCell
set_option linter.unusedSimpArgs false
set_option linter.unusedVariables false
def getN (L : List S84) (t : Int) : Int := (firstN (L.filter (isOf t 0))).1
def getT (L : List S84) (t : Int) : ByteArray := (firstT (textsOf L t)).1
def reqOf (L : List S84) : S23 := ⟨getN L 1, getN L 2, getN L 3, getN L 4, getN L 5, getN L 6, getT L 7, getT L 8⟩
def req0 : S23 := ⟨0, 0, 0, 0, 0, 0, ⟨#[]⟩, ⟨#[]⟩⟩
def rrS (s : ByteArray) : S23 × Int := if (decS s).2 = 0 then (if (reqS (reqOf (decS s).1)).2 = 0 ∧ (reqS (reqOf (decS s).1)).1.toList = s.toList then (reqOf (decS s).1, 0) else (req0, 5)) else (req0, 5)
def talk_ReadRequest.f (a0 : ByteArray) : Option (Int × Int × Int × Int × Int × Int × ByteArray × ByteArray × Int) := some ((rrS a0).1.f0, (rrS a0).1.f1, (rrS a0).1.f2, (rrS a0).1.f3, (rrS a0).1.f4, (rrS a0).1.f5, (rrS a0).1.f6, (rrS a0).1.f7, (rrS a0).2)
theorem dec_len (s : ByteArray) : (decS s).1.length ≤ 1048576 := by
  rcases decS_total s with h | h
  · obtain ⟨L, e, hd⟩ : ∃ L e, decS s = (L, e) := ⟨_, _, rfl⟩
    rw [hd] at h ⊢
    simp only at h
    subst h
    obtain ⟨_, h2, _⟩ := (decS_iff s L).1 hd
    have := flat_ge L
    show L.length ≤ 1048576
    omega
  · rw [h]
    simp
theorem rnum_fn (L : List S84) (hl : L.length ≤ 1048576) (t : Int) : talk_reader_num.f L t = some (getN L t) := by
  unfold talk_reader_num.f
  rw [num_fn2 L hl t]
  rfl
theorem rtext_fn (L : List S84) (hl : L.length ≤ 1048576) (t : Int) : talk_reader_text.f L t = some (getT L t) := by
  unfold talk_reader_text.f
  rw [text_fn2 L hl t]
  rfl
theorem build_fn (L : List S84) (hl : L.length ≤ 1048576) : talk_ReadRequest_1.f L = some ((reqOf L).f0, (reqOf L).f1, (reqOf L).f2, (reqOf L).f3, (reqOf L).f4, (reqOf L).f5, (reqOf L).f6, (reqOf L).f7) := by
  unfold talk_ReadRequest_1.f
  simp only [rnum_fn L hl, rtext_fn L hl, Option.bind_some]
  rfl
/-- A request as the model has it. -/
def reqV (r : S23) : Value := .agg #[.int .i64 r.f0, .int .i64 r.f1, .int .i64 r.f2, .int .i64 r.f3, .int .i64 r.f4, .int .i64 r.f5, .string r.f6, .string r.f7]
theorem build_any (w : World) (v : Value) (L : List S84) (base : Nat) (hv : Kd.R k84 84 w base (fun _ => True) v L) (hl : L.length ≤ 1048576) :
    Calls Try.prog 33 #[v] w fun e w' => e = .returned (reqV (reqOf L)) ∧ Below w.heap.size w w' := by
  obtain ⟨A3, k3, he3, hk3, hc3⟩ := Kd.R_reads hv
  subst he3
  exact talk_ReadRequest_1.calls A3 k3 L _ _ _ _ _ _ _ _ w hc3 hk3 (build_fn L hl)
def reqA (r : S23) : Array Value := #[.int .i64 r.f0, .int .i64 r.f1, .int .i64 r.f2, .int .i64 r.f3, .int .i64 r.f4, .int .i64 r.f5, .string r.f6, .string r.f7]
abbrev Zc : Array Value := #[.int .i64 0, .int .i64 0, .int .i64 0, .int .i64 0, .int .i64 0, .int .i64 0, .string ⟨#[]⟩, .string ⟨#[]⟩]
abbrev Zr : Obj := .cells Zc 23 (0, 0)
theorem info23 : (Try.prog.info? 23).map (·.size) = some 8 := by kernel_rfl
open Go.Proofs.YtjaneipklpgnlaaK in
set_option maxRecDepth 100000 in
set_option maxHeartbeats 1000000 in
theorem read_no (w : World) (s : ByteArray) (hd : (decS s).2 ≠ 0) :
    Calls Try.prog 32 #[.string s, .func (.func 33) #[] #[], .func (.func 9) #[] #[]] w fun e w' => e = .returned (.tuple #[reqV req0, .int .i64 5]) ∧ Below w.heap.size w w' := by
  have hu23 := Try.underlying23
  have HB0 := Aside0.mk (below_alloc (below_alloc (Below.refl w.heap.size w) Zr) Zr)
  have HX0 := Aside0.mk (blk_alloc (blk_new w Zr) Zr)
  have hy0 := blk_new (w.alloc Zr) Zr
  rw [World.size_alloc] at hy0
  have HY0 := Aside0.mk hy0
  have h5 : decS s = ([], 5) := by rcases decS_total s with h | h; · exact absurd h hd
                                   · exact h
  have hc := fun W => field_Decode.calls s [] 5 W (by rw [dec_fn, h5])
  have HC := Aside0.mk hc
  clear hc h5 hd hy0
  go_enter Try.func32, Try.ntmps32
  go_wp2_with fail
  refine (HC.out _).mono ?_
  rintro e w1 ⟨v, rfl, hv, hb1⟩
  have HB1 := Aside0.mk (below_step HB0.out hb1)
  have HX1 := Aside0.mk (blk_below HX0.out hb1)
  have HY1 := Aside0.mk (blk_below HY0.out hb1)
  obtain ⟨A0, c0, rfl⟩ := Kd.R_slice hv
  clear hv hb1
  go_wp2_with (first
    | (refine box_load rfl 23 (.tmp 8) rfl HY1.out rfl hu23 rfl info23 ?_)
    | (refine box_store rfl rfl 23 (.tmp 6) (.tmp 21) rfl HX1.out #[.int .i64 0, .int .i64 0, .int .i64 0, .int .i64 0, .int .i64 0, .int .i64 0, .string ⟨#[]⟩, .string ⟨#[]⟩] rfl rfl info23 rfl rfl ?_; intro w2 hx2 hg2; have HX2 := Aside0.mk hx2; have HB2 := Aside0.mk (below_box HB1.out hg2 (Nat.le_refl _)); clear hx2 hg2))
  refine bodyPost_ret (results_row_tmp rfl _ _ (.int .i64 5) HX2.out rfl rfl hu23 rfl info23) rfl ?_
  exact ⟨rfl, HB2.out⟩
open Go.Proofs.YtjaneipklpgnlaaK in
set_option maxRecDepth 100000 in
set_option maxHeartbeats 1000000 in
theorem read_yes (w : World) (s : ByteArray) (hd : (decS s).2 = 0) (r : S23) (hr : reqOf (decS s).1 = r) (t : ByteArray) (e2 : Int) (hq : reqS r = (t, e2)) (ok : Bool) (hok : ok = true ↔ e2 = 0 ∧ t.toList = s.toList) :
    Calls Try.prog 32 #[.string s, .func (.func 33) #[] #[], .func (.func 9) #[] #[]] w fun e w' => e = .returned (.tuple #[reqV (if ok then r else req0), .int .i64 (if ok then 0 else 5)]) ∧ Below w.heap.size w w' := by
  have hu23 := Try.underlying23
  have HB0 := Aside0.mk (below_alloc (below_alloc (Below.refl w.heap.size w) Zr) Zr)
  have HX0 := Aside0.mk (blk_alloc (blk_new w Zr) Zr)
  have hy0 := blk_new (w.alloc Zr) Zr
  rw [World.size_alloc] at hy0
  have HY0 := Aside0.mk hy0
  have hl := dec_len s
  obtain ⟨L, e1, hL⟩ : ∃ L e1, decS s = (L, e1) := ⟨_, _, rfl⟩
  rw [hL] at hd hr hl
  simp only at hd hr hl
  subst hd
  have hc := fun W => field_Decode.calls s L 0 W (by rw [dec_fn, hL])
  have HC := Aside0.mk hc
  have hbld := fun (W : World) (v : Value) (base : Nat) (h : Kd.R k84 84 W base (fun _ => True) v L) => build_any W v L base h hl
  rw [hr] at hbld
  have hrq := fun W => req_any W r
  rw [hq] at hrq
  clear hc hy0 hL hl hr hq
  obtain ⟨r0, r1, r2, r3, r4, r5, r6, r7⟩ := r
  have HBL : Aside0 (∀ (W : World) (v : Value) (base : Nat), Kd.R k84 84 W base (fun _ => True) v L → Calls Try.prog 33 #[v] W fun e w' => e = .returned (.agg #[.int .i64 r0, .int .i64 r1, .int .i64 r2, .int .i64 r3, .int .i64 r4, .int .i64 r5, .string r6, .string r7]) ∧ Below W.heap.size W w') := ⟨hbld⟩
  have HRQ : Aside0 (∀ W : World, Calls Try.prog 9 #[.agg #[.int .i64 r0, .int .i64 r1, .int .i64 r2, .int .i64 r3, .int .i64 r4, .int .i64 r5, .string r6, .string r7]] W fun e w' => e = .returned (.tuple #[.string t, .int .i64 e2]) ∧ Below W.heap.size W w') := ⟨hrq⟩
  clear hbld hrq
  have HOK := Aside0.mk hok
  clear hok
  by_cases h2 : e2 = 0
  · subst h2
    by_cases h3 : t.toList = s.toList
    · have hk : ok = true := HOK.out.2 ⟨rfl, h3⟩
      subst hk
      clear HOK
      have h3a : (t.toList == s.toList) = true := beq_iff_eq.mpr h3
      have h3b : (t.toList != s.toList) = false := bne_eq_false_iff_eq.mpr h3
      clear h3
      go_enter Try.func32, Try.ntmps32
      go_wp2_with fail
      refine (HC.out _).mono ?_
      rintro e w1 ⟨v, rfl, hv, hb1⟩
      have HB1 := Aside0.mk (below_step HB0.out hb1)
      have HX1 := Aside0.mk (blk_below HX0.out hb1)
      have HY1 := Aside0.mk (blk_below HY0.out hb1)
      have HV := Aside0.mk hv
      clear hb1 hv
      go_wp2_with fail
      refine (HBL.out _ _ _ HV.out).mono ?_
      rintro e w2 ⟨rfl, hb2⟩
      have HB2 := Aside0.mk (below_alloc (below_step HB1.out hb2) (.cells #[.int .i64 r0, .int .i64 r1, .int .i64 r2, .int .i64 r3, .int .i64 r4, .int .i64 r5, .string r6, .string r7] 23))
      have HX2 := Aside0.mk (blk_alloc (blk_below HX1.out hb2) (.cells #[.int .i64 r0, .int .i64 r1, .int .i64 r2, .int .i64 r3, .int .i64 r4, .int .i64 r5, .string r6, .string r7] 23))
      have HY2 := Aside0.mk (blk_alloc (blk_below HY1.out hb2) (.cells #[.int .i64 r0, .int .i64 r1, .int .i64 r2, .int .i64 r3, .int .i64 r4, .int .i64 r5, .string r6, .string r7] 23))
      have HZ2 := Aside0.mk (blk_new w2 (.cells #[.int .i64 r0, .int .i64 r1, .int .i64 r2, .int .i64 r3, .int .i64 r4, .int .i64 r5, .string r6, .string r7] 23))
      clear hb2 HV
      go_wp2_with fail
      refine (HRQ.out _).mono ?_
      rintro e w3 ⟨rfl, hb3⟩
      have HB3 := Aside0.mk (below_step HB2.out hb3)
      have HX3 := Aside0.mk (blk_below HX2.out hb3)
      have HY3 := Aside0.mk (blk_below HY2.out hb3)
      have HZ3 := Aside0.mk (blk_below HZ2.out hb3)
      clear hb3
      go_wp2_with (first
        | (refine box_load rfl 23 (.tmp 11) rfl HZ3.out rfl hu23 rfl info23 ?_)
        | (refine box_store rfl rfl 23 (.tmp 6) (.tmp 39) rfl HX3.out #[.int .i64 r0, .int .i64 r1, .int .i64 r2, .int .i64 r3, .int .i64 r4, .int .i64 r5, .string r6, .string r7] rfl rfl info23 rfl rfl ?_; intro w4 hx4 hg4; have HX4 := Aside0.mk hx4; have HB4 := Aside0.mk (below_box HB3.out hg4 (Nat.le_refl _)); clear hx4 hg4))
      refine bodyPost_ret (results_row_tmp rfl _ _ (.int .i64 0) HX4.out rfl rfl hu23 rfl info23) rfl ?_
      exact ⟨rfl, HB4.out⟩
    · have hk : ok = false := by cases ok with | false => rfl | true => exact absurd (HOK.out.1 rfl).2 h3
      subst hk
      clear HOK
      have h3a : (t.toList == s.toList) = false := beq_eq_false_iff_ne.mpr h3
      have h3b : (t.toList != s.toList) = true := bne_iff_ne.mpr h3
      clear h3
      go_enter Try.func32, Try.ntmps32
      go_wp2_with fail
      refine (HC.out _).mono ?_
      rintro e w1 ⟨v, rfl, hv, hb1⟩
      have HB1 := Aside0.mk (below_step HB0.out hb1)
      have HX1 := Aside0.mk (blk_below HX0.out hb1)
      have HY1 := Aside0.mk (blk_below HY0.out hb1)
      have HV := Aside0.mk hv
      clear hb1 hv
      go_wp2_with fail
      refine (HBL.out _ _ _ HV.out).mono ?_
      rintro e w2 ⟨rfl, hb2⟩
      have HB2 := Aside0.mk (below_alloc (below_step HB1.out hb2) (.cells #[.int .i64 r0, .int .i64 r1, .int .i64 r2, .int .i64 r3, .int .i64 r4, .int .i64 r5, .string r6, .string r7] 23))
      have HX2 := Aside0.mk (blk_alloc (blk_below HX1.out hb2) (.cells #[.int .i64 r0, .int .i64 r1, .int .i64 r2, .int .i64 r3, .int .i64 r4, .int .i64 r5, .string r6, .string r7] 23))
      have HY2 := Aside0.mk (blk_alloc (blk_below HY1.out hb2) (.cells #[.int .i64 r0, .int .i64 r1, .int .i64 r2, .int .i64 r3, .int .i64 r4, .int .i64 r5, .string r6, .string r7] 23))
      have HZ2 := Aside0.mk (blk_new w2 (.cells #[.int .i64 r0, .int .i64 r1, .int .i64 r2, .int .i64 r3, .int .i64 r4, .int .i64 r5, .string r6, .string r7] 23))
      clear hb2 HV
      go_wp2_with fail
      refine (HRQ.out _).mono ?_
      rintro e w3 ⟨rfl, hb3⟩
      have HB3 := Aside0.mk (below_step HB2.out hb3)
      have HX3 := Aside0.mk (blk_below HX2.out hb3)
      have HY3 := Aside0.mk (blk_below HY2.out hb3)
      have HZ3 := Aside0.mk (blk_below HZ2.out hb3)
      clear hb3
      go_wp2_with (first
        | (refine box_load rfl 23 (.tmp 8) rfl HY3.out rfl hu23 rfl info23 ?_)
        | (refine box_store rfl rfl 23 (.tmp 6) (.tmp 38) rfl HX3.out #[.int .i64 0, .int .i64 0, .int .i64 0, .int .i64 0, .int .i64 0, .int .i64 0, .string ⟨#[]⟩, .string ⟨#[]⟩] rfl rfl info23 rfl rfl ?_; intro w4 hx4 hg4; have HX4 := Aside0.mk hx4; have HB4 := Aside0.mk (below_box HB3.out hg4 (Nat.le_refl _)); clear hx4 hg4))
      refine bodyPost_ret (results_row_tmp rfl _ _ (.int .i64 5) HX4.out rfl rfl hu23 rfl info23) rfl ?_
      exact ⟨rfl, HB4.out⟩
  · have hk : ok = false := by cases ok with | false => rfl | true => exact absurd (HOK.out.1 rfl).1 h2
    subst hk
    clear HOK
    have h2a : (e2 == 0) = false := beq_eq_false_iff_ne.mpr h2
    have h2b : (e2 != 0) = true := bne_iff_ne.mpr h2
    clear h2
    go_enter Try.func32, Try.ntmps32
    go_wp2_with fail
    refine (HC.out _).mono ?_
    rintro e w1 ⟨v, rfl, hv, hb1⟩
    have HB1 := Aside0.mk (below_step HB0.out hb1)
    have HX1 := Aside0.mk (blk_below HX0.out hb1)
    have HY1 := Aside0.mk (blk_below HY0.out hb1)
    have HV := Aside0.mk hv
    clear hb1 hv
    go_wp2_with fail
    refine (HBL.out _ _ _ HV.out).mono ?_
    rintro e w2 ⟨rfl, hb2⟩
    have HB2 := Aside0.mk (below_alloc (below_step HB1.out hb2) (.cells #[.int .i64 r0, .int .i64 r1, .int .i64 r2, .int .i64 r3, .int .i64 r4, .int .i64 r5, .string r6, .string r7] 23))
    have HX2 := Aside0.mk (blk_alloc (blk_below HX1.out hb2) (.cells #[.int .i64 r0, .int .i64 r1, .int .i64 r2, .int .i64 r3, .int .i64 r4, .int .i64 r5, .string r6, .string r7] 23))
    have HY2 := Aside0.mk (blk_alloc (blk_below HY1.out hb2) (.cells #[.int .i64 r0, .int .i64 r1, .int .i64 r2, .int .i64 r3, .int .i64 r4, .int .i64 r5, .string r6, .string r7] 23))
    have HZ2 := Aside0.mk (blk_new w2 (.cells #[.int .i64 r0, .int .i64 r1, .int .i64 r2, .int .i64 r3, .int .i64 r4, .int .i64 r5, .string r6, .string r7] 23))
    clear hb2 HV
    go_wp2_with fail
    refine (HRQ.out _).mono ?_
    rintro e w3 ⟨rfl, hb3⟩
    have HB3 := Aside0.mk (below_step HB2.out hb3)
    have HX3 := Aside0.mk (blk_below HX2.out hb3)
    have HY3 := Aside0.mk (blk_below HY2.out hb3)
    have HZ3 := Aside0.mk (blk_below HZ2.out hb3)
    clear hb3
    go_wp2_with (first
      | (refine box_load rfl 23 (.tmp 8) rfl HY3.out rfl hu23 rfl info23 ?_)
      | (refine box_store rfl rfl 23 (.tmp 6) (.tmp 38) rfl HX3.out #[.int .i64 0, .int .i64 0, .int .i64 0, .int .i64 0, .int .i64 0, .int .i64 0, .string ⟨#[]⟩, .string ⟨#[]⟩] rfl rfl info23 rfl rfl ?_; intro w4 hx4 hg4; have HX4 := Aside0.mk hx4; have HB4 := Aside0.mk (below_box HB3.out hg4 (Nat.le_refl _)); clear hx4 hg4))
    refine bodyPost_ret (results_row_tmp rfl _ _ (.int .i64 5) HX4.out rfl rfl hu23 rfl info23) rfl ?_
    exact ⟨rfl, HB4.out⟩
theorem read_any (w : World) (s : ByteArray) :
    Calls Try.prog 32 #[.string s, .func (.func 33) #[] #[], .func (.func 9) #[] #[]] w fun e w' => e = .returned (.tuple #[reqV (rrS s).1, .int .i64 (rrS s).2]) ∧ Below w.heap.size w w' := by
  by_cases hd : (decS s).2 = 0
  · obtain ⟨t, e2, hq⟩ : ∃ t e2, reqS (reqOf (decS s).1) = (t, e2) := ⟨_, _, rfl⟩
    have H := read_yes w s hd _ rfl t e2 hq (decide (e2 = 0 ∧ t.toList = s.toList)) decide_eq_true_iff
    unfold rrS
    rw [if_pos hd, hq]
    by_cases hk : e2 = 0 ∧ t.toList = s.toList
    · rw [if_pos hk]
      rw [decide_eq_true hk] at H
      exact H
    · rw [if_neg hk]
      rw [decide_eq_false hk] at H
      exact H
  · have H := read_no w s hd
    unfold rrS
    rw [if_neg hd]
    exact H
open Go.Proofs.YtjaneipklpgnlaaK in
theorem talk_ReadRequest.calls (a0 : ByteArray) (r1 r2 r3 r4 r5 r6 : Int) (r7 r8 : ByteArray) (r9 : Int) (w : World) (h : talk_ReadRequest.f a0 = some (r1, r2, r3, r4, r5, r6, r7, r8, r9)) :
    Calls Try.prog 11 #[.string a0] w fun e w' => e = .returned (.tuple #[.agg #[.int .i64 r1, .int .i64 r2, .int .i64 r3, .int .i64 r4, .int .i64 r5, .int .i64 r6, .string r7, .string r8], .int .i64 r9]) ∧ Below w.heap.size w w' := by
  have h := Option.some.inj h
  simp only [Prod.mk.injEq] at h
  obtain ⟨rfl, rfl, rfl, rfl, rfl, rfl, rfl, rfl, rfl⟩ := h
  have hu23 := Try.underlying23
  have HB0 := Aside0.mk (below_alloc (Below.refl w.heap.size w) Zr)
  have HX0 := Aside0.mk (blk_new w Zr)
  have hc := fun W => read_any W a0
  obtain ⟨r, q, hq⟩ : ∃ r q, rrS a0 = (r, q) := ⟨_, _, rfl⟩
  rw [hq] at hc ⊢
  obtain ⟨r0, r1, r2, r3, r4, r5, r6, r7⟩ := r
  have HC : Aside0 (∀ W : World, Calls Try.prog 32 #[.string a0, .func (.func 33) #[] #[], .func (.func 9) #[] #[]] W fun e w' => e = .returned (.tuple #[.agg #[.int .i64 r0, .int .i64 r1, .int .i64 r2, .int .i64 r3, .int .i64 r4, .int .i64 r5, .string r6, .string r7], .int .i64 q]) ∧ Below W.heap.size W w') := ⟨hc⟩
  clear hc hq h
  go_enter Try.func11, Try.ntmps11
  go_wp2_with fail
  refine (HC.out _).mono ?_
  rintro e w1 ⟨rfl, hb1⟩
  have HB1 := Aside0.mk (below_step HB0.out hb1)
  have HX1 := Aside0.mk (blk_below HX0.out hb1)
  clear hb1
  go_wp2_with (refine box_store rfl rfl 23 (.tmp 2) (.tmp 6) rfl HX1.out #[.int .i64 r0, .int .i64 r1, .int .i64 r2, .int .i64 r3, .int .i64 r4, .int .i64 r5, .string r6, .string r7] rfl rfl info23 rfl rfl ?_; intro w4 hx4 hg4; have HX4 := Aside0.mk hx4; have HB4 := Aside0.mk (below_box HB1.out hg4 (Nat.le_refl _)); clear hx4 hg4)
  refine bodyPost_ret (results_row_tmp rfl _ _ (.int .i64 q) HX4.out rfl rfl hu23 rfl info23) rfl ?_
  exact ⟨rfl, HB4.out⟩
end Go.Proofs.Ytjaneipklpgnlaa.Q

namespace Go.Proofs.Ytjaneipklpgnlaa.Q
open Go.RowKit Go.Proofs.YtjaneipklpgnlaaW.PrintWords Go.Proofs.YtjaneipklpgnlaaW.PrintLast Go.Proofs.YtjaneipklpgnlaaW.PrintMore Go.Proofs.YtjaneipklpgnlaaK
attribute [local go_sem] max2_int min2_int max_two min_two max_three min_three max_four min_four   -- for this text's walks alone
attribute [local go_sem ↓] Go.Proofs.YtjaneipklpgnlaaK.isSome_setCell
set_option linter.unusedVariables false
set_option linter.unusedSimpArgs false

/-! ### aquiferlaw20_few: function 8 -/
def aquiferlaw20_few.f (a0_0 : Int) (a0_1 : Int) (a0_2 : Int) (a0_3 : Int) (a0_4 : Int) (a0_5 : Int) (a0_6 : ByteArray) (a0_7 : ByteArray) : Option (Int × Int × Int × Int × Int × Int × ByteArray × ByteArray) := if 0 ≤ (mn (a0_6.size : Int) 4100) then (if (mn (a0_6.size : Int) 4100) ≤ (a0_6.size : Int) then (if 0 ≤ (mn (a0_7.size : Int) 4100) then (if (mn (a0_7.size : Int) 4100) ≤ (a0_7.size : Int) then (some (a0_0, a0_1, a0_2, a0_3, a0_4, a0_5, a0_6.extract 0 ((mn (a0_6.size : Int) 4100) : Int).toNat, a0_7.extract 0 ((mn (a0_7.size : Int) 4100) : Int).toNat)) else (none)) else (none)) else (none)) else (none)
def aquiferlaw20_few.T1 : Bool × List (List Nat × List Nat) := (true, [([], []), ([0], [0]), ([], []), ([2], [2]), ([3], [3]), ([4], [4]), ([1, 5], [1, 5]), ([], []), ([7], [7]), ([], []), ([9], [9]), ([10], [10]), ([11], [11]), ([8, 12], [8, 12]), ([0, 1, 2, 3, 4, 5, 6, 7, 8, 9, 10], []), ([14, 6, 0, 1, 2, 3, 4, 5, 6, 7, 8, 9, 10], [6, 14]), ([0, 1, 2, 3, 4, 5, 6, 7, 8, 9, 10, 11, 12, 13, 14, 15], []), ([16, 13, 15, 0, 1, 2, 3, 4, 5, 6, 7, 8, 9, 10, 11, 12, 13, 14, 15], [13, 16])])
def aquiferlaw20_few.B1 : List Nat := [0, 1, 0, 4, 12, 28, 63, 0, 128, 0, 512, 1536, 3584, 8064, 2047, 18431, 65535, 131071]
theorem aquiferlaw20_few.tab1 : rtab .any (opsOf Try.f8 1) = aquiferlaw20_few.T1 := by kernel_rfl
theorem aquiferlaw20_few.bits1 : waitsOk aquiferlaw20_few.T1.2 aquiferlaw20_few.B1 = true := by kernel_rfl
set_option maxHeartbeats 8000000 in
set_option maxRecDepth 100000 in
theorem aquiferlaw20_few.calls (a0_0 : Int) (a0_1 : Int) (a0_2 : Int) (a0_3 : Int) (a0_4 : Int) (a0_5 : Int) (a0_6 : ByteArray) (a0_7 : ByteArray) (r1 : Int) (r2 : Int) (r3 : Int) (r4 : Int) (r5 : Int) (r6 : Int) (r7 : ByteArray) (r8 : ByteArray) (w : World) (h : aquiferlaw20_few.f a0_0 a0_1 a0_2 a0_3 a0_4 a0_5 a0_6 a0_7 = some (r1, r2, r3, r4, r5, r6, r7, r8)) :
    Calls Try.prog 8 #[.agg #[.int .i64 a0_0, .int .i64 a0_1, .int .i64 a0_2, .int .i64 a0_3, .int .i64 a0_4, .int .i64 a0_5, .string a0_6, .string a0_7]] w fun e w' => e = .returned (.agg #[.int .i64 r1, .int .i64 r2, .int .i64 r3, .int .i64 r4, .int .i64 r5, .int .i64 r6, .string r7, .string r8]) ∧ Below w.heap.size w w' := by
  have hu23 := Try.underlying23
  have HB := Aside0.mk (Below.refl w.heap.size w)
  have H : (if 0 ≤ (mn (a0_6.size : Int) 4100) then (if (mn (a0_6.size : Int) 4100) ≤ (a0_6.size : Int) then (if 0 ≤ (mn (a0_7.size : Int) 4100) then (if (mn (a0_7.size : Int) 4100) ≤ (a0_7.size : Int) then (some (a0_0, a0_1, a0_2, a0_3, a0_4, a0_5, a0_6.extract 0 ((mn (a0_6.size : Int) 4100) : Int).toNat, a0_7.extract 0 ((mn (a0_7.size : Int) 4100) : Int).toNat)) else (none)) else (none)) else (none)) else (none)) = some (r1, r2, r3, r4, r5, r6, r7, r8) := h
  clear h
  obtain ⟨ji2, hji2⟩ : ∃ j_ : Int, (mn (a0_6.size : Int) 4100) = j_ := ⟨_, rfl⟩
  replace H : (if 0 ≤ (ji2) then (if (ji2) ≤ (a0_6.size : Int) then (if 0 ≤ (mn (a0_7.size : Int) 4100) then (if (mn (a0_7.size : Int) 4100) ≤ (a0_7.size : Int) then (some (a0_0, a0_1, a0_2, a0_3, a0_4, a0_5, a0_6.extract 0 ((ji2) : Int).toNat, a0_7.extract 0 ((mn (a0_7.size : Int) 4100) : Int).toNat)) else (none)) else (none)) else (none)) else (none)) = some (r1, r2, r3, r4, r5, r6, r7, r8) := by first | (rw [hji2] at H; exact H) | (simp only [hji2] at H ⊢; exact H)
  (try (have hji2h : ji2 ≤ 4100 := by (rw [← hji2]; unfold mn; (repeat' split) <;> omega)))
  (try (have hji2g : ji2 ≤ 64 := by omega))
  (try (have hji2l : 0 ≤ ji2 := by (rw [← hji2]; unfold mn; (repeat' split) <;> omega)))
  (try (have hji2m : 0 ≤ ji2 := by omega))
  have hji2_ : (if 4100 < (a0_6.size : Int) then 4100 else (a0_6.size : Int)) = ji2 := hji2
  by_cases c3 : 0 ≤ (ji2)
  · rw [if_pos c3] at H
    have c3b0 := eq_true c3
    have c3b1 : decide (0 ≤ (ji2)) = true := decide_eq_true c3
    clear c3
    by_cases c4 : (ji2) ≤ (a0_6.size : Int)
    · rw [if_pos c4] at H
      have c4b0 := eq_true c4
      have c4b1 : decide ((ji2) ≤ (a0_6.size : Int)) = true := decide_eq_true c4
      clear c4
      obtain ⟨ji5, hji5⟩ : ∃ j_ : Int, (mn (a0_7.size : Int) 4100) = j_ := ⟨_, rfl⟩
      replace H : (if 0 ≤ (ji5) then (if (ji5) ≤ (a0_7.size : Int) then (some (a0_0, a0_1, a0_2, a0_3, a0_4, a0_5, a0_6.extract 0 ((ji2) : Int).toNat, a0_7.extract 0 ((ji5) : Int).toNat)) else (none)) else (none)) = some (r1, r2, r3, r4, r5, r6, r7, r8) := by first | (rw [hji5] at H; exact H) | (simp only [hji5] at H ⊢; exact H)
      (try (have hji5h : ji5 ≤ 4100 := by (rw [← hji5]; unfold mn; (repeat' split) <;> omega)))
      (try (have hji5g : ji5 ≤ 64 := by omega))
      (try (have hji5l : 0 ≤ ji5 := by (rw [← hji5]; unfold mn; (repeat' split) <;> omega)))
      (try (have hji5m : 0 ≤ ji5 := by omega))
      have hji5_ : (if 4100 < (a0_7.size : Int) then 4100 else (a0_7.size : Int)) = ji5 := hji5
      by_cases c6 : 0 ≤ (ji5)
      · rw [if_pos c6] at H
        have c6b0 := eq_true c6
        have c6b1 : decide (0 ≤ (ji5)) = true := decide_eq_true c6
        clear c6
        by_cases c7 : (ji5) ≤ (a0_7.size : Int)
        · rw [if_pos c7] at H
          have c7b0 := eq_true c7
          have c7b1 : decide ((ji5) ≤ (a0_7.size : Int)) = true := decide_eq_true c7
          clear c7
          simp only [Option.some.injEq, Prod.mk.injEq] at H
          obtain ⟨rfl, rfl, rfl, rfl, rfl, rfl, rfl, rfl⟩ := H
          go_enter Try.func8, Try.ntmps8
          try go_wp2_with (first | ((with_reducible refine gate_dst (N := 1) rfl ?_); refine box_event ?hg (N := 1) ?hd (cs := #[.int .i64 a0_0, .int .i64 a0_1, .int .i64 a0_2, .int .i64 a0_3, .int .i64 a0_4, .int .i64 a0_5, .string a0_6, .string a0_7]) (t := 23) ?hr ?_; (case hd => rfl); (case hg => rfl); (case hr => first | (go_simp; done) | (go_simp; rfl)); intro gb101 hg w8 hbox hb; have n0_ := Aside0.mk (below_step (belU HB.out) hb); have n1_ := Aside0.mk (hbox); have n2_ := Aside0.mk ((by rw [hg]; exact (sizU HB.out) : w.heap.size ≤ gb101)); have n3_ := Aside0.mk ((by rw [hg]; exact (sizU HB.out) : w.heap.size ≤ gb101)); clear HB; have HB := n0_; have BK101 := n1_; have GW101 := n2_; have GE101 := n3_; clear n0_ n1_ n2_ n3_; clear hb hbox hg) | ((with_reducible refine gate_dst (N := 2) rfl ?_); refine box_event ?hg (N := 2) ?hd (cs := #[.int .i64 0, .int .i64 0, .int .i64 0, .int .i64 0, .int .i64 0, .int .i64 0, .string (⟨#[]⟩ : ByteArray), .string (⟨#[]⟩ : ByteArray)]) (t := 23) ?hr ?_; (case hd => rfl); (case hg => rfl); (case hr => first | (go_simp; done) | (go_simp; rfl)); intro gb102 hg w9 hbox hb; have n0_ := Aside0.mk (blk_below (blkU BK101.out) hb); have n1_ := Aside0.mk (below_step (belG HB.out GE101.out) hb); have n2_ := Aside0.mk (hbox); have n3_ := Aside0.mk ((by rw [hg]; exact (sizG HB.out GE101.out) : w.heap.size ≤ gb102)); have n4_ := Aside0.mk ((by rw [hg]; exact (sizG HB.out GE101.out) : w.heap.size ≤ gb102)); have n5_ := Aside0.mk ((by rw [hg]; exact Nat.ne_of_lt (blk_lt (g := gb101) (o := .cells #[.int .i64 a0_0, .int .i64 a0_1, .int .i64 a0_2, .int .i64 a0_3, .int .i64 a0_4, .int .i64 a0_5, .string a0_6, .string a0_7] 23 (0, 0)) (blkU BK101.out)) : gb101 ≠ gb102)); have n6_ := Aside0.mk ((by rw [hg]; exact Nat.ne_of_gt (blk_lt (g := gb101) (o := .cells #[.int .i64 a0_0, .int .i64 a0_1, .int .i64 a0_2, .int .i64 a0_3, .int .i64 a0_4, .int .i64 a0_5, .string a0_6, .string a0_7] 23 (0, 0)) (blkU BK101.out)) : gb102 ≠ gb101)); clear BK101; clear HB; have BK101 := n0_; have HB := n1_; have BK102 := n2_; have GW102 := n3_; have GE102 := n4_; have NB101_102 := n5_; have NB102_101 := n6_; clear n0_ n1_ n2_ n3_ n4_ n5_ n6_; clear hb hbox hg))
          have n0_ := Aside0.mk (blk_drew BK101.out)
          have n1_ := Aside0.mk (blk_drew BK102.out)
          have n2_ := Aside0.mk (below_drew1 HB.out)
          clear BK101
          clear BK102
          clear HB
          have BK101 := n0_
          have BK102 := n1_
          have HB := n2_
          clear n0_ n1_ n2_
          refine start_ (n := 18) (S := fun w' => w'.cell? ⟨gb101, 0, none⟩ = some (.int .i64 a0_0) ∧ w'.cell? ⟨gb101, 1, none⟩ = some (.int .i64 a0_1) ∧ w'.cell? ⟨gb101, 2, none⟩ = some (.int .i64 a0_2) ∧ w'.cell? ⟨gb101, 3, none⟩ = some (.int .i64 a0_3) ∧ w'.cell? ⟨gb101, 4, none⟩ = some (.int .i64 a0_4) ∧ w'.cell? ⟨gb101, 5, none⟩ = some (.int .i64 a0_5) ∧ w'.cell? ⟨gb101, 6, none⟩ = some (.string a0_6) ∧ w'.cell? ⟨gb101, 7, none⟩ = some (.string a0_7)) (ds := [15, 17]) #[false, false, false, false, false, false, false, false, false, false, false, false, false, false, false, false, false, false] (by kernel_rfl) rfl rfl ⟨(blk_cell BK101.out 0).trans rfl, (blk_cell BK101.out 1).trans rfl, (blk_cell BK101.out 2).trans rfl, (blk_cell BK101.out 3).trans rfl, (blk_cell BK101.out 4).trans rfl, (blk_cell BK101.out 5).trans rfl, (blk_cell BK101.out 6).trans rfl, (blk_cell BK101.out 7).trans rfl⟩ (fun hHeld => ?_); refine with_tabW aquiferlaw20_few.tab1 aquiferlaw20_few.bits1 (fun HT_ HW_ => ?_)
          generalize w9.drew = w10 at BK101 BK102 HB hHeld ⊢
          refine pure_ (i := 0) (N := some 3) (v := ?_) (a' := ?_) #[true, false, false, false, false, false, false, false, false, false, false, false, false, false, false, false, false, false] rfl rfl (any_of HT_.out (by kernel_rfl)) (fun _ _ _ h => h) (Or.inl ⟨by rfl, ?_⟩) ?_ ?_
          rotate_left
          · intro w'
            go_simp
            with_reducible rfl
          rotate_left
          · simp only [Act.put, List.setIfInBounds_toArray, List.set_cons_zero, List.set_cons_succ, i64_w, i32_w]
            rfl
          refine pure_ (i := 2) (N := some 5) (v := ?_) (a' := ?_) #[true, false, true, false, false, false, false, false, false, false, false, false, false, false, false, false, false, false] rfl rfl (any_of HT_.out (by kernel_rfl)) (fun _ _ _ h => h) (Or.inl ⟨by rfl, ?_⟩) ?_ ?_
          rotate_left
          · intro w'
            go_simp
            with_reducible rfl
          rotate_left
          · simp only [Act.put, List.setIfInBounds_toArray, List.set_cons_zero, List.set_cons_succ, i64_w, i32_w]
            rfl
          refine pure_ (i := 7) (N := some 10) (v := ?_) (a' := ?_) #[true, false, true, false, false, false, false, true, false, false, false, false, false, false, false, false, false, false] rfl rfl (any_of HT_.out (by kernel_rfl)) (fun _ _ _ h => h) (Or.inl ⟨by rfl, ?_⟩) ?_ ?_
          rotate_left
          · intro w'
            go_simp
            with_reducible rfl
          rotate_left
          · simp only [Act.put, List.setIfInBounds_toArray, List.set_cons_zero, List.set_cons_succ, i64_w, i32_w]
            rfl
          refine pure_ (i := 9) (N := some 12) (v := ?_) (a' := ?_) #[true, false, true, false, false, false, false, true, false, true, false, false, false, false, false, false, false, false] rfl rfl (any_of HT_.out (by kernel_rfl)) (fun _ _ _ h => h) (Or.inl ⟨by rfl, ?_⟩) ?_ ?_
          rotate_left
          · intro w'
            go_simp
            with_reducible rfl
          rotate_left
          · simp only [Act.put, List.setIfInBounds_toArray, List.set_cons_zero, List.set_cons_succ, i64_w, i32_w]
            rfl
          refine take_ (i := 1) (N := some 4) (v := ?_) (a' := ?_) #[true, true, true, false, false, false, false, true, false, true, false, false, false, false, false, false, false, false] rfl rfl (take_ofW HT_.out HW_.out (by kernel_rfl)) (fun _ _ _ h => h) (Or.inl ⟨by rfl, ?_⟩) hHeld ?_ ?_
          rotate_left
          · rintro w' ⟨s0, s1, s2, s3, s4, s5, s6, s7⟩
            go_simp
            with_reducible rfl
          rotate_left
          · simp only [Act.put, List.setIfInBounds_toArray, List.set_cons_zero, List.set_cons_succ, i64_w, i32_w]
            rfl
          refine take_ (i := 3) (N := some 6) (v := ?_) (a' := ?_) #[true, true, true, true, false, false, false, true, false, true, false, false, false, false, false, false, false, false] rfl rfl (take_ofW HT_.out HW_.out (by kernel_rfl)) (fun _ _ _ h => h) (Or.inl ⟨by rfl, ?_⟩) hHeld ?_ ?_
          rotate_left
          · rintro w' ⟨s0, s1, s2, s3, s4, s5, s6, s7⟩
            go_simp
            with_reducible rfl
          rotate_left
          · simp only [Act.put, List.setIfInBounds_toArray, List.set_cons_zero, List.set_cons_succ, i64_w, i32_w]
            rfl
          refine pure_ (i := 4) (N := some 7) (v := ?_) (a' := ?_) #[true, true, true, true, true, false, false, true, false, true, false, false, false, false, false, false, false, false] rfl rfl (any_of HT_.out (by kernel_rfl)) (fun _ _ _ h => h) (Or.inl ⟨by rfl, ?_⟩) ?_ ?_
          rotate_left
          · intro w'
            go_simp
            with_reducible rfl
          rotate_left
          · simp only [Act.put, List.setIfInBounds_toArray, List.set_cons_zero, List.set_cons_succ, i64_w, i32_w]
            rfl
          refine pure_ (i := 5) (N := some 8) (v := ?_) (a' := ?_) #[true, true, true, true, true, true, false, true, false, true, false, false, false, false, false, false, false, false] rfl rfl (any_of HT_.out (by kernel_rfl)) (fun _ _ _ h => h) (Or.inl ⟨by rfl, ?_⟩) ?_ ?_
          rotate_left
          · intro w'
            go_simp
            with_reducible rfl
          rotate_left
          · simp only [Act.put, List.setIfInBounds_toArray, List.set_cons_zero, List.set_cons_succ, i64_w, i32_w]
            rfl
          refine pure_ (i := 6) (N := some 9) (v := ?_) (a' := ?_) #[true, true, true, true, true, true, true, true, false, true, false, false, false, false, false, false, false, false] rfl rfl (any_of HT_.out (by kernel_rfl)) (fun _ _ _ h => h) (Or.inl ⟨by rfl, ?_⟩) ?_ ?_
          rotate_left
          · intro w'
            go_simp
            with_reducible rfl
          rotate_left
          · simp only [Act.put, List.setIfInBounds_toArray, List.set_cons_zero, List.set_cons_succ, i64_w, i32_w]
            rfl
          refine take_ (i := 8) (N := some 11) (v := ?_) (a' := ?_) #[true, true, true, true, true, true, true, true, true, true, false, false, false, false, false, false, false, false] rfl rfl (take_ofW HT_.out HW_.out (by kernel_rfl)) (fun _ _ _ h => h) (Or.inl ⟨by rfl, ?_⟩) hHeld ?_ ?_
          rotate_left
          · rintro w' ⟨s0, s1, s2, s3, s4, s5, s6, s7⟩
            go_simp
            with_reducible rfl
          rotate_left
          · simp only [Act.put, List.setIfInBounds_toArray, List.set_cons_zero, List.set_cons_succ, i64_w, i32_w]
            rfl
          refine take_ (i := 10) (N := some 13) (v := ?_) (a' := ?_) #[true, true, true, true, true, true, true, true, true, true, true, false, false, false, false, false, false, false] rfl rfl (take_ofW HT_.out HW_.out (by kernel_rfl)) (fun _ _ _ h => h) (Or.inl ⟨by rfl, ?_⟩) hHeld ?_ ?_
          rotate_left
          · rintro w' ⟨s0, s1, s2, s3, s4, s5, s6, s7⟩
            go_simp
            with_reducible rfl
          rotate_left
          · simp only [Act.put, List.setIfInBounds_toArray, List.set_cons_zero, List.set_cons_succ, i64_w, i32_w]
            rfl
          refine pure_ (i := 11) (N := some 14) (v := ?_) (a' := ?_) #[true, true, true, true, true, true, true, true, true, true, true, true, false, false, false, false, false, false] rfl rfl (any_of HT_.out (by kernel_rfl)) (fun _ _ _ h => h) (Or.inl ⟨by rfl, ?_⟩) ?_ ?_
          rotate_left
          · intro w'
            go_simp
            with_reducible rfl
          rotate_left
          · simp only [Act.put, List.setIfInBounds_toArray, List.set_cons_zero, List.set_cons_succ, i64_w, i32_w]
            rfl
          refine pure_ (i := 12) (N := some 15) (v := ?_) (a' := ?_) #[true, true, true, true, true, true, true, true, true, true, true, true, true, false, false, false, false, false] rfl rfl (any_of HT_.out (by kernel_rfl)) (fun _ _ _ h => h) (Or.inl ⟨by rfl, ?_⟩) ?_ ?_
          rotate_left
          · intro w'
            go_simp
            with_reducible rfl
          rotate_left
          · simp only [Act.put, List.setIfInBounds_toArray, List.set_cons_zero, List.set_cons_succ, i64_w, i32_w]
            rfl
          refine pure_ (i := 13) (N := some 16) (v := ?_) (a' := ?_) #[true, true, true, true, true, true, true, true, true, true, true, true, true, true, false, false, false, false] rfl rfl (any_of HT_.out (by kernel_rfl)) (fun _ _ _ h => h) (Or.inl ⟨by rfl, ?_⟩) ?_ ?_
          rotate_left
          · intro w'
            go_simp
            with_reducible rfl
          rotate_left
          · simp only [Act.put, List.setIfInBounds_toArray, List.set_cons_zero, List.set_cons_succ, i64_w, i32_w]
            rfl
          refine pure_ (i := 14) (N := some 17) (v := ?_) (a' := ?_) #[true, true, true, true, true, true, true, true, true, true, true, true, true, true, true, false, false, false] rfl rfl (any_of HT_.out (by kernel_rfl)) (fun _ _ _ h => h) (Or.inl ⟨by rfl, ?_⟩) ?_ ?_
          rotate_left
          · intro w'
            go_simp
            with_reducible rfl
          rotate_left
          · simp only [Act.put, List.setIfInBounds_toArray, List.set_cons_zero, List.set_cons_succ, i64_w, i32_w]
            rfl
          refine last_ (i := 15) (N := none) #[true, true, true, true, true, true, true, true, true, true, true, true, true, true, true, true, false, false] rfl rfl (one_of HT_.out (by kernel_rfl)) (by decide) (fun K hK => ?_)
          have hs11 : w10.cell? ⟨gb101, 6, none⟩ = some (.string a0_6) := (blk_cell BK101.out 6).trans rfl
          have hfs11 := blk_frozen BK101.out 6
          have hns11_1 := NB102_101.out
          have hms11_1 := NB101_102.out
          refine skip_ (w1 := ?_) (by rfl) rfl ?_ ?_
          rotate_left
          · go_simp
            rfl
          refine hK.out _ _ ?_
          clear hK K
          refine pure_ (i := 16) (N := some 18) (v := ?_) (a' := ?_) #[true, true, true, true, true, true, true, true, true, true, true, true, true, true, true, true, true, false] rfl rfl (any_of HT_.out (by kernel_rfl)) (fun _ _ _ h => h) (Or.inl ⟨by rfl, ?_⟩) ?_ ?_
          rotate_left
          · intro w'
            go_simp
            with_reducible rfl
          rotate_left
          · simp only [Act.put, List.setIfInBounds_toArray, List.set_cons_zero, List.set_cons_succ, i64_w, i32_w]
            rfl
          refine last_ (i := 17) (N := none) #[true, true, true, true, true, true, true, true, true, true, true, true, true, true, true, true, true, true] rfl rfl (one_of HT_.out (by kernel_rfl)) (by decide) (fun K hK => ?_)
          have hs12 : w10.cell? ⟨gb101, 7, none⟩ = some (.string a0_7) := (blk_cell BK101.out 7).trans rfl
          have hfs12 := blk_frozen BK101.out 7
          have hns12_1 := NB102_101.out
          have hms12_1 := NB101_102.out
          refine skip_ (w1 := ?_) (by rfl) rfl ?_ ?_
          rotate_left
          · go_simp
            rfl
          refine hK.out _ _ ?_
          clear hK K
          refine done_ (done_of HT_.out (by kernel_rfl)) ?_
          have hnb13 := NB101_102.out
          have hnc13 := NB102_101.out
          have hcz14_0 : w10.cell? ⟨gb101, 0, none⟩ = some (.int .i64 a0_0) := (blk_cell BK101.out 0).trans rfl
          have hcz14_1 : w10.cell? ⟨gb101, 1, none⟩ = some (.int .i64 a0_1) := (blk_cell BK101.out 1).trans rfl
          have hcz14_2 : w10.cell? ⟨gb101, 2, none⟩ = some (.int .i64 a0_2) := (blk_cell BK101.out 2).trans rfl
          have hcz14_3 : w10.cell? ⟨gb101, 3, none⟩ = some (.int .i64 a0_3) := (blk_cell BK101.out 3).trans rfl
          have hcz14_4 : w10.cell? ⟨gb101, 4, none⟩ = some (.int .i64 a0_4) := (blk_cell BK101.out 4).trans rfl
          have hcz14_5 : w10.cell? ⟨gb101, 5, none⟩ = some (.int .i64 a0_5) := (blk_cell BK101.out 5).trans rfl
          have hcz14_6 : w10.cell? ⟨gb101, 6, none⟩ = some (.string a0_6) := (blk_cell BK101.out 6).trans rfl
          have hcz14_7 : w10.cell? ⟨gb101, 7, none⟩ = some (.string a0_7) := (blk_cell BK101.out 7).trans rfl
          have hfz14_0 := blk_frozen BK101.out 0
          have hfz14_1 := blk_frozen BK101.out 1
          have hfz14_2 := blk_frozen BK101.out 2
          have hfz14_3 := blk_frozen BK101.out 3
          have hfz14_4 := blk_frozen BK101.out 4
          have hfz14_5 := blk_frozen BK101.out 5
          have hfz14_6 := blk_frozen BK101.out 6
          have hfz14_7 := blk_frozen BK101.out 7
          have hcz15_0 : w10.cell? ⟨gb102, 0, none⟩ = some (.int .i64 0) := (blk_cell BK102.out 0).trans rfl
          have hcz15_1 : w10.cell? ⟨gb102, 1, none⟩ = some (.int .i64 0) := (blk_cell BK102.out 1).trans rfl
          have hcz15_2 : w10.cell? ⟨gb102, 2, none⟩ = some (.int .i64 0) := (blk_cell BK102.out 2).trans rfl
          have hcz15_3 : w10.cell? ⟨gb102, 3, none⟩ = some (.int .i64 0) := (blk_cell BK102.out 3).trans rfl
          have hcz15_4 : w10.cell? ⟨gb102, 4, none⟩ = some (.int .i64 0) := (blk_cell BK102.out 4).trans rfl
          have hcz15_5 : w10.cell? ⟨gb102, 5, none⟩ = some (.int .i64 0) := (blk_cell BK102.out 5).trans rfl
          have hcz15_6 : w10.cell? ⟨gb102, 6, none⟩ = some (.string (⟨#[]⟩ : ByteArray)) := (blk_cell BK102.out 6).trans rfl
          have hcz15_7 : w10.cell? ⟨gb102, 7, none⟩ = some (.string (⟨#[]⟩ : ByteArray)) := (blk_cell BK102.out 7).trans rfl
          have hfz15_0 := blk_frozen BK102.out 0
          have hfz15_1 := blk_frozen BK102.out 1
          have hfz15_2 := blk_frozen BK102.out 2
          have hfz15_3 := blk_frozen BK102.out 3
          have hfz15_4 := blk_frozen BK102.out 4
          have hfz15_5 := blk_frozen BK102.out 5
          have hfz15_6 := blk_frozen BK102.out 6
          have hfz15_7 := blk_frozen BK102.out 7
          try go_wp2
          refine bodyPost_ret (results_cell_row rfl _ _ gb102 23 #[.int .i64 a0_0, .int .i64 a0_1, .int .i64 a0_2, .int .i64 a0_3, .int .i64 a0_4, .int .i64 a0_5, .string (a0_6.extract 0 ((ji2) : Int).toNat), .string (a0_7.extract 0 ((ji5) : Int).toNat)] (0, 0) _ rfl (by (with_reducible repeat (first | refine blk_drewN ?_ _ | refine blk_drew ?_ | refine blk_alloc ?_ _)); refine blk_put (cs := #[.int .i64 a0_0, .int .i64 a0_1, .int .i64 a0_2, .int .i64 a0_3, .int .i64 a0_4, .int .i64 a0_5, .string (a0_6.extract 0 ((ji2) : Int).toNat), .string (⟨#[]⟩ : ByteArray)]) ?_ 7 _ rfl; (with_reducible repeat (first | refine blk_drewN ?_ _ | refine blk_drew ?_ | refine blk_alloc ?_ _)); refine blk_put (cs := #[.int .i64 a0_0, .int .i64 a0_1, .int .i64 a0_2, .int .i64 a0_3, .int .i64 a0_4, .int .i64 a0_5, .string (⟨#[]⟩ : ByteArray), .string (⟨#[]⟩ : ByteArray)]) ?_ 6 _ rfl; (with_reducible repeat (first | refine blk_drewN ?_ _ | refine blk_drew ?_ | refine blk_alloc ?_ _)); refine blk_put (cs := #[.int .i64 a0_0, .int .i64 a0_1, .int .i64 a0_2, .int .i64 a0_3, .int .i64 a0_4, .int .i64 0, .string (⟨#[]⟩ : ByteArray), .string (⟨#[]⟩ : ByteArray)]) ?_ 5 _ rfl; (with_reducible repeat (first | refine blk_drewN ?_ _ | refine blk_drew ?_ | refine blk_alloc ?_ _)); refine blk_put (cs := #[.int .i64 a0_0, .int .i64 a0_1, .int .i64 a0_2, .int .i64 a0_3, .int .i64 0, .int .i64 0, .string (⟨#[]⟩ : ByteArray), .string (⟨#[]⟩ : ByteArray)]) ?_ 4 _ rfl; (with_reducible repeat (first | refine blk_drewN ?_ _ | refine blk_drew ?_ | refine blk_alloc ?_ _)); refine blk_put (cs := #[.int .i64 a0_0, .int .i64 a0_1, .int .i64 a0_2, .int .i64 0, .int .i64 0, .int .i64 0, .string (⟨#[]⟩ : ByteArray), .string (⟨#[]⟩ : ByteArray)]) ?_ 3 _ rfl; (with_reducible repeat (first | refine blk_drewN ?_ _ | refine blk_drew ?_ | refine blk_alloc ?_ _)); refine blk_put (cs := #[.int .i64 a0_0, .int .i64 a0_1, .int .i64 0, .int .i64 0, .int .i64 0, .int .i64 0, .string (⟨#[]⟩ : ByteArray), .string (⟨#[]⟩ : ByteArray)]) ?_ 2 _ rfl; (with_reducible repeat (first | refine blk_drewN ?_ _ | refine blk_drew ?_ | refine blk_alloc ?_ _)); refine blk_put (cs := #[.int .i64 a0_0, .int .i64 0, .int .i64 0, .int .i64 0, .int .i64 0, .int .i64 0, .string (⟨#[]⟩ : ByteArray), .string (⟨#[]⟩ : ByteArray)]) ?_ 1 _ rfl; (with_reducible repeat (first | refine blk_drewN ?_ _ | refine blk_drew ?_ | refine blk_alloc ?_ _)); refine blk_put (cs := #[.int .i64 0, .int .i64 0, .int .i64 0, .int .i64 0, .int .i64 0, .int .i64 0, .string (⟨#[]⟩ : ByteArray), .string (⟨#[]⟩ : ByteArray)]) ?_ 0 _ rfl; (with_reducible repeat (first | refine blk_drewN ?_ _ | refine blk_drew ?_ | refine blk_alloc ?_ _)); refine blk_far ?_ NB102_101.out _; (with_reducible repeat (first | refine blk_drewN ?_ _ | refine blk_drew ?_ | refine blk_alloc ?_ _)); refine blk_far ?_ NB102_101.out _; (with_reducible repeat (first | refine blk_drewN ?_ _ | refine blk_drew ?_ | refine blk_alloc ?_ _)); exact BK102.out) Try.underlying23 rfl (by kernel_rfl)) rfl ?_
          exact ⟨by first | rfl | (simp [errW_none, errW_some] <;> rfl) | (simp only [← hji2, ← hji5]; first | rfl | (simp [errW_none, errW_some] <;> rfl)) | (simp [*, errW_none, errW_some] <;> rfl), belG2 HB.out GE101.out GE102.out⟩
        · rw [if_neg c7] at H
          exact absurd H (by simp)
      · rw [if_neg c6] at H
        exact absurd H (by simp)
    · rw [if_neg c4] at H
      exact absurd H (by simp)
  · rw [if_neg c3] at H
    exact absurd H (by simp)

end Go.Proofs.Ytjaneipklpgnlaa.Q

namespace Go.Proofs.Ytjaneipklpgnlaa.Q
open Go.RowKit Go.Proofs.YtjaneipklpgnlaaW.PrintWords Go.Proofs.YtjaneipklpgnlaaW.PrintLast Go.Proofs.YtjaneipklpgnlaaW.PrintMore Go.Proofs.YtjaneipklpgnlaaK
attribute [local go_sem] max2_int min2_int max_two min_two max_three min_three max_four min_four   -- for this text's walks alone
attribute [local go_sem ↓] Go.Proofs.YtjaneipklpgnlaaK.isSome_setCell
set_option linter.unusedVariables false
set_option linter.unusedSimpArgs false

/-! ### aquiferlaw20_works: function 15 -/
def aquiferlaw20_works.f  : Option (Bool) := (talk_Request.f 7 5 0 0 0 0 (⟨#[]⟩ : ByteArray) (⟨#[]⟩ : ByteArray)).bind fun bt293 => (if bt293.1.toList = ([2, 7, 4, 5] : List UInt8) then (some (bt293.2 == 0)) else (some false))
set_option maxHeartbeats 8000000 in
set_option maxRecDepth 100000 in
theorem aquiferlaw20_works.calls  (r : Bool) (w : World) (h : aquiferlaw20_works.f  = some r) :
    Calls Try.prog 15 #[] w fun e w' => e = .returned (.bool r) ∧ Below w.heap.size w w' := by
  have hu23 := Try.underlying23
  have HB := Aside0.mk (Below.refl w.heap.size w)
  have H : ((talk_Request.f 7 5 0 0 0 0 (⟨#[]⟩ : ByteArray) (⟨#[]⟩ : ByteArray)).bind fun bt293 => (if bt293.1.toList = ([2, 7, 4, 5] : List UInt8) then (some (bt293.2 == 0)) else (some false))) = some r := h
  clear h
  replace H := Option.bind_eq_some_iff.mp H
  obtain ⟨⟨t293, t294⟩, A10, H⟩ := H
  replace H : (if t293.toList = ([2, 7, 4, 5] : List UInt8) then (some (t294 == 0)) else (some false)) = some r := H
  have A1 := Aside0.mk A10
  clear A10
  by_cases c2 : t293.toList = ([2, 7, 4, 5] : List UInt8)
  · rw [if_pos c2] at H
    have c2b0 : (t293.toList == ([2, 7, 4, 5] : List UInt8)) = true := beq_iff_eq.mpr c2
    have c2b1 : (t293.toList != ([2, 7, 4, 5] : List UInt8)) = false := bne_eq_false_iff_eq.mpr c2
    clear c2
    obtain rfl := Option.some.inj H
    go_enter Try.func15, Try.ntmps15
    go_wp2_with (first | ((with_reducible refine gate_callee (f := 9) rfl ?_); refine goesL_ (some 5) rfl rfl Try.func9 (by kernel_rfl) rfl #[.agg #[.int .i64 7, .int .i64 5, .int .i64 0, .int .i64 0, .int .i64 0, .int .i64 0, .string (⟨#[]⟩ : ByteArray), .string (⟨#[]⟩ : ByteArray)]] rfl (by (try simp only [List.map_toArray, List.map_cons, List.map_nil]); first | done | rfl | (simp only [List.length_drop, List.length_take]; rfl)) ?_; (with_reducible refine (talk_Request.calls 7 5 0 0 0 0 (⟨#[]⟩ : ByteArray) (⟨#[]⟩ : ByteArray) t293 t294 _ A1.out).mono ?_); rintro e w3 ⟨rfl, hb⟩; refine ⟨_, rfl, ?_⟩; have n0_ := Aside0.mk (below_step (belU HB.out) hb); clear HB; have HB := n0_; clear n0_; (try clear hb); (try clear hb2); (try clear hk); (try clear hi)))
    go_ret
    exact ⟨by first | rfl | (simp [errW_none, errW_some] <;> rfl) | (simp [*, errW_none, errW_some] <;> rfl), belU HB.out⟩
  · rw [if_neg c2] at H
    have c2b0 : (t293.toList == ([2, 7, 4, 5] : List UInt8)) = false := beq_eq_false_iff_ne.mpr c2
    have c2b1 : (t293.toList != ([2, 7, 4, 5] : List UInt8)) = true := bne_iff_ne.mpr c2
    obtain rfl := Option.some.inj H
    go_enter Try.func15, Try.ntmps15
    go_wp2_with (first | ((with_reducible refine gate_callee (f := 9) rfl ?_); refine goesL_ (some 5) rfl rfl Try.func9 (by kernel_rfl) rfl #[.agg #[.int .i64 7, .int .i64 5, .int .i64 0, .int .i64 0, .int .i64 0, .int .i64 0, .string (⟨#[]⟩ : ByteArray), .string (⟨#[]⟩ : ByteArray)]] rfl (by (try simp only [List.map_toArray, List.map_cons, List.map_nil]); first | done | rfl | (simp only [List.length_drop, List.length_take]; rfl)) ?_; (with_reducible refine (talk_Request.calls 7 5 0 0 0 0 (⟨#[]⟩ : ByteArray) (⟨#[]⟩ : ByteArray) t293 t294 _ A1.out).mono ?_); rintro e w4 ⟨rfl, hb⟩; refine ⟨_, rfl, ?_⟩; have n0_ := Aside0.mk (below_step (belU HB.out) hb); clear HB; have HB := n0_; clear n0_; (try clear hb); (try clear hb2); (try clear hk); (try clear hi)))
    go_ret
    exact ⟨by first | rfl | (simp [errW_none, errW_some] <;> rfl) | (simp [*, errW_none, errW_some] <;> rfl), belU HB.out⟩

end Go.Proofs.Ytjaneipklpgnlaa.Q

namespace Go.Proofs.Ytjaneipklpgnlaa.Q
open Go Go.RowKit Go.Proofs.YtjaneipklpgnlaaW.PrintWords Go.Proofs.YtjaneipklpgnlaaW.PrintLast Go.Proofs.YtjaneipklpgnlaaW.PrintMore
set_option linter.unusedSimpArgs false
set_option linter.unusedVariables false
theorem tworks_fn : aquiferlaw20_works.f = some true := by
  unfold aquiferlaw20_works.f talk_Request.f
  decide +kernel
def cutR (r : S23) : S23 := ⟨r.f0, r.f1, r.f2, r.f3, r.f4, r.f5, r.f6.extract 0 (mn (r.f6.size : Int) 4100).toNat, r.f7.extract 0 (mn (r.f7.size : Int) 4100).toNat⟩
theorem few_fn (r : S23) : aquiferlaw20_few.f r.f0 r.f1 r.f2 r.f3 r.f4 r.f5 r.f6 r.f7 = some ((cutR r).f0, (cutR r).f1, (cutR r).f2, (cutR r).f3, (cutR r).f4, (cutR r).f5, (cutR r).f6, (cutR r).f7) := by
  have h6 : 0 ≤ mn (r.f6.size : Int) 4100 ∧ mn (r.f6.size : Int) 4100 ≤ (r.f6.size : Int) := by unfold mn; split <;> omega
  have h7 : 0 ≤ mn (r.f7.size : Int) 4100 ∧ mn (r.f7.size : Int) 4100 ≤ (r.f7.size : Int) := by unfold mn; split <;> omega
  unfold aquiferlaw20_few.f
  rw [if_pos h6.1, if_pos h6.2, if_pos h7.1, if_pos h7.2]
  rfl
end Go.Proofs.Ytjaneipklpgnlaa.Q

namespace Go.Proofs.Ytjaneipklpgnlaa.Q
open Go Go.RowKit Go.Proofs.YtjaneipklpgnlaaW.PrintWords Go.Proofs.YtjaneipklpgnlaaW.PrintLast Go.Proofs.YtjaneipklpgnlaaW.PrintMore
set_option linter.unusedSimpArgs false
set_option linter.unusedVariables false
/-! ### Requests and their bytes -/
theorem rr_ok (s : ByteArray) (h : (rrS s).2 = 0) : (reqS (rrS s).1).2 = 0 ∧ (reqS (rrS s).1).1.toList = s.toList := by
  unfold rrS at h ⊢
  by_cases hd : (decS s).2 = 0
  · rw [if_pos hd] at h ⊢
    by_cases hk : (reqS (reqOf (decS s).1)).2 = 0 ∧ (reqS (reqOf (decS s).1)).1.toList = s.toList
    · rw [if_pos hk]
      exact hk
    · rw [if_neg hk] at h
      exact absurd h (by decide)
  · rw [if_neg hd] at h
    exact absurd h (by decide)
theorem rr_bad (s : ByteArray) (h : (rrS s).2 ≠ 0) : rrS s = (req0, 5) := by
  unfold rrS at h ⊢
  by_cases hd : (decS s).2 = 0
  · rw [if_pos hd] at h ⊢
    by_cases hk : (reqS (reqOf (decS s).1)).2 = 0 ∧ (reqS (reqOf (decS s).1)).1.toList = s.toList
    · rw [if_pos hk] at h
      exact absurd rfl h
    · rw [if_neg hk]
  · rw [if_neg hd]
theorem req_ok (r : S23) (h : (reqS r).2 = 0) : reqOk r = true := by
  unfold reqS at h
  by_cases hk : reqOk r = true
  · exact hk
  · rw [if_neg hk] at h
    exact absurd h (by decide)
theorem req_enc (r : S23) (h : (reqS r).2 = 0) : encGo (reqL r) 0 [] = ((reqS r).1, 0) := by
  have hk := req_ok r h
  unfold reqS at h ⊢
  rw [if_pos hk] at h ⊢
  exact Prod.ext rfl h
theorem reqOk_kind (r : S23) (h : reqOk r = true) : 1 ≤ r.f0 := by
  unfold reqOk at h
  simp only [Bool.and_eq_true] at h
  exact of_decide_eq_true h.1.1.1.1.1.1.1.1
theorem req_len (r : S23) (h : (reqS r).2 = 0) : 0 < (reqS r).1.size := by
  obtain ⟨_, _, hs⟩ := (enc_iff (reqL r) _).1 (req_enc r h)
  have h1 := flat_ge (reqL r)
  have h2 : 1 ≤ (reqL r).length := by
    have hk := reqOk_kind r (req_ok r h)
    have hn : r.f0 ≠ 0 := by omega
    unfold reqL
    simp [layN, hn]
  rw [hs, size_mkS]
  omega
theorem req_err (r : S23) (h : (reqS r).2 ≠ 0) : (reqS r).1.toList = [] := by
  unfold reqS at h ⊢
  by_cases hk : reqOk r = true
  · rw [if_pos hk] at h ⊢
    by_cases hv : valid (reqL r) 0
    · rw [enc_valid (reqL r) 0 [] hv] at h ⊢
      split at h
      · rename_i hc
        rw [if_pos hc]
        decide +kernel
      · exact absurd rfl h
    · obtain ⟨e, _, he⟩ := enc_invalid (reqL r) 0 [] hv
      rw [he]
      show (⟨#[]⟩ : ByteArray).toList = []
      decide +kernel
  · rw [if_neg hk]
    decide +kernel
def eqB (a b : S23) : Bool := a.f0 == b.f0 && (a.f1 == b.f1 && (a.f2 == b.f2 && (a.f3 == b.f3 && (a.f4 == b.f4 && (a.f5 == b.f5 && (a.f6.toList == b.f6.toList && (a.f7.toList == b.f7.toList)))))))
theorem tl_inj {a b : ByteArray} (h : a.toList = b.toList) : a = b := by
  rw [ByteArray.toList_eq, ByteArray.toList_eq] at h
  exact Go.WideShapes.bytes_inj h
theorem eqB_iff (a b : S23) : eqB a b = true ↔ a = b := by
  obtain ⟨a0, a1, a2, a3, a4, a5, a6, a7⟩ := a
  obtain ⟨b0, b1, b2, b3, b4, b5, b6, b7⟩ := b
  simp only [eqB, Bool.and_eq_true, beq_iff_eq, S23.mk.injEq]
  constructor
  · rintro ⟨h0, h1, h2, h3, h4, h5, h6, h7⟩
    exact ⟨h0, h1, h2, h3, h4, h5, tl_inj h6, tl_inj h7⟩
  · rintro ⟨rfl, rfl, rfl, rfl, rfl, rfl, rfl, rfl⟩
    exact ⟨rfl, rfl, rfl, rfl, rfl, rfl, rfl, rfl⟩
theorem rr_ne (r : S23) (s : ByteArray) (h : (reqS r).2 = 0) (hs : (reqS r).1.toList ≠ s.toList) : eqB (rrS s).1 r = false := by
  rw [Bool.eq_false_iff]
  intro e
  rw [eqB_iff] at e
  by_cases hr : (rrS s).2 = 0
  · have h2 := (rr_ok s hr).2
    rw [e] at h2
    exact hs h2
  · rw [rr_bad s hr] at e
    have hk := reqOk_kind r (req_ok r h)
    rw [← e] at hk
    exact absurd hk (by decide)
theorem bits_ne (x y : Int) (h0 : 0 ≤ x) (h1 : x ≤ 255) : bits .xor .u8 x (bits .or .u8 y 1) ≠ x := by
  have hw : ∀ c : BitVec 8, IntKind.wrap .u8 (c.toNat : Int) = (c.toNat : Int) := by
    intro c
    have := c.isLt
    simp only [IntKind.wrap, IntKind.signed, IntKind.bits, Bool.false_and]
    simp
    omega
  have hb : ∀ c : BitVec 8, BitVec.ofInt 8 (c.toNat : Int) = c := by
    intro c
    apply BitVec.eq_of_toNat_eq
    simp [BitVec.toNat_ofInt]
    try (have := c.isLt; omega)
  have e1 : bits .or .u8 y 1 = ((BitVec.ofInt 8 y ||| 1#8).toNat : Int) := hw _
  have e2 : bits .xor .u8 x (bits .or .u8 y 1) = ((BitVec.ofInt 8 x ^^^ (BitVec.ofInt 8 y ||| 1#8)).toNat : Int) := by
    rw [e1]
    show IntKind.wrap .u8 ((BitVec.ofInt 8 x ^^^ BitVec.ofInt 8 (((BitVec.ofInt 8 y ||| 1#8).toNat : Nat) : Int)).toNat : Int) = _
    rw [hb, hw]
  rw [e2]
  intro hc
  have hx : ((BitVec.ofInt 8 x).toNat : Int) = x := by
    simp [BitVec.toNat_ofInt]
    omega
  have h3 : (BitVec.ofInt 8 x ^^^ (BitVec.ofInt 8 y ||| 1#8)) = BitVec.ofInt 8 x := by
    apply BitVec.eq_of_toNat_eq
    omega
  have h4 : (BitVec.ofInt 8 y ||| 1#8) = 0#8 := by
    have := congrArg (fun z => BitVec.ofInt 8 x ^^^ z) h3
    simp only [← BitVec.xor_assoc, BitVec.xor_self, BitVec.zero_xor] at this
    exact this
  have h5 := congrArg (fun z : BitVec 8 => z.getLsbD 0) h4
  simp at h5
theorem bits_rng (op : BinOp) (x y : Int) : 0 ≤ bits op .u8 x y ∧ bits op .u8 x y ≤ 255 := by
  have := wf_bits op .u8 x y
  simp [Lit.wf, IntKind.min, IntKind.max, IntKind.signed, IntKind.bits] at this
  omega
end Go.Proofs.Ytjaneipklpgnlaa.Q

namespace Go.Proofs.Ytjaneipklpgnlaa.Q
open Go Go.RowKit Go.Proofs.YtjaneipklpgnlaaW.PrintWords Go.Proofs.YtjaneipklpgnlaaW.PrintLast Go.Proofs.YtjaneipklpgnlaaW.PrintMore
set_option linter.unusedSimpArgs false
set_option linter.unusedVariables false
/-! ### Fields that are laid: they may be, and are found again -/
/-- All tags of a list lie from lo on, below hi. -/
def tagsIn (lo hi : Int) (L : List S84) : Prop := ∀ f ∈ L, lo ≤ f.f0 ∧ f.f0 < hi
theorem tagsIn_nil (lo hi : Int) : tagsIn lo hi [] := fun f hf => by simp at hf
theorem tagsIn_append {lo hi : Int} {A B : List S84} (ha : tagsIn lo hi A) (hb : tagsIn lo hi B) : tagsIn lo hi (A ++ B) := fun f hf => by
  rcases List.mem_append.1 hf with h | h
  · exact ha f h
  · exact hb f h
theorem tagsIn_mono {lo hi lo' hi' : Int} {A : List S84} (h : tagsIn lo hi A) (h1 : lo' ≤ lo) (h2 : hi ≤ hi') : tagsIn lo' hi' A := fun f hf => by
  have := h f hf
  omega
theorem layN_tags (l : List Int) : ∀ t : Int, tagsIn t (t + l.length) (layN t l) := by
  induction l with
  | nil => intro t; exact tagsIn_nil _ _
  | cons n l ih =>
    intro t
    have h2 := ih (t + 1)
    simp only [List.length_cons]
    unfold layN
    refine tagsIn_append ?_ (tagsIn_mono h2 (by omega) (by omega))
    split
    · exact tagsIn_nil _ _
    · intro f hf
      simp only [List.mem_singleton] at hf
      subst hf
      show t ≤ t ∧ t < _
      omega
theorem layT_tags (l : List ByteArray) : ∀ t : Int, tagsIn t (t + l.length) (layT t l) := by
  induction l with
  | nil => intro t; exact tagsIn_nil _ _
  | cons n l ih =>
    intro t
    have h2 := ih (t + 1)
    simp only [List.length_cons]
    unfold layT
    refine tagsIn_append ?_ (tagsIn_mono h2 (by omega) (by omega))
    split
    · exact tagsIn_nil _ _
    · intro f hf
      simp only [List.mem_singleton] at hf
      subst hf
      show t ≤ t ∧ t < _
      omega
/-- A list that may stand behind any tag of at most t. -/
def VB (L : List S84) (t : Int) : Prop := ∀ b, b ≤ t → valid L b
theorem VB_nil (t : Int) : VB [] t := fun _ _ => trivial
theorem VB_append {A B : List S84} {t t' : Int} (ha : VB A t) (ht : t ≤ t') (hA : ∀ f ∈ A, f.f0 ≤ t') (hb : VB B t') : VB (A ++ B) t := by
  intro b hbt
  have h1 := ha b hbt
  clear ha
  induction A generalizing b t with
  | nil => exact hb b (by omega)
  | cons f A ih =>
    refine ⟨h1.1, ?_⟩
    exact ih (t := f.f0) (hA f (by simp)) (fun g hg => hA g (by simp [hg])) f.f0 (Int.le_refl _) h1.2
theorem VB_one {f : S84} {t : Int} (h1 : ¬ bad f) (h2 : (f.f3.size : Int) ≤ 4096) (ht : t ≤ f.f0) : VB [f] t := by
  intro b hb
  refine ⟨?_, trivial⟩
  unfold fault
  rw [if_neg h1, if_neg (by omega), if_neg (by omega)]
theorem fldN_ok {t n : Int} (ht0 : 1 ≤ t) (ht1 : t ≤ 63) (hn : badN n = false) : ¬ bad (fldN t n) ∧ ((fldN t n).f3.size : Int) ≤ 4096 := by
  unfold badN at hn
  simp only [Bool.or_eq_false_iff, decide_eq_false_iff_not] at hn
  refine ⟨?_, ?_⟩
  · rw [bad_iff]
    refine ⟨ht0, ht1, .inl ⟨rfl, ?_, by show 0 ≤ n; omega, by show n ≤ _; omega⟩⟩
    show (⟨#[]⟩ : ByteArray).toList = []
    decide +kernel
  · show ((⟨#[]⟩ : ByteArray).size : Int) ≤ 4096
    decide
theorem fldT_ok {t : Int} {s : ByteArray} (ht0 : 1 ≤ t) (ht1 : t ≤ 63) (hs : badT s = false) : ¬ bad (fldT t s) ∧ ((fldT t s).f3.size : Int) ≤ 4096 := by
  unfold badT at hs
  simp only [decide_eq_false_iff_not] at hs
  refine ⟨?_, ?_⟩
  · rw [bad_iff]
    exact ⟨ht0, ht1, .inr ⟨rfl, rfl⟩⟩
  · show (s.size : Int) ≤ 4096
    omega
theorem layN_VB (l : List Int) : ∀ t : Int, 1 ≤ t → t + l.length ≤ 64 → (∀ n ∈ l, badN n = false) → VB (layN t l) t := by
  induction l with
  | nil => intro t _ _ _; exact VB_nil t
  | cons n l ih =>
    intro t h1 h2 h3
    simp only [List.length_cons] at h2
    have hr := ih (t + 1) (by omega) (by omega) (fun m hm => h3 m (by simp [hm]))
    unfold layN
    by_cases h0 : n = 0
    · rw [if_pos h0, List.nil_append]
      exact fun b hb => hr b (by omega)
    · rw [if_neg h0]
      obtain ⟨k1, k2⟩ := fldN_ok h1 (show t ≤ 63 by omega) (h3 n (by simp))
      refine VB_append (t' := t) (VB_one k1 k2 (Int.le_refl _)) (Int.le_refl _) ?_ (fun b hb => hr b (by omega))
      intro f hf
      simp only [List.mem_singleton] at hf
      subst hf
      exact Int.le_refl _
theorem layT_VB (l : List ByteArray) : ∀ t : Int, 1 ≤ t → t + l.length ≤ 64 → (∀ n ∈ l, badT n = false) → VB (layT t l) t := by
  induction l with
  | nil => intro t _ _ _; exact VB_nil t
  | cons n l ih =>
    intro t h1 h2 h3
    simp only [List.length_cons] at h2
    have hr := ih (t + 1) (by omega) (by omega) (fun m hm => h3 m (by simp [hm]))
    unfold layT
    by_cases h0 : n.toList = []
    · rw [if_pos h0, List.nil_append]
      exact fun b hb => hr b (by omega)
    · rw [if_neg h0]
      obtain ⟨k1, k2⟩ := fldT_ok h1 (show t ≤ 63 by omega) (h3 n (by simp))
      refine VB_append (t' := t) (VB_one k1 k2 (Int.le_refl _)) (Int.le_refl _) ?_ (fun b hb => hr b (by omega))
      intro f hf
      simp only [List.mem_singleton] at hf
      subst hf
      exact Int.le_refl _
theorem valid_size {L : List S84} {a : Int} (h : valid L a) : (flat L).length ≤ 4107 * L.length := by
  have hw := valid_wf h
  clear h
  induction L with
  | nil => simp [flat]
  | cons f l ih =>
    have h1 := ih (fun g hg => hw g (by simp [hg]))
    have h2 := fldB_len f (hw f (by simp)).2
    rw [flat_cons, List.length_append, List.length_cons]
    have h3 : (fldU f).length = (fldB f).length := u8_len _
    omega
/-! What is found -/
theorem none_of {L : List S84} {t k : Int} (h : ∀ f ∈ L, f.f0 ≠ t) : L.filter (isOf t k) = [] := by
  rw [List.filter_eq_nil_iff]
  intro f hf
  have := h f hf
  simp [isOf, this]
theorem getN_skip {A B : List S84} {t : Int} (h : ∀ f ∈ A, f.f0 ≠ t) : getN (A ++ B) t = getN B t := by
  unfold getN
  rw [List.filter_append, none_of h, List.nil_append]
theorem getT_skip {A B : List S84} {t : Int} (h : ∀ f ∈ A, f.f0 ≠ t) : getT (A ++ B) t = getT B t := by
  unfold getT textsOf
  rw [List.filter_append, none_of h, List.nil_append]
theorem getN_lay {B : List S84} {t n : Int} (h : ∀ f ∈ B, f.f0 ≠ t) : getN (layN t [n] ++ B) t = n := by
  unfold getN
  rw [List.filter_append, none_of h, List.append_nil]
  by_cases h0 : n = 0
  · subst h0; rfl
  · have e : (layN t [n]).filter (isOf t 0) = [fldN t n] := by simp [layN, h0, isOf, fldN]
    rw [e]
    rfl
theorem getT_lay {B : List S84} {t : Int} {s : ByteArray} (h : ∀ f ∈ B, f.f0 ≠ t) : getT (layT t [s] ++ B) t = s := by
  unfold getT textsOf
  rw [List.filter_append, none_of h, List.append_nil]
  by_cases h0 : s.toList = []
  · have e : (layT t [s]).filter (isOf t 1) = [] := by simp [layT, h0]
    rw [e]
    refine tl_inj ?_
    rw [h0]
    show (⟨#[]⟩ : ByteArray).toList = []
    decide +kernel
  · have e : (layT t [s]).filter (isOf t 1) = [fldT t s] := by simp [layT, h0, isOf, fldT]
    rw [e]
    rfl
theorem tags_ne {lo hi t : Int} {L : List S84} (h : tagsIn lo hi L) (ht : t < lo ∨ hi ≤ t) : ∀ f ∈ L, f.f0 ≠ t := fun f hf => by
  have := h f hf
  omega
theorem layN1_tags (t n : Int) : tagsIn t (t + 1) (layN t [n]) := layN_tags [n] t
theorem layT1_tags (t : Int) (s : ByteArray) : tagsIn t (t + 1) (layT t [s]) := layT_tags [s] t
theorem reqL_valid (r : S23) (h : reqOk r = true) : VB (reqL r) 0 ∧ (flat (reqL r)).length ≤ 65536 := by
  have hv : VB (reqL r) 0 := by
    unfold reqOk at h
    simp only [Bool.and_eq_true, Bool.not_eq_true'] at h
    obtain ⟨⟨⟨⟨⟨⟨⟨⟨h0, h8⟩, h1⟩, h2⟩, h3⟩, h4⟩, h5⟩, h6⟩, h7⟩ := h
    have h0 := of_decide_eq_true h0
    have h8 := of_decide_eq_true h8
    have hb0 : badN r.f0 = false := by unfold badN; rw [decide_eq_false (by omega), decide_eq_false (by omega)]; rfl
    have hA := layN_VB [r.f0, r.f1, r.f2, r.f3, r.f4, r.f5] 1 (by omega) (by simp) (by
      intro n hn
      simp only [List.mem_cons, List.not_mem_nil, or_false] at hn
      rcases hn with rfl | rfl | rfl | rfl | rfl | rfl <;> assumption)
    have hB := layT_VB [r.f6, r.f7] 7 (by omega) (by simp) (by
      intro n hn
      simp only [List.mem_cons, List.not_mem_nil, or_false] at hn
      rcases hn with rfl | rfl <;> assumption)
    have ht := layN_tags [r.f0, r.f1, r.f2, r.f3, r.f4, r.f5] 1
    refine VB_append (t' := 7) (fun b hb => hA b (by omega)) (by omega) ?_ hB
    intro f hf
    have := ht f hf
    simp only [List.length_cons, List.length_nil] at this
    omega
  refine ⟨hv, ?_⟩
  have h1 := valid_size (hv 0 (Int.le_refl _))
  have h2 := reqL_len r
  omega
theorem req_good (r : S23) (h : reqOk r = true) : reqS r = (mkS (flat (reqL r)), 0) := by
  obtain ⟨h1, h2⟩ := reqL_valid r h
  unfold reqS
  rw [if_pos h]
  exact (enc_iff _ _).2 ⟨h1 0 (Int.le_refl _), h2, rfl⟩
theorem req_no (r : S23) (h : (reqS r).2 ≠ 0) : reqS r = (⟨#[]⟩, 2) := by
  by_cases hk : reqOk r = true
  · rw [req_good r hk] at h
    exact absurd rfl h
  · unfold reqS
    rw [if_neg hk]
theorem reqOf_reqL (r : S23) : reqOf (reqL r) = r := by
  obtain ⟨a, b, c, d, e, f, s, t⟩ := r
  have hL : reqL ⟨a, b, c, d, e, f, s, t⟩ = layN 1 [a] ++ (layN 2 [b] ++ (layN 3 [c] ++ (layN 4 [d] ++ (layN 5 [e] ++ (layN 6 [f] ++ (layT 7 [s] ++ (layT 8 [t] ++ []))))))) := by
    simp only [reqL, layN, layT, List.append_nil, List.append_assoc]
    rfl
  have t1 := layN1_tags 1 a
  have t2 := layN1_tags 2 b
  have t3 := layN1_tags 3 c
  have t4 := layN1_tags 4 d
  have t5 := layN1_tags 5 e
  have t6 := layN1_tags 6 f
  have t7 := layT1_tags 7 s
  have t8 := layT1_tags 8 t
  have B8 : tagsIn 9 64 ([] : List S84) := tagsIn_nil _ _
  have B7 : tagsIn 8 64 (layT 8 [t] ++ []) := tagsIn_append (tagsIn_mono t8 (by omega) (by omega)) (tagsIn_mono B8 (by omega) (by omega))
  have B6 := tagsIn_append (lo := 7) (hi := 64) (tagsIn_mono t7 (by omega) (by omega)) (tagsIn_mono B7 (by omega) (by omega))
  have B5 := tagsIn_append (lo := 6) (hi := 64) (tagsIn_mono t6 (by omega) (by omega)) (tagsIn_mono B6 (by omega) (by omega))
  have B4 := tagsIn_append (lo := 5) (hi := 64) (tagsIn_mono t5 (by omega) (by omega)) (tagsIn_mono B5 (by omega) (by omega))
  have B3 := tagsIn_append (lo := 4) (hi := 64) (tagsIn_mono t4 (by omega) (by omega)) (tagsIn_mono B4 (by omega) (by omega))
  have B2 := tagsIn_append (lo := 3) (hi := 64) (tagsIn_mono t3 (by omega) (by omega)) (tagsIn_mono B3 (by omega) (by omega))
  have B1 := tagsIn_append (lo := 2) (hi := 64) (tagsIn_mono t2 (by omega) (by omega)) (tagsIn_mono B2 (by omega) (by omega))
  rw [hL]
  unfold reqOf
  rw [getN_lay (tags_ne B1 (by omega)),
    getN_skip (tags_ne t1 (by omega)), getN_lay (tags_ne B2 (by omega)),
    getN_skip (tags_ne t1 (by omega)), getN_skip (tags_ne t2 (by omega)), getN_lay (tags_ne B3 (by omega)),
    getN_skip (tags_ne t1 (by omega)), getN_skip (tags_ne t2 (by omega)), getN_skip (tags_ne t3 (by omega)), getN_lay (tags_ne B4 (by omega)),
    getN_skip (tags_ne t1 (by omega)), getN_skip (tags_ne t2 (by omega)), getN_skip (tags_ne t3 (by omega)), getN_skip (tags_ne t4 (by omega)), getN_lay (tags_ne B5 (by omega)),
    getN_skip (tags_ne t1 (by omega)), getN_skip (tags_ne t2 (by omega)), getN_skip (tags_ne t3 (by omega)), getN_skip (tags_ne t4 (by omega)), getN_skip (tags_ne t5 (by omega)), getN_lay (tags_ne B6 (by omega)),
    getT_skip (tags_ne t1 (by omega)), getT_skip (tags_ne t2 (by omega)), getT_skip (tags_ne t3 (by omega)), getT_skip (tags_ne t4 (by omega)), getT_skip (tags_ne t5 (by omega)), getT_skip (tags_ne t6 (by omega)), getT_lay (tags_ne B7 (by omega)),
    getT_skip (tags_ne t1 (by omega)), getT_skip (tags_ne t2 (by omega)), getT_skip (tags_ne t3 (by omega)), getT_skip (tags_ne t4 (by omega)), getT_skip (tags_ne t5 (by omega)), getT_skip (tags_ne t6 (by omega)), getT_skip (tags_ne t7 (by omega)), getT_lay (tags_ne B8 (by omega))]
/-- What is written is read as it was. -/
theorem rr_back (r : S23) (h : (reqS r).2 = 0) : rrS (reqS r).1 = (r, 0) := by
  have hd : decS (reqS r).1 = (reqL r, 0) := (dec_enc _ _).2 (req_enc r h)
  unfold rrS
  rw [hd]
  simp only
  rw [if_pos trivial, reqOf_reqL, if_pos ⟨h, rfl⟩]
end Go.Proofs.Ytjaneipklpgnlaa.Q

namespace Go.Proofs.Ytjaneipklpgnlaa.Q
open Go.RowKit Go.Proofs.YtjaneipklpgnlaaW.PrintWords Go.Proofs.YtjaneipklpgnlaaW.PrintLast Go.Proofs.YtjaneipklpgnlaaW.PrintMore
attribute [local go_sem] max2_int min2_int max_two min_two max_three min_three max_four min_four   -- for this text's walks alone
attribute [local go_sem ↓] Go.Proofs.YtjaneipklpgnlaaK.isSome_setCell
set_option linter.unusedVariables false
set_option linter.unusedSimpArgs false

theorem eqA23 (d : Nat) (w : World) (x0 y0 : Int) (x1 y1 : Int) (x2 y2 : Int) (x3 y3 : Int) (x4 y4 : Int) (x5 y5 : Int) (x6 y6 : ByteArray) (x7 y7 : ByteArray) :
    (Op.equalIn (d + 2) 23 (.agg #[.int .i64 x0, .int .i64 x1, .int .i64 x2, .int .i64 x3, .int .i64 x4, .int .i64 x5, .string x6, .string x7]) (.agg #[.int .i64 y0, .int .i64 y1, .int .i64 y2, .int .i64 y3, .int .i64 y4, .int .i64 y5, .string y6, .string y7])).run Try.prog w = .ok (x0 == y0 && (x1 == y1 && (x2 == y2 && (x3 == y3 && (x4 == y4 && (x5 == y5 && (x6.toList == y6.toList && (x7.toList == y7.toList)))))))) w := by
  refine eqA_of Try.underlying23 (by kernel_rfl) ?_
  refine eqf_cons (by rfl) (by go_simp; rfl) (by go_simp; rfl) (by go_simp) ?_
  refine eqf_cons (by rfl) (by go_simp; rfl) (by go_simp; rfl) (by go_simp) ?_
  refine eqf_cons (by rfl) (by go_simp; rfl) (by go_simp; rfl) (by go_simp) ?_
  refine eqf_cons (by rfl) (by go_simp; rfl) (by go_simp; rfl) (by go_simp) ?_
  refine eqf_cons (by rfl) (by go_simp; rfl) (by go_simp; rfl) (by go_simp) ?_
  refine eqf_cons (by rfl) (by go_simp; rfl) (by go_simp; rfl) (by go_simp) ?_
  refine eqf_cons (by rfl) (by go_simp; rfl) (by go_simp; rfl) (by go_simp) ?_
  exact eqf_last (by rfl) (by go_simp; rfl) (by go_simp; rfl) (by go_simp)
end Go.Proofs.Ytjaneipklpgnlaa.Q

namespace Go.Proofs.Ytjaneipklpgnlaa.Q
open Go Go.RowKit Go.Proofs.YtjaneipklpgnlaaK Go.Proofs.YtjaneipklpgnlaaW.PrintWords Go.Proofs.YtjaneipklpgnlaaW.PrintLast Go.Proofs.YtjaneipklpgnlaaW.PrintMore
attribute [local go_sem ↓] Go.Proofs.YtjaneipklpgnlaaK.isSome_setCell
attribute [local go_sem high] eqA23
set_option linter.unusedSimpArgs false
set_option linter.unusedVariables false
def aquiferlaw20_TalkCuts.f (a0 a1 a2 a3 a4 a5 : Int) (a6 a7 : ByteArray) (n c : Int) : Option Bool := if 0 ≤ c ∧ c ≤ 255 then some true else none
abbrev aggR (r : S23) : Value := .agg #[.int .i64 r.f0, .int .i64 r.f1, .int .i64 r.f2, .int .i64 r.f3, .int .i64 r.f4, .int .i64 r.f5, .string r.f6, .string r.f7]
theorem few_any (w : World) (x : S23) : Calls Try.prog 8 #[aggR x] w fun e w' => e = .returned (aggR (cutR x)) ∧ Below w.heap.size w w' :=
  aquiferlaw20_few.calls _ _ _ _ _ _ _ _ _ _ _ _ _ _ _ _ w (few_fn x)
theorem check_any (w : World) (r : S23) : Calls Try.prog 13 #[aggR r] w fun e w' => e = .returned (.int .i64 (if reqOk r = true then 0 else 2)) ∧ Below w.heap.size w w' :=
  talk_CheckRequest.calls _ _ _ _ _ _ _ _ _ w (check_fn r)
theorem works_any (w : World) : Calls Try.prog 15 #[] w fun e w' => e = .returned (.bool true) ∧ Below w.heap.size w w' :=
  aquiferlaw20_works.calls _ w tworks_fn
theorem rr_any (w : World) (s : ByteArray) : Calls Try.prog 11 #[.string s] w fun e w' => e = .returned (.tuple #[aggR (rrS s).1, .int .i64 (rrS s).2]) ∧ Below w.heap.size w w' :=
  talk_ReadRequest.calls s _ _ _ _ _ _ _ _ _ w rfl
set_option maxRecDepth 100000 in
set_option maxHeartbeats 1000000 in
theorem cuts_err (w : World) (x : S23) (n c : Int) (h : (reqS (cutR x)).2 ≠ 0) :
    Calls Try.prog 4 #[aggR x, .int .i64 n, .int .u8 c] w fun e w' => e = .returned (.bool true) ∧ Below w.heap.size w w' := by
  have hu23 := Try.underlying23
  have hq := req_no _ h
  have hk : ¬ reqOk (cutR x) = true := fun hk => h (by rw [req_good _ hk])
  have hrq := fun W => req_any W (cutR x)
  have hck := fun W => check_any W (cutR x)
  rw [hq] at hrq
  rw [if_neg hk] at hck
  have hfw := fun W => few_any W x
  clear hq hk h
  generalize cutR x = r at hrq hck hfw
  obtain ⟨r0, r1, r2, r3, r4, r5, r6, r7⟩ := r
  obtain ⟨x0, x1, x2, x3, x4, x5, x6, x7⟩ := x
  have HFW : Aside0 (∀ W : World, Calls Try.prog 8 #[.agg #[.int .i64 x0, .int .i64 x1, .int .i64 x2, .int .i64 x3, .int .i64 x4, .int .i64 x5, .string x6, .string x7]] W fun e w' => e = .returned (.agg #[.int .i64 r0, .int .i64 r1, .int .i64 r2, .int .i64 r3, .int .i64 r4, .int .i64 r5, .string r6, .string r7]) ∧ Below W.heap.size W w') := ⟨hfw⟩
  have HRQ : Aside0 (∀ W : World, Calls Try.prog 9 #[.agg #[.int .i64 r0, .int .i64 r1, .int .i64 r2, .int .i64 r3, .int .i64 r4, .int .i64 r5, .string r6, .string r7]] W fun e w' => e = .returned (.tuple #[.string ⟨#[]⟩, .int .i64 2]) ∧ Below W.heap.size W w') := ⟨hrq⟩
  have HCK : Aside0 (∀ W : World, Calls Try.prog 13 #[.agg #[.int .i64 r0, .int .i64 r1, .int .i64 r2, .int .i64 r3, .int .i64 r4, .int .i64 r5, .string r6, .string r7]] W fun e w' => e = .returned (.int .i64 2) ∧ Below W.heap.size W w') := ⟨hck⟩
  clear hfw hrq hck
  have HB0 := Aside0.mk (below_alloc (Below.refl w.heap.size w) (.cells #[.int .i64 x0, .int .i64 x1, .int .i64 x2, .int .i64 x3, .int .i64 x4, .int .i64 x5, .string x6, .string x7] 23))
  have HX0 := Aside0.mk (blk_new w (.cells #[.int .i64 x0, .int .i64 x1, .int .i64 x2, .int .i64 x3, .int .i64 x4, .int .i64 x5, .string x6, .string x7] 23))
  go_enter Try.func4, Try.ntmps4
  go_wp2_with fail
  refine (HFW.out _).mono ?_
  rintro e w1 ⟨rfl, hb⟩
  have HB1 := Aside0.mk (below_step HB0.out hb)
  have HX1 := Aside0.mk (blk_below HX0.out hb)
  clear hb
  go_wp2_with (first
    | (refine box_store rfl rfl 23 (.tmp 3) (.tmp 16) rfl HX1.out #[.int .i64 r0, .int .i64 r1, .int .i64 r2, .int .i64 r3, .int .i64 r4, .int .i64 r5, .string r6, .string r7] rfl rfl info23 rfl rfl ?_; intro w2 hx2 hg2; have HX2 := Aside0.mk hx2; have HB2 := Aside0.mk (below_box HB1.out hg2 (Nat.le_refl _)); clear hx2 hg2)
    | (refine box_load rfl 23 (.tmp 3) rfl HX2.out rfl hu23 rfl info23 ?_))
  refine (HRQ.out _).mono ?_
  rintro e w3 ⟨rfl, hb⟩
  have HB3 := Aside0.mk (below_step HB2.out hb)
  have hx := blk_below HX2.out hb
  have HX3 := Aside0.mk hx
  have c0 := (blk_cell hx 0).trans (rfl : _ = some (Value.int .i64 r0))
  have c1 := (blk_cell hx 1).trans (rfl : _ = some (Value.int .i64 r1))
  have c2 := (blk_cell hx 2).trans (rfl : _ = some (Value.int .i64 r2))
  have c3 := (blk_cell hx 3).trans (rfl : _ = some (Value.int .i64 r3))
  have c4 := (blk_cell hx 4).trans (rfl : _ = some (Value.int .i64 r4))
  have c5 := (blk_cell hx 5).trans (rfl : _ = some (Value.int .i64 r5))
  have c6 := (blk_cell hx 6).trans (rfl : _ = some (Value.string r6))
  have c7 := (blk_cell hx 7).trans (rfl : _ = some (Value.string r7))
  clear hb hx
  go_wp2_with fail
  refine (HCK.out _).mono ?_
  rintro e w4 ⟨rfl, hb⟩
  have HB4 := Aside0.mk (below_step HB3.out hb)
  clear hb
  go_wp2_with fail
  refine (works_any _).mono ?_
  rintro e w5 ⟨rfl, hb⟩
  have HB5 := Aside0.mk (below_step HB4.out hb)
  clear hb
  go_wp2_with fail
  go_ret
  exact ⟨rfl, HB5.out⟩
set_option maxRecDepth 100000 in
set_option maxHeartbeats 4000000 in
theorem cuts_walk (w : World) (x r y z : S23) (n c : Int) (t u : ByteArray) (k : Nat) (f g : Int) (hfw : ∀ W, Calls Try.prog 8 #[aggR x] W fun e w' => e = .returned (aggR r) ∧ Below W.heap.size W w')
    (hrq : ∀ W, Calls Try.prog 9 #[aggR r] W fun e w' => e = .returned (.tuple #[.string t, .int .i64 0]) ∧ Below W.heap.size W w')
    (h0 : 0 < t.size) (h1 : t.size ≤ 65536) (hk : k < t.size) (hkn : Int.tmod (wrap64 (Int.tmod n (t.size : Int) + (t.size : Int))) (t.size : Int) = (k : Int))
    (hry : ∀ W, Calls Try.prog 11 #[.string (t.extract 0 k)] W fun e w' => e = .returned (.tuple #[aggR y, .int .i64 f]) ∧ Below W.heap.size W w')
    (hrz : ∀ W, Calls Try.prog 11 #[.string u] W fun e w' => e = .returned (.tuple #[aggR z, .int .i64 g]) ∧ Below W.heap.size W w')
    (v : Int) (hkd : k < t.data.size) (hv : bits .xor .u8 ((t.data[k]'hkd).toNat : Int) (bits .or .u8 c 1) = v) (hu : u = ⟨(t.data.toList.set k (UInt8.ofNat v.toNat)).toArray⟩) (hvv : v = ((UInt8.ofNat v.toNat).toNat : Int)) (hy : eqB y r = false) (hz : eqB z r = false) :
    Calls Try.prog 4 #[aggR x, .int .i64 n, .int .u8 c] w fun e w' => e = .returned (.bool true) ∧ Below w.heap.size w w' := by
  have hu23 := Try.underlying23
  obtain ⟨r0, r1, r2, r3, r4, r5, r6, r7⟩ := r
  obtain ⟨x0, x1, x2, x3, x4, x5, x6, x7⟩ := x
  obtain ⟨y0, y1, y2, y3, y4, y5, y6, y7⟩ := y
  obtain ⟨z0, z1, z2, z3, z4, z5, z6, z7⟩ := z
  have HFW : Aside0 (∀ W : World, Calls Try.prog 8 #[.agg #[.int .i64 x0, .int .i64 x1, .int .i64 x2, .int .i64 x3, .int .i64 x4, .int .i64 x5, .string x6, .string x7]] W fun e w' => e = .returned (.agg #[.int .i64 r0, .int .i64 r1, .int .i64 r2, .int .i64 r3, .int .i64 r4, .int .i64 r5, .string r6, .string r7]) ∧ Below W.heap.size W w') := ⟨hfw⟩
  have HRQ : Aside0 (∀ W : World, Calls Try.prog 9 #[.agg #[.int .i64 r0, .int .i64 r1, .int .i64 r2, .int .i64 r3, .int .i64 r4, .int .i64 r5, .string r6, .string r7]] W fun e w' => e = .returned (.tuple #[.string t, .int .i64 0]) ∧ Below W.heap.size W w') := ⟨hrq⟩
  have HRY : Aside0 (∀ W : World, Calls Try.prog 11 #[.string (t.extract 0 k)] W fun e w' => e = .returned (.tuple #[.agg #[.int .i64 y0, .int .i64 y1, .int .i64 y2, .int .i64 y3, .int .i64 y4, .int .i64 y5, .string y6, .string y7], .int .i64 f]) ∧ Below W.heap.size W w') := ⟨hry⟩
  have HRZ : Aside0 (∀ W : World, Calls Try.prog 11 #[.string u] W fun e w' => e = .returned (.tuple #[.agg #[.int .i64 z0, .int .i64 z1, .int .i64 z2, .int .i64 z3, .int .i64 z4, .int .i64 z5, .string z6, .string z7], .int .i64 g]) ∧ Below W.heap.size W w') := ⟨hrz⟩
  have HU := Aside0.mk hu
  have HV := Aside0.mk hv
  replace hy : (y0 == r0 && (y1 == r1 && (y2 == r2 && (y3 == r3 && (y4 == r4 && (y5 == r5 && (y6.toList == r6.toList && (y7.toList == r7.toList)))))))) = false := hy
  replace hz : (z0 == r0 && (z1 == r1 && (z2 == r2 && (z3 == r3 && (z4 == r4 && (z5 == r5 && (z6.toList == r6.toList && (z7.toList == r7.toList)))))))) = false := hz
  have HY := Aside0.mk hy
  have HZ := Aside0.mk hz
  have HKN := Aside0.mk hkn
  have HVV := Aside0.mk hvv
  clear hfw hrq hry hrz hu hy hz hkn hv hvv
  have HB0 := Aside0.mk (below_alloc (Below.refl w.heap.size w) (.cells #[.int .i64 x0, .int .i64 x1, .int .i64 x2, .int .i64 x3, .int .i64 x4, .int .i64 x5, .string x6, .string x7] 23))
  have HX0 := Aside0.mk (blk_new w (.cells #[.int .i64 x0, .int .i64 x1, .int .i64 x2, .int .i64 x3, .int .i64 x4, .int .i64 x5, .string x6, .string x7] 23))
  have hm0 : ((t.size : Int) == 0) = false := beq_eq_false_iff_ne.mpr (by omega)
  have HM0 := Aside0.mk hm0
  clear hm0
  go_enter Try.func4, Try.ntmps4
  go_wp2_with fail
  refine (HFW.out _).mono ?_
  rintro e w1 ⟨rfl, hb⟩
  have HB1 := Aside0.mk (below_step HB0.out hb)
  have HX1 := Aside0.mk (blk_below HX0.out hb)
  clear hb
  go_wp2_with (first
    | (refine box_store rfl rfl 23 (.tmp 3) (.tmp 16) rfl HX1.out #[.int .i64 r0, .int .i64 r1, .int .i64 r2, .int .i64 r3, .int .i64 r4, .int .i64 r5, .string r6, .string r7] rfl rfl info23 rfl rfl ?_; intro w2 hx2 hg2; have HX2 := Aside0.mk hx2; have HB2 := Aside0.mk (below_box HB1.out hg2 (Nat.le_refl _)); clear hx2 hg2)
    | (refine box_load rfl 23 (.tmp 3) rfl HX2.out rfl hu23 rfl info23 ?_))
  refine (HRQ.out _).mono ?_
  rintro e w3 ⟨rfl, hb⟩
  have HB3 := Aside0.mk (below_step HB2.out hb)
  have HX3 := Aside0.mk (blk_below HX2.out hb)
  clear hb
  have hm0 := HM0.out
  have hkn := HKN.out
  go_wp2_with fail
  refine (HRY.out _).mono ?_
  rintro e w4 ⟨rfl, hb⟩
  have HB4 := Aside0.mk (below_alloc (below_step HB3.out hb) (.cells #[.int .i64 y0, .int .i64 y1, .int .i64 y2, .int .i64 y3, .int .i64 y4, .int .i64 y5, .string y6, .string y7] 23))
  have HX4 := Aside0.mk (blk_alloc (blk_below HX3.out hb) (.cells #[.int .i64 y0, .int .i64 y1, .int .i64 y2, .int .i64 y3, .int .i64 y4, .int .i64 y5, .string y6, .string y7] 23))
  have HY4 := Aside0.mk (blk_new w4 (.cells #[.int .i64 y0, .int .i64 y1, .int .i64 y2, .int .i64 y3, .int .i64 y4, .int .i64 y5, .string y6, .string y7] 23))
  clear hb
  clear hm0 hkn
  go_wp2_with (first
    | (refine strbytes_event rfl (src := 9) (dst := 38) (e := 5) rfl rfl Try.underlying9 Try.underlying38 Try.underlying5 ?_
       intro b cap w5 hb0 hb1 hby hbl
       have HB5 := Aside0.mk (below_step HB4.out hbl)
       have HX5 := Aside0.mk (blk_below HX4.out hbl)
       have HY5 := Aside0.mk (blk_below HY4.out hbl)
       have HT5 := Aside0.mk hby
       have ck := (hby k _ (by rw [Array.getElem?_toList]; exact Array.getElem?_eq_getElem hk)).1
       have fk := (hby k _ (by rw [Array.getElem?_toList]; exact Array.getElem?_eq_getElem hk)).2
       have hv := HV.out
       rw [World.size_alloc] at hb0
       have hw4 : w.heap.size < w4.heap.size + 1 := by have := blk_lt HX4.out; rw [World.size_alloc] at this; exact this
       have hne1 : w.heap.size ≠ b := by omega
       have hne2 : w4.heap.size ≠ b := by omega
       have HB6 := Aside0.mk (below_set (j := k) (v := .int .u8 v) HB5.out (show w.heap.size ≤ b by omega))
       have HX6 := Aside0.mk (blk_far (p := ⟨b, k, none⟩) HX5.out hne1 (.int .u8 v))
       have HY6 := Aside0.mk (blk_far (p := ⟨b, k, none⟩) HY5.out hne2 (.int .u8 v))
       have HT6 := Aside0.mk (HT5.out.set k (UInt8.ofNat v.toNat) v HVV.out)
       clear hb0 hb1 hby hbl hw4 hne1 hne2)
    | (refine bytesstr_event rfl (src := 38) (dst := 9) (e := 5) rfl HT6.out rfl (by simp) HU.out Try.underlying38 Try.underlying5 Try.underlying9 ?_
       clear ck fk hv))
  refine (HRZ.out _).mono ?_
  rintro e w7 ⟨rfl, hb⟩
  have HB7 := Aside0.mk (below_alloc (below_step HB6.out hb) (.cells #[.int .i64 z0, .int .i64 z1, .int .i64 z2, .int .i64 z3, .int .i64 z4, .int .i64 z5, .string z6, .string z7] 23))
  have hx7 := blk_alloc (blk_below HX6.out hb) (.cells #[.int .i64 z0, .int .i64 z1, .int .i64 z2, .int .i64 z3, .int .i64 z4, .int .i64 z5, .string z6, .string z7] 23)
  have hy7 := blk_alloc (blk_below HY6.out hb) (.cells #[.int .i64 z0, .int .i64 z1, .int .i64 z2, .int .i64 z3, .int .i64 z4, .int .i64 z5, .string z6, .string z7] 23)
  have hz7 := blk_new w7 (.cells #[.int .i64 z0, .int .i64 z1, .int .i64 z2, .int .i64 z3, .int .i64 z4, .int .i64 z5, .string z6, .string z7] 23)
  have c0 := (blk_cell hx7 0).trans (rfl : _ = some (Value.int .i64 r0))
  have c1 := (blk_cell hx7 1).trans (rfl : _ = some (Value.int .i64 r1))
  have c2 := (blk_cell hx7 2).trans (rfl : _ = some (Value.int .i64 r2))
  have c3 := (blk_cell hx7 3).trans (rfl : _ = some (Value.int .i64 r3))
  have c4 := (blk_cell hx7 4).trans (rfl : _ = some (Value.int .i64 r4))
  have c5 := (blk_cell hx7 5).trans (rfl : _ = some (Value.int .i64 r5))
  have c6 := (blk_cell hx7 6).trans (rfl : _ = some (Value.string r6))
  have c7 := (blk_cell hx7 7).trans (rfl : _ = some (Value.string r7))
  have d0 := (blk_cell hy7 0).trans (rfl : _ = some (Value.int .i64 y0))
  have d1 := (blk_cell hy7 1).trans (rfl : _ = some (Value.int .i64 y1))
  have d2 := (blk_cell hy7 2).trans (rfl : _ = some (Value.int .i64 y2))
  have d3 := (blk_cell hy7 3).trans (rfl : _ = some (Value.int .i64 y3))
  have d4 := (blk_cell hy7 4).trans (rfl : _ = some (Value.int .i64 y4))
  have d5 := (blk_cell hy7 5).trans (rfl : _ = some (Value.int .i64 y5))
  have d6 := (blk_cell hy7 6).trans (rfl : _ = some (Value.string y6))
  have d7 := (blk_cell hy7 7).trans (rfl : _ = some (Value.string y7))
  clear hb hx7 hy7 hz7
  have hy := HY.out
  have hz := HZ.out
  by_cases hf : f = 0
  all_goals by_cases hg : g = 0
  all_goals (first | (have hfb : (f == 0) = true := beq_iff_eq.mpr hf) | (have hfb : (f == 0) = false := beq_eq_false_iff_ne.mpr hf))
  all_goals (first | (have hgb : (g == 0) = true := beq_iff_eq.mpr hg) | (have hgb : (g == 0) = false := beq_eq_false_iff_ne.mpr hg))
  all_goals clear hf hg
  all_goals
    go_wp2_with fail
  all_goals
    refine (works_any _).mono ?_
    rintro e w8 ⟨rfl, hb⟩
    have HB8 := Aside0.mk (below_step HB7.out hb)
    clear hb
    go_wp2_with fail
    go_ret
    exact ⟨rfl, HB8.out⟩
theorem tmod_in (n : Int) (m : Nat) (h0 : 0 < m) (h1 : m ≤ 65536) : ∃ k : Nat, k < m ∧ Int.tmod (wrap64 (Int.tmod n (m : Int) + (m : Int))) (m : Int) = (k : Int) := by
  have ha : -(m : Int) < Int.tmod n (m : Int) := by have := Int.lt_tmod_of_pos n (show (0 : Int) < (m : Int) by omega); exact this
  have hb : Int.tmod n (m : Int) < (m : Int) := Int.tmod_lt_of_pos n (by omega)
  have hw : wrap64 (Int.tmod n (m : Int) + (m : Int)) = Int.tmod n (m : Int) + (m : Int) := by unfold wrap64; omega
  rw [hw]
  have h2 : 0 ≤ Int.tmod (Int.tmod n (m : Int) + (m : Int)) (m : Int) := Int.tmod_nonneg _ (by omega)
  have h3 : Int.tmod (Int.tmod n (m : Int) + (m : Int)) (m : Int) < (m : Int) := Int.tmod_lt_of_pos _ (by omega)
  exact ⟨(Int.tmod (Int.tmod n (m : Int) + (m : Int)) (m : Int)).toNat, by omega, by omega⟩
theorem back_u8 (v : Int) (h0 : 0 ≤ v) (h1 : v ≤ 255) : v = ((UInt8.ofNat v.toNat).toNat : Int) := by
  simp [UInt8.toNat_ofNat']
  omega
theorem cut_ne (t : ByteArray) (k : Nat) (hk : k < t.size) : t.toList ≠ (t.extract 0 k).toList := by
  intro e
  have := congrArg List.length e
  rw [ByteArray.toList_eq, ByteArray.toList_eq] at this
  have h2 : (t.extract 0 k).size = k := by rw [ByteArray.size_extract]; omega
  have h3 : (t.extract 0 k).data.toList.length = k := by rw [← h2]; simp
  have h4 : t.data.toList.length = t.size := by simp
  omega
theorem set_ne (t : ByteArray) (k : Nat) (hk : k < t.data.size) (v : Int) (h0 : 0 ≤ v) (h1 : v ≤ 255) (hne : v ≠ (((t.data[k]'hk).toNat : Nat) : Int)) : t.toList ≠ (⟨(t.data.toList.set k (UInt8.ofNat v.toNat)).toArray⟩ : ByteArray).toList := by
  intro e
  rw [ByteArray.toList_eq, ByteArray.toList_eq] at e
  have h5 : t.data.toList[k]? = (t.data.toList.set k (UInt8.ofNat v.toNat))[k]? := congrArg (fun l : List UInt8 => l[k]?) e
  rw [List.getElem?_set_self (by simpa using hk), Array.getElem?_toList, Array.getElem?_eq_getElem hk] at h5
  injection h5 with h5
  have h6 : (((t.data[k]'hk).toNat : Nat) : Int) = ((UInt8.ofNat v.toNat).toNat : Int) := congrArg (fun b : UInt8 => (b.toNat : Int)) h5
  rw [← back_u8 v h0 h1] at h6
  exact hne h6.symm
set_option maxHeartbeats 1000000 in
theorem cuts_any (w : World) (x : S23) (n c : Int) (hc : 0 ≤ c ∧ c ≤ 255) :
    Calls Try.prog 4 #[aggR x, .int .i64 n, .int .u8 c] w fun e w' => e = .returned (.bool true) ∧ Below w.heap.size w w' := by
  by_cases h : (reqS (cutR x)).2 = 0
  · have hl := req_len _ h
    have hL : (reqS (cutR x)).1.size ≤ 65536 := by
      obtain ⟨_, h2, h3⟩ := (enc_iff _ _).1 (req_enc _ h)
      rw [h3, size_mkS]
      exact h2
    obtain ⟨k, hk, hkn⟩ := tmod_in n (reqS (cutR x)).1.size hl hL
    have hkd : k < (reqS (cutR x)).1.data.size := hk
    have hv := bits_rng .xor ((((reqS (cutR x)).1.data[k]'hkd).toNat : Nat) : Int) (bits .or .u8 c 1)
    have hne := bits_ne ((((reqS (cutR x)).1.data[k]'hkd).toNat : Nat) : Int) c (by omega) (by have := ((reqS (cutR x)).1.data[k]'hkd).toNat_lt; omega)
    have hrq : ∀ W, Calls Try.prog 9 #[aggR (cutR x)] W fun e w' => e = .returned (.tuple #[.string (reqS (cutR x)).1, .int .i64 0]) ∧ Below W.heap.size W w' := fun W => by
      have := req_any W (cutR x)
      rw [h] at this
      exact this
    refine cuts_walk w x (cutR x) _ _ n c _ ⟨((reqS (cutR x)).1.data.toList.set k (UInt8.ofNat (bits .xor .u8 ((((reqS (cutR x)).1.data[k]'hkd).toNat : Nat) : Int) (bits .or .u8 c 1)).toNat)).toArray⟩ k _ _ (fun W => few_any W x) hrq hl hL hk hkn (fun W => rr_any W _) (fun W => rr_any W _) _ hkd rfl rfl ?_ (rr_ne _ _ h ?_) (rr_ne _ _ h ?_)
    · exact back_u8 _ hv.1 hv.2
    · exact cut_ne _ k hk
    · exact set_ne _ k hkd _ hv.1 hv.2 hne
  · exact cuts_err w x n c h
theorem aquiferlaw20_TalkCuts.calls (a0_0 a0_1 a0_2 a0_3 a0_4 a0_5 : Int) (a0_6 a0_7 : ByteArray) (a1 a2 : Int) (r : Bool) (w : World) (h : aquiferlaw20_TalkCuts.f a0_0 a0_1 a0_2 a0_3 a0_4 a0_5 a0_6 a0_7 a1 a2 = some r) :
    Calls Try.prog 4 #[.agg #[.int .i64 a0_0, .int .i64 a0_1, .int .i64 a0_2, .int .i64 a0_3, .int .i64 a0_4, .int .i64 a0_5, .string a0_6, .string a0_7], .int .i64 a1, .int .u8 a2] w fun e w' => e = .returned (.bool r) ∧ Below w.heap.size w w' := by
  unfold aquiferlaw20_TalkCuts.f at h
  by_cases hc : 0 ≤ a2 ∧ a2 ≤ 255
  · rw [if_pos hc] at h
    obtain rfl := Option.some.inj h
    exact cuts_any w ⟨a0_0, a0_1, a0_2, a0_3, a0_4, a0_5, a0_6, a0_7⟩ a1 a2 hc
  · rw [if_neg hc] at h
    exact absurd h (by simp)
theorem TalkCuts_pure (x0 : S23) (a1 a2 : Int) (_h0 : good23 x0) (_h1 : (Lit.int .i64 a1).wf = true) (h2 : (Lit.int .u8 a2).wf = true) : aquiferlaw20_TalkCuts.f x0.f0 x0.f1 x0.f2 x0.f3 x0.f4 x0.f5 x0.f6 x0.f7 a1 a2 = some true := by
  unfold aquiferlaw20_TalkCuts.f
  rw [if_pos]
  simp [Lit.wf, IntKind.min, IntKind.max, IntKind.signed, IntKind.bits] at h2
  omega
end Go.Proofs.Ytjaneipklpgnlaa.Q

namespace Go.Proofs.Ytjaneipklpgnlaa.talkCuts
open Go.ChangeShapes Go.WideShapes Go.ChangeAt Go.RowKit Go.Proofs.YtjaneipklpgnlaaK Go.Proofs.YtjaneipklpgnlaaW.PrintWords Go.Proofs.Ytjaneipklpgnlaa.Q
open Go.ChangeMaps (open_string shut_string)
set_option linter.unusedVariables false
theorem own : ownKnob Try.prog.godebug = none := by kernel_rfl
theorem laidOut : laidOutB Try.prog = true := by kernel_rfl
set_option maxRecDepth 100000 in
theorem lifted (os : Os) (started : os.Started) (H : Type) (enc : TypeId × Value → H) :
    ReturnsInHanded {} Try.checked os 4 .any (Rows.talkCutsSpec.pre6 enc Try.prog Try.f4 Rows.talkCutsRow.domain false) (Rows.talkCutsSpec.post enc Try.prog Try.f4 false true false false) := by
  refine returnsInHanded_of_change_sized (C := Try.checked) own started (by kernel_rfl) Try.func4
    (ChangeSpec.witness6 (enc := enc) (C := Try.checked) false ⟨#[], #[.agg #[.int .i64 0, .int .i64 0, .int .i64 0, .int .i64 0, .int .i64 0, .int .i64 0, .string ByteArray.empty, .string ByteArray.empty], .int .i64 0, .int .u8 0], []⟩ 8 (by kernel_rfl) (by kernel_rfl) (by kernel_rfl) (by kernel_rfl)) ?_
  intro W base args ds gs before hval0 hW hcnd hsz0 _
  have hsz : (DataW.weightsEach Try.prog (Try.f4.params.toList ++ Rows.talkCutsSpec.plain.varTypes Try.prog) (ds ++ gs)).all (· ≤ reachBytes) = true := hsz0
  have hval : ∀ (j : Nat) t v, Try.f4.params[j]? = some t → args[j]? = some v → Value.okWide Try.prog W .any base t v := hval0
  have hW' := hW
  obtain ⟨p, q, hA0, hV, rfl, hfz, hnd⟩ := hW
  have hA : DataW.TrodAll enc Try.prog W 0 (fun _ => true) true Try.f4.params.toList args.toList ds p := hA0
  rw [Try.params4] at hA hval hsz
  obtain ⟨v0, vs0, d0, ds0, p0, q0, hargs, rfl, rfl, h0, r0⟩ := trodAll_cons hA
  obtain ⟨v1, vs1, d1, ds1, p1, q1, rfl, rfl, rfl, h1, r1⟩ := trodAll_cons r0
  obtain ⟨v2, vs2, d2, ds2, p2, q2, rfl, rfl, rfl, h2, r2⟩ := trodAll_cons r1
  obtain ⟨rfl, rfl, rfl⟩ := trodAll_nil r2
  obtain rfl : args = #[v0, v1, v2] := by cases args; simp_all
  obtain ⟨rfl, rfl⟩ := trodVars_none hV
  obtain ⟨cs0, rfl, hz0⟩ := okWide_struct Try.underlying23 (hval 0 23 v0 rfl rfl)
  have k0 := h0
  have lt0 : ∀ x ∈ p0, x.block < W.heap.size := by obtain ⟨m, hm⟩ := k0; exact DataW.trod_lt m _ _ _ hm
  obtain ⟨x0, hK0, hG0⟩ : ∃ x, k23.K W x cs0.toList ∧ good23 x := by
    obtain ⟨fuel, hf⟩ := h0
    exact opens23 _ _ _ _ _ _ _ _ _ hf
  obtain rfl : cs0 = #[.int .i64 x0.f0, .int .i64 x0.f1, .int .i64 x0.f2, .int .i64 x0.f3, .int .i64 x0.f4, .int .i64 x0.f5, .string x0.f6, .string x0.f7] := by
    have e_ := k23_open hK0
    cases cs0
    exact congrArg Array.mk e_
  obtain ⟨a1, rfl, rfl, rfl, w1⟩ := open_int Try.underlying3 (hval 1 3 v1 rfl rfl) h1
  obtain ⟨a2, rfl, rfl, rfl, w2⟩ := open_int Try.underlying5 (hval 2 5 v2 rfl rfl) h2
  clear hA0 hval0 hsz0 hsz
  have hP := TalkCuts_pure x0 a1 a2 hG0 w1 w2
  refine (aquiferlaw20_TalkCuts.calls x0.f0 x0.f1 x0.f2 x0.f3 x0.f4 x0.f5 x0.f6 x0.f7 a1 a2 true W  hP).mono fun e W' he0 => ?_
  obtain ⟨rfl, bel0⟩ := he0
  have bel : Below W.heap.size W W' := bel0
  exact ⟨_, rfl, _, _, _, [], _, [], hW', trodAll_mk1 (shut_bool Try.underlying4 _), (trodAll_cons_mk (Below.trod laidOut (by kernel_rfl) (of_decide_eq_true (by kernel_rfl)) k0 bel lt0) (trodAll_cons_mk (shut_int Try.underlying3 w1) (trodAll_cons_mk (shut_int Try.underlying5 w2) trodAll_mk0))), rfl, bel.frame _, fun h => by cases h⟩
theorem over : Rows.talkCutsRow.holds Try.pinned (OpenSpec.ofChange Rows.talkCutsSpec) :=
  OpenClaim.holds_of_wide 4 Try.f4 rfl rfl rfl rfl rfl rfl rfl ⟨rfl, rfl, rfl, rfl, rfl⟩ rfl rfl rfl rfl rfl (by kernel_rfl) Try.func4 (by kernel_rfl)
    (of_decide_eq_true (by kernel_rfl)) (by unfold Func.isWrapper; first | (rw [if_pos (by decide +kernel)]; kernel_rfl) | (rw [if_neg (by decide +kernel)]; exact ⟨rfl, rfl⟩))
    (fun os started H enc _ => lifted os started H enc)
theorem proved : Rows.TalkCutsSaid := over
#print axioms proved
end Go.Proofs.Ytjaneipklpgnlaa.talkCuts
namespace Go.Proofs.Ytjaneipklpgnlaa
/-- The row, under a short name, for the claim. -/
theorem talkCuts_holds : Rows.TalkCutsSaid := talkCuts.proved
end Go.Proofs.Ytjaneipklpgnlaa
