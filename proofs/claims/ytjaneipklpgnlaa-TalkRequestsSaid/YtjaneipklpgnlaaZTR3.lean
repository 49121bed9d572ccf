/- Parts of the proof: HTexts, Q32, Q34, Q35, HRead, Q1, Q2, Q11, Q12, Q13, Q14, Q18. -/
import Derived.RangeFuncNested
import Derived.RangeFuncBound
import Derived.RangeFuncCalls
import Derived.RangeFuncLeaves
import Derived.Shelf.Abstract
import Derived.Shelf.RegionOpen
import Derived.WalkKit
import Derived.OwnWalkIn
import Derived.TacticsInMore
import Derived.LoopNIn
import Derived.LoopIn
import Derived.Test.YtjaneipklpgnlaaZTR2
import Derived.Maps.AppendAt
import Derived.Test.YtjaneipklpgnlaaZTR1
section
namespace Go.Proofs.Ytjaneipklpgnlaa.Q
open Go Go.RowKit Go.Shelf Go.Proofs.YtjaneipklpgnlaaW.PrintWords Go.Proofs.YtjaneipklpgnlaaW.PrintLast Go.Proofs.YtjaneipklpgnlaaW.PrintMore
attribute [local go_sem] Oper.semAt_some
set_option linter.unusedSimpArgs false
set_option linter.unusedVariables false
/-- What a round over 'of' keeps: what lay below n₀, and the iterator's three boxes. -/
def KpOf (n₀ B : Nat) (W W' : World) : Prop := Below n₀ W W' ∧ ∀ k t v, (t = 57 ∨ t = 3) → B ≤ k → k < B + 3 → Boxed W k t v → Boxed W' k t v
theorem kpOf_t {n₀ B : Nat} {X Y Z : World} (h : KpOf n₀ B X Y) (h' : KpOf n₀ B Y Z) : KpOf n₀ B X Z := ⟨h.1.trans h'.1, fun k t v h0 h1 h2 hb => h'.2 k t v h0 h1 h2 (h.2 k t v h0 h1 h2 hb)⟩
theorem kpOf_b {n₀ B : Nat} {w : World} (hn : n₀ ≤ w.heap.size) (W : World) (l : Nat) (o o' : Obj) (hl : w.heap.size ≤ l) (h : W.heap[l]? = some o) (ho : o.isCells = false) (hw : o.isWalk = false) : KpOf n₀ B W (W.putObj l o') :=
  ⟨belowK_b hn W l o o' hl h ho hw, fun k t v _ _ _ hb => hb.kept (grownBy_putObj' W l o') (fun e => by
    cases e
    rw [show W.heap[l]? = _ from hb] at h
    cases h
    cases ho)⟩
def enc84 (x : S84) : Value := .agg #[.int .i64 x.f0, .int .i64 x.f1, .int .i64 x.f2, .string x.f3]
set_option maxHeartbeats 1000000 in
theorem of_in (F : Fence) (n : Nat) (h32 : F.fn 65) (hro : F.round = none) (A : Option Addr) (len c : Nat) (tag kind : Int) (w : World) :
    CallsIn F n Try.prog 65 #[.slice A len c, .int .i64 tag, .int .i64 kind] w fun e w' => e = .returned (.func (.func 71) #[] #[.pointer (some ⟨w.heap.size, 0, none⟩), .pointer (some ⟨w.heap.size + 1, 0, none⟩), .pointer (some ⟨w.heap.size + 1 + 1, 0, none⟩)]) ∧ w' = ((w.alloc (.cells #[.slice A len c] 57)).alloc (.cells #[.int .i64 tag] 3)).alloc (.cells #[.int .i64 kind] 3) := by
  refine callsIn_of_wp Try.func65 rfl h32 ?_ hro
  simp only [Try.ntmps65, List.size_toArray, List.length_cons, List.length_nil, Nat.reduceAdd, Nat.reduceSub, Array.replicate_succ, Array.replicate_zero, List.push_toArray, List.append_toArray, List.nil_append, List.cons_append]
  gi_wp2
  go_ret
  exact ⟨rfl, rfl⟩
set_option maxRecDepth 100000 in
set_option maxHeartbeats 4000000 in
theorem of1_in (F : Fence) (n : Nat) (h38 : F.fn 71) (hro : F.round = none) (hn : 1 ≤ n) (l B : Nat) (A : Option Addr) (c : Nat) (xs : List S84) (tag kind : Int) (w : World) (hr : Kd.C k84 w A xs.length xs) (hlen : xs.length ≤ 1048576) (J Jx : List S84 → World → Prop)
    (hY : ∀ pre x W, J pre W → pre.length < xs.length → YieldAt F (n - 1) Try.prog l #[enc84 x] W fun e W' =>
      (e = .returned (.bool true) ∧ J (pre ++ [x]) W' ∧ KpOf w.heap.size B W W') ∨ (e = .returned (.bool false) ∧ Jx (pre ++ [x]) W'))
    (W : World) (hW : Below w.heap.size w W) (b1 : Boxed W B 57 (.slice A xs.length c)) (b2 : Boxed W (B + 1) 3 (.int .i64 tag)) (b3 : Boxed W (B + 1 + 1) 3 (.int .i64 kind)) (hJ : AbidesFrom W.heap.size J) (h0 : J [] W) :
    CallsIn F n Try.prog 71 #[.func (.yield l) #[] #[], .pointer (some ⟨B, 0, none⟩), .pointer (some ⟨B + 1, 0, none⟩), .pointer (some ⟨B + 1 + 1, 0, none⟩)] W fun e W' => (∃ v, e = .returned v) ∧
      ((∃ ys, ys = xs.filter (isOf tag kind) ∧ J ys W') ∨ (∃ pre, pre <+: xs.filter (isOf tag kind) ∧ Jx pre W')) := by
  have c1 := b1.cell
  have HR := Aside0.mk hr
  have HW := Aside0.mk hW
  have HY := Aside0.mk hY
  clear hr hW hY
  have hu84 := Try.underlying84
  have hja : ∀ s W' o, J s W' → J s (W'.alloc o) := fun s W' o h => hJ s W' _ none h (World.grownBy_alloc W' o none) (fun r e => by cases e)
  have HJA := Aside0.mk hja
  clear hja hJ
  refine callsIn_of_wp Try.func71 rfl h38 ?_ hro
  simp only [Try.ntmps71, List.size_toArray, List.length_cons, List.length_nil, Nat.reduceAdd, Nat.reduceSub, Array.replicate_succ, Array.replicate_zero, List.push_toArray, List.append_toArray, List.nil_append, List.cons_append]
  gi_wp2
  gi_loopw [9] (fun i wr => ∃ k : Nat, k ≤ xs.length ∧ i = .int .i64 k ∧ J ((xs.take k).filter (isOf tag kind)) wr ∧ Aside0 (Below w.heap.size w wr) ∧ Boxed wr (B + 1) 3 (.int .i64 tag) ∧ Boxed wr (B + 1 + 1) 3 (.int .i64 kind))
    (fun i _ => xs.length - (intOf i).toNat)
  case atStart => exact ⟨0, Nat.zero_le _, rfl, h0, HW, b2, b3⟩
  case round =>
    obtain ⟨k, hk, rfl, hJs, HB, c2, c3⟩ := hrel
    have d2 := c2.cell
    have d3 := c3.cell
    by_cases hlt : k < xs.length
    · obtain ⟨ad, e, x0, x1, x2, x3⟩ := at_T84 HR.out (k : Int) (by omega) (by omega)
      subst e
      have hx : rd_T84 xs (k : Int) = xs[k] := by simp [rd_T84, hlt]
      rw [hx, Int.toNat_natCast] at x0 x1 x2 x3
      have hd : (xs.take (k + 1)).filter (isOf tag kind) = (xs.take k).filter (isOf tag kind) ++ (if isOf tag kind xs[k] then [xs[k]] else []) := by
        rw [List.take_succ_eq_append_getElem hlt, List.filter_append]
        cases h : isOf tag kind xs[k] <;> simp [h]
      have hp : (xs.take (k + 1)).filter (isOf tag kind) <+: xs.filter (isOf tag kind) := (List.take_prefix _ _).filter _
      have hln : ((xs.take k).filter (isOf tag kind)).length < xs.length := Nat.lt_of_le_of_lt (List.length_filter_le _ _) (by rw [List.length_take]; omega)
      have HP := Aside0.mk hp
      clear hp
      generalize xs[k] = x at x0 x1 x2 x3 hd
      have HD := Aside0.mk hd
      clear hx hd
      replace x0 := (HB.out.cell (World.block_lt_of_cell? w _ x0)).trans x0
      replace x1 := (HB.out.cell (World.block_lt_of_cell? w _ x1)).trans x1
      replace x2 := (HB.out.cell (World.block_lt_of_cell? w _ x2)).trans x2
      replace x3 := (HB.out.cell (World.block_lt_of_cell? w _ x3)).trans x3
      have hnew : ∀ o, Boxed (wr.alloc o) (B + 1) 3 (.int .i64 tag) := fun o => c2.alloc o
      have hnew3 : ∀ o, Boxed (wr.alloc o) (B + 1 + 1) 3 (.int .i64 kind) := fun o => c3.alloc o
      have e2 := fun o => (c2.alloc o).cell
      have e3 := fun o => (c3.alloc o).cell
      obtain ⟨y0, y1, y2, y3⟩ := x
      by_cases h1 : y0 = tag
      · by_cases h2 : y1 = kind
        · subst h1
          subst h2
          obtain ⟨fn, tmps, assign, body, hy, hR⟩ := HY.out _ ⟨y0, y1, y2, y3⟩ (wr.alloc (.cells #[.int .i64 y0, .int .i64 y1, .int .i64 y2, .string y3] 84 (0, 0))) (HJA.out _ _ _ hJs) hln
          have hI : isOf y0 y1 ⟨y0, y1, y2, y3⟩ = true := by simp [isOf]
          have hD := HD.out
          rw [hI, if_pos rfl] at hD
          clear HD
          have HD := Aside0.mk hD
          clear hD
          simp only [enc84] at hy
          gi_wp2
          refine hR.mono ?_
          rintro e W3 (⟨rfl, hJ3, hk3⟩ | ⟨rfl, hJx3⟩)
          · rw [← HD.out] at hJ3
            have c2' := hk3.2 _ _ _ (.inr rfl) (by omega) (by omega) (hnew _)
            have c3' := hk3.2 _ _ _ (.inr rfl) (by omega) (by omega) (hnew3 _)
            have HB3 := Aside0.mk ((HB.out.alloc (by have := HB.out.size; omega) _).trans hk3.1)
            clear hk3
            gi_wp2
            go_roundw
            case rel => exact ⟨k + 1, by omega, by go_num, hJ3, HB3, c2', c3'⟩
            case measure => simp [intOf]; omega
          · rw [← HD.out] at hJx3
            gi_wp2
            refine bodyPost_ret (results_none rfl _ _ _) rfl ?_
            exact ⟨⟨_, rfl⟩, .inr ⟨_, HP.out, hJx3⟩⟩
        · subst h1
          have hI : isOf y0 kind ⟨y0, y1, y2, y3⟩ = false := by simp [isOf, h2]
          have hD := HD.out
          rw [hI, if_neg (by simp), List.append_nil] at hD
          clear HD
          have hJ' := hJs
          rw [← hD] at hJ'
          clear hD
          gi_wp2
          refine ⟨fun _ h => (by cases h), ?_⟩
          gi_wp2
          go_roundw
          case rel => exact ⟨k + 1, by omega, by go_num, HJA.out _ _ _ hJ', ⟨HB.out.alloc (by have := HB.out.size; omega) _⟩, hnew _, hnew3 _⟩
          case measure => simp [intOf]; omega
      · have hI : isOf tag kind ⟨y0, y1, y2, y3⟩ = false := by simp [isOf, h1]
        have hD := HD.out
        rw [hI, if_neg (by simp), List.append_nil] at hD
        clear HD
        have hJ' := hJs
        rw [← hD] at hJ'
        clear hD
        gi_wp2
        refine ⟨fun _ h => (by cases h), ?_⟩
        gi_wp2
        go_roundw
        case rel => exact ⟨k + 1, by omega, by go_num, HJA.out _ _ _ hJ', ⟨HB.out.alloc (by have := HB.out.size; omega) _⟩, hnew _, hnew3 _⟩
        case measure => simp [intOf]; omega
    · obtain rfl : k = xs.length := by omega
      gi_wp2
      go_end0
      exact ⟨⟨_, rfl⟩, .inl ⟨_, by rw [List.take_length], hJs⟩⟩
theorem of_stops (F : Fence) (n : Nat) (h38 : F.fn 71) (hro : F.round = none) (hn : 1 ≤ n) (B : Nat) (A : Option Addr) (c : Nat) (xs : List S84) (tag kind : Int) (w : World) (hr : Kd.C k84 w A xs.length xs) (hlen : xs.length ≤ 1048576) (w1 : World) (hW1 : Below w.heap.size w w1)
    (b1 : Boxed w1 B 57 (.slice A xs.length c)) (b2 : Boxed w1 (B + 1) 3 (.int .i64 tag)) (b3 : Boxed w1 (B + 1 + 1) 3 (.int .i64 kind)) :
    SeqStopsK F n Try.prog 71 #[.pointer (some ⟨B, 0, none⟩), .pointer (some ⟨B + 1, 0, none⟩), .pointer (some ⟨B + 1 + 1, 0, none⟩)] (fun x : S84 => #[enc84 x]) (KpOf w.heap.size B) (fun ys => ys = xs.filter (isOf tag kind)) (fun pre => pre <+: xs.filter (isOf tag kind)) xs.length w1 := fun l J Jx W hW hJ hJx hY h0 =>
  of1_in F n h38 hro hn l B A c xs tag kind w hr hlen J Jx hY W (hW1.trans (hW.mono hW1.size)) ((hW.block _ b1.lt).trans b1) ((hW.block _ b2.lt).trans b2) ((hW.block _ b3.lt).trans b3) hJ h0
end Go.Proofs.Ytjaneipklpgnlaa.Q
end
section
namespace Go.Proofs.Ytjaneipklpgnlaa.Q
open Go Go.RowKit Go.Shelf Go.Proofs.YtjaneipklpgnlaaW.PrintWords Go.Proofs.YtjaneipklpgnlaaW.PrintLast Go.Proofs.YtjaneipklpgnlaaW.PrintMore
attribute [local go_sem] Oper.semAt_some
set_option linter.unusedSimpArgs false
set_option linter.unusedVariables false
def numV : List S84 → Int
  | [] => 0
  | x :: _ => x.f2
set_option maxRecDepth 100000 in
set_option maxHeartbeats 4000000 in
theorem num_in (F : Fence) (n : Nat) (h0 : F.fn 57) (h32 : F.fn 65) (h38 : F.fn 71) (hro : F.round = none) (hn : 5 ≤ n) (A : Option Addr) (c : Nat) (xs : List S84) (tag : Int) (w : World) (hr : Kd.C k84 w A xs.length xs) (hlen : xs.length ≤ 1048576) :
    CallsIn F n Try.prog 57 #[.slice A xs.length c, .int .i64 tag] w fun e W' => e = .returned (.tuple #[.int .i64 (numV (xs.filter (isOf tag 0))), .bool (decide (xs.filter (isOf tag 0) ≠ []))]) ∧ Below w.heap.size w W' := by
  have h1 : 1 ≤ n := by omega
  refine callsIn_of_wp_marks Try.func57 rfl h0 ?_ hro
  simp only [Try.ntmps57, List.size_toArray, List.length_cons, List.length_nil, Nat.reduceAdd, Nat.reduceSub, Array.replicate_succ, Array.replicate_zero, List.push_toArray, List.append_toArray, List.nil_append, List.cons_append]
  gi_wp2_with (gi_at_call 65; refine (of_in F (n - 1) h32 hro _ _ _ _ _ _).mono ?_; rintro e w' ⟨rfl, rfl⟩)
  obtain ⟨Z, hZ⟩ : ∃ Z, Z = (w.alloc (.cells #[.int .i64 0] 3)).alloc (.cells #[.bool false] 4) := ⟨_, rfl⟩
  have bR := Boxed.new w 3 (.int .i64 0)
  have bQ := Boxed.new (w.alloc (.cells #[.int .i64 0] 3)) 4 (.bool false)
  have bR := bR.alloc (.cells #[.bool false] 4)
  have hB0 : Below w.heap.size w Z := by rw [hZ]; exact ((Below.refl _ w).alloc (Nat.le_refl _) _).alloc (by simp) _
  have hsz : Z.heap.size = w.heap.size + 1 + 1 := by rw [hZ]; simp
  rw [World.size_alloc] at bQ
  rw [← hZ] at bR bQ ⊢
  clear hZ
  have b1 := ((Boxed.new Z 57 (.slice A xs.length c)).alloc (.cells #[.int .i64 tag] 3)).alloc (.cells #[.int .i64 0] 3)
  have b2 := (Boxed.new (Z.alloc (.cells #[.slice A xs.length c] 57)) 3 (.int .i64 tag)).alloc (.cells #[.int .i64 0] 3)
  have b3 := Boxed.new ((Z.alloc (.cells #[.slice A xs.length c] 57)).alloc (.cells #[.int .i64 tag] 3)) 3 (.int .i64 0)
  simp only [World.size_alloc] at b2 b3
  rw [hsz] at b1 b2 b3
  replace hB0 := ((hB0.alloc (by omega) (.cells #[.slice A xs.length c] 57)).alloc (by simp; omega) (.cells #[.int .i64 tag] 3)).alloc (by simp; omega) (.cells #[.int .i64 0] 3)
  replace bR := ((bR.alloc (.cells #[.slice A xs.length c] 57)).alloc (.cells #[.int .i64 tag] 3)).alloc (.cells #[.int .i64 0] 3)
  replace bQ := ((bQ.alloc (.cells #[.slice A xs.length c] 57)).alloc (.cells #[.int .i64 tag] 3)).alloc (.cells #[.int .i64 0] 3)
  have hszW : (((Z.alloc (.cells #[.slice A xs.length c] 57)).alloc (.cells #[.int .i64 tag] 3)).alloc (.cells #[.int .i64 0] 3)).heap.size = w.heap.size + 5 := by simp; omega
  obtain ⟨W0, hW0⟩ : ∃ W0, ((Z.alloc (.cells #[.slice A xs.length c] 57)).alloc (.cells #[.int .i64 tag] 3)).alloc (.cells #[.int .i64 0] 3) = W0 := ⟨_, rfl⟩
  rw [hW0] at b1 b2 b3 bR bQ hB0 hszW ⊢
  clear hW0
  refine wpIn_rangeFunc_ownH hro h1 (gf := 71) (lb := #[.pointer (some ⟨(w.heap.size + 1 + 1), 0, none⟩), .pointer (some ⟨(w.heap.size + 1 + 1) + 1, 0, none⟩), .pointer (some ⟨(w.heap.size + 1 + 1) + 1 + 1, 0, none⟩)]) rfl h38 (enters_of Try.func71 (by kernel_rfl) rfl)
    (of_stops F (n - 1) h38 hro (by omega) (w.heap.size + 1 + 1) A c xs tag 0 w hr hlen W0 hB0 b1 b2 b3) kpOf_t (kpOf_b (by omega)) (Below.refl _ _) (fun _ => rfl)
    (fun pre W => ((pre = [] ∧ Boxed W w.heap.size 3 (.int .i64 0)) ∧ Boxed W (w.heap.size + 1) 4 (.bool false)) ∧ Below w.heap.size w W)
    (fun c pre W => ((c = .ret ∧ pre ≠ []) ∧ Boxed W w.heap.size 3 (.int .i64 (numV pre)) ∧ Boxed W (w.heap.size + 1) 4 (.bool true)) ∧ Below w.heap.size w W)
    (OwnFrom.and (OwnFrom.and (OwnFrom.and (ownFrom_pure _ _) (Own.from (boxed_own _ _ _) _)) (Own.from (boxed_own _ _ _) _)) (ownFrom_below (Nat.le_refl _) (by omega)))
    (fun c => OwnFrom.and (OwnFrom.and (ownFrom_pure _ _) (OwnFrom.and (Own.from (boxed_own _ _ _) _) (Own.from (boxed_own _ _ _) _))) (ownFrom_below (Nat.le_refl _) (by omega)))
    ⟨⟨⟨rfl, bR⟩, bQ⟩, hB0⟩
    (fun x a' W => ∃ Bx, w.heap.size + 1 < Bx ∧ W.heap[Bx]? = some (.cells #[.int .i64 x.f0, .int .i64 x.f1, .int .i64 x.f2, .string x.f3] 84 (0, 0)) ∧ a' = { tmps := #[.slice A xs.length c, .int .i64 tag, undef, undef, .pointer (some ⟨w.heap.size, 0, none⟩), .pointer (some ⟨w.heap.size + 1, 0, none⟩), .pointer (some ⟨Bx, 0, none⟩), .slice A xs.length c, .int .i64 tag, .func (.func 71) #[] #[.pointer (some ⟨(w.heap.size + 1 + 1), 0, none⟩), .pointer (some ⟨(w.heap.size + 1 + 1) + 1, 0, none⟩), .pointer (some ⟨(w.heap.size + 1 + 1) + 1 + 1, 0, none⟩)], enc84 x, undef, undef], defers := [] })
    (fun x a' _ X Y row hs hg hr => by obtain ⟨Bx, e1, e2, e3⟩ := hs; exact ⟨Bx, e1, (grownBy_keeps_cells hg (fun r e => (hr r e).2) e2 rfl).trans e2, e3⟩)
    ?assign ?body ?done ?stop
  case assign =>
    rintro l pre x W K ⟨⟨⟨rfl, bR1⟩, bB1⟩, hB1⟩ hK
    simp only [enc84] at hK ⊢
    have hu84 := Try.underlying84
    gi_wp2
    exact hK _ _ ((KeepsOthers.alloc _ _).from _) ⟨(Below.refl _ W).alloc hB1.size _, fun k t v _ _ _ hb => hb.alloc _⟩ ⟨⟨⟨by first | rfl | trivial, bR1.alloc _⟩, bB1.alloc _⟩, hB1.alloc hB1.size _⟩ ⟨W.heap.size, bB1.lt, World.alloc_heap_new W _, rfl⟩
  case body =>
    rintro l pre x a' W hl ⟨r, hr⟩ ⟨⟨⟨rfl, bR1⟩, bB1⟩, hB1⟩ ⟨Bx, hBx, bX, rfl⟩ hlt
    have cR := bR1.cell
    have fR := bR1.frozen
    have cB := bB1.cell
    have fB := bB1.frozen
    have cX : W.cell? ⟨Bx, 2, none⟩ = some (.int .i64 x.f2) := (blk_cell bX 2).trans rfl
    gi_wp2
    exact ⟨((KeepsOthers.setCell _ _ _).trans (KeepsOthers.setCell _ _ _)).from _, ⟨⟨by first | rfl | trivial, by simp⟩, (bR1.set _).other (by omega) _, (bB1.other (by omega) _).set _⟩, (hB1.setCell (p := ⟨w.heap.size, 0, none⟩) (by simp) _).setCell (p := ⟨w.heap.size + 1, 0, none⟩) (by simp) _⟩
  case done =>
    rintro D zs W hD rfl ⟨⟨⟨hp, bR1⟩, bB1⟩, hB1⟩ hK
    have cR := bR1.cell
    have fR := bR1.frozen
    have cB := bB1.cell
    have fB := bB1.frozen
    gi_wp2
    have hK' := ((KeepsOthers.setCell W ⟨w.heap.size, 0, none⟩ (.int .i64 0)).trans (KeepsOthers.setCell _ ⟨w.heap.size + 1, 0, none⟩ (.bool false))).same D _ hK rfl
    refine ⟨by simp, .inl ⟨_, _, rfl, run_takeDeferred hK', ?_⟩⟩
    have hc4 := cell_kept ((bR1.set (.int .i64 0)).other (B' := w.heap.size + 1) (by omega) (.bool false)).cell (grownBy_putObj' _ D (.deferred none)) (fun r e => by cases e; exact ⟨_, hK', rfl⟩)
    have hc5 := cell_kept ((bB1.other (B' := w.heap.size) (by omega) (.int .i64 0)).set (.bool false)).cell (grownBy_putObj' _ D (.deferred none)) (fun r e => by cases e; exact ⟨_, hK', rfl⟩)
    refine ⟨.tuple #[.int .i64 0, .bool false], ?_, by rw [hp]; rfl, ((hB1.setCell (p := ⟨w.heap.size, 0, none⟩) (by simp) _).setCell (p := ⟨w.heap.size + 1, 0, none⟩) (by simp) _).trans (belowK_b (w := w) (Nat.le_refl _) _ D _ _ (by omega) hK' rfl rfl)⟩
    simp [results, Try.f57, go_sem, hc4, hc5]
  case stop =>
    rintro D c pre W hD hpre ⟨⟨⟨rfl, hne⟩, bR1, bB1⟩, hB1⟩ hK
    gi_wp2
    refine ⟨by simp, .inl ⟨_, _, rfl, run_takeDeferred hK, ?_⟩⟩
    have hc4 := cell_kept bR1.cell (grownBy_putObj' _ D (.deferred none)) (fun r e => by cases e; exact ⟨_, hK, rfl⟩)
    have hc5 := cell_kept bB1.cell (grownBy_putObj' _ D (.deferred none)) (fun r e => by cases e; exact ⟨_, hK, rfl⟩)
    refine ⟨.tuple #[.int .i64 (numV pre), .bool true], ?_, ?_, hB1.trans (belowK_b (w := w) (Nat.le_refl _) W D _ _ (by omega) hK rfl rfl)⟩
    · simp [results, Try.f57, go_sem, hc4, hc5]
    · obtain ⟨u, hu⟩ := hpre
      rw [← hu]
      cases pre with
      | nil => exact absurd rfl hne
      | cons y t => rfl
theorem field_Num.calls (A0 : Option Addr) (c0 : Nat) (l0 : List S84) (a1 : Int) (r1 : Int) (r2 : Bool) (w : World) (hr0 : Kd.C k84 w A0 l0.length l0) (hc0 : l0.length ≤ c0) (h : field_Num.f l0 a1 = some (r1, r2)) :
    Calls Try.prog 57 #[.slice A0 l0.length c0, .int .i64 a1] w fun e w' => e = .returned (.tuple #[.int .i64 r1, .bool r2]) ∧ Below w.heap.size w w' := by
  unfold field_Num.f at h
  split at h
  · rename_i hl
    refine callsIn_wide.1 ((num_in Fence.wide 5 trivial trivial trivial rfl (Nat.le_refl _) A0 c0 l0 a1 w hr0 hl).mono ?_)
    rintro e W' ⟨rfl, hb⟩
    refine ⟨?_, hb⟩
    have h := Option.some.inj h
    cases hq : l0.filter (isOf a1 0) with
    | nil => rw [hq] at h; cases h; rfl
    | cons x t => rw [hq] at h; cases h; rfl
  · cases h
end Go.Proofs.Ytjaneipklpgnlaa.Q
end
section
namespace Go.Proofs.Ytjaneipklpgnlaa.Q
open Go Go.RowKit Go.Shelf Go.Proofs.YtjaneipklpgnlaaW.PrintWords Go.Proofs.YtjaneipklpgnlaaW.PrintLast Go.Proofs.YtjaneipklpgnlaaW.PrintMore
attribute [local go_sem] Oper.semAt_some
set_option linter.unusedSimpArgs false
set_option linter.unusedVariables false
def textV : List S84 → ByteArray
  | [] => ⟨#[]⟩
  | x :: _ => x.f3
set_option maxRecDepth 100000 in
set_option maxHeartbeats 4000000 in
theorem text_in (F : Fence) (n : Nat) (h0 : F.fn 58) (h32 : F.fn 65) (h38 : F.fn 71) (hro : F.round = none) (hn : 5 ≤ n) (A : Option Addr) (c : Nat) (xs : List S84) (tag : Int) (w : World) (hr : Kd.C k84 w A xs.length xs) (hlen : xs.length ≤ 1048576) :
    CallsIn F n Try.prog 58 #[.slice A xs.length c, .int .i64 tag] w fun e W' => e = .returned (.tuple #[.string (textV (xs.filter (isOf tag 1))), .bool (decide (xs.filter (isOf tag 1) ≠ []))]) ∧ Below w.heap.size w W' := by
  have h1 : 1 ≤ n := by omega
  refine callsIn_of_wp_marks Try.func58 rfl h0 ?_ hro
  simp only [Try.ntmps58, List.size_toArray, List.length_cons, List.length_nil, Nat.reduceAdd, Nat.reduceSub, Array.replicate_succ, Array.replicate_zero, List.push_toArray, List.append_toArray, List.nil_append, List.cons_append]
  gi_wp2_with (gi_at_call 65; refine (of_in F (n - 1) h32 hro _ _ _ _ _ _).mono ?_; rintro e w' ⟨rfl, rfl⟩)
  obtain ⟨Z, hZ⟩ : ∃ Z, Z = (w.alloc (.cells #[.string ⟨#[]⟩] 9)).alloc (.cells #[.bool false] 4) := ⟨_, rfl⟩
  have bR := Boxed.new w 9 (.string ⟨#[]⟩)
  have bQ := Boxed.new (w.alloc (.cells #[.string ⟨#[]⟩] 9)) 4 (.bool false)
  have bR := bR.alloc (.cells #[.bool false] 4)
  have hB0 : Below w.heap.size w Z := by rw [hZ]; exact ((Below.refl _ w).alloc (Nat.le_refl _) _).alloc (by simp) _
  have hsz : Z.heap.size = w.heap.size + 1 + 1 := by rw [hZ]; simp
  rw [World.size_alloc] at bQ
  rw [← hZ] at bR bQ ⊢
  clear hZ
  have b1 := ((Boxed.new Z 57 (.slice A xs.length c)).alloc (.cells #[.int .i64 tag] 3)).alloc (.cells #[.int .i64 1] 3)
  have b2 := (Boxed.new (Z.alloc (.cells #[.slice A xs.length c] 57)) 3 (.int .i64 tag)).alloc (.cells #[.int .i64 1] 3)
  have b3 := Boxed.new ((Z.alloc (.cells #[.slice A xs.length c] 57)).alloc (.cells #[.int .i64 tag] 3)) 3 (.int .i64 1)
  simp only [World.size_alloc] at b2 b3
  rw [hsz] at b1 b2 b3
  replace hB0 := ((hB0.alloc (by omega) (.cells #[.slice A xs.length c] 57)).alloc (by simp; omega) (.cells #[.int .i64 tag] 3)).alloc (by simp; omega) (.cells #[.int .i64 1] 3)
  replace bR := ((bR.alloc (.cells #[.slice A xs.length c] 57)).alloc (.cells #[.int .i64 tag] 3)).alloc (.cells #[.int .i64 1] 3)
  replace bQ := ((bQ.alloc (.cells #[.slice A xs.length c] 57)).alloc (.cells #[.int .i64 tag] 3)).alloc (.cells #[.int .i64 1] 3)
  have hszW : (((Z.alloc (.cells #[.slice A xs.length c] 57)).alloc (.cells #[.int .i64 tag] 3)).alloc (.cells #[.int .i64 1] 3)).heap.size = w.heap.size + 5 := by simp; omega
  obtain ⟨W0, hW0⟩ : ∃ W0, ((Z.alloc (.cells #[.slice A xs.length c] 57)).alloc (.cells #[.int .i64 tag] 3)).alloc (.cells #[.int .i64 1] 3) = W0 := ⟨_, rfl⟩
  rw [hW0] at b1 b2 b3 bR bQ hB0 hszW ⊢
  clear hW0
  refine wpIn_rangeFunc_ownH hro h1 (gf := 71) (lb := #[.pointer (some ⟨(w.heap.size + 1 + 1), 0, none⟩), .pointer (some ⟨(w.heap.size + 1 + 1) + 1, 0, none⟩), .pointer (some ⟨(w.heap.size + 1 + 1) + 1 + 1, 0, none⟩)]) rfl h38 (enters_of Try.func71 (by kernel_rfl) rfl)
    (of_stops F (n - 1) h38 hro (by omega) (w.heap.size + 1 + 1) A c xs tag 1 w hr hlen W0 hB0 b1 b2 b3) kpOf_t (kpOf_b (by omega)) (Below.refl _ _) (fun _ => rfl)
    (fun pre W => ((pre = [] ∧ Boxed W w.heap.size 9 (.string ⟨#[]⟩)) ∧ Boxed W (w.heap.size + 1) 4 (.bool false)) ∧ Below w.heap.size w W)
    (fun c pre W => ((c = .ret ∧ pre ≠ []) ∧ Boxed W w.heap.size 9 (.string (textV pre)) ∧ Boxed W (w.heap.size + 1) 4 (.bool true)) ∧ Below w.heap.size w W)
    (OwnFrom.and (OwnFrom.and (OwnFrom.and (ownFrom_pure _ _) (Own.from (boxed_own _ _ _) _)) (Own.from (boxed_own _ _ _) _)) (ownFrom_below (Nat.le_refl _) (by omega)))
    (fun c => OwnFrom.and (OwnFrom.and (ownFrom_pure _ _) (OwnFrom.and (Own.from (boxed_own _ _ _) _) (Own.from (boxed_own _ _ _) _))) (ownFrom_below (Nat.le_refl _) (by omega)))
    ⟨⟨⟨rfl, bR⟩, bQ⟩, hB0⟩
    (fun x a' W => ∃ Bx, w.heap.size + 1 < Bx ∧ W.heap[Bx]? = some (.cells #[.int .i64 x.f0, .int .i64 x.f1, .int .i64 x.f2, .string x.f3] 84 (0, 0)) ∧ a' = { tmps := #[.slice A xs.length c, .int .i64 tag, undef, undef, .pointer (some ⟨w.heap.size, 0, none⟩), .pointer (some ⟨w.heap.size + 1, 0, none⟩), .pointer (some ⟨Bx, 0, none⟩), .slice A xs.length c, .int .i64 tag, .func (.func 71) #[] #[.pointer (some ⟨(w.heap.size + 1 + 1), 0, none⟩), .pointer (some ⟨(w.heap.size + 1 + 1) + 1, 0, none⟩), .pointer (some ⟨(w.heap.size + 1 + 1) + 1 + 1, 0, none⟩)], enc84 x, undef, undef], defers := [] })
    (fun x a' _ X Y row hs hg hr => by obtain ⟨Bx, e1, e2, e3⟩ := hs; exact ⟨Bx, e1, (grownBy_keeps_cells hg (fun r e => (hr r e).2) e2 rfl).trans e2, e3⟩)
    ?assign ?body ?done ?stop
  case assign =>
    rintro l pre x W K ⟨⟨⟨rfl, bR1⟩, bB1⟩, hB1⟩ hK
    simp only [enc84] at hK ⊢
    have hu84 := Try.underlying84
    gi_wp2
    exact hK _ _ ((KeepsOthers.alloc _ _).from _) ⟨(Below.refl _ W).alloc hB1.size _, fun k t v _ _ _ hb => hb.alloc _⟩ ⟨⟨⟨by first | rfl | trivial, bR1.alloc _⟩, bB1.alloc _⟩, hB1.alloc hB1.size _⟩ ⟨W.heap.size, bB1.lt, World.alloc_heap_new W _, rfl⟩
  case body =>
    rintro l pre x a' W hl ⟨r, hr⟩ ⟨⟨⟨rfl, bR1⟩, bB1⟩, hB1⟩ ⟨Bx, hBx, bX, rfl⟩ hlt
    have cR := bR1.cell
    have fR := bR1.frozen
    have cB := bB1.cell
    have fB := bB1.frozen
    have cX : W.cell? ⟨Bx, 3, none⟩ = some (.string x.f3) := (blk_cell bX 3).trans rfl
    gi_wp2
    exact ⟨((KeepsOthers.setCell _ _ _).trans (KeepsOthers.setCell _ _ _)).from _, ⟨⟨by first | rfl | trivial, by simp⟩, (bR1.set _).other (by omega) _, (bB1.other (by omega) _).set _⟩, (hB1.setCell (p := ⟨w.heap.size, 0, none⟩) (by simp) _).setCell (p := ⟨w.heap.size + 1, 0, none⟩) (by simp) _⟩
  case done =>
    rintro D zs W hD rfl ⟨⟨⟨hp, bR1⟩, bB1⟩, hB1⟩ hK
    have cR := bR1.cell
    have fR := bR1.frozen
    have cB := bB1.cell
    have fB := bB1.frozen
    gi_wp2
    have hK' := ((KeepsOthers.setCell W ⟨w.heap.size, 0, none⟩ (.string ⟨#[]⟩)).trans (KeepsOthers.setCell _ ⟨w.heap.size + 1, 0, none⟩ (.bool false))).same D _ hK rfl
    refine ⟨by simp, .inl ⟨_, _, rfl, run_takeDeferred hK', ?_⟩⟩
    have hc4 := cell_kept ((bR1.set (.string ⟨#[]⟩)).other (B' := w.heap.size + 1) (by omega) (.bool false)).cell (grownBy_putObj' _ D (.deferred none)) (fun r e => by cases e; exact ⟨_, hK', rfl⟩)
    have hc5 := cell_kept ((bB1.other (B' := w.heap.size) (by omega) (.string ⟨#[]⟩)).set (.bool false)).cell (grownBy_putObj' _ D (.deferred none)) (fun r e => by cases e; exact ⟨_, hK', rfl⟩)
    refine ⟨.tuple #[.string ⟨#[]⟩, .bool false], ?_, by rw [hp]; rfl, ((hB1.setCell (p := ⟨w.heap.size, 0, none⟩) (by simp) _).setCell (p := ⟨w.heap.size + 1, 0, none⟩) (by simp) _).trans (belowK_b (w := w) (Nat.le_refl _) _ D _ _ (by omega) hK' rfl rfl)⟩
    simp [results, Try.f58, go_sem, hc4, hc5]
  case stop =>
    rintro D c pre W hD hpre ⟨⟨⟨rfl, hne⟩, bR1, bB1⟩, hB1⟩ hK
    gi_wp2
    refine ⟨by simp, .inl ⟨_, _, rfl, run_takeDeferred hK, ?_⟩⟩
    have hc4 := cell_kept bR1.cell (grownBy_putObj' _ D (.deferred none)) (fun r e => by cases e; exact ⟨_, hK, rfl⟩)
    have hc5 := cell_kept bB1.cell (grownBy_putObj' _ D (.deferred none)) (fun r e => by cases e; exact ⟨_, hK, rfl⟩)
    refine ⟨.tuple #[.string (textV pre), .bool true], ?_, ?_, hB1.trans (belowK_b (w := w) (Nat.le_refl _) W D _ _ (by omega) hK rfl rfl)⟩
    · simp [results, Try.f58, go_sem, hc4, hc5]
    · obtain ⟨u, hu⟩ := hpre
      rw [← hu]
      cases pre with
      | nil => exact absurd rfl hne
      | cons y t => rfl
theorem field_Text.calls (A0 : Option Addr) (c0 : Nat) (l0 : List S84) (a1 : Int) (r1 : ByteArray) (r2 : Bool) (w : World) (hr0 : Kd.C k84 w A0 l0.length l0) (hc0 : l0.length ≤ c0) (h : field_Text.f l0 a1 = some (r1, r2)) :
    Calls Try.prog 58 #[.slice A0 l0.length c0, .int .i64 a1] w fun e w' => e = .returned (.tuple #[.string r1, .bool r2]) ∧ Below w.heap.size w w' := by
  unfold field_Text.f at h
  split at h
  · rename_i hl
    refine callsIn_wide.1 ((text_in Fence.wide 5 trivial trivial trivial rfl (Nat.le_refl _) A0 c0 l0 a1 w hr0 hl).mono ?_)
    rintro e W' ⟨rfl, hb⟩
    refine ⟨?_, hb⟩
    have h := Option.some.inj h
    cases hq : l0.filter (isOf a1 1) with
    | nil => rw [hq] at h; cases h; rfl
    | cons x t => rw [hq] at h; cases h; rfl
  · cases h
end Go.Proofs.Ytjaneipklpgnlaa.Q
end
section
namespace Go.Proofs.Ytjaneipklpgnlaa.Q
open Go Go.RowKit Go.Shelf Go.Proofs.YtjaneipklpgnlaaW.PrintWords Go.Proofs.YtjaneipklpgnlaaW.PrintLast Go.Proofs.YtjaneipklpgnlaaW.PrintMore
attribute [local go_sem] Oper.semAt_some
set_option linter.unusedSimpArgs false
set_option linter.unusedVariables false
def strF (x : S84) : Value := .string x.f3
set_option maxRecDepth 100000 in
set_option maxHeartbeats 4000000 in
theorem texts_in (F : Fence) (n : Nat) (h0 : F.fn 46) (h32 : F.fn 65) (h38 : F.fn 71) (hro : F.round = none) (hn : 5 ≤ n) (A : Option Addr) (c : Nat) (xs : List S84) (tag : Int) (w : World) (hr : Kd.C k84 w A xs.length xs) (hlen : xs.length ≤ 1048576) :
    CallsIn F n Try.prog 46 #[.slice A xs.length c, .int .i64 tag] w fun e W' => ∃ v, e = .returned v ∧ W'.ownsRow w.heap.size 9 1 v (xs.filter (isOf tag 1)).length ((xs.filter (isOf tag 1)).map strF) ∧ Below w.heap.size w W' := by
  have h1 : 1 ≤ n := by omega
  obtain ⟨i0, hi, hz0, hz1, hz2⟩ := info_parts info9
  refine callsIn_of_wp_marks Try.func46 rfl h0 ?_ hro
  simp only [Try.ntmps46, List.size_toArray, List.length_cons, List.length_nil, Nat.reduceAdd, Nat.reduceSub, Array.replicate_succ, Array.replicate_zero, List.push_toArray, List.append_toArray, List.nil_append, List.cons_append]
  gi_wp2_with (gi_at_call 65; refine (of_in F (n - 1) h32 hro _ _ _ _ _ _).mono ?_; rintro e w' ⟨rfl, rfl⟩)
  obtain ⟨Z, hZ⟩ : ∃ Z, Z = w.alloc (.cells #[.slice none 0 0] 86) := ⟨_, rfl⟩
  have bO := Boxed.new w 86 (.slice none 0 0)
  have hB0 : Below w.heap.size w Z := by rw [hZ]; exact (Below.refl _ w).alloc (Nat.le_refl _) _
  have hsz : Z.heap.size = w.heap.size + 1 := by rw [hZ]; simp
  rw [← hZ] at bO ⊢
  clear hZ
  have b1 := ((Boxed.new Z 57 (.slice A xs.length c)).alloc (.cells #[.int .i64 tag] 3)).alloc (.cells #[.int .i64 1] 3)
  have b2 := (Boxed.new (Z.alloc (.cells #[.slice A xs.length c] 57)) 3 (.int .i64 tag)).alloc (.cells #[.int .i64 1] 3)
  have b3 := Boxed.new ((Z.alloc (.cells #[.slice A xs.length c] 57)).alloc (.cells #[.int .i64 tag] 3)) 3 (.int .i64 1)
  simp only [World.size_alloc] at b2 b3
  rw [hsz] at b1 b2 b3
  replace hB0 := ((hB0.alloc (by omega) (.cells #[.slice A xs.length c] 57)).alloc (by simp; omega) (.cells #[.int .i64 tag] 3)).alloc (by simp; omega) (.cells #[.int .i64 1] 3)
  replace bO := ((bO.alloc (.cells #[.slice A xs.length c] 57)).alloc (.cells #[.int .i64 tag] 3)).alloc (.cells #[.int .i64 1] 3)
  have hszW : (((Z.alloc (.cells #[.slice A xs.length c] 57)).alloc (.cells #[.int .i64 tag] 3)).alloc (.cells #[.int .i64 1] 3)).heap.size = w.heap.size + 4 := by simp; omega
  obtain ⟨W0, hW0⟩ : ∃ W0, ((Z.alloc (.cells #[.slice A xs.length c] 57)).alloc (.cells #[.int .i64 tag] 3)).alloc (.cells #[.int .i64 1] 3) = W0 := ⟨_, rfl⟩
  rw [hW0] at b1 b2 b3 bO hB0 hszW ⊢
  clear hW0
  refine wpIn_rangeFunc_ownH hro h1 (gf := 71) (lb := #[.pointer (some ⟨w.heap.size + 1, 0, none⟩), .pointer (some ⟨w.heap.size + 1 + 1, 0, none⟩), .pointer (some ⟨w.heap.size + 1 + 1 + 1, 0, none⟩)]) rfl h38 (enters_of Try.func71 (by kernel_rfl) rfl)
    (of_stops F (n - 1) h38 hro (by omega) (w.heap.size + 1) A c xs tag 1 w hr hlen W0 hB0 b1 b2 b3) kpOf_t (kpOf_b (by omega)) (Below.refl _ _) (fun _ => rfl)
    (fun pre W => (∃ v, Boxed W w.heap.size 86 v ∧ W.ownsRow w.heap.size 9 1 v pre.length (pre.map strF) ∧ True) ∧ Below w.heap.size w W)
    (fun c pre W => False)
    (OwnFrom.and (Own.from (holdsRow_own w.heap.size w.heap.size 86 9 1 (fun pre : List S84 => pre.length) (fun pre : List S84 => pre.map strF) (fun _ _ => True)) _) (ownFrom_below (Nat.le_refl _) (by omega)))
    (fun _ _ _ _ _ hs _ _ => hs)
    ⟨⟨_, bO, World.ownsRow_nil _ _ _ _, trivial⟩, hB0⟩
    (fun x a' W => ∃ Bx, w.heap.size < Bx ∧ W.heap[Bx]? = some (.cells #[.int .i64 x.f0, .int .i64 x.f1, .int .i64 x.f2, .string x.f3] 84 (0, 0)) ∧ a' = { tmps := #[.slice A xs.length c, .int .i64 tag, undef, undef, .slice none 0 0, .pointer (some ⟨w.heap.size, 0, none⟩), .pointer (some ⟨Bx, 0, none⟩), .slice A xs.length c, .int .i64 tag, .func (.func 71) #[] #[.pointer (some ⟨w.heap.size + 1, 0, none⟩), .pointer (some ⟨w.heap.size + 1 + 1, 0, none⟩), .pointer (some ⟨w.heap.size + 1 + 1 + 1, 0, none⟩)], enc84 x, undef, undef, undef, undef, undef, undef], defers := [] })
    (fun x a' _ X Y row hs hg hr => by obtain ⟨Bx, e1, e2, e3⟩ := hs; exact ⟨Bx, e1, (grownBy_keeps_cells hg (fun r e => (hr r e).2) e2 rfl).trans e2, e3⟩)
    ?assign ?body ?done ?stop
  case assign =>
    rintro l pre x W K ⟨⟨v, bO1, hrow, _⟩, hB1⟩ hK
    simp only [enc84] at hK ⊢
    have hu84 := Try.underlying84
    gi_wp2
    exact hK _ _ ((KeepsOthers.alloc _ _).from _) ⟨(Below.refl _ W).alloc hB1.size _, fun k t v _ _ _ hb => hb.alloc _⟩ ⟨⟨v, bO1.alloc _, hrow.alloc _, trivial⟩, hB1.alloc hB1.size _⟩ ⟨W.heap.size, bO1.lt, World.alloc_heap_new W _, rfl⟩
  case body =>
    rintro l pre x a' W hl ⟨r, hr⟩ ⟨⟨v, hv, hrow, _⟩, hB⟩ ⟨Bx, hBx, bX, rfl⟩ hlt
    have hml : pre.length + 1 ≤ maxLen := by unfold maxLen; omega
    have hc := hv.cell
    have cX : W.cell? ⟨Bx, 3, none⟩ = some (.string x.f3) := (blk_cell bX 3).trans rfl
    gi_wp2_with (gi_at_builtin; refine wpListIn_append_own _ rfl _ _ 86 rfl w.heap.size 9 i0 (.string ⟨#[]⟩) 1 16 Try.underlying86 hi hz0 hz1 hz2 rfl (by decide) _ _ _ rfl (hrow.alloc _) ⟨W.heap.size, 0, none⟩ 1 1 [.string x.f3] rfl rfl (cell_one_new _ _ _) (by simp [Value.oneCell']) (by omega) (by omega) (by have := hB.size; simp; omega) ?_; intro v' w1 hown' hgrow _; obtain ⟨g', cap', rfl⟩ := ownsRow_succ hown'; obtain ⟨hv1, hv2, hr2, hk2, hb2⟩ := hv.appended (by decide) hrow hB.size (Nat.le_refl _) hown' hgrow; have hc1 := hv1.cell; have hf1 := hv1.frozen)
    refine ⟨hk2.from _, ⟨hb2, fun k t u ht h1 h2 hb => ?_⟩, ⟨_, hv2, by simpa [strF] using hr2, trivial⟩, hB.trans hb2⟩
    exact ((hb.alloc _).kept hgrow (hb.not_row (by rcases ht with rfl | rfl <;> decide) hrow)).other (by omega) _
  case done =>
    rintro D ys W hD rfl ⟨⟨v, hv, hrow, _⟩, hB⟩ hK
    have hc := hv.cell
    gi_wp2
    refine ⟨by simp, .inl ⟨_, _, rfl, run_takeDeferred hK, ?_⟩⟩
    exact ⟨_, results_tmp rfl _ _ _, v, rfl, ownsRow_putObj hrow _ hK rfl, hB.trans (belowK_b (w := w) (Nat.le_refl _) W D _ _ (by omega) hK rfl rfl)⟩
  case stop =>
    rintro D c pre W _ _ h _
    exact h.elim
theorem field_Texts.calls (A0 : Option Addr) (c0 : Nat) (l0 : List S84) (a1 : Int) (r : List ByteArray) (w : World) (hr0 : Kd.C k84 w A0 l0.length l0) (hc0 : l0.length ≤ c0) (h : field_Texts.f l0 a1 = some r) :
    Calls Try.prog 46 #[.slice A0 l0.length c0, .int .i64 a1] w fun e w' => ∃ v0_ : Value, e = .returned (v0_) ∧ Kd.R Kd.string 9 w' w.heap.size (fun _ => True) v0_ r ∧ Below w.heap.size w w' := by
  unfold field_Texts.f at h
  split at h
  · rename_i hl
    have h := Option.some.inj h
    subst h
    refine callsIn_wide.1 ((texts_in Fence.wide 5 trivial trivial trivial rfl (Nat.le_refl _) A0 c0 l0 a1 w hr0 hl).mono ?_)
    rintro e W' ⟨v, rfl, ho, hb⟩
    refine ⟨v, rfl, ?_, hb⟩
    have hm : (l0.filter (isOf a1 1)).map strF = ((l0.filter (isOf a1 1)).map (·.f3)).map Value.string := by simp [strF]
    rw [hm] at ho
    have hle : (l0.filter (isOf a1 1)).length = ((l0.filter (isOf a1 1)).map (·.f3)).length := by simp
    rw [hle] at ho
    exact Kd.R_of_own ho (fun _ _ => trivial)
  · cases h
end Go.Proofs.Ytjaneipklpgnlaa.Q
end

namespace Go.Proofs.Ytjaneipklpgnlaa.Q
open Go.RowKit Go.Proofs.YtjaneipklpgnlaaW.PrintWords Go.Proofs.YtjaneipklpgnlaaW.PrintLast Go.Proofs.YtjaneipklpgnlaaW.PrintMore Go.Proofs.YtjaneipklpgnlaaK
attribute [local go_sem] max2_int min2_int max_two min_two max_three min_three max_four min_four   -- for this text's walks alone
attribute [local go_sem ↓] Go.Proofs.YtjaneipklpgnlaaK.isSome_setCell
set_option linter.unusedVariables false
set_option linter.unusedSimpArgs false

/-! ### talk_reader_num: function 34 -/
def talk_reader_num.f (l0 : List (S84)) (a1 : Int) : Option (Int) := (field_Num.f l0 a1).bind fun bt354 => (some bt354.1)
set_option maxHeartbeats 8000000 in
set_option maxRecDepth 100000 in
theorem talk_reader_num.calls (A0 : Option Addr) (c0 : Nat) (l0 : List (S84)) (a1 : Int) (r : Int) (w : World) (hr0 : Kd.C k84 w A0 l0.length l0) (hc0 : l0.length ≤ c0) (h : talk_reader_num.f l0 a1 = some r) :
    Calls Try.prog 34 #[.slice A0 l0.length c0, .int .i64 a1] w fun e w' => e = .returned (.int .i64 r) ∧ Below w.heap.size w w' := by
  have HR0 := Aside0.mk hr0
  have HC0 := Aside0.mk hc0
  clear hr0 hc0
  have HB := Aside0.mk (Below.refl w.heap.size w)
  have H : ((field_Num.f l0 a1).bind fun bt354 => (some bt354.1)) = some r := h
  clear h
  replace H := Option.bind_eq_some_iff.mp H
  obtain ⟨⟨t354, t355⟩, A30, H⟩ := H
  replace H : (some t354) = some r := H
  have A3 := Aside0.mk A30
  clear A30
  obtain rfl := Option.some.inj H
  go_enter Try.func34, Try.ntmps34
  go_wp2_with (first | ((with_reducible refine gate_callee (f := 57) rfl ?_); refine goesL_ (some 10) rfl rfl Try.func57 (by kernel_rfl) rfl #[.slice A0 l0.length c0, .int .i64 a1] rfl (by (try simp only [List.map_toArray, List.map_cons, List.map_nil]); first | done | rfl | (simp only [List.length_drop, List.length_take]; rfl)) ?_; (with_reducible refine (field_Num.calls _ _ l0 a1 t354 t355 _ ?side1 ?side2 A3.out).mono ?_); (case side1 => exact CU HR0.out); (case side2 => exact HC0.out); rintro e w4 ⟨rfl, hb⟩; refine ⟨_, rfl, ?_⟩; have n0_ := Aside0.mk (below_step (belU HB.out) hb); clear HB; have HB := n0_; clear n0_; (try clear hb); (try clear hb2); (try clear hk); (try clear hi)))
  go_ret
  exact ⟨by first | rfl | (simp [errW_none, errW_some] <;> rfl) | (simp [*, errW_none, errW_some] <;> rfl), belU HB.out⟩

end Go.Proofs.Ytjaneipklpgnlaa.Q

namespace Go.Proofs.Ytjaneipklpgnlaa.Q
open Go.RowKit Go.Proofs.YtjaneipklpgnlaaW.PrintWords Go.Proofs.YtjaneipklpgnlaaW.PrintLast Go.Proofs.YtjaneipklpgnlaaW.PrintMore Go.Proofs.YtjaneipklpgnlaaK
attribute [local go_sem] max2_int min2_int max_two min_two max_three min_three max_four min_four   -- for this text's walks alone
attribute [local go_sem ↓] Go.Proofs.YtjaneipklpgnlaaK.isSome_setCell
set_option linter.unusedVariables false
set_option linter.unusedSimpArgs false

/-! ### talk_reader_text: function 35 -/
def talk_reader_text.f (l0 : List (S84)) (a1 : Int) : Option (ByteArray) := (field_Text.f l0 a1).bind fun bt356 => (some bt356.1)
set_option maxHeartbeats 8000000 in
set_option maxRecDepth 100000 in
theorem talk_reader_text.calls (A0 : Option Addr) (c0 : Nat) (l0 : List (S84)) (a1 : Int) (r : ByteArray) (w : World) (hr0 : Kd.C k84 w A0 l0.length l0) (hc0 : l0.length ≤ c0) (h : talk_reader_text.f l0 a1 = some r) :
    Calls Try.prog 35 #[.slice A0 l0.length c0, .int .i64 a1] w fun e w' => e = .returned (.string r) ∧ Below w.heap.size w w' := by
  have HR0 := Aside0.mk hr0
  have HC0 := Aside0.mk hc0
  clear hr0 hc0
  have HB := Aside0.mk (Below.refl w.heap.size w)
  have H : ((field_Text.f l0 a1).bind fun bt356 => (some bt356.1)) = some r := h
  clear h
  replace H := Option.bind_eq_some_iff.mp H
  obtain ⟨⟨t356, t357⟩, A30, H⟩ := H
  replace H : (some t356) = some r := H
  have A3 := Aside0.mk A30
  clear A30
  obtain rfl := Option.some.inj H
  go_enter Try.func35, Try.ntmps35
  go_wp2_with (first | ((with_reducible refine gate_callee (f := 58) rfl ?_); refine goesL_ (some 10) rfl rfl Try.func58 (by kernel_rfl) rfl #[.slice A0 l0.length c0, .int .i64 a1] rfl (by (try simp only [List.map_toArray, List.map_cons, List.map_nil]); first | done | rfl | (simp only [List.length_drop, List.length_take]; rfl)) ?_; (with_reducible refine (field_Text.calls _ _ l0 a1 t356 t357 _ ?side1 ?side2 A3.out).mono ?_); (case side1 => exact CU HR0.out); (case side2 => exact HC0.out); rintro e w4 ⟨rfl, hb⟩; refine ⟨_, rfl, ?_⟩; have n0_ := Aside0.mk (below_step (belU HB.out) hb); clear HB; have HB := n0_; clear n0_; (try clear hb); (try clear hb2); (try clear hk); (try clear hi)))
  go_ret
  exact ⟨by first | rfl | (simp [errW_none, errW_some] <;> rfl) | (simp [*, errW_none, errW_some] <;> rfl), belU HB.out⟩

end Go.Proofs.Ytjaneipklpgnlaa.Q

namespace Go.Proofs.Ytjaneipklpgnlaa.Q
open Go.RowKit Go.Proofs.YtjaneipklpgnlaaW.PrintWords Go.Proofs.YtjaneipklpgnlaaW.PrintLast Go.Proofs.YtjaneipklpgnlaaW.PrintMore Go.Proofs.YtjaneipklpgnlaaK
attribute [local go_sem] max2_int min2_int max_two min_two max_three min_three max_four min_four   -- for this text's walks alone
attribute [local go_sem ↓] Go.Proofs.YtjaneipklpgnlaaK.isSome_setCell
set_option linter.unusedVariables false
set_option linter.unusedSimpArgs false

/-! ### talk_ReadRequest_1: function 33 -/
def talk_ReadRequest_1.f (l0 : List (S84)) : Option (Int × Int × Int × Int × Int × Int × ByteArray × ByteArray) := (talk_reader_num.f l0 1).bind fun t359 => ((talk_reader_num.f l0 2).bind fun t360 => ((talk_reader_num.f l0 3).bind fun t361 => ((talk_reader_num.f l0 4).bind fun t362 => ((talk_reader_num.f l0 5).bind fun t363 => ((talk_reader_num.f l0 6).bind fun t364 => ((talk_reader_text.f l0 7).bind fun t365 => ((talk_reader_text.f l0 8).bind fun t366 => (some (t359, t360, t361, t362, t363, t364, t365, t366)))))))))
set_option maxHeartbeats 8000000 in
set_option maxRecDepth 100000 in
theorem talk_ReadRequest_1.calls (A0 : Option Addr) (c0 : Nat) (l0 : List (S84)) (r1 : Int) (r2 : Int) (r3 : Int) (r4 : Int) (r5 : Int) (r6 : Int) (r7 : ByteArray) (r8 : ByteArray) (w : World) (hr0 : Kd.C k84 w A0 l0.length l0) (hc0 : l0.length ≤ c0) (h : talk_ReadRequest_1.f l0 = some (r1, r2, r3, r4, r5, r6, r7, r8)) :
    Calls Try.prog 33 #[.slice A0 l0.length c0] w fun e w' => e = .returned (.agg #[.int .i64 r1, .int .i64 r2, .int .i64 r3, .int .i64 r4, .int .i64 r5, .int .i64 r6, .string r7, .string r8]) ∧ Below w.heap.size w w' := by
  have hu23 := Try.underlying23
  have HR0 := Aside0.mk hr0
  have HC0 := Aside0.mk hc0
  clear hr0 hc0
  have HB := Aside0.mk (Below.refl w.heap.size w)
  have H : ((talk_reader_num.f l0 1).bind fun t359 => ((talk_reader_num.f l0 2).bind fun t360 => ((talk_reader_num.f l0 3).bind fun t361 => ((talk_reader_num.f l0 4).bind fun t362 => ((talk_reader_num.f l0 5).bind fun t363 => ((talk_reader_num.f l0 6).bind fun t364 => ((talk_reader_text.f l0 7).bind fun t365 => ((talk_reader_text.f l0 8).bind fun t366 => (some (t359, t360, t361, t362, t363, t364, t365, t366)))))))))) = some (r1, r2, r3, r4, r5, r6, r7, r8) := h
  clear h
  replace H := Option.bind_eq_some_iff.mp H
  obtain ⟨t359, A20, H⟩ := H
  replace H : ((talk_reader_num.f l0 2).bind fun t360 => ((talk_reader_num.f l0 3).bind fun t361 => ((talk_reader_num.f l0 4).bind fun t362 => ((talk_reader_num.f l0 5).bind fun t363 => ((talk_reader_num.f l0 6).bind fun t364 => ((talk_reader_text.f l0 7).bind fun t365 => ((talk_reader_text.f l0 8).bind fun t366 => (some (t359, t360, t361, t362, t363, t364, t365, t366))))))))) = some (r1, r2, r3, r4, r5, r6, r7, r8) := H
  have A2 := Aside0.mk A20
  clear A20
  replace H := Option.bind_eq_some_iff.mp H
  obtain ⟨t360, A30, H⟩ := H
  replace H : ((talk_reader_num.f l0 3).bind fun t361 => ((talk_reader_num.f l0 4).bind fun t362 => ((talk_reader_num.f l0 5).bind fun t363 => ((talk_reader_num.f l0 6).bind fun t364 => ((talk_reader_text.f l0 7).bind fun t365 => ((talk_reader_text.f l0 8).bind fun t366 => (some (t359, t360, t361, t362, t363, t364, t365, t366)))))))) = some (r1, r2, r3, r4, r5, r6, r7, r8) := H
  have A3 := Aside0.mk A30
  clear A30
  replace H := Option.bind_eq_some_iff.mp H
  obtain ⟨t361, A40, H⟩ := H
  replace H : ((talk_reader_num.f l0 4).bind fun t362 => ((talk_reader_num.f l0 5).bind fun t363 => ((talk_reader_num.f l0 6).bind fun t364 => ((talk_reader_text.f l0 7).bind fun t365 => ((talk_reader_text.f l0 8).bind fun t366 => (some (t359, t360, t361, t362, t363, t364, t365, t366))))))) = some (r1, r2, r3, r4, r5, r6, r7, r8) := H
  have A4 := Aside0.mk A40
  clear A40
  replace H := Option.bind_eq_some_iff.mp H
  obtain ⟨t362, A50, H⟩ := H
  replace H : ((talk_reader_num.f l0 5).bind fun t363 => ((talk_reader_num.f l0 6).bind fun t364 => ((talk_reader_text.f l0 7).bind fun t365 => ((talk_reader_text.f l0 8).bind fun t366 => (some (t359, t360, t361, t362, t363, t364, t365, t366)))))) = some (r1, r2, r3, r4, r5, r6, r7, r8) := H
  have A5 := Aside0.mk A50
  clear A50
  replace H := Option.bind_eq_some_iff.mp H
  obtain ⟨t363, A60, H⟩ := H
  replace H : ((talk_reader_num.f l0 6).bind fun t364 => ((talk_reader_text.f l0 7).bind fun t365 => ((talk_reader_text.f l0 8).bind fun t366 => (some (t359, t360, t361, t362, t363, t364, t365, t366))))) = some (r1, r2, r3, r4, r5, r6, r7, r8) := H
  have A6 := Aside0.mk A60
  clear A60
  replace H := Option.bind_eq_some_iff.mp H
  obtain ⟨t364, A70, H⟩ := H
  replace H : ((talk_reader_text.f l0 7).bind fun t365 => ((talk_reader_text.f l0 8).bind fun t366 => (some (t359, t360, t361, t362, t363, t364, t365, t366)))) = some (r1, r2, r3, r4, r5, r6, r7, r8) := H
  have A7 := Aside0.mk A70
  clear A70
  replace H := Option.bind_eq_some_iff.mp H
  obtain ⟨t365, A80, H⟩ := H
  replace H : ((talk_reader_text.f l0 8).bind fun t366 => (some (t359, t360, t361, t362, t363, t364, t365, t366))) = some (r1, r2, r3, r4, r5, r6, r7, r8) := H
  have A8 := Aside0.mk A80
  clear A80
  replace H := Option.bind_eq_some_iff.mp H
  obtain ⟨t366, A90, H⟩ := H
  replace H : (some (t359, t360, t361, t362, t363, t364, t365, t366)) = some (r1, r2, r3, r4, r5, r6, r7, r8) := H
  have A9 := Aside0.mk A90
  clear A90
  simp only [Option.some.injEq, Prod.mk.injEq] at H
  obtain ⟨rfl, rfl, rfl, rfl, rfl, rfl, rfl, rfl⟩ := H
  go_enter Try.func33, Try.ntmps33
  go_wp2_with (first | ((with_reducible refine gate_dst (N := 2) rfl ?_); refine box_event ?hg (N := 2) ?hd (cs := #[.int .i64 0, .int .i64 0, .int .i64 0, .int .i64 0, .int .i64 0, .int .i64 0, .string (⟨#[]⟩ : ByteArray), .string (⟨#[]⟩ : ByteArray)]) (t := 23) ?hr ?_; (case hd => rfl); (case hg => rfl); (case hr => first | (go_simp; done) | (go_simp; rfl)); intro gb358 hg w10 hbox hb; have n0_ := Aside0.mk (below_step (belU HB.out) hb); have n1_ := Aside0.mk (hbox); have n2_ := Aside0.mk ((by rw [hg]; exact (sizU HB.out) : w.heap.size ≤ gb358)); have n3_ := Aside0.mk ((by rw [hg]; exact (sizU HB.out) : w.heap.size ≤ gb358)); clear HB; have HB := n0_; have BK358 := n1_; have GW358 := n2_; have GE358 := n3_; clear n0_ n1_ n2_ n3_; clear hb hbox hg) | ((with_reducible refine gate_callee (f := 34) rfl ?_); refine goesL_ (some 4) rfl rfl Try.func34 (by kernel_rfl) rfl #[.slice A0 l0.length c0, .int .i64 1] rfl (by (try simp only [List.map_toArray, List.map_cons, List.map_nil]); first | done | rfl | (simp only [List.length_drop, List.length_take]; rfl)) ?_; (with_reducible refine (talk_reader_num.calls _ _ l0 1 t359 _ ?side1 ?side2 A2.out).mono ?_); (case side1 => exact CU (Kd.C_below HR0.out HB.out)); (case side2 => exact HC0.out); rintro e w11 ⟨rfl, hb⟩; refine ⟨_, rfl, ?_⟩; have n0_ := Aside0.mk (blk_below (blkU BK358.out) hb); have n1_ := Aside0.mk (below_step (belG HB.out GE358.out) hb); clear BK358; clear HB; have BK358 := n0_; have HB := n1_; clear n0_ n1_; (try clear hb); (try clear hb2); (try clear hk); (try clear hi)) | ((with_reducible refine gate_callee (f := 34) rfl ?_); refine goesL_ (some 6) rfl rfl Try.func34 (by kernel_rfl) rfl #[.slice A0 l0.length c0, .int .i64 2] rfl (by (try simp only [List.map_toArray, List.map_cons, List.map_nil]); first | done | rfl | (simp only [List.length_drop, List.length_take]; rfl)) ?_; (with_reducible refine (talk_reader_num.calls _ _ l0 2 t360 _ ?side1 ?side2 A3.out).mono ?_); (case side1 => exact CU (Kd.C_below HR0.out HB.out)); (case side2 => exact HC0.out); rintro e w12 ⟨rfl, hb⟩; refine ⟨_, rfl, ?_⟩; have n0_ := Aside0.mk (blk_below (blkU BK358.out) hb); have n1_ := Aside0.mk (below_step (belG HB.out GE358.out) hb); clear BK358; clear HB; have BK358 := n0_; have HB := n1_; clear n0_ n1_; (try clear hb); (try clear hb2); (try clear hk); (try clear hi)) | ((with_reducible refine gate_callee (f := 34) rfl ?_); refine goesL_ (some 8) rfl rfl Try.func34 (by kernel_rfl) rfl #[.slice A0 l0.length c0, .int .i64 3] rfl (by (try simp only [List.map_toArray, List.map_cons, List.map_nil]); first | done | rfl | (simp only [List.length_drop, List.length_take]; rfl)) ?_; (with_reducible refine (talk_reader_num.calls _ _ l0 3 t361 _ ?side1 ?side2 A4.out).mono ?_); (case side1 => exact CU (Kd.C_below HR0.out HB.out)); (case side2 => exact HC0.out); rintro e w13 ⟨rfl, hb⟩; refine ⟨_, rfl, ?_⟩; have n0_ := Aside0.mk (blk_below (blkU BK358.out) hb); have n1_ := Aside0.mk (below_step (belG HB.out GE358.out) hb); clear BK358; clear HB; have BK358 := n0_; have HB := n1_; clear n0_ n1_; (try clear hb); (try clear hb2); (try clear hk); (try clear hi)) | ((with_reducible refine gate_callee (f := 34) rfl ?_); refine goesL_ (some 10) rfl rfl Try.func34 (by kernel_rfl) rfl #[.slice A0 l0.length c0, .int .i64 4] rfl (by (try simp only [List.map_toArray, List.map_cons, List.map_nil]); first | done | rfl | (simp only [List.length_drop, List.length_take]; rfl)) ?_; (with_reducible refine (talk_reader_num.calls _ _ l0 4 t362 _ ?side1 ?side2 A5.out).mono ?_); (case side1 => exact CU (Kd.C_below HR0.out HB.out)); (case side2 => exact HC0.out); rintro e w14 ⟨rfl, hb⟩; refine ⟨_, rfl, ?_⟩; have n0_ := Aside0.mk (blk_below (blkU BK358.out) hb); have n1_ := Aside0.mk (below_step (belG HB.out GE358.out) hb); clear BK358; clear HB; have BK358 := n0_; have HB := n1_; clear n0_ n1_; (try clear hb); (try clear hb2); (try clear hk); (try clear hi)) | ((with_reducible refine gate_callee (f := 34) rfl ?_); refine goesL_ (some 12) rfl rfl Try.func34 (by kernel_rfl) rfl #[.slice A0 l0.length c0, .int .i64 5] rfl (by (try simp only [List.map_toArray, List.map_cons, List.map_nil]); first | done | rfl | (simp only [List.length_drop, List.length_take]; rfl)) ?_; (with_reducible refine (talk_reader_num.calls _ _ l0 5 t363 _ ?side1 ?side2 A6.out).mono ?_); (case side1 => exact CU (Kd.C_below HR0.out HB.out)); (case side2 => exact HC0.out); rintro e w15 ⟨rfl, hb⟩; refine ⟨_, rfl, ?_⟩; have n0_ := Aside0.mk (blk_below (blkU BK358.out) hb); have n1_ := Aside0.mk (below_step (belG HB.out GE358.out) hb); clear BK358; clear HB; have BK358 := n0_; have HB := n1_; clear n0_ n1_; (try clear hb); (try clear hb2); (try clear hk); (try clear hi)) | ((with_reducible refine gate_callee (f := 34) rfl ?_); refine goesL_ (some 14) rfl rfl Try.func34 (by kernel_rfl) rfl #[.slice A0 l0.length c0, .int .i64 6] rfl (by (try simp only [List.map_toArray, List.map_cons, List.map_nil]); first | done | rfl | (simp only [List.length_drop, List.length_take]; rfl)) ?_; (with_reducible refine (talk_reader_num.calls _ _ l0 6 t364 _ ?side1 ?side2 A7.out).mono ?_); (case side1 => exact CU (Kd.C_below HR0.out HB.out)); (case side2 => exact HC0.out); rintro e w16 ⟨rfl, hb⟩; refine ⟨_, rfl, ?_⟩; have n0_ := Aside0.mk (blk_below (blkU BK358.out) hb); have n1_ := Aside0.mk (below_step (belG HB.out GE358.out) hb); clear BK358; clear HB; have BK358 := n0_; have HB := n1_; clear n0_ n1_; (try clear hb); (try clear hb2); (try clear hk); (try clear hi)) | ((with_reducible refine gate_callee (f := 35) rfl ?_); refine goesL_ (some 16) rfl rfl Try.func35 (by kernel_rfl) rfl #[.slice A0 l0.length c0, .int .i64 7] rfl (by (try simp only [List.map_toArray, List.map_cons, List.map_nil]); first | done | rfl | (simp only [List.length_drop, List.length_take]; rfl)) ?_; (with_reducible refine (talk_reader_text.calls _ _ l0 7 t365 _ ?side1 ?side2 A8.out).mono ?_); (case side1 => exact CU (Kd.C_below HR0.out HB.out)); (case side2 => exact HC0.out); rintro e w17 ⟨rfl, hb⟩; refine ⟨_, rfl, ?_⟩; have n0_ := Aside0.mk (blk_below (blkU BK358.out) hb); have n1_ := Aside0.mk (below_step (belG HB.out GE358.out) hb); clear BK358; clear HB; have BK358 := n0_; have HB := n1_; clear n0_ n1_; (try clear hb); (try clear hb2); (try clear hk); (try clear hi)) | ((with_reducible refine gate_callee (f := 35) rfl ?_); refine goesL_ (some 18) rfl rfl Try.func35 (by kernel_rfl) rfl #[.slice A0 l0.length c0, .int .i64 8] rfl (by (try simp only [List.map_toArray, List.map_cons, List.map_nil]); first | done | rfl | (simp only [List.length_drop, List.length_take]; rfl)) ?_; (with_reducible refine (talk_reader_text.calls _ _ l0 8 t366 _ ?side1 ?side2 A9.out).mono ?_); (case side1 => exact CU (Kd.C_below HR0.out HB.out)); (case side2 => exact HC0.out); rintro e w18 ⟨rfl, hb⟩; refine ⟨_, rfl, ?_⟩; have n0_ := Aside0.mk (blk_below (blkU BK358.out) hb); have n1_ := Aside0.mk (below_step (belG HB.out GE358.out) hb); clear BK358; clear HB; have BK358 := n0_; have HB := n1_; clear n0_ n1_; (try clear hb); (try clear hb2); (try clear hk); (try clear hi); have hcz19_0 : w18.cell? ⟨gb358, 0, none⟩ = some (.int .i64 0) := (blk_cell BK358.out 0).trans rfl; have hcz19_1 : w18.cell? ⟨gb358, 1, none⟩ = some (.int .i64 0) := (blk_cell BK358.out 1).trans rfl; have hcz19_2 : w18.cell? ⟨gb358, 2, none⟩ = some (.int .i64 0) := (blk_cell BK358.out 2).trans rfl; have hcz19_3 : w18.cell? ⟨gb358, 3, none⟩ = some (.int .i64 0) := (blk_cell BK358.out 3).trans rfl; have hcz19_4 : w18.cell? ⟨gb358, 4, none⟩ = some (.int .i64 0) := (blk_cell BK358.out 4).trans rfl; have hcz19_5 : w18.cell? ⟨gb358, 5, none⟩ = some (.int .i64 0) := (blk_cell BK358.out 5).trans rfl; have hcz19_6 : w18.cell? ⟨gb358, 6, none⟩ = some (.string (⟨#[]⟩ : ByteArray)) := (blk_cell BK358.out 6).trans rfl; have hcz19_7 : w18.cell? ⟨gb358, 7, none⟩ = some (.string (⟨#[]⟩ : ByteArray)) := (blk_cell BK358.out 7).trans rfl; have hfz19_0 := blk_frozen BK358.out 0; have hfz19_1 := blk_frozen BK358.out 1; have hfz19_2 := blk_frozen BK358.out 2; have hfz19_3 := blk_frozen BK358.out 3; have hfz19_4 := blk_frozen BK358.out 4; have hfz19_5 := blk_frozen BK358.out 5; have hfz19_6 := blk_frozen BK358.out 6; have hfz19_7 := blk_frozen BK358.out 7))
  refine bodyPost_ret (results_cell_row rfl _ _ gb358 23 #[.int .i64 t359, .int .i64 t360, .int .i64 t361, .int .i64 t362, .int .i64 t363, .int .i64 t364, .string t365, .string t366] (0, 0) _ rfl (blkP BK358.out (by rfl)) Try.underlying23 rfl (by kernel_rfl)) rfl ?_
  exact ⟨by first | rfl | (simp [errW_none, errW_some] <;> rfl) | (simp [*, errW_none, errW_some] <;> rfl), belG HB.out GE358.out⟩

end Go.Proofs.Ytjaneipklpgnlaa.Q

namespace Go.Proofs.Ytjaneipklpgnlaa.Q
open Go Go.RowKit Go.Proofs.YtjaneipklpgnlaaW.PrintWords Go.Proofs.YtjaneipklpgnlaaW.PrintLast Go.Proofs.YtjaneipklpgnlaaW.PrintMore
attribute [local go_sem ↓] Go.Proofs.YtjaneipklpgnlaaK.isSome_setCell
set_option linter.unusedSimpArgs false
set_option linter.unusedVariables false
def getN (L : List S84) (t : Int) : Int := (firstN (L.filter (isOf t 0))).1
def getT (L : List S84) (t : Int) : ByteArray := (firstT (textsOf L t)).1
def reqOf (L : List S84) : S23 := ⟨getN L 1, getN L 2, getN L 3, getN L 4, getN L 5, getN L 6, getT L 7, getT L 8⟩
def req0 : S23 := ⟨0, 0, 0, 0, 0, 0, ⟨#[]⟩, ⟨#[]⟩⟩
def rrS (s : ByteArray) : S23 × Int := if (decS s).2 = 0 then (if (reqS (reqOf (decS s).1)).2 = 0 ∧ (reqS (reqOf (decS s).1)).1.toList = s.toList then (reqOf (decS s).1, 0) else (req0, 5)) else (req0, 5)
def talk_ReadRequest.f (a0 : ByteArray) : Option (Int × Int × Int × Int × Int × Int × ByteArray × ByteArray × Int) := some ((rrS a0).1.f0, (rrS a0).1.f1, (rrS a0).1.f2, (rrS a0).1.f3, (rrS a0).1.f4, (rrS a0).1.f5, (rrS a0).1.f6, (rrS a0).1.f7, (rrS a0).2)
theorem dec_len (s : ByteArray) : (decS s).1.length ≤ 1048576 := by
  rcases decS_total s with h | h
  · obtain ⟨L, e, hd⟩ : ∃ L e, decS s = (L, e) := ⟨_, _, rfl⟩
    rw [hd] at h ⊢
    simp only at h
    subst h
    obtain ⟨_, h2, _⟩ := (decS_iff s L).1 hd
    have := flat_ge L
    show L.length ≤ 1048576
    omega
  · rw [h]
    simp
theorem rnum_fn (L : List S84) (hl : L.length ≤ 1048576) (t : Int) : talk_reader_num.f L t = some (getN L t) := by
  unfold talk_reader_num.f
  rw [num_fn2 L hl t]
  rfl
theorem rtext_fn (L : List S84) (hl : L.length ≤ 1048576) (t : Int) : talk_reader_text.f L t = some (getT L t) := by
  unfold talk_reader_text.f
  rw [text_fn2 L hl t]
  rfl
theorem build_fn (L : List S84) (hl : L.length ≤ 1048576) : talk_ReadRequest_1.f L = some ((reqOf L).f0, (reqOf L).f1, (reqOf L).f2, (reqOf L).f3, (reqOf L).f4, (reqOf L).f5, (reqOf L).f6, (reqOf L).f7) := by
  unfold talk_ReadRequest_1.f
  simp only [rnum_fn L hl, rtext_fn L hl, Option.bind_some]
  rfl
/-- A request as the model has it. -/
def reqV (r : S23) : Value := .agg #[.int .i64 r.f0, .int .i64 r.f1, .int .i64 r.f2, .int .i64 r.f3, .int .i64 r.f4, .int .i64 r.f5, .string r.f6, .string r.f7]
theorem build_any (w : World) (v : Value) (L : List S84) (base : Nat) (hv : Kd.R k84 84 w base (fun _ => True) v L) (hl : L.length ≤ 1048576) :
    Calls Try.prog 33 #[v] w fun e w' => e = .returned (reqV (reqOf L)) ∧ Below w.heap.size w w' := by
  obtain ⟨A3, k3, he3, hk3, hc3⟩ := Kd.R_reads hv
  subst he3
  exact talk_ReadRequest_1.calls A3 k3 L _ _ _ _ _ _ _ _ w hc3 hk3 (build_fn L hl)
def reqA (r : S23) : Array Value := #[.int .i64 r.f0, .int .i64 r.f1, .int .i64 r.f2, .int .i64 r.f3, .int .i64 r.f4, .int .i64 r.f5, .string r.f6, .string r.f7]
abbrev Zc : Array Value := #[.int .i64 0, .int .i64 0, .int .i64 0, .int .i64 0, .int .i64 0, .int .i64 0, .string ⟨#[]⟩, .string ⟨#[]⟩]
abbrev Zr : Obj := .cells Zc 23 (0, 0)
theorem info23 : (Try.prog.info? 23).map (·.size) = some 8 := by kernel_rfl
open Go.Proofs.YtjaneipklpgnlaaK in
set_option maxRecDepth 100000 in
set_option maxHeartbeats 1000000 in
theorem read_no (w : World) (s : ByteArray) (hd : (decS s).2 ≠ 0) :
    Calls Try.prog 32 #[.string s, .func (.func 33) #[] #[], .func (.func 9) #[] #[]] w fun e w' => e = .returned (.tuple #[reqV req0, .int .i64 5]) ∧ Below w.heap.size w w' := by
  have hu23 := Try.underlying23
  have HB0 := Aside0.mk (below_alloc (below_alloc (Below.refl w.heap.size w) Zr) Zr)
  have HX0 := Aside0.mk (blk_alloc (blk_new w Zr) Zr)
  have hy0 := blk_new (w.alloc Zr) Zr
  rw [World.size_alloc] at hy0
  have HY0 := Aside0.mk hy0
  have h5 : decS s = ([], 5) := by rcases decS_total s with h | h; · exact absurd h hd
                                   · exact h
  have hc := fun W => field_Decode.calls s [] 5 W (by rw [dec_fn, h5])
  have HC := Aside0.mk hc
  clear hc h5 hd hy0
  go_enter Try.func32, Try.ntmps32
  go_wp2_with fail
  refine (HC.out _).mono ?_
  rintro e w1 ⟨v, rfl, hv, hb1⟩
  have HB1 := Aside0.mk (below_step HB0.out hb1)
  have HX1 := Aside0.mk (blk_below HX0.out hb1)
  have HY1 := Aside0.mk (blk_below HY0.out hb1)
  obtain ⟨A0, c0, rfl⟩ := Kd.R_slice hv
  clear hv hb1
  go_wp2_with (first
    | (refine box_load rfl 23 (.tmp 8) rfl HY1.out rfl hu23 rfl info23 ?_)
    | (refine box_store rfl rfl 23 (.tmp 6) (.tmp 21) rfl HX1.out #[.int .i64 0, .int .i64 0, .int .i64 0, .int .i64 0, .int .i64 0, .int .i64 0, .string ⟨#[]⟩, .string ⟨#[]⟩] rfl rfl info23 rfl rfl ?_; intro w2 hx2 hg2; have HX2 := Aside0.mk hx2; have HB2 := Aside0.mk (below_box HB1.out hg2 (Nat.le_refl _)); clear hx2 hg2))
  refine bodyPost_ret (results_row_tmp rfl _ _ (.int .i64 5) HX2.out rfl rfl hu23 rfl info23) rfl ?_
  exact ⟨rfl, HB2.out⟩
open Go.Proofs.YtjaneipklpgnlaaK in
set_option maxRecDepth 100000 in
set_option maxHeartbeats 1000000 in
theorem read_yes (w : World) (s : ByteArray) (hd : (decS s).2 = 0) (r : S23) (hr : reqOf (decS s).1 = r) (t : ByteArray) (e2 : Int) (hq : reqS r = (t, e2)) (ok : Bool) (hok : ok = true ↔ e2 = 0 ∧ t.toList = s.toList) :
    Calls Try.prog 32 #[.string s, .func (.func 33) #[] #[], .func (.func 9) #[] #[]] w fun e w' => e = .returned (.tuple #[reqV (if ok then r else req0), .int .i64 (if ok then 0 else 5)]) ∧ Below w.heap.size w w' := by
  have hu23 := Try.underlying23
  have HB0 := Aside0.mk (below_alloc (below_alloc (Below.refl w.heap.size w) Zr) Zr)
  have HX0 := Aside0.mk (blk_alloc (blk_new w Zr) Zr)
  have hy0 := blk_new (w.alloc Zr) Zr
  rw [World.size_alloc] at hy0
  have HY0 := Aside0.mk hy0
  have hl := dec_len s
  obtain ⟨L, e1, hL⟩ : ∃ L e1, decS s = (L, e1) := ⟨_, _, rfl⟩
  rw [hL] at hd hr hl
  simp only at hd hr hl
  subst hd
  have hc := fun W => field_Decode.calls s L 0 W (by rw [dec_fn, hL])
  have HC := Aside0.mk hc
  have hbld := fun (W : World) (v : Value) (base : Nat) (h : Kd.R k84 84 W base (fun _ => True) v L) => build_any W v L base h hl
  rw [hr] at hbld
  have hrq := fun W => req_any W r
  rw [hq] at hrq
  clear hc hy0 hL hl hr hq
  obtain ⟨r0, r1, r2, r3, r4, r5, r6, r7⟩ := r
  have HBL : Aside0 (∀ (W : World) (v : Value) (base : Nat), Kd.R k84 84 W base (fun _ => True) v L → Calls Try.prog 33 #[v] W fun e w' => e = .returned (.agg #[.int .i64 r0, .int .i64 r1, .int .i64 r2, .int .i64 r3, .int .i64 r4, .int .i64 r5, .string r6, .string r7]) ∧ Below W.heap.size W w') := ⟨hbld⟩
  have HRQ : Aside0 (∀ W : World, Calls Try.prog 9 #[.agg #[.int .i64 r0, .int .i64 r1, .int .i64 r2, .int .i64 r3, .int .i64 r4, .int .i64 r5, .string r6, .string r7]] W fun e w' => e = .returned (.tuple #[.string t, .int .i64 e2]) ∧ Below W.heap.size W w') := ⟨hrq⟩
  clear hbld hrq
  have HOK := Aside0.mk hok
  clear hok
  by_cases h2 : e2 = 0
  · subst h2
    by_cases h3 : t.toList = s.toList
    · have hk : ok = true := HOK.out.2 ⟨rfl, h3⟩
      subst hk
      clear HOK
      have h3a : (t.toList == s.toList) = true := beq_iff_eq.mpr h3
      have h3b : (t.toList != s.toList) = false := bne_eq_false_iff_eq.mpr h3
      clear h3
      go_enter Try.func32, Try.ntmps32
      go_wp2_with fail
      refine (HC.out _).mono ?_
      rintro e w1 ⟨v, rfl, hv, hb1⟩
      have HB1 := Aside0.mk (below_step HB0.out hb1)
      have HX1 := Aside0.mk (blk_below HX0.out hb1)
      have HY1 := Aside0.mk (blk_below HY0.out hb1)
      have HV := Aside0.mk hv
      clear hb1 hv
      go_wp2_with fail
      refine (HBL.out _ _ _ HV.out).mono ?_
      rintro e w2 ⟨rfl, hb2⟩
      have HB2 := Aside0.mk (below_alloc (below_step HB1.out hb2) (.cells #[.int .i64 r0, .int .i64 r1, .int .i64 r2, .int .i64 r3, .int .i64 r4, .int .i64 r5, .string r6, .string r7] 23))
      have HX2 := Aside0.mk (blk_alloc (blk_below HX1.out hb2) (.cells #[.int .i64 r0, .int .i64 r1, .int .i64 r2, .int .i64 r3, .int .i64 r4, .int .i64 r5, .string r6, .string r7] 23))
      have HY2 := Aside0.mk (blk_alloc (blk_below HY1.out hb2) (.cells #[.int .i64 r0, .int .i64 r1, .int .i64 r2, .int .i64 r3, .int .i64 r4, .int .i64 r5, .string r6, .string r7] 23))
      have HZ2 := Aside0.mk (blk_new w2 (.cells #[.int .i64 r0, .int .i64 r1, .int .i64 r2, .int .i64 r3, .int .i64 r4, .int .i64 r5, .string r6, .string r7] 23))
      clear hb2 HV
      go_wp2_with fail
      refine (HRQ.out _).mono ?_
      rintro e w3 ⟨rfl, hb3⟩
      have HB3 := Aside0.mk (below_step HB2.out hb3)
      have HX3 := Aside0.mk (blk_below HX2.out hb3)
      have HY3 := Aside0.mk (blk_below HY2.out hb3)
      have HZ3 := Aside0.mk (blk_below HZ2.out hb3)
      clear hb3
      go_wp2_with (first
        | (refine box_load rfl 23 (.tmp 11) rfl HZ3.out rfl hu23 rfl info23 ?_)
        | (refine box_store rfl rfl 23 (.tmp 6) (.tmp 39) rfl HX3.out #[.int .i64 r0, .int .i64 r1, .int .i64 r2, .int .i64 r3, .int .i64 r4, .int .i64 r5, .string r6, .string r7] rfl rfl info23 rfl rfl ?_; intro w4 hx4 hg4; have HX4 := Aside0.mk hx4; have HB4 := Aside0.mk (below_box HB3.out hg4 (Nat.le_refl _)); clear hx4 hg4))
      refine bodyPost_ret (results_row_tmp rfl _ _ (.int .i64 0) HX4.out rfl rfl hu23 rfl info23) rfl ?_
      exact ⟨rfl, HB4.out⟩
    · have hk : ok = false := by cases ok with | false => rfl | true => exact absurd (HOK.out.1 rfl).2 h3
      subst hk
      clear HOK
      have h3a : (t.toList == s.toList) = false := beq_eq_false_iff_ne.mpr h3
      have h3b : (t.toList != s.toList) = true := bne_iff_ne.mpr h3
      clear h3
      go_enter Try.func32, Try.ntmps32
      go_wp2_with fail
      refine (HC.out _).mono ?_
      rintro e w1 ⟨v, rfl, hv, hb1⟩
      have HB1 := Aside0.mk (below_step HB0.out hb1)
      have HX1 := Aside0.mk (blk_below HX0.out hb1)
      have HY1 := Aside0.mk (blk_below HY0.out hb1)
      have HV := Aside0.mk hv
      clear hb1 hv
      go_wp2_with fail
      refine (HBL.out _ _ _ HV.out).mono ?_
      rintro e w2 ⟨rfl, hb2⟩
      have HB2 := Aside0.mk (below_alloc (below_step HB1.out hb2) (.cells #[.int .i64 r0, .int .i64 r1, .int .i64 r2, .int .i64 r3, .int .i64 r4, .int .i64 r5, .string r6, .string r7] 23))
      have HX2 := Aside0.mk (blk_alloc (blk_below HX1.out hb2) (.cells #[.int .i64 r0, .int .i64 r1, .int .i64 r2, .int .i64 r3, .int .i64 r4, .int .i64 r5, .string r6, .string r7] 23))
      have HY2 := Aside0.mk (blk_alloc (blk_below HY1.out hb2) (.cells #[.int .i64 r0, .int .i64 r1, .int .i64 r2, .int .i64 r3, .int .i64 r4, .int .i64 r5, .string r6, .string r7] 23))
      have HZ2 := Aside0.mk (blk_new w2 (.cells #[.int .i64 r0, .int .i64 r1, .int .i64 r2, .int .i64 r3, .int .i64 r4, .int .i64 r5, .string r6, .string r7] 23))
      clear hb2 HV
      go_wp2_with fail
      refine (HRQ.out _).mono ?_
      rintro e w3 ⟨rfl, hb3⟩
      have HB3 := Aside0.mk (below_step HB2.out hb3)
      have HX3 := Aside0.mk (blk_below HX2.out hb3)
      have HY3 := Aside0.mk (blk_below HY2.out hb3)
      have HZ3 := Aside0.mk (blk_below HZ2.out hb3)
      clear hb3
      go_wp2_with (first
        | (refine box_load rfl 23 (.tmp 8) rfl HY3.out rfl hu23 rfl info23 ?_)
        | (refine box_store rfl rfl 23 (.tmp 6) (.tmp 38) rfl HX3.out #[.int .i64 0, .int .i64 0, .int .i64 0, .int .i64 0, .int .i64 0, .int .i64 0, .string ⟨#[]⟩, .string ⟨#[]⟩] rfl rfl info23 rfl rfl ?_; intro w4 hx4 hg4; have HX4 := Aside0.mk hx4; have HB4 := Aside0.mk (below_box HB3.out hg4 (Nat.le_refl _)); clear hx4 hg4))
      refine bodyPost_ret (results_row_tmp rfl _ _ (.int .i64 5) HX4.out rfl rfl hu23 rfl info23) rfl ?_
      exact ⟨rfl, HB4.out⟩
  · have hk : ok = false := by cases ok with | false => rfl | true => exact absurd (HOK.out.1 rfl).1 h2
    subst hk
    clear HOK
    have h2a : (e2 == 0) = false := beq_eq_false_iff_ne.mpr h2
    have h2b : (e2 != 0) = true := bne_iff_ne.mpr h2
    clear h2
    go_enter Try.func32, Try.ntmps32
    go_wp2_with fail
    refine (HC.out _).mono ?_
    rintro e w1 ⟨v, rfl, hv, hb1⟩
    have HB1 := Aside0.mk (below_step HB0.out hb1)
    have HX1 := Aside0.mk (blk_below HX0.out hb1)
    have HY1 := Aside0.mk (blk_below HY0.out hb1)
    have HV := Aside0.mk hv
    clear hb1 hv
    go_wp2_with fail
    refine (HBL.out _ _ _ HV.out).mono ?_
    rintro e w2 ⟨rfl, hb2⟩
    have HB2 := Aside0.mk (below_alloc (below_step HB1.out hb2) (.cells #[.int .i64 r0, .int .i64 r1, .int .i64 r2, .int .i64 r3, .int .i64 r4, .int .i64 r5, .string r6, .string r7] 23))
    have HX2 := Aside0.mk (blk_alloc (blk_below HX1.out hb2) (.cells #[.int .i64 r0, .int .i64 r1, .int .i64 r2, .int .i64 r3, .int .i64 r4, .int .i64 r5, .string r6, .string r7] 23))
    have HY2 := Aside0.mk (blk_alloc (blk_below HY1.out hb2) (.cells #[.int .i64 r0, .int .i64 r1, .int .i64 r2, .int .i64 r3, .int .i64 r4, .int .i64 r5, .string r6, .string r7] 23))
    have HZ2 := Aside0.mk (blk_new w2 (.cells #[.int .i64 r0, .int .i64 r1, .int .i64 r2, .int .i64 r3, .int .i64 r4, .int .i64 r5, .string r6, .string r7] 23))
    clear hb2 HV
    go_wp2_with fail
    refine (HRQ.out _).mono ?_
    rintro e w3 ⟨rfl, hb3⟩
    have HB3 := Aside0.mk (below_step HB2.out hb3)
    have HX3 := Aside0.mk (blk_below HX2.out hb3)
    have HY3 := Aside0.mk (blk_below HY2.out hb3)
    have HZ3 := Aside0.mk (blk_below HZ2.out hb3)
    clear hb3
    go_wp2_with (first
      | (refine box_load rfl 23 (.tmp 8) rfl HY3.out rfl hu23 rfl info23 ?_)
      | (refine box_store rfl rfl 23 (.tmp 6) (.tmp 38) rfl HX3.out #[.int .i64 0, .int .i64 0, .int .i64 0, .int .i64 0, .int .i64 0, .int .i64 0, .string ⟨#[]⟩, .string ⟨#[]⟩] rfl rfl info23 rfl rfl ?_; intro w4 hx4 hg4; have HX4 := Aside0.mk hx4; have HB4 := Aside0.mk (below_box HB3.out hg4 (Nat.le_refl _)); clear hx4 hg4))
    refine bodyPost_ret (results_row_tmp rfl _ _ (.int .i64 5) HX4.out rfl rfl hu23 rfl info23) rfl ?_
    exact ⟨rfl, HB4.out⟩
theorem read_any (w : World) (s : ByteArray) :
    Calls Try.prog 32 #[.string s, .func (.func 33) #[] #[], .func (.func 9) #[] #[]] w fun e w' => e = .returned (.tuple #[reqV (rrS s).1, .int .i64 (rrS s).2]) ∧ Below w.heap.size w w' := by
  by_cases hd : (decS s).2 = 0
  · obtain ⟨t, e2, hq⟩ : ∃ t e2, reqS (reqOf (decS s).1) = (t, e2) := ⟨_, _, rfl⟩
    have H := read_yes w s hd _ rfl t e2 hq (decide (e2 = 0 ∧ t.toList = s.toList)) decide_eq_true_iff
    unfold rrS
    rw [if_pos hd, hq]
    by_cases hk : e2 = 0 ∧ t.toList = s.toList
    · rw [if_pos hk]
      rw [decide_eq_true hk] at H
      exact H
    · rw [if_neg hk]
      rw [decide_eq_false hk] at H
      exact H
  · have H := read_no w s hd
    unfold rrS
    rw [if_neg hd]
    exact H
open Go.Proofs.YtjaneipklpgnlaaK in
theorem talk_ReadRequest.calls (a0 : ByteArray) (r1 r2 r3 r4 r5 r6 : Int) (r7 r8 : ByteArray) (r9 : Int) (w : World) (h : talk_ReadRequest.f a0 = some (r1, r2, r3, r4, r5, r6, r7, r8, r9)) :
    Calls Try.prog 11 #[.string a0] w fun e w' => e = .returned (.tuple #[.agg #[.int .i64 r1, .int .i64 r2, .int .i64 r3, .int .i64 r4, .int .i64 r5, .int .i64 r6, .string r7, .string r8], .int .i64 r9]) ∧ Below w.heap.size w w' := by
  have h := Option.some.inj h
  simp only [Prod.mk.injEq] at h
  obtain ⟨rfl, rfl, rfl, rfl, rfl, rfl, rfl, rfl, rfl⟩ := h
  have hu23 := Try.underlying23
  have HB0 := Aside0.mk (below_alloc (Below.refl w.heap.size w) Zr)
  have HX0 := Aside0.mk (blk_new w Zr)
  have hc := fun W => read_any W a0
  obtain ⟨r, q, hq⟩ : ∃ r q, rrS a0 = (r, q) := ⟨_, _, rfl⟩
  rw [hq] at hc ⊢
  obtain ⟨r0, r1, r2, r3, r4, r5, r6, r7⟩ := r
  have HC : Aside0 (∀ W : World, Calls Try.prog 32 #[.string a0, .func (.func 33) #[] #[], .func (.func 9) #[] #[]] W fun e w' => e = .returned (.tuple #[.agg #[.int .i64 r0, .int .i64 r1, .int .i64 r2, .int .i64 r3, .int .i64 r4, .int .i64 r5, .string r6, .string r7], .int .i64 q]) ∧ Below W.heap.size W w') := ⟨hc⟩
  clear hc hq h
  go_enter Try.func11, Try.ntmps11
  go_wp2_with fail
  refine (HC.out _).mono ?_
  rintro e w1 ⟨rfl, hb1⟩
  have HB1 := Aside0.mk (below_step HB0.out hb1)
  have HX1 := Aside0.mk (blk_below HX0.out hb1)
  clear hb1
  go_wp2_with (refine box_store rfl rfl 23 (.tmp 2) (.tmp 6) rfl HX1.out #[.int .i64 r0, .int .i64 r1, .int .i64 r2, .int .i64 r3, .int .i64 r4, .int .i64 r5, .string r6, .string r7] rfl rfl info23 rfl rfl ?_; intro w4 hx4 hg4; have HX4 := Aside0.mk hx4; have HB4 := Aside0.mk (below_box HB1.out hg4 (Nat.le_refl _)); clear hx4 hg4)
  refine bodyPost_ret (results_row_tmp rfl _ _ (.int .i64 q) HX4.out rfl rfl hu23 rfl info23) rfl ?_
  exact ⟨rfl, HB4.out⟩
end Go.Proofs.Ytjaneipklpgnlaa.Q

namespace Go.Proofs.Ytjaneipklpgnlaa.Q
open Go.RowKit Go.Proofs.YtjaneipklpgnlaaW.PrintWords Go.Proofs.YtjaneipklpgnlaaW.PrintLast Go.Proofs.YtjaneipklpgnlaaW.PrintMore
attribute [local go_sem] max2_int min2_int max_two min_two max_three min_three max_four min_four   -- for this text's walks alone
attribute [local go_sem ↓] Go.Proofs.YtjaneipklpgnlaaK.isSome_setCell
set_option linter.unusedVariables false
set_option linter.unusedSimpArgs false

theorem eqA23 (d : Nat) (w : World) (x0 y0 : Int) (x1 y1 : Int) (x2 y2 : Int) (x3 y3 : Int) (x4 y4 : Int) (x5 y5 : Int) (x6 y6 : ByteArray) (x7 y7 : ByteArray) :
    (Op.equalIn (d + 2) 23 (.agg #[.int .i64 x0, .int .i64 x1, .int .i64 x2, .int .i64 x3, .int .i64 x4, .int .i64 x5, .string x6, .string x7]) (.agg #[.int .i64 y0, .int .i64 y1, .int .i64 y2, .int .i64 y3, .int .i64 y4, .int .i64 y5, .string y6, .string y7])).run Try.prog w = .ok (x0 == y0 && (x1 == y1 && (x2 == y2 && (x3 == y3 && (x4 == y4 && (x5 == y5 && (x6.toList == y6.toList && (x7.toList == y7.toList)))))))) w := by
  refine eqA_of Try.underlying23 (by kernel_rfl) ?_
  refine eqf_cons (by rfl) (by go_simp; rfl) (by go_simp; rfl) (by go_simp) ?_
  refine eqf_cons (by rfl) (by go_simp; rfl) (by go_simp; rfl) (by go_simp) ?_
  refine eqf_cons (by rfl) (by go_simp; rfl) (by go_simp; rfl) (by go_simp) ?_
  refine eqf_cons (by rfl) (by go_simp; rfl) (by go_simp; rfl) (by go_simp) ?_
  refine eqf_cons (by rfl) (by go_simp; rfl) (by go_simp; rfl) (by go_simp) ?_
  refine eqf_cons (by rfl) (by go_simp; rfl) (by go_simp; rfl) (by go_simp) ?_
  refine eqf_cons (by rfl) (by go_simp; rfl) (by go_simp; rfl) (by go_simp) ?_
  exact eqf_last (by rfl) (by go_simp; rfl) (by go_simp; rfl) (by go_simp)
end Go.Proofs.Ytjaneipklpgnlaa.Q

namespace Go.Proofs.Ytjaneipklpgnlaa.Q
open Go.RowKit Go.Proofs.YtjaneipklpgnlaaW.PrintWords Go.Proofs.YtjaneipklpgnlaaW.PrintLast Go.Proofs.YtjaneipklpgnlaaW.PrintMore Go.Proofs.YtjaneipklpgnlaaK
attribute [local go_sem] max2_int min2_int max_two min_two max_three min_three max_four min_four   -- for this text's walks alone
attribute [local go_sem ↓] Go.Proofs.YtjaneipklpgnlaaK.isSome_setCell
set_option linter.unusedVariables false
set_option linter.unusedSimpArgs false

/-! ### aquiferlaw20_few: function 8 -/
def aquiferlaw20_few.f (a0_0 : Int) (a0_1 : Int) (a0_2 : Int) (a0_3 : Int) (a0_4 : Int) (a0_5 : Int) (a0_6 : ByteArray) (a0_7 : ByteArray) : Option (Int × Int × Int × Int × Int × Int × ByteArray × ByteArray) := if 0 ≤ (mn (a0_6.size : Int) 4100) then (if (mn (a0_6.size : Int) 4100) ≤ (a0_6.size : Int) then (if 0 ≤ (mn (a0_7.size : Int) 4100) then (if (mn (a0_7.size : Int) 4100) ≤ (a0_7.size : Int) then (some (a0_0, a0_1, a0_2, a0_3, a0_4, a0_5, a0_6.extract 0 ((mn (a0_6.size : Int) 4100) : Int).toNat, a0_7.extract 0 ((mn (a0_7.size : Int) 4100) : Int).toNat)) else (none)) else (none)) else (none)) else (none)
def aquiferlaw20_few.T1 : Bool × List (List Nat × List Nat) := (true, [([], []), ([0], [0]), ([], []), ([2], [2]), ([3], [3]), ([4], [4]), ([1, 5], [1, 5]), ([], []), ([7], [7]), ([], []), ([9], [9]), ([10], [10]), ([11], [11]), ([8, 12], [8, 12]), ([0, 1, 2, 3, 4, 5, 6, 7, 8, 9, 10], []), ([14, 6, 0, 1, 2, 3, 4, 5, 6, 7, 8, 9, 10], [6, 14]), ([0, 1, 2, 3, 4, 5, 6, 7, 8, 9, 10, 11, 12, 13, 14, 15], []), ([16, 13, 15, 0, 1, 2, 3, 4, 5, 6, 7, 8, 9, 10, 11, 12, 13, 14, 15], [13, 16])])
def aquiferlaw20_few.B1 : List Nat := [0, 1, 0, 4, 12, 28, 63, 0, 128, 0, 512, 1536, 3584, 8064, 2047, 18431, 65535, 131071]
theorem aquiferlaw20_few.tab1 : rtab .any (opsOf Try.f8 1) = aquiferlaw20_few.T1 := by kernel_rfl
theorem aquiferlaw20_few.bits1 : waitsOk aquiferlaw20_few.T1.2 aquiferlaw20_few.B1 = true := by kernel_rfl
set_option maxHeartbeats 8000000 in
set_option maxRecDepth 100000 in
theorem aquiferlaw20_few.calls (a0_0 : Int) (a0_1 : Int) (a0_2 : Int) (a0_3 : Int) (a0_4 : Int) (a0_5 : Int) (a0_6 : ByteArray) (a0_7 : ByteArray) (r1 : Int) (r2 : Int) (r3 : Int) (r4 : Int) (r5 : Int) (r6 : Int) (r7 : ByteArray) (r8 : ByteArray) (w : World) (h : aquiferlaw20_few.f a0_0 a0_1 a0_2 a0_3 a0_4 a0_5 a0_6 a0_7 = some (r1, r2, r3, r4, r5, r6, r7, r8)) :
    Calls Try.prog 8 #[.agg #[.int .i64 a0_0, .int .i64 a0_1, .int .i64 a0_2, .int .i64 a0_3, .int .i64 a0_4, .int .i64 a0_5, .string a0_6, .string a0_7]] w fun e w' => e = .returned (.agg #[.int .i64 r1, .int .i64 r2, .int .i64 r3, .int .i64 r4, .int .i64 r5, .int .i64 r6, .string r7, .string r8]) ∧ Below w.heap.size w w' := by
  have hu23 := Try.underlying23
  have HB := Aside0.mk (Below.refl w.heap.size w)
  have H : (if 0 ≤ (mn (a0_6.size : Int) 4100) then (if (mn (a0_6.size : Int) 4100) ≤ (a0_6.size : Int) then (if 0 ≤ (mn (a0_7.size : Int) 4100) then (if (mn (a0_7.size : Int) 4100) ≤ (a0_7.size : Int) then (some (a0_0, a0_1, a0_2, a0_3, a0_4, a0_5, a0_6.extract 0 ((mn (a0_6.size : Int) 4100) : Int).toNat, a0_7.extract 0 ((mn (a0_7.size : Int) 4100) : Int).toNat)) else (none)) else (none)) else (none)) else (none)) = some (r1, r2, r3, r4, r5, r6, r7, r8) := h
  clear h
  obtain ⟨ji2, hji2⟩ : ∃ j_ : Int, (mn (a0_6.size : Int) 4100) = j_ := ⟨_, rfl⟩
  replace H : (if 0 ≤ (ji2) then (if (ji2) ≤ (a0_6.size : Int) then (if 0 ≤ (mn (a0_7.size : Int) 4100) then (if (mn (a0_7.size : Int) 4100) ≤ (a0_7.size : Int) then (some (a0_0, a0_1, a0_2, a0_3, a0_4, a0_5, a0_6.extract 0 ((ji2) : Int).toNat, a0_7.extract 0 ((mn (a0_7.size : Int) 4100) : Int).toNat)) else (none)) else (none)) else (none)) else (none)) = some (r1, r2, r3, r4, r5, r6, r7, r8) := by first | (rw [hji2] at H; exact H) | (simp only [hji2] at H ⊢; exact H)
  (try (have hji2h : ji2 ≤ 4100 := by (rw [← hji2]; unfold mn; (repeat' split) <;> omega)))
  (try (have hji2g : ji2 ≤ 64 := by omega))
  (try (have hji2l : 0 ≤ ji2 := by (rw [← hji2]; unfold mn; (repeat' split) <;> omega)))
  (try (have hji2m : 0 ≤ ji2 := by omega))
  have hji2_ : (if 4100 < (a0_6.size : Int) then 4100 else (a0_6.size : Int)) = ji2 := hji2
  by_cases c3 : 0 ≤ (ji2)
  · rw [if_pos c3] at H
    have c3b0 := eq_true c3
    have c3b1 : decide (0 ≤ (ji2)) = true := decide_eq_true c3
    clear c3
    by_cases c4 : (ji2) ≤ (a0_6.size : Int)
    · rw [if_pos c4] at H
      have c4b0 := eq_true c4
      have c4b1 : decide ((ji2) ≤ (a0_6.size : Int)) = true := decide_eq_true c4
      clear c4
      obtain ⟨ji5, hji5⟩ : ∃ j_ : Int, (mn (a0_7.size : Int) 4100) = j_ := ⟨_, rfl⟩
      replace H : (if 0 ≤ (ji5) then (if (ji5) ≤ (a0_7.size : Int) then (some (a0_0, a0_1, a0_2, a0_3, a0_4, a0_5, a0_6.extract 0 ((ji2) : Int).toNat, a0_7.extract 0 ((ji5) : Int).toNat)) else (none)) else (none)) = some (r1, r2, r3, r4, r5, r6, r7, r8) := by first | (rw [hji5] at H; exact H) | (simp only [hji5] at H ⊢; exact H)
      (try (have hji5h : ji5 ≤ 4100 := by (rw [← hji5]; unfold mn; (repeat' split) <;> omega)))
      (try (have hji5g : ji5 ≤ 64 := by omega))
      (try (have hji5l : 0 ≤ ji5 := by (rw [← hji5]; unfold mn; (repeat' split) <;> omega)))
      (try (have hji5m : 0 ≤ ji5 := by omega))
      have hji5_ : (if 4100 < (a0_7.size : Int) then 4100 else (a0_7.size : Int)) = ji5 := hji5
      by_cases c6 : 0 ≤ (ji5)
      · rw [if_pos c6] at H
        have c6b0 := eq_true c6
        have c6b1 : decide (0 ≤ (ji5)) = true := decide_eq_true c6
        clear c6
        by_cases c7 : (ji5) ≤ (a0_7.size : Int)
        · rw [if_pos c7] at H
          have c7b0 := eq_true c7
          have c7b1 : decide ((ji5) ≤ (a0_7.size : Int)) = true := decide_eq_true c7
          clear c7
          simp only [Option.some.injEq, Prod.mk.injEq] at H
          obtain ⟨rfl, rfl, rfl, rfl, rfl, rfl, rfl, rfl⟩ := H
          go_enter Try.func8, Try.ntmps8
          try go_wp2_with (first | ((with_reducible refine gate_dst (N := 1) rfl ?_); refine box_event ?hg (N := 1) ?hd (cs := #[.int .i64 a0_0, .int .i64 a0_1, .int .i64 a0_2, .int .i64 a0_3, .int .i64 a0_4, .int .i64 a0_5, .string a0_6, .string a0_7]) (t := 23) ?hr ?_; (case hd => rfl); (case hg => rfl); (case hr => first | (go_simp; done) | (go_simp; rfl)); intro gb101 hg w8 hbox hb; have n0_ := Aside0.mk (below_step (belU HB.out) hb); have n1_ := Aside0.mk (hbox); have n2_ := Aside0.mk ((by rw [hg]; exact (sizU HB.out) : w.heap.size ≤ gb101)); have n3_ := Aside0.mk ((by rw [hg]; exact (sizU HB.out) : w.heap.size ≤ gb101)); clear HB; have HB := n0_; have BK101 := n1_; have GW101 := n2_; have GE101 := n3_; clear n0_ n1_ n2_ n3_; clear hb hbox hg) | ((with_reducible refine gate_dst (N := 2) rfl ?_); refine box_event ?hg (N := 2) ?hd (cs := #[.int .i64 0, .int .i64 0, .int .i64 0, .int .i64 0, .int .i64 0, .int .i64 0, .string (⟨#[]⟩ : ByteArray), .string (⟨#[]⟩ : ByteArray)]) (t := 23) ?hr ?_; (case hd => rfl); (case hg => rfl); (case hr => first | (go_simp; done) | (go_simp; rfl)); intro gb102 hg w9 hbox hb; have n0_ := Aside0.mk (blk_below (blkU BK101.out) hb); have n1_ := Aside0.mk (below_step (belG HB.out GE101.out) hb); have n2_ := Aside0.mk (hbox); have n3_ := Aside0.mk ((by rw [hg]; exact (sizG HB.out GE101.out) : w.heap.size ≤ gb102)); have n4_ := Aside0.mk ((by rw [hg]; exact (sizG HB.out GE101.out) : w.heap.size ≤ gb102)); have n5_ := Aside0.mk ((by rw [hg]; exact Nat.ne_of_lt (blk_lt (g := gb101) (o := .cells #[.int .i64 a0_0, .int .i64 a0_1, .int .i64 a0_2, .int .i64 a0_3, .int .i64 a0_4, .int .i64 a0_5, .string a0_6, .string a0_7] 23 (0, 0)) (blkU BK101.out)) : gb101 ≠ gb102)); have n6_ := Aside0.mk ((by rw [hg]; exact Nat.ne_of_gt (blk_lt (g := gb101) (o := .cells #[.int .i64 a0_0, .int .i64 a0_1, .int .i64 a0_2, .int .i64 a0_3, .int .i64 a0_4, .int .i64 a0_5, .string a0_6, .string a0_7] 23 (0, 0)) (blkU BK101.out)) : gb102 ≠ gb101)); clear BK101; clear HB; have BK101 := n0_; have HB := n1_; have BK102 := n2_; have GW102 := n3_; have GE102 := n4_; have NB101_102 := n5_; have NB102_101 := n6_; clear n0_ n1_ n2_ n3_ n4_ n5_ n6_; clear hb hbox hg))
          have n0_ := Aside0.mk (blk_drew BK101.out)
          have n1_ := Aside0.mk (blk_drew BK102.out)
          have n2_ := Aside0.mk (below_drew1 HB.out)
          clear BK101
          clear BK102
          clear HB
          have BK101 := n0_
          have BK102 := n1_
          have HB := n2_
          clear n0_ n1_ n2_
          refine start_ (n := 18) (S := fun w' => w'.cell? ⟨gb101, 0, none⟩ = some (.int .i64 a0_0) ∧ w'.cell? ⟨gb101, 1, none⟩ = some (.int .i64 a0_1) ∧ w'.cell? ⟨gb101, 2, none⟩ = some (.int .i64 a0_2) ∧ w'.cell? ⟨gb101, 3, none⟩ = some (.int .i64 a0_3) ∧ w'.cell? ⟨gb101, 4, none⟩ = some (.int .i64 a0_4) ∧ w'.cell? ⟨gb101, 5, none⟩ = some (.int .i64 a0_5) ∧ w'.cell? ⟨gb101, 6, none⟩ = some (.string a0_6) ∧ w'.cell? ⟨gb101, 7, none⟩ = some (.string a0_7)) (ds := [15, 17]) #[false, false, false, false, false, false, false, false, false, false, false, false, false, false, false, false, false, false] (by kernel_rfl) rfl rfl ⟨(blk_cell BK101.out 0).trans rfl, (blk_cell BK101.out 1).trans rfl, (blk_cell BK101.out 2).trans rfl, (blk_cell BK101.out 3).trans rfl, (blk_cell BK101.out 4).trans rfl, (blk_cell BK101.out 5).trans rfl, (blk_cell BK101.out 6).trans rfl, (blk_cell BK101.out 7).trans rfl⟩ (fun hHeld => ?_); refine with_tabW aquiferlaw20_few.tab1 aquiferlaw20_few.bits1 (fun HT_ HW_ => ?_)
          generalize w9.drew = w10 at BK101 BK102 HB hHeld ⊢
          refine pure_ (i := 0) (N := some 3) (v := ?_) (a' := ?_) #[true, false, false, false, false, false, false, false, false, false, false, false, false, false, false, false, false, false] rfl rfl (any_of HT_.out (by kernel_rfl)) (fun _ _ _ h => h) (Or.inl ⟨by rfl, ?_⟩) ?_ ?_
          rotate_left
          · intro w'
            go_simp
            with_reducible rfl
          rotate_left
          · simp only [Act.put, List.setIfInBounds_toArray, List.set_cons_zero, List.set_cons_succ, i64_w, i32_w]
            rfl
          refine pure_ (i := 2) (N := some 5) (v := ?_) (a' := ?_) #[true, false, true, false, false, false, false, false, false, false, false, false, false, false, false, false, false, false] rfl rfl (any_of HT_.out (by kernel_rfl)) (fun _ _ _ h => h) (Or.inl ⟨by rfl, ?_⟩) ?_ ?_
          rotate_left
          · intro w'
            go_simp
            with_reducible rfl
          rotate_left
          · simp only [Act.put, List.setIfInBounds_toArray, List.set_cons_zero, List.set_cons_succ, i64_w, i32_w]
            rfl
          refine pure_ (i := 7) (N := some 10) (v := ?_) (a' := ?_) #[true, false, true, false, false, false, false, true, false, false, false, false, false, false, false, false, false, false] rfl rfl (any_of HT_.out (by kernel_rfl)) (fun _ _ _ h => h) (Or.inl ⟨by rfl, ?_⟩) ?_ ?_
          rotate_left
          · intro w'
            go_simp
            with_reducible rfl
          rotate_left
          · simp only [Act.put, List.setIfInBounds_toArray, List.set_cons_zero, List.set_cons_succ, i64_w, i32_w]
            rfl
          refine pure_ (i := 9) (N := some 12) (v := ?_) (a' := ?_) #[true, false, true, false, false, false, false, true, false, true, false, false, false, false, false, false, false, false] rfl rfl (any_of HT_.out (by kernel_rfl)) (fun _ _ _ h => h) (Or.inl ⟨by rfl, ?_⟩) ?_ ?_
          rotate_left
          · intro w'
            go_simp
            with_reducible rfl
          rotate_left
          · simp only [Act.put, List.setIfInBounds_toArray, List.set_cons_zero, List.set_cons_succ, i64_w, i32_w]
            rfl
          refine take_ (i := 1) (N := some 4) (v := ?_) (a' := ?_) #[true, true, true, false, false, false, false, true, false, true, false, false, false, false, false, false, false, false] rfl rfl (take_ofW HT_.out HW_.out (by kernel_rfl)) (fun _ _ _ h => h) (Or.inl ⟨by rfl, ?_⟩) hHeld ?_ ?_
          rotate_left
          · rintro w' ⟨s0, s1, s2, s3, s4, s5, s6, s7⟩
            go_simp
            with_reducible rfl
          rotate_left
          · simp only [Act.put, List.setIfInBounds_toArray, List.set_cons_zero, List.set_cons_succ, i64_w, i32_w]
            rfl
          refine take_ (i := 3) (N := some 6) (v := ?_) (a' := ?_) #[true, true, true, true, false, false, false, true, false, true, false, false, false, false, false, false, false, false] rfl rfl (take_ofW HT_.out HW_.out (by kernel_rfl)) (fun _ _ _ h => h) (Or.inl ⟨by rfl, ?_⟩) hHeld ?_ ?_
          rotate_left
          · rintro w' ⟨s0, s1, s2, s3, s4, s5, s6, s7⟩
            go_simp
            with_reducible rfl
          rotate_left
          · simp only [Act.put, List.setIfInBounds_toArray, List.set_cons_zero, List.set_cons_succ, i64_w, i32_w]
            rfl
          refine pure_ (i := 4) (N := some 7) (v := ?_) (a' := ?_) #[true, true, true, true, true, false, false, true, false, true, false, false, false, false, false, false, false, false] rfl rfl (any_of HT_.out (by kernel_rfl)) (fun _ _ _ h => h) (Or.inl ⟨by rfl, ?_⟩) ?_ ?_
          rotate_left
          · intro w'
            go_simp
            with_reducible rfl
          rotate_left
          · simp only [Act.put, List.setIfInBounds_toArray, List.set_cons_zero, List.set_cons_succ, i64_w, i32_w]
            rfl
          refine pure_ (i := 5) (N := some 8) (v := ?_) (a' := ?_) #[true, true, true, true, true, true, false, true, false, true, false, false, false, false, false, false, false, false] rfl rfl (any_of HT_.out (by kernel_rfl)) (fun _ _ _ h => h) (Or.inl ⟨by rfl, ?_⟩) ?_ ?_
          rotate_left
          · intro w'
            go_simp
            with_reducible rfl
          rotate_left
          · simp only [Act.put, List.setIfInBounds_toArray, List.set_cons_zero, List.set_cons_succ, i64_w, i32_w]
            rfl
          refine pure_ (i := 6) (N := some 9) (v := ?_) (a' := ?_) #[true, true, true, true, true, true, true, true, false, true, false, false, false, false, false, false, false, false] rfl rfl (any_of HT_.out (by kernel_rfl)) (fun _ _ _ h => h) (Or.inl ⟨by rfl, ?_⟩) ?_ ?_
          rotate_left
          · intro w'
            go_simp
            with_reducible rfl
          rotate_left
          · simp only [Act.put, List.setIfInBounds_toArray, List.set_cons_zero, List.set_cons_succ, i64_w, i32_w]
            rfl
          refine take_ (i := 8) (N := some 11) (v := ?_) (a' := ?_) #[true, true, true, true, true, true, true, true, true, true, false, false, false, false, false, false, false, false] rfl rfl (take_ofW HT_.out HW_.out (by kernel_rfl)) (fun _ _ _ h => h) (Or.inl ⟨by rfl, ?_⟩) hHeld ?_ ?_
          rotate_left
          · rintro w' ⟨s0, s1, s2, s3, s4, s5, s6, s7⟩
            go_simp
            with_reducible rfl
          rotate_left
          · simp only [Act.put, List.setIfInBounds_toArray, List.set_cons_zero, List.set_cons_succ, i64_w, i32_w]
            rfl
          refine take_ (i := 10) (N := some 13) (v := ?_) (a' := ?_) #[true, true, true, true, true, true, true, true, true, true, true, false, false, false, false, false, false, false] rfl rfl (take_ofW HT_.out HW_.out (by kernel_rfl)) (fun _ _ _ h => h) (Or.inl ⟨by rfl, ?_⟩) hHeld ?_ ?_
          rotate_left
          · rintro w' ⟨s0, s1, s2, s3, s4, s5, s6, s7⟩
            go_simp
            with_reducible rfl
          rotate_left
          · simp only [Act.put, List.setIfInBounds_toArray, List.set_cons_zero, List.set_cons_succ, i64_w, i32_w]
            rfl
          refine pure_ (i := 11) (N := some 14) (v := ?_) (a' := ?_) #[true, true, true, true, true, true, true, true, true, true, true, true, false, false, false, false, false, false] rfl rfl (any_of HT_.out (by kernel_rfl)) (fun _ _ _ h => h) (Or.inl ⟨by rfl, ?_⟩) ?_ ?_
          rotate_left
          · intro w'
            go_simp
            with_reducible rfl
          rotate_left
          · simp only [Act.put, List.setIfInBounds_toArray, List.set_cons_zero, List.set_cons_succ, i64_w, i32_w]
            rfl
          refine pure_ (i := 12) (N := some 15) (v := ?_) (a' := ?_) #[true, true, true, true, true, true, true, true, true, true, true, true, true, false, false, false, false, false] rfl rfl (any_of HT_.out (by kernel_rfl)) (fun _ _ _ h => h) (Or.inl ⟨by rfl, ?_⟩) ?_ ?_
          rotate_left
          · intro w'
            go_simp
            with_reducible rfl
          rotate_left
          · simp only [Act.put, List.setIfInBounds_toArray, List.set_cons_zero, List.set_cons_succ, i64_w, i32_w]
            rfl
          refine pure_ (i := 13) (N := some 16) (v := ?_) (a' := ?_) #[true, true, true, true, true, true, true, true, true, true, true, true, true, true, false, false, false, false] rfl rfl (any_of HT_.out (by kernel_rfl)) (fun _ _ _ h => h) (Or.inl ⟨by rfl, ?_⟩) ?_ ?_
          rotate_left
          · intro w'
            go_simp
            with_reducible rfl
          rotate_left
          · simp only [Act.put, List.setIfInBounds_toArray, List.set_cons_zero, List.set_cons_succ, i64_w, i32_w]
            rfl
          refine pure_ (i := 14) (N := some 17) (v := ?_) (a' := ?_) #[true, true, true, true, true, true, true, true, true, true, true, true, true, true, true, false, false, false] rfl rfl (any_of HT_.out (by kernel_rfl)) (fun _ _ _ h => h) (Or.inl ⟨by rfl, ?_⟩) ?_ ?_
          rotate_left
          · intro w'
            go_simp
            with_reducible rfl
          rotate_left
          · simp only [Act.put, List.setIfInBounds_toArray, List.set_cons_zero, List.set_cons_succ, i64_w, i32_w]
            rfl
          refine last_ (i := 15) (N := none) #[true, true, true, true, true, true, true, true, true, true, true, true, true, true, true, true, false, false] rfl rfl (one_of HT_.out (by kernel_rfl)) (by decide) (fun K hK => ?_)
          have hs11 : w10.cell? ⟨gb101, 6, none⟩ = some (.string a0_6) := (blk_cell BK101.out 6).trans rfl
          have hfs11 := blk_frozen BK101.out 6
          have hns11_1 := NB102_101.out
          have hms11_1 := NB101_102.out
          refine skip_ (w1 := ?_) (by rfl) rfl ?_ ?_
          rotate_left
          · go_simp
            rfl
          refine hK.out _ _ ?_
          clear hK K
          refine pure_ (i := 16) (N := some 18) (v := ?_) (a' := ?_) #[true, true, true, true, true, true, true, true, true, true, true, true, true, true, true, true, true, false] rfl rfl (any_of HT_.out (by kernel_rfl)) (fun _ _ _ h => h) (Or.inl ⟨by rfl, ?_⟩) ?_ ?_
          rotate_left
          · intro w'
            go_simp
            with_reducible rfl
          rotate_left
          · simp only [Act.put, List.setIfInBounds_toArray, List.set_cons_zero, List.set_cons_succ, i64_w, i32_w]
            rfl
          refine last_ (i := 17) (N := none) #[true, true, true, true, true, true, true, true, true, true, true, true, true, true, true, true, true, true] rfl rfl (one_of HT_.out (by kernel_rfl)) (by decide) (fun K hK => ?_)
          have hs12 : w10.cell? ⟨gb101, 7, none⟩ = some (.string a0_7) := (blk_cell BK101.out 7).trans rfl
          have hfs12 := blk_frozen BK101.out 7
          have hns12_1 := NB102_101.out
          have hms12_1 := NB101_102.out
          refine skip_ (w1 := ?_) (by rfl) rfl ?_ ?_
          rotate_left
          · go_simp
            rfl
          refine hK.out _ _ ?_
          clear hK K
          refine done_ (done_of HT_.out (by kernel_rfl)) ?_
          have hnb13 := NB101_102.out
          have hnc13 := NB102_101.out
          have hcz14_0 : w10.cell? ⟨gb101, 0, none⟩ = some (.int .i64 a0_0) := (blk_cell BK101.out 0).trans rfl
          have hcz14_1 : w10.cell? ⟨gb101, 1, none⟩ = some (.int .i64 a0_1) := (blk_cell BK101.out 1).trans rfl
          have hcz14_2 : w10.cell? ⟨gb101, 2, none⟩ = some (.int .i64 a0_2) := (blk_cell BK101.out 2).trans rfl
          have hcz14_3 : w10.cell? ⟨gb101, 3, none⟩ = some (.int .i64 a0_3) := (blk_cell BK101.out 3).trans rfl
          have hcz14_4 : w10.cell? ⟨gb101, 4, none⟩ = some (.int .i64 a0_4) := (blk_cell BK101.out 4).trans rfl
          have hcz14_5 : w10.cell? ⟨gb101, 5, none⟩ = some (.int .i64 a0_5) := (blk_cell BK101.out 5).trans rfl
          have hcz14_6 : w10.cell? ⟨gb101, 6, none⟩ = some (.string a0_6) := (blk_cell BK101.out 6).trans rfl
          have hcz14_7 : w10.cell? ⟨gb101, 7, none⟩ = some (.string a0_7) := (blk_cell BK101.out 7).trans rfl
          have hfz14_0 := blk_frozen BK101.out 0
          have hfz14_1 := blk_frozen BK101.out 1
          have hfz14_2 := blk_frozen BK101.out 2
          have hfz14_3 := blk_frozen BK101.out 3
          have hfz14_4 := blk_frozen BK101.out 4
          have hfz14_5 := blk_frozen BK101.out 5
          have hfz14_6 := blk_frozen BK101.out 6
          have hfz14_7 := blk_frozen BK101.out 7
          have hcz15_0 : w10.cell? ⟨gb102, 0, none⟩ = some (.int .i64 0) := (blk_cell BK102.out 0).trans rfl
          have hcz15_1 : w10.cell? ⟨gb102, 1, none⟩ = some (.int .i64 0) := (blk_cell BK102.out 1).trans rfl
          have hcz15_2 : w10.cell? ⟨gb102, 2, none⟩ = some (.int .i64 0) := (blk_cell BK102.out 2).trans rfl
          have hcz15_3 : w10.cell? ⟨gb102, 3, none⟩ = some (.int .i64 0) := (blk_cell BK102.out 3).trans rfl
          have hcz15_4 : w10.cell? ⟨gb102, 4, none⟩ = some (.int .i64 0) := (blk_cell BK102.out 4).trans rfl
          have hcz15_5 : w10.cell? ⟨gb102, 5, none⟩ = some (.int .i64 0) := (blk_cell BK102.out 5).trans rfl
          have hcz15_6 : w10.cell? ⟨gb102, 6, none⟩ = some (.string (⟨#[]⟩ : ByteArray)) := (blk_cell BK102.out 6).trans rfl
          have hcz15_7 : w10.cell? ⟨gb102, 7, none⟩ = some (.string (⟨#[]⟩ : ByteArray)) := (blk_cell BK102.out 7).trans rfl
          have hfz15_0 := blk_frozen BK102.out 0
          have hfz15_1 := blk_frozen BK102.out 1
          have hfz15_2 := blk_frozen BK102.out 2
          have hfz15_3 := blk_frozen BK102.out 3
          have hfz15_4 := blk_frozen BK102.out 4
          have hfz15_5 := blk_frozen BK102.out 5
          have hfz15_6 := blk_frozen BK102.out 6
          have hfz15_7 := blk_frozen BK102.out 7
          try go_wp2
          refine bodyPost_ret (results_cell_row rfl _ _ gb102 23 #[.int .i64 a0_0, .int .i64 a0_1, .int .i64 a0_2, .int .i64 a0_3, .int .i64 a0_4, .int .i64 a0_5, .string (a0_6.extract 0 ((ji2) : Int).toNat), .string (a0_7.extract 0 ((ji5) : Int).toNat)] (0, 0) _ rfl (by (with_reducible repeat (first | refine blk_drewN ?_ _ | refine blk_drew ?_ | refine blk_alloc ?_ _)); refine blk_put (cs := #[.int .i64 a0_0, .int .i64 a0_1, .int .i64 a0_2, .int .i64 a0_3, .int .i64 a0_4, .int .i64 a0_5, .string (a0_6.extract 0 ((ji2) : Int).toNat), .string (⟨#[]⟩ : ByteArray)]) ?_ 7 _ rfl; (with_reducible repeat (first | refine blk_drewN ?_ _ | refine blk_drew ?_ | refine blk_alloc ?_ _)); refine blk_put (cs := #[.int .i64 a0_0, .int .i64 a0_1, .int .i64 a0_2, .int .i64 a0_3, .int .i64 a0_4, .int .i64 a0_5, .string (⟨#[]⟩ : ByteArray), .string (⟨#[]⟩ : ByteArray)]) ?_ 6 _ rfl; (with_reducible repeat (first | refine blk_drewN ?_ _ | refine blk_drew ?_ | refine blk_alloc ?_ _)); refine blk_put (cs := #[.int .i64 a0_0, .int .i64 a0_1, .int .i64 a0_2, .int .i64 a0_3, .int .i64 a0_4, .int .i64 0, .string (⟨#[]⟩ : ByteArray), .string (⟨#[]⟩ : ByteArray)]) ?_ 5 _ rfl; (with_reducible repeat (first | refine blk_drewN ?_ _ | refine blk_drew ?_ | refine blk_alloc ?_ _)); refine blk_put (cs := #[.int .i64 a0_0, .int .i64 a0_1, .int .i64 a0_2, .int .i64 a0_3, .int .i64 0, .int .i64 0, .string (⟨#[]⟩ : ByteArray), .string (⟨#[]⟩ : ByteArray)]) ?_ 4 _ rfl; (with_reducible repeat (first | refine blk_drewN ?_ _ | refine blk_drew ?_ | refine blk_alloc ?_ _)); refine blk_put (cs := #[.int .i64 a0_0, .int .i64 a0_1, .int .i64 a0_2, .int .i64 0, .int .i64 0, .int .i64 0, .string (⟨#[]⟩ : ByteArray), .string (⟨#[]⟩ : ByteArray)]) ?_ 3 _ rfl; (with_reducible repeat (first | refine blk_drewN ?_ _ | refine blk_drew ?_ | refine blk_alloc ?_ _)); refine blk_put (cs := #[.int .i64 a0_0, .int .i64 a0_1, .int .i64 0, .int .i64 0, .int .i64 0, .int .i64 0, .string (⟨#[]⟩ : ByteArray), .string (⟨#[]⟩ : ByteArray)]) ?_ 2 _ rfl; (with_reducible repeat (first | refine blk_drewN ?_ _ | refine blk_drew ?_ | refine blk_alloc ?_ _)); refine blk_put (cs := #[.int .i64 a0_0, .int .i64 0, .int .i64 0, .int .i64 0, .int .i64 0, .int .i64 0, .string (⟨#[]⟩ : ByteArray), .string (⟨#[]⟩ : ByteArray)]) ?_ 1 _ rfl; (with_reducible repeat (first | refine blk_drewN ?_ _ | refine blk_drew ?_ | refine blk_alloc ?_ _)); refine blk_put (cs := #[.int .i64 0, .int .i64 0, .int .i64 0, .int .i64 0, .int .i64 0, .int .i64 0, .string (⟨#[]⟩ : ByteArray), .string (⟨#[]⟩ : ByteArray)]) ?_ 0 _ rfl; (with_reducible repeat (first | refine blk_drewN ?_ _ | refine blk_drew ?_ | refine blk_alloc ?_ _)); refine blk_far ?_ NB102_101.out _; (with_reducible repeat (first | refine blk_drewN ?_ _ | refine blk_drew ?_ | refine blk_alloc ?_ _)); refine blk_far ?_ NB102_101.out _; (with_reducible repeat (first | refine blk_drewN ?_ _ | refine blk_drew ?_ | refine blk_alloc ?_ _)); exact BK102.out) Try.underlying23 rfl (by kernel_rfl)) rfl ?_
          exact ⟨by first | rfl | (simp [errW_none, errW_some] <;> rfl) | (simp only [← hji2, ← hji5]; first | rfl | (simp [errW_none, errW_some] <;> rfl)) | (simp [*, errW_none, errW_some] <;> rfl), belG2 HB.out GE101.out GE102.out⟩
        · rw [if_neg c7] at H
          exact absurd H (by simp)
      · rw [if_neg c6] at H
        exact absurd H (by simp)
    · rw [if_neg c4] at H
      exact absurd H (by simp)
  · rw [if_neg c3] at H
    exact absurd H (by simp)

end Go.Proofs.Ytjaneipklpgnlaa.Q

namespace Go.Proofs.Ytjaneipklpgnlaa.Q
open Go.RowKit Go.Proofs.YtjaneipklpgnlaaW.PrintWords Go.Proofs.YtjaneipklpgnlaaW.PrintLast Go.Proofs.YtjaneipklpgnlaaW.PrintMore
attribute [local go_sem] max2_int min2_int max_two min_two max_three min_three max_four min_four   -- for this text's walks alone
attribute [local go_sem ↓] Go.Proofs.YtjaneipklpgnlaaK.isSome_setCell
set_option linter.unusedVariables false
set_option linter.unusedSimpArgs false

/-! ### aquiferref20_num: function 42 -/
def aquiferref20_num.f (a0 : Int) : Option (Bool) := if a0 ≥ 0 then (some (decide (a0 ≤ 4611686018427387904))) else (some false)
set_option maxHeartbeats 8000000 in
set_option maxRecDepth 100000 in
theorem aquiferref20_num.calls (a0 : Int) (r : Bool) (w : World) (h : aquiferref20_num.f a0 = some r) :
    Calls Try.prog 42 #[.int .i64 a0] w fun e w' => e = .returned (.bool r) ∧ Drawn0 w w' := by
  have H : (if a0 ≥ 0 then (some (decide (a0 ≤ 4611686018427387904))) else (some false)) = some r := h
  clear h
  by_cases c2 : a0 ≥ 0
  · rw [if_pos c2] at H
    have c2b0 : decide (0 ≤ a0) = true := decide_eq_true c2
    clear c2
    obtain rfl := Option.some.inj H
    go_enter Try.func42, Try.ntmps42
    go_wp2
    go_ret
    exact ⟨by first | rfl | (simp; done) | (simp [*]; done), by repeat (first | exact Drawn0.refl _ | apply Drawn0.step)⟩
  · rw [if_neg c2] at H
    have c2b0 : decide (0 ≤ a0) = false := decide_eq_false c2
    clear c2
    obtain rfl := Option.some.inj H
    go_enter Try.func42, Try.ntmps42
    go_wp2
    go_ret
    exact ⟨by first | rfl | (simp; done) | (simp [*]; done), by repeat (first | exact Drawn0.refl _ | apply Drawn0.step)⟩

end Go.Proofs.Ytjaneipklpgnlaa.Q

namespace Go.Proofs.Ytjaneipklpgnlaa.Q
open Go.RowKit Go.Proofs.YtjaneipklpgnlaaW.PrintWords Go.Proofs.YtjaneipklpgnlaaW.PrintLast Go.Proofs.YtjaneipklpgnlaaW.PrintMore Go.Proofs.YtjaneipklpgnlaaK
attribute [local go_sem] max2_int min2_int max_two min_two max_three min_three max_four min_four   -- for this text's walks alone
attribute [local go_sem ↓] Go.Proofs.YtjaneipklpgnlaaK.isSome_setCell
set_option linter.unusedVariables false
set_option linter.unusedSimpArgs false

/-! ### aquiferref20_CheckRequest: function 14 -/
def aquiferref20_CheckRequest.f (a0_0 : Int) (a0_1 : Int) (a0_2 : Int) (a0_3 : Int) (a0_4 : Int) (a0_5 : Int) (a0_6 : ByteArray) (a0_7 : ByteArray) : Option (Int) := if a0_0 < 1 then (some 2) else (if a0_0 > 8 then (some 2) else ((aquiferref20_num.f a0_1).bind fun t139 => (if t139 = true then ((aquiferref20_num.f a0_2).bind fun t140 => (if t140 = true then ((aquiferref20_num.f a0_3).bind fun t141 => (if t141 = true then ((aquiferref20_num.f a0_4).bind fun t142 => (if t142 = true then ((aquiferref20_num.f a0_5).bind fun t143 => (if t143 = true then (if (a0_6.size : Int) > 4096 then (some 2) else (if (a0_7.size : Int) > 4096 then (some 2) else (some 0))) else (some 2))) else (some 2))) else (some 2))) else (some 2))) else (some 2))))
set_option maxHeartbeats 8000000 in
set_option maxRecDepth 100000 in
theorem aquiferref20_CheckRequest.calls (a0_0 : Int) (a0_1 : Int) (a0_2 : Int) (a0_3 : Int) (a0_4 : Int) (a0_5 : Int) (a0_6 : ByteArray) (a0_7 : ByteArray) (r : Int) (w : World) (h : aquiferref20_CheckRequest.f a0_0 a0_1 a0_2 a0_3 a0_4 a0_5 a0_6 a0_7 = some r) :
    Calls Try.prog 14 #[.agg #[.int .i64 a0_0, .int .i64 a0_1, .int .i64 a0_2, .int .i64 a0_3, .int .i64 a0_4, .int .i64 a0_5, .string a0_6, .string a0_7]] w fun e w' => e = .returned (.int .i64 r) ∧ Below w.heap.size w w' := by
  have hu23 := Try.underlying23
  have HB := Aside0.mk (Below.refl w.heap.size w)
  have H : (if a0_0 < 1 then (some 2) else (if a0_0 > 8 then (some 2) else ((aquiferref20_num.f a0_1).bind fun t139 => (if t139 = true then ((aquiferref20_num.f a0_2).bind fun t140 => (if t140 = true then ((aquiferref20_num.f a0_3).bind fun t141 => (if t141 = true then ((aquiferref20_num.f a0_4).bind fun t142 => (if t142 = true then ((aquiferref20_num.f a0_5).bind fun t143 => (if t143 = true then (if (a0_6.size : Int) > 4096 then (some 2) else (if (a0_7.size : Int) > 4096 then (some 2) else (some 0))) else (some 2))) else (some 2))) else (some 2))) else (some 2))) else (some 2))))) = some r := h
  clear h
  by_cases c2 : a0_0 < 1
  · rw [if_pos c2] at H
    have c2b0 : decide (a0_0 < 1) = true := decide_eq_true c2
    clear c2
    obtain rfl := Option.some.inj H
    go_enter Try.func14, Try.ntmps14
    go_wp2_with (first | ((with_reducible refine gate_dst (N := 1) rfl ?_); (try (refine gate_guard (by rfl) ?_; dsimp only)); refine box_event ?hg (N := 1) ?hd (cs := #[.int .i64 a0_0, .int .i64 a0_1, .int .i64 a0_2, .int .i64 a0_3, .int .i64 a0_4, .int .i64 a0_5, .string a0_6, .string a0_7]) (t := 23) ?hr ?_; (case hd => rfl); (case hg => rfl); (case hr => first | (go_simp; done) | (go_simp; rfl)); intro gb138 hg w3 hbox hb; have n0_ := Aside0.mk (below_step (belU HB.out) hb); have n1_ := Aside0.mk (hbox); have n2_ := Aside0.mk ((by rw [hg]; exact (sizU HB.out) : w.heap.size ≤ gb138)); have n3_ := Aside0.mk ((by rw [hg]; exact (sizU HB.out) : w.heap.size ≤ gb138)); clear HB; have HB := n0_; have BK138 := n1_; have GW138 := n2_; have GE138 := n3_; clear n0_ n1_ n2_ n3_; clear hb hbox hg; have hcz4_0 : w3.cell? ⟨gb138, 0, none⟩ = some (.int .i64 a0_0) := (blk_cell BK138.out 0).trans rfl; have hcz4_1 : w3.cell? ⟨gb138, 1, none⟩ = some (.int .i64 a0_1) := (blk_cell BK138.out 1).trans rfl; have hcz4_2 : w3.cell? ⟨gb138, 2, none⟩ = some (.int .i64 a0_2) := (blk_cell BK138.out 2).trans rfl; have hcz4_3 : w3.cell? ⟨gb138, 3, none⟩ = some (.int .i64 a0_3) := (blk_cell BK138.out 3).trans rfl; have hcz4_4 : w3.cell? ⟨gb138, 4, none⟩ = some (.int .i64 a0_4) := (blk_cell BK138.out 4).trans rfl; have hcz4_5 : w3.cell? ⟨gb138, 5, none⟩ = some (.int .i64 a0_5) := (blk_cell BK138.out 5).trans rfl; have hcz4_6 : w3.cell? ⟨gb138, 6, none⟩ = some (.string a0_6) := (blk_cell BK138.out 6).trans rfl; have hcz4_7 : w3.cell? ⟨gb138, 7, none⟩ = some (.string a0_7) := (blk_cell BK138.out 7).trans rfl; have hfz4_0 := blk_frozen BK138.out 0; have hfz4_1 := blk_frozen BK138.out 1; have hfz4_2 := blk_frozen BK138.out 2; have hfz4_3 := blk_frozen BK138.out 3; have hfz4_4 := blk_frozen BK138.out 4; have hfz4_5 := blk_frozen BK138.out 5; have hfz4_6 := blk_frozen BK138.out 6; have hfz4_7 := blk_frozen BK138.out 7))
    go_ret
    exact ⟨by first | rfl | (simp [errW_none, errW_some] <;> rfl) | (simp [*, errW_none, errW_some] <;> rfl), belG HB.out GE138.out⟩
  · rw [if_neg c2] at H
    have c2b0 : decide (a0_0 < 1) = false := decide_eq_false c2
    clear c2
    by_cases c5 : a0_0 > 8
    · rw [if_pos c5] at H
      have c5b0 : decide (8 < a0_0) = true := decide_eq_true c5
      clear c5
      obtain rfl := Option.some.inj H
      go_enter Try.func14, Try.ntmps14
      go_wp2_with (first | ((with_reducible refine gate_dst (N := 1) rfl ?_); (try (refine gate_guard (by rfl) ?_; dsimp only)); refine box_event ?hg (N := 1) ?hd (cs := #[.int .i64 a0_0, .int .i64 a0_1, .int .i64 a0_2, .int .i64 a0_3, .int .i64 a0_4, .int .i64 a0_5, .string a0_6, .string a0_7]) (t := 23) ?hr ?_; (case hd => rfl); (case hg => rfl); (case hr => first | (go_simp; done) | (go_simp; rfl)); intro gb138 hg w6 hbox hb; have n0_ := Aside0.mk (below_step (belU HB.out) hb); have n1_ := Aside0.mk (hbox); have n2_ := Aside0.mk ((by rw [hg]; exact (sizU HB.out) : w.heap.size ≤ gb138)); have n3_ := Aside0.mk ((by rw [hg]; exact (sizU HB.out) : w.heap.size ≤ gb138)); clear HB; have HB := n0_; have BK138 := n1_; have GW138 := n2_; have GE138 := n3_; clear n0_ n1_ n2_ n3_; clear hb hbox hg; have hcz7_0 : w6.cell? ⟨gb138, 0, none⟩ = some (.int .i64 a0_0) := (blk_cell BK138.out 0).trans rfl; have hcz7_1 : w6.cell? ⟨gb138, 1, none⟩ = some (.int .i64 a0_1) := (blk_cell BK138.out 1).trans rfl; have hcz7_2 : w6.cell? ⟨gb138, 2, none⟩ = some (.int .i64 a0_2) := (blk_cell BK138.out 2).trans rfl; have hcz7_3 : w6.cell? ⟨gb138, 3, none⟩ = some (.int .i64 a0_3) := (blk_cell BK138.out 3).trans rfl; have hcz7_4 : w6.cell? ⟨gb138, 4, none⟩ = some (.int .i64 a0_4) := (blk_cell BK138.out 4).trans rfl; have hcz7_5 : w6.cell? ⟨gb138, 5, none⟩ = some (.int .i64 a0_5) := (blk_cell BK138.out 5).trans rfl; have hcz7_6 : w6.cell? ⟨gb138, 6, none⟩ = some (.string a0_6) := (blk_cell BK138.out 6).trans rfl; have hcz7_7 : w6.cell? ⟨gb138, 7, none⟩ = some (.string a0_7) := (blk_cell BK138.out 7).trans rfl; have hfz7_0 := blk_frozen BK138.out 0; have hfz7_1 := blk_frozen BK138.out 1; have hfz7_2 := blk_frozen BK138.out 2; have hfz7_3 := blk_frozen BK138.out 3; have hfz7_4 := blk_frozen BK138.out 4; have hfz7_5 := blk_frozen BK138.out 5; have hfz7_6 := blk_frozen BK138.out 6; have hfz7_7 := blk_frozen BK138.out 7))
      go_ret
      exact ⟨by first | rfl | (simp [errW_none, errW_some] <;> rfl) | (simp [*, errW_none, errW_some] <;> rfl), belG HB.out GE138.out⟩
    · rw [if_neg c5] at H
      have c5b0 : decide (8 < a0_0) = false := decide_eq_false c5
      clear c5
      replace H := Option.bind_eq_some_iff.mp H
      obtain ⟨t139, A80, H⟩ := H
      replace H : (if t139 = true then ((aquiferref20_num.f a0_2).bind fun t140 => (if t140 = true then ((aquiferref20_num.f a0_3).bind fun t141 => (if t141 = true then ((aquiferref20_num.f a0_4).bind fun t142 => (if t142 = true then ((aquiferref20_num.f a0_5).bind fun t143 => (if t143 = true then (if (a0_6.size : Int) > 4096 then (some 2) else (if (a0_7.size : Int) > 4096 then (some 2) else (some 0))) else (some 2))) else (some 2))) else (some 2))) else (some 2))) else (some 2)) = some r := H
      have A8 := Aside0.mk A80
      clear A80
      by_cases c9 : t139 = true
      · subst c9
        have H1 : ((aquiferref20_num.f a0_2).bind fun t140 => (if t140 = true then ((aquiferref20_num.f a0_3).bind fun t141 => (if t141 = true then ((aquiferref20_num.f a0_4).bind fun t142 => (if t142 = true then ((aquiferref20_num.f a0_5).bind fun t143 => (if t143 = true then (if (a0_6.size : Int) > 4096 then (some 2) else (if (a0_7.size : Int) > 4096 then (some 2) else (some 0))) else (some 2))) else (some 2))) else (some 2))) else (some 2))) = some r := by rw [if_pos rfl] at H; exact H
        clear H
        have H := H1
        clear H1
        replace H := Option.bind_eq_some_iff.mp H
        obtain ⟨t140, A100, H⟩ := H
        replace H : (if t140 = true then ((aquiferref20_num.f a0_3).bind fun t141 => (if t141 = true then ((aquiferref20_num.f a0_4).bind fun t142 => (if t142 = true then ((aquiferref20_num.f a0_5).bind fun t143 => (if t143 = true then (if (a0_6.size : Int) > 4096 then (some 2) else (if (a0_7.size : Int) > 4096 then (some 2) else (some 0))) else (some 2))) else (some 2))) else (some 2))) else (some 2)) = some r := H
        have A10 := Aside0.mk A100
        clear A100
        by_cases c11 : t140 = true
        · subst c11
          have H1 : ((aquiferref20_num.f a0_3).bind fun t141 => (if t141 = true then ((aquiferref20_num.f a0_4).bind fun t142 => (if t142 = true then ((aquiferref20_num.f a0_5).bind fun t143 => (if t143 = true then (if (a0_6.size : Int) > 4096 then (some 2) else (if (a0_7.size : Int) > 4096 then (some 2) else (some 0))) else (some 2))) else (some 2))) else (some 2))) = some r := by rw [if_pos rfl] at H; exact H
          clear H
          have H := H1
          clear H1
          replace H := Option.bind_eq_some_iff.mp H
          obtain ⟨t141, A120, H⟩ := H
          replace H : (if t141 = true then ((aquiferref20_num.f a0_4).bind fun t142 => (if t142 = true then ((aquiferref20_num.f a0_5).bind fun t143 => (if t143 = true then (if (a0_6.size : Int) > 4096 then (some 2) else (if (a0_7.size : Int) > 4096 then (some 2) else (some 0))) else (some 2))) else (some 2))) else (some 2)) = some r := H
          have A12 := Aside0.mk A120
          clear A120
          by_cases c13 : t141 = true
          · subst c13
            have H1 : ((aquiferref20_num.f a0_4).bind fun t142 => (if t142 = true then ((aquiferref20_num.f a0_5).bind fun t143 => (if t143 = true then (if (a0_6.size : Int) > 4096 then (some 2) else (if (a0_7.size : Int) > 4096 then (some 2) else (some 0))) else (some 2))) else (some 2))) = some r := by rw [if_pos rfl] at H; exact H
            clear H
            have H := H1
            clear H1
            replace H := Option.bind_eq_some_iff.mp H
            obtain ⟨t142, A140, H⟩ := H
            replace H : (if t142 = true then ((aquiferref20_num.f a0_5).bind fun t143 => (if t143 = true then (if (a0_6.size : Int) > 4096 then (some 2) else (if (a0_7.size : Int) > 4096 then (some 2) else (some 0))) else (some 2))) else (some 2)) = some r := H
            have A14 := Aside0.mk A140
            clear A140
            by_cases c15 : t142 = true
            · subst c15
              have H1 : ((aquiferref20_num.f a0_5).bind fun t143 => (if t143 = true then (if (a0_6.size : Int) > 4096 then (some 2) else (if (a0_7.size : Int) > 4096 then (some 2) else (some 0))) else (some 2))) = some r := by rw [if_pos rfl] at H; exact H
              clear H
              have H := H1
              clear H1
              replace H := Option.bind_eq_some_iff.mp H
              obtain ⟨t143, A160, H⟩ := H
              replace H : (if t143 = true then (if (a0_6.size : Int) > 4096 then (some 2) else (if (a0_7.size : Int) > 4096 then (some 2) else (some 0))) else (some 2)) = some r := H
              have A16 := Aside0.mk A160
              clear A160
              by_cases c17 : t143 = true
              · subst c17
                have H1 : (if (a0_6.size : Int) > 4096 then (some 2) else (if (a0_7.size : Int) > 4096 then (some 2) else (some 0))) = some r := by rw [if_pos rfl] at H; exact H
                clear H
                have H := H1
                clear H1
                by_cases c18 : (a0_6.size : Int) > 4096
                · rw [if_pos c18] at H
                  have c18b0 : decide (4096 < (a0_6.size : Int)) = true := decide_eq_true c18
                  have c18b1 : decide (4096 < a0_6.size) = true := decide_eq_true (by omega)
                  clear c18
                  obtain rfl := Option.some.inj H
                  go_enter Try.func14, Try.ntmps14
                  go_wp2_with (first | ((with_reducible refine gate_dst (N := 1) rfl ?_); (try (refine gate_guard (by rfl) ?_; dsimp only)); refine box_event ?hg (N := 1) ?hd (cs := #[.int .i64 a0_0, .int .i64 a0_1, .int .i64 a0_2, .int .i64 a0_3, .int .i64 a0_4, .int .i64 a0_5, .string a0_6, .string a0_7]) (t := 23) ?hr ?_; (case hd => rfl); (case hg => rfl); (case hr => first | (go_simp; done) | (go_simp; rfl)); intro gb138 hg w19 hbox hb; have n0_ := Aside0.mk (below_step (belU HB.out) hb); have n1_ := Aside0.mk (hbox); have n2_ := Aside0.mk ((by rw [hg]; exact (sizU HB.out) : w.heap.size ≤ gb138)); have n3_ := Aside0.mk ((by rw [hg]; exact (sizU HB.out) : w.heap.size ≤ gb138)); clear HB; have HB := n0_; have BK138 := n1_; have GW138 := n2_; have GE138 := n3_; clear n0_ n1_ n2_ n3_; clear hb hbox hg; have hcz20_0 : w19.cell? ⟨gb138, 0, none⟩ = some (.int .i64 a0_0) := (blk_cell BK138.out 0).trans rfl; have hcz20_1 : w19.cell? ⟨gb138, 1, none⟩ = some (.int .i64 a0_1) := (blk_cell BK138.out 1).trans rfl; have hcz20_2 : w19.cell? ⟨gb138, 2, none⟩ = some (.int .i64 a0_2) := (blk_cell BK138.out 2).trans rfl; have hcz20_3 : w19.cell? ⟨gb138, 3, none⟩ = some (.int .i64 a0_3) := (blk_cell BK138.out 3).trans rfl; have hcz20_4 : w19.cell? ⟨gb138, 4, none⟩ = some (.int .i64 a0_4) := (blk_cell BK138.out 4).trans rfl; have hcz20_5 : w19.cell? ⟨gb138, 5, none⟩ = some (.int .i64 a0_5) := (blk_cell BK138.out 5).trans rfl; have hcz20_6 : w19.cell? ⟨gb138, 6, none⟩ = some (.string a0_6) := (blk_cell BK138.out 6).trans rfl; have hcz20_7 : w19.cell? ⟨gb138, 7, none⟩ = some (.string a0_7) := (blk_cell BK138.out 7).trans rfl; have hfz20_0 := blk_frozen BK138.out 0; have hfz20_1 := blk_frozen BK138.out 1; have hfz20_2 := blk_frozen BK138.out 2; have hfz20_3 := blk_frozen BK138.out 3; have hfz20_4 := blk_frozen BK138.out 4; have hfz20_5 := blk_frozen BK138.out 5; have hfz20_6 := blk_frozen BK138.out 6; have hfz20_7 := blk_frozen BK138.out 7) | (go_at_call 42; (with_reducible refine (aquiferref20_num.calls a0_1 true _ A8.out).mono ?_); rintro e w' ⟨rfl, ⟨nd, rfl⟩⟩) | (go_at_call 42; (with_reducible refine (aquiferref20_num.calls a0_2 true _ A10.out).mono ?_); rintro e w' ⟨rfl, ⟨nd, rfl⟩⟩) | (go_at_call 42; (with_reducible refine (aquiferref20_num.calls a0_3 true _ A12.out).mono ?_); rintro e w' ⟨rfl, ⟨nd, rfl⟩⟩) | (go_at_call 42; (with_reducible refine (aquiferref20_num.calls a0_4 true _ A14.out).mono ?_); rintro e w' ⟨rfl, ⟨nd, rfl⟩⟩) | (go_at_call 42; (with_reducible refine (aquiferref20_num.calls a0_5 true _ A16.out).mono ?_); rintro e w' ⟨rfl, ⟨nd, rfl⟩⟩))
                  go_ret
                  exact ⟨by first | rfl | (simp [errW_none, errW_some] <;> rfl) | (simp [*, errW_none, errW_some] <;> rfl), belG HB.out GE138.out⟩
                · rw [if_neg c18] at H
                  have c18b0 : decide (4096 < (a0_6.size : Int)) = false := decide_eq_false c18
                  have c18b1 : decide (4096 < a0_6.size) = false := decide_eq_false (by omega)
                  clear c18
                  by_cases c21 : (a0_7.size : Int) > 4096
                  · rw [if_pos c21] at H
                    have c21b0 : decide (4096 < (a0_7.size : Int)) = true := decide_eq_true c21
                    have c21b1 : decide (4096 < a0_7.size) = true := decide_eq_true (by omega)
                    clear c21
                    obtain rfl := Option.some.inj H
                    go_enter Try.func14, Try.ntmps14
                    go_wp2_with (first | ((with_reducible refine gate_dst (N := 1) rfl ?_); (try (refine gate_guard (by rfl) ?_; dsimp only)); refine box_event ?hg (N := 1) ?hd (cs := #[.int .i64 a0_0, .int .i64 a0_1, .int .i64 a0_2, .int .i64 a0_3, .int .i64 a0_4, .int .i64 a0_5, .string a0_6, .string a0_7]) (t := 23) ?hr ?_; (case hd => rfl); (case hg => rfl); (case hr => first | (go_simp; done) | (go_simp; rfl)); intro gb138 hg w22 hbox hb; have n0_ := Aside0.mk (below_step (belU HB.out) hb); have n1_ := Aside0.mk (hbox); have n2_ := Aside0.mk ((by rw [hg]; exact (sizU HB.out) : w.heap.size ≤ gb138)); have n3_ := Aside0.mk ((by rw [hg]; exact (sizU HB.out) : w.heap.size ≤ gb138)); clear HB; have HB := n0_; have BK138 := n1_; have GW138 := n2_; have GE138 := n3_; clear n0_ n1_ n2_ n3_; clear hb hbox hg; have hcz23_0 : w22.cell? ⟨gb138, 0, none⟩ = some (.int .i64 a0_0) := (blk_cell BK138.out 0).trans rfl; have hcz23_1 : w22.cell? ⟨gb138, 1, none⟩ = some (.int .i64 a0_1) := (blk_cell BK138.out 1).trans rfl; have hcz23_2 : w22.cell? ⟨gb138, 2, none⟩ = some (.int .i64 a0_2) := (blk_cell BK138.out 2).trans rfl; have hcz23_3 : w22.cell? ⟨gb138, 3, none⟩ = some (.int .i64 a0_3) := (blk_cell BK138.out 3).trans rfl; have hcz23_4 : w22.cell? ⟨gb138, 4, none⟩ = some (.int .i64 a0_4) := (blk_cell BK138.out 4).trans rfl; have hcz23_5 : w22.cell? ⟨gb138, 5, none⟩ = some (.int .i64 a0_5) := (blk_cell BK138.out 5).trans rfl; have hcz23_6 : w22.cell? ⟨gb138, 6, none⟩ = some (.string a0_6) := (blk_cell BK138.out 6).trans rfl; have hcz23_7 : w22.cell? ⟨gb138, 7, none⟩ = some (.string a0_7) := (blk_cell BK138.out 7).trans rfl; have hfz23_0 := blk_frozen BK138.out 0; have hfz23_1 := blk_frozen BK138.out 1; have hfz23_2 := blk_frozen BK138.out 2; have hfz23_3 := blk_frozen BK138.out 3; have hfz23_4 := blk_frozen BK138.out 4; have hfz23_5 := blk_frozen BK138.out 5; have hfz23_6 := blk_frozen BK138.out 6; have hfz23_7 := blk_frozen BK138.out 7) | (go_at_call 42; (with_reducible refine (aquiferref20_num.calls a0_1 true _ A8.out).mono ?_); rintro e w' ⟨rfl, ⟨nd, rfl⟩⟩) | (go_at_call 42; (with_reducible refine (aquiferref20_num.calls a0_2 true _ A10.out).mono ?_); rintro e w' ⟨rfl, ⟨nd, rfl⟩⟩) | (go_at_call 42; (with_reducible refine (aquiferref20_num.calls a0_3 true _ A12.out).mono ?_); rintro e w' ⟨rfl, ⟨nd, rfl⟩⟩) | (go_at_call 42; (with_reducible refine (aquiferref20_num.calls a0_4 true _ A14.out).mono ?_); rintro e w' ⟨rfl, ⟨nd, rfl⟩⟩) | (go_at_call 42; (with_reducible refine (aquiferref20_num.calls a0_5 true _ A16.out).mono ?_); rintro e w' ⟨rfl, ⟨nd, rfl⟩⟩))
                    go_ret
                    exact ⟨by first | rfl | (simp [errW_none, errW_some] <;> rfl) | (simp [*, errW_none, errW_some] <;> rfl), belG HB.out GE138.out⟩
                  · rw [if_neg c21] at H
                    have c21b0 : decide (4096 < (a0_7.size : Int)) = false := decide_eq_false c21
                    have c21b1 : decide (4096 < a0_7.size) = false := decide_eq_false (by omega)
                    clear c21
                    obtain rfl := Option.some.inj H
                    go_enter Try.func14, Try.ntmps14
                    go_wp2_with (first | ((with_reducible refine gate_dst (N := 1) rfl ?_); (try (refine gate_guard (by rfl) ?_; dsimp only)); refine box_event ?hg (N := 1) ?hd (cs := #[.int .i64 a0_0, .int .i64 a0_1, .int .i64 a0_2, .int .i64 a0_3, .int .i64 a0_4, .int .i64 a0_5, .string a0_6, .string a0_7]) (t := 23) ?hr ?_; (case hd => rfl); (case hg => rfl); (case hr => first | (go_simp; done) | (go_simp; rfl)); intro gb138 hg w24 hbox hb; have n0_ := Aside0.mk (below_step (belU HB.out) hb); have n1_ := Aside0.mk (hbox); have n2_ := Aside0.mk ((by rw [hg]; exact (sizU HB.out) : w.heap.size ≤ gb138)); have n3_ := Aside0.mk ((by rw [hg]; exact (sizU HB.out) : w.heap.size ≤ gb138)); clear HB; have HB := n0_; have BK138 := n1_; have GW138 := n2_; have GE138 := n3_; clear n0_ n1_ n2_ n3_; clear hb hbox hg; have hcz25_0 : w24.cell? ⟨gb138, 0, none⟩ = some (.int .i64 a0_0) := (blk_cell BK138.out 0).trans rfl; have hcz25_1 : w24.cell? ⟨gb138, 1, none⟩ = some (.int .i64 a0_1) := (blk_cell BK138.out 1).trans rfl; have hcz25_2 : w24.cell? ⟨gb138, 2, none⟩ = some (.int .i64 a0_2) := (blk_cell BK138.out 2).trans rfl; have hcz25_3 : w24.cell? ⟨gb138, 3, none⟩ = some (.int .i64 a0_3) := (blk_cell BK138.out 3).trans rfl; have hcz25_4 : w24.cell? ⟨gb138, 4, none⟩ = some (.int .i64 a0_4) := (blk_cell BK138.out 4).trans rfl; have hcz25_5 : w24.cell? ⟨gb138, 5, none⟩ = some (.int .i64 a0_5) := (blk_cell BK138.out 5).trans rfl; have hcz25_6 : w24.cell? ⟨gb138, 6, none⟩ = some (.string a0_6) := (blk_cell BK138.out 6).trans rfl; have hcz25_7 : w24.cell? ⟨gb138, 7, none⟩ = some (.string a0_7) := (blk_cell BK138.out 7).trans rfl; have hfz25_0 := blk_frozen BK138.out 0; have hfz25_1 := blk_frozen BK138.out 1; have hfz25_2 := blk_frozen BK138.out 2; have hfz25_3 := blk_frozen BK138.out 3; have hfz25_4 := blk_frozen BK138.out 4; have hfz25_5 := blk_frozen BK138.out 5; have hfz25_6 := blk_frozen BK138.out 6; have hfz25_7 := blk_frozen BK138.out 7) | (go_at_call 42; (with_reducible refine (aquiferref20_num.calls a0_1 true _ A8.out).mono ?_); rintro e w' ⟨rfl, ⟨nd, rfl⟩⟩) | (go_at_call 42; (with_reducible refine (aquiferref20_num.calls a0_2 true _ A10.out).mono ?_); rintro e w' ⟨rfl, ⟨nd, rfl⟩⟩) | (go_at_call 42; (with_reducible refine (aquiferref20_num.calls a0_3 true _ A12.out).mono ?_); rintro e w' ⟨rfl, ⟨nd, rfl⟩⟩) | (go_at_call 42; (with_reducible refine (aquiferref20_num.calls a0_4 true _ A14.out).mono ?_); rintro e w' ⟨rfl, ⟨nd, rfl⟩⟩) | (go_at_call 42; (with_reducible refine (aquiferref20_num.calls a0_5 true _ A16.out).mono ?_); rintro e w' ⟨rfl, ⟨nd, rfl⟩⟩))
                    go_ret
                    exact ⟨by first | rfl | (simp [errW_none, errW_some] <;> rfl) | (simp [*, errW_none, errW_some] <;> rfl), belG HB.out GE138.out⟩
              · replace c17 := Bool.eq_false_iff.mpr c17
                subst c17
                have H1 : (some 2) = some r := by rw [if_neg (show ¬ (false = true) by decide)] at H; exact H
                clear H
                have H := H1
                clear H1
                obtain rfl := Option.some.inj H
                go_enter Try.func14, Try.ntmps14
                go_wp2_with (first | ((with_reducible refine gate_dst (N := 1) rfl ?_); (try (refine gate_guard (by rfl) ?_; dsimp only)); refine box_event ?hg (N := 1) ?hd (cs := #[.int .i64 a0_0, .int .i64 a0_1, .int .i64 a0_2, .int .i64 a0_3, .int .i64 a0_4, .int .i64 a0_5, .string a0_6, .string a0_7]) (t := 23) ?hr ?_; (case hd => rfl); (case hg => rfl); (case hr => first | (go_simp; done) | (go_simp; rfl)); intro gb138 hg w26 hbox hb; have n0_ := Aside0.mk (below_step (belU HB.out) hb); have n1_ := Aside0.mk (hbox); have n2_ := Aside0.mk ((by rw [hg]; exact (sizU HB.out) : w.heap.size ≤ gb138)); have n3_ := Aside0.mk ((by rw [hg]; exact (sizU HB.out) : w.heap.size ≤ gb138)); clear HB; have HB := n0_; have BK138 := n1_; have GW138 := n2_; have GE138 := n3_; clear n0_ n1_ n2_ n3_; clear hb hbox hg; have hcz27_0 : w26.cell? ⟨gb138, 0, none⟩ = some (.int .i64 a0_0) := (blk_cell BK138.out 0).trans rfl; have hcz27_1 : w26.cell? ⟨gb138, 1, none⟩ = some (.int .i64 a0_1) := (blk_cell BK138.out 1).trans rfl; have hcz27_2 : w26.cell? ⟨gb138, 2, none⟩ = some (.int .i64 a0_2) := (blk_cell BK138.out 2).trans rfl; have hcz27_3 : w26.cell? ⟨gb138, 3, none⟩ = some (.int .i64 a0_3) := (blk_cell BK138.out 3).trans rfl; have hcz27_4 : w26.cell? ⟨gb138, 4, none⟩ = some (.int .i64 a0_4) := (blk_cell BK138.out 4).trans rfl; have hcz27_5 : w26.cell? ⟨gb138, 5, none⟩ = some (.int .i64 a0_5) := (blk_cell BK138.out 5).trans rfl; have hcz27_6 : w26.cell? ⟨gb138, 6, none⟩ = some (.string a0_6) := (blk_cell BK138.out 6).trans rfl; have hcz27_7 : w26.cell? ⟨gb138, 7, none⟩ = some (.string a0_7) := (blk_cell BK138.out 7).trans rfl; have hfz27_0 := blk_frozen BK138.out 0; have hfz27_1 := blk_frozen BK138.out 1; have hfz27_2 := blk_frozen BK138.out 2; have hfz27_3 := blk_frozen BK138.out 3; have hfz27_4 := blk_frozen BK138.out 4; have hfz27_5 := blk_frozen BK138.out 5; have hfz27_6 := blk_frozen BK138.out 6; have hfz27_7 := blk_frozen BK138.out 7) | (go_at_call 42; (with_reducible refine (aquiferref20_num.calls a0_1 true _ A8.out).mono ?_); rintro e w' ⟨rfl, ⟨nd, rfl⟩⟩) | (go_at_call 42; (with_reducible refine (aquiferref20_num.calls a0_2 true _ A10.out).mono ?_); rintro e w' ⟨rfl, ⟨nd, rfl⟩⟩) | (go_at_call 42; (with_reducible refine (aquiferref20_num.calls a0_3 true _ A12.out).mono ?_); rintro e w' ⟨rfl, ⟨nd, rfl⟩⟩) | (go_at_call 42; (with_reducible refine (aquiferref20_num.calls a0_4 true _ A14.out).mono ?_); rintro e w' ⟨rfl, ⟨nd, rfl⟩⟩) | (go_at_call 42; (with_reducible refine (aquiferref20_num.calls a0_5 false _ A16.out).mono ?_); rintro e w' ⟨rfl, ⟨nd, rfl⟩⟩))
                go_ret
                exact ⟨by first | rfl | (simp [errW_none, errW_some] <;> rfl) | (simp [*, errW_none, errW_some] <;> rfl), belG HB.out GE138.out⟩
            · replace c15 := Bool.eq_false_iff.mpr c15
              subst c15
              have H1 : (some 2) = some r := by rw [if_neg (show ¬ (false = true) by decide)] at H; exact H
              clear H
              have H := H1
              clear H1
              obtain rfl := Option.some.inj H
              go_enter Try.func14, Try.ntmps14
              go_wp2_with (first | ((with_reducible refine gate_dst (N := 1) rfl ?_); (try (refine gate_guard (by rfl) ?_; dsimp only)); refine box_event ?hg (N := 1) ?hd (cs := #[.int .i64 a0_0, .int .i64 a0_1, .int .i64 a0_2, .int .i64 a0_3, .int .i64 a0_4, .int .i64 a0_5, .string a0_6, .string a0_7]) (t := 23) ?hr ?_; (case hd => rfl); (case hg => rfl); (case hr => first | (go_simp; done) | (go_simp; rfl)); intro gb138 hg w28 hbox hb; have n0_ := Aside0.mk (below_step (belU HB.out) hb); have n1_ := Aside0.mk (hbox); have n2_ := Aside0.mk ((by rw [hg]; exact (sizU HB.out) : w.heap.size ≤ gb138)); have n3_ := Aside0.mk ((by rw [hg]; exact (sizU HB.out) : w.heap.size ≤ gb138)); clear HB; have HB := n0_; have BK138 := n1_; have GW138 := n2_; have GE138 := n3_; clear n0_ n1_ n2_ n3_; clear hb hbox hg; have hcz29_0 : w28.cell? ⟨gb138, 0, none⟩ = some (.int .i64 a0_0) := (blk_cell BK138.out 0).trans rfl; have hcz29_1 : w28.cell? ⟨gb138, 1, none⟩ = some (.int .i64 a0_1) := (blk_cell BK138.out 1).trans rfl; have hcz29_2 : w28.cell? ⟨gb138, 2, none⟩ = some (.int .i64 a0_2) := (blk_cell BK138.out 2).trans rfl; have hcz29_3 : w28.cell? ⟨gb138, 3, none⟩ = some (.int .i64 a0_3) := (blk_cell BK138.out 3).trans rfl; have hcz29_4 : w28.cell? ⟨gb138, 4, none⟩ = some (.int .i64 a0_4) := (blk_cell BK138.out 4).trans rfl; have hcz29_5 : w28.cell? ⟨gb138, 5, none⟩ = some (.int .i64 a0_5) := (blk_cell BK138.out 5).trans rfl; have hcz29_6 : w28.cell? ⟨gb138, 6, none⟩ = some (.string a0_6) := (blk_cell BK138.out 6).trans rfl; have hcz29_7 : w28.cell? ⟨gb138, 7, none⟩ = some (.string a0_7) := (blk_cell BK138.out 7).trans rfl; have hfz29_0 := blk_frozen BK138.out 0; have hfz29_1 := blk_frozen BK138.out 1; have hfz29_2 := blk_frozen BK138.out 2; have hfz29_3 := blk_frozen BK138.out 3; have hfz29_4 := blk_frozen BK138.out 4; have hfz29_5 := blk_frozen BK138.out 5; have hfz29_6 := blk_frozen BK138.out 6; have hfz29_7 := blk_frozen BK138.out 7) | (go_at_call 42; (with_reducible refine (aquiferref20_num.calls a0_1 true _ A8.out).mono ?_); rintro e w' ⟨rfl, ⟨nd, rfl⟩⟩) | (go_at_call 42; (with_reducible refine (aquiferref20_num.calls a0_2 true _ A10.out).mono ?_); rintro e w' ⟨rfl, ⟨nd, rfl⟩⟩) | (go_at_call 42; (with_reducible refine (aquiferref20_num.calls a0_3 true _ A12.out).mono ?_); rintro e w' ⟨rfl, ⟨nd, rfl⟩⟩) | (go_at_call 42; (with_reducible refine (aquiferref20_num.calls a0_4 false _ A14.out).mono ?_); rintro e w' ⟨rfl, ⟨nd, rfl⟩⟩))
              go_ret
              exact ⟨by first | rfl | (simp [errW_none, errW_some] <;> rfl) | (simp [*, errW_none, errW_some] <;> rfl), belG HB.out GE138.out⟩
          · replace c13 := Bool.eq_false_iff.mpr c13
            subst c13
            have H1 : (some 2) = some r := by rw [if_neg (show ¬ (false = true) by decide)] at H; exact H
            clear H
            have H := H1
            clear H1
            obtain rfl := Option.some.inj H
            go_enter Try.func14, Try.ntmps14
            go_wp2_with (first | ((with_reducible refine gate_dst (N := 1) rfl ?_); (try (refine gate_guard (by rfl) ?_; dsimp only)); refine box_event ?hg (N := 1) ?hd (cs := #[.int .i64 a0_0, .int .i64 a0_1, .int .i64 a0_2, .int .i64 a0_3, .int .i64 a0_4, .int .i64 a0_5, .string a0_6, .string a0_7]) (t := 23) ?hr ?_; (case hd => rfl); (case hg => rfl); (case hr => first | (go_simp; done) | (go_simp; rfl)); intro gb138 hg w30 hbox hb; have n0_ := Aside0.mk (below_step (belU HB.out) hb); have n1_ := Aside0.mk (hbox); have n2_ := Aside0.mk ((by rw [hg]; exact (sizU HB.out) : w.heap.size ≤ gb138)); have n3_ := Aside0.mk ((by rw [hg]; exact (sizU HB.out) : w.heap.size ≤ gb138)); clear HB; have HB := n0_; have BK138 := n1_; have GW138 := n2_; have GE138 := n3_; clear n0_ n1_ n2_ n3_; clear hb hbox hg; have hcz31_0 : w30.cell? ⟨gb138, 0, none⟩ = some (.int .i64 a0_0) := (blk_cell BK138.out 0).trans rfl; have hcz31_1 : w30.cell? ⟨gb138, 1, none⟩ = some (.int .i64 a0_1) := (blk_cell BK138.out 1).trans rfl; have hcz31_2 : w30.cell? ⟨gb138, 2, none⟩ = some (.int .i64 a0_2) := (blk_cell BK138.out 2).trans rfl; have hcz31_3 : w30.cell? ⟨gb138, 3, none⟩ = some (.int .i64 a0_3) := (blk_cell BK138.out 3).trans rfl; have hcz31_4 : w30.cell? ⟨gb138, 4, none⟩ = some (.int .i64 a0_4) := (blk_cell BK138.out 4).trans rfl; have hcz31_5 : w30.cell? ⟨gb138, 5, none⟩ = some (.int .i64 a0_5) := (blk_cell BK138.out 5).trans rfl; have hcz31_6 : w30.cell? ⟨gb138, 6, none⟩ = some (.string a0_6) := (blk_cell BK138.out 6).trans rfl; have hcz31_7 : w30.cell? ⟨gb138, 7, none⟩ = some (.string a0_7) := (blk_cell BK138.out 7).trans rfl; have hfz31_0 := blk_frozen BK138.out 0; have hfz31_1 := blk_frozen BK138.out 1; have hfz31_2 := blk_frozen BK138.out 2; have hfz31_3 := blk_frozen BK138.out 3; have hfz31_4 := blk_frozen BK138.out 4; have hfz31_5 := blk_frozen BK138.out 5; have hfz31_6 := blk_frozen BK138.out 6; have hfz31_7 := blk_frozen BK138.out 7) | (go_at_call 42; (with_reducible refine (aquiferref20_num.calls a0_1 true _ A8.out).mono ?_); rintro e w' ⟨rfl, ⟨nd, rfl⟩⟩) | (go_at_call 42; (with_reducible refine (aquiferref20_num.calls a0_2 true _ A10.out).mono ?_); rintro e w' ⟨rfl, ⟨nd, rfl⟩⟩) | (go_at_call 42; (with_reducible refine (aquiferref20_num.calls a0_3 false _ A12.out).mono ?_); rintro e w' ⟨rfl, ⟨nd, rfl⟩⟩))
            go_ret
            exact ⟨by first | rfl | (simp [errW_none, errW_some] <;> rfl) | (simp [*, errW_none, errW_some] <;> rfl), belG HB.out GE138.out⟩
        · replace c11 := Bool.eq_false_iff.mpr c11
          subst c11
          have H1 : (some 2) = some r := by rw [if_neg (show ¬ (false = true) by decide)] at H; exact H
          clear H
          have H := H1
          clear H1
          obtain rfl := Option.some.inj H
          go_enter Try.func14, Try.ntmps14
          go_wp2_with (first | ((with_reducible refine gate_dst (N := 1) rfl ?_); (try (refine gate_guard (by rfl) ?_; dsimp only)); refine box_event ?hg (N := 1) ?hd (cs := #[.int .i64 a0_0, .int .i64 a0_1, .int .i64 a0_2, .int .i64 a0_3, .int .i64 a0_4, .int .i64 a0_5, .string a0_6, .string a0_7]) (t := 23) ?hr ?_; (case hd => rfl); (case hg => rfl); (case hr => first | (go_simp; done) | (go_simp; rfl)); intro gb138 hg w32 hbox hb; have n0_ := Aside0.mk (below_step (belU HB.out) hb); have n1_ := Aside0.mk (hbox); have n2_ := Aside0.mk ((by rw [hg]; exact (sizU HB.out) : w.heap.size ≤ gb138)); have n3_ := Aside0.mk ((by rw [hg]; exact (sizU HB.out) : w.heap.size ≤ gb138)); clear HB; have HB := n0_; have BK138 := n1_; have GW138 := n2_; have GE138 := n3_; clear n0_ n1_ n2_ n3_; clear hb hbox hg; have hcz33_0 : w32.cell? ⟨gb138, 0, none⟩ = some (.int .i64 a0_0) := (blk_cell BK138.out 0).trans rfl; have hcz33_1 : w32.cell? ⟨gb138, 1, none⟩ = some (.int .i64 a0_1) := (blk_cell BK138.out 1).trans rfl; have hcz33_2 : w32.cell? ⟨gb138, 2, none⟩ = some (.int .i64 a0_2) := (blk_cell BK138.out 2).trans rfl; have hcz33_3 : w32.cell? ⟨gb138, 3, none⟩ = some (.int .i64 a0_3) := (blk_cell BK138.out 3).trans rfl; have hcz33_4 : w32.cell? ⟨gb138, 4, none⟩ = some (.int .i64 a0_4) := (blk_cell BK138.out 4).trans rfl; have hcz33_5 : w32.cell? ⟨gb138, 5, none⟩ = some (.int .i64 a0_5) := (blk_cell BK138.out 5).trans rfl; have hcz33_6 : w32.cell? ⟨gb138, 6, none⟩ = some (.string a0_6) := (blk_cell BK138.out 6).trans rfl; have hcz33_7 : w32.cell? ⟨gb138, 7, none⟩ = some (.string a0_7) := (blk_cell BK138.out 7).trans rfl; have hfz33_0 := blk_frozen BK138.out 0; have hfz33_1 := blk_frozen BK138.out 1; have hfz33_2 := blk_frozen BK138.out 2; have hfz33_3 := blk_frozen BK138.out 3; have hfz33_4 := blk_frozen BK138.out 4; have hfz33_5 := blk_frozen BK138.out 5; have hfz33_6 := blk_frozen BK138.out 6; have hfz33_7 := blk_frozen BK138.out 7) | (go_at_call 42; (with_reducible refine (aquiferref20_num.calls a0_1 true _ A8.out).mono ?_); rintro e w' ⟨rfl, ⟨nd, rfl⟩⟩) | (go_at_call 42; (with_reducible refine (aquiferref20_num.calls a0_2 false _ A10.out).mono ?_); rintro e w' ⟨rfl, ⟨nd, rfl⟩⟩))
          go_ret
          exact ⟨by first | rfl | (simp [errW_none, errW_some] <;> rfl) | (simp [*, errW_none, errW_some] <;> rfl), belG HB.out GE138.out⟩
      · replace c9 := Bool.eq_false_iff.mpr c9
        subst c9
        have H1 : (some 2) = some r := by rw [if_neg (show ¬ (false = true) by decide)] at H; exact H
        clear H
        have H := H1
        clear H1
        obtain rfl := Option.some.inj H
        go_enter Try.func14, Try.ntmps14
        go_wp2_with (first | ((with_reducible refine gate_dst (N := 1) rfl ?_); (try (refine gate_guard (by rfl) ?_; dsimp only)); refine box_event ?hg (N := 1) ?hd (cs := #[.int .i64 a0_0, .int .i64 a0_1, .int .i64 a0_2, .int .i64 a0_3, .int .i64 a0_4, .int .i64 a0_5, .string a0_6, .string a0_7]) (t := 23) ?hr ?_; (case hd => rfl); (case hg => rfl); (case hr => first | (go_simp; done) | (go_simp; rfl)); intro gb138 hg w34 hbox hb; have n0_ := Aside0.mk (below_step (belU HB.out) hb); have n1_ := Aside0.mk (hbox); have n2_ := Aside0.mk ((by rw [hg]; exact (sizU HB.out) : w.heap.size ≤ gb138)); have n3_ := Aside0.mk ((by rw [hg]; exact (sizU HB.out) : w.heap.size ≤ gb138)); clear HB; have HB := n0_; have BK138 := n1_; have GW138 := n2_; have GE138 := n3_; clear n0_ n1_ n2_ n3_; clear hb hbox hg; have hcz35_0 : w34.cell? ⟨gb138, 0, none⟩ = some (.int .i64 a0_0) := (blk_cell BK138.out 0).trans rfl; have hcz35_1 : w34.cell? ⟨gb138, 1, none⟩ = some (.int .i64 a0_1) := (blk_cell BK138.out 1).trans rfl; have hcz35_2 : w34.cell? ⟨gb138, 2, none⟩ = some (.int .i64 a0_2) := (blk_cell BK138.out 2).trans rfl; have hcz35_3 : w34.cell? ⟨gb138, 3, none⟩ = some (.int .i64 a0_3) := (blk_cell BK138.out 3).trans rfl; have hcz35_4 : w34.cell? ⟨gb138, 4, none⟩ = some (.int .i64 a0_4) := (blk_cell BK138.out 4).trans rfl; have hcz35_5 : w34.cell? ⟨gb138, 5, none⟩ = some (.int .i64 a0_5) := (blk_cell BK138.out 5).trans rfl; have hcz35_6 : w34.cell? ⟨gb138, 6, none⟩ = some (.string a0_6) := (blk_cell BK138.out 6).trans rfl; have hcz35_7 : w34.cell? ⟨gb138, 7, none⟩ = some (.string a0_7) := (blk_cell BK138.out 7).trans rfl; have hfz35_0 := blk_frozen BK138.out 0; have hfz35_1 := blk_frozen BK138.out 1; have hfz35_2 := blk_frozen BK138.out 2; have hfz35_3 := blk_frozen BK138.out 3; have hfz35_4 := blk_frozen BK138.out 4; have hfz35_5 := blk_frozen BK138.out 5; have hfz35_6 := blk_frozen BK138.out 6; have hfz35_7 := blk_frozen BK138.out 7) | (go_at_call 42; (with_reducible refine (aquiferref20_num.calls a0_1 false _ A8.out).mono ?_); rintro e w' ⟨rfl, ⟨nd, rfl⟩⟩))
        go_ret
        exact ⟨by first | rfl | (simp [errW_none, errW_some] <;> rfl) | (simp [*, errW_none, errW_some] <;> rfl), belG HB.out GE138.out⟩

end Go.Proofs.Ytjaneipklpgnlaa.Q

namespace Go.Proofs.Ytjaneipklpgnlaa.Q
open Go.RowKit Go.Proofs.YtjaneipklpgnlaaW.PrintWords Go.Proofs.YtjaneipklpgnlaaW.PrintLast Go.Proofs.YtjaneipklpgnlaaW.PrintMore Go.Proofs.YtjaneipklpgnlaaK
attribute [local go_sem] max2_int min2_int max_two min_two max_three min_three max_four min_four   -- for this text's walks alone
attribute [local go_sem ↓] Go.Proofs.YtjaneipklpgnlaaK.isSome_setCell
set_option linter.unusedVariables false
set_option linter.unusedSimpArgs false

/-! ### aquiferref20_number: function 29 -/
def aquiferref20_number.f (a0 : Int) (a1 : Int) : Option ((List (S84))) := if a1 = 0 then (some ([] : List (S84))) else (some (([(⟨a0, 0, a1, (⟨#[]⟩ : ByteArray)⟩ : S84)] : List (S84))))
set_option maxHeartbeats 8000000 in
set_option maxRecDepth 100000 in
theorem aquiferref20_number.calls (a0 : Int) (a1 : Int) (r : List (S84)) (w : World) (h : aquiferref20_number.f a0 a1 = some r) :
    Calls Try.prog 29 #[.int .i64 a0, .int .i64 a1] w fun e w' => ∃ v0_ : Value, e = .returned (v0_) ∧ Kd.R k84 84 w' w.heap.size (fun _ => True) v0_ r ∧ Below w.heap.size w w' := by
  have hu84 := Try.underlying84
  have HB := Aside0.mk (Below.refl w.heap.size w)
  have H : (if a1 = 0 then (some ([] : List (S84))) else (some (([(⟨a0, 0, a1, (⟨#[]⟩ : ByteArray)⟩ : S84)] : List (S84))))) = some r := h
  clear h
  by_cases c3 : a1 = 0
  · rw [if_pos c3] at H
    have c3b0 : (a1 == 0) = true := beq_iff_eq.mpr c3
    have c3b1 : (a1 != 0) = false := bne_eq_false_iff_eq.mpr c3
    clear c3
    obtain rfl := Option.some.inj H
    go_enter Try.func29, Try.ntmps29
    go_wp2
    go_ret
    exact ⟨_, by first | rfl | (simp [errW_none, errW_some] <;> rfl) | (simp [*, errW_none, errW_some] <;> rfl), by first | exact Kd.R_nil _ _ _ _ _ | exact Kd.N_nil _ _ _ _ _ | exact Kd.V_nil _ _ _ _ _ | exact Kd.Q_nil _ _ _ _ _ | exact Kd.S_nil _ _ _ _ _, belU HB.out⟩
  · rw [if_neg c3] at H
    have c3b0 : (a1 == 0) = false := beq_eq_false_iff_ne.mpr c3
    have c3b1 : (a1 != 0) = true := bne_iff_ne.mpr c3
    obtain ⟨y144, hy144⟩ : ∃ y_ : List (S84), y_ = (([(⟨a0, 0, a1, (⟨#[]⟩ : ByteArray)⟩ : S84)] : List (S84))) := ⟨_, rfl⟩
    replace H : (some y144) = some r := by first | (rw [hy144]; with_reducible exact H) | (have H2_ := (Option.bind_some _ _).symm.trans H; rw [hy144]; with_reducible exact H2_) | (have H2_ := (Option.bind_some _ _).symm.trans H; with_reducible exact H2_) | with_reducible exact H | (rw [hy144]; exact H) | exact H
    have Ny144 := Aside0.mk hy144
    clear hy144
    obtain rfl := Option.some.inj H
    go_enter Try.func29, Try.ntmps29
    go_wp2_with (first | ((with_reducible refine gate_dst (N := 10) rfl ?_); refine Kd.R_lit k84 _ 84 ?hg (N := 10) ?hd (xs := ([(⟨a0, 0, a1, (⟨#[]⟩ : ByteArray)⟩ : S84)] : List (S84))) (inner := [.int .i64 a0, .int .i64 0, .int .i64 a1, .string (⟨#[]⟩ : ByteArray)]) (ok := fun _ => True) (okp := fun _ => True) ?hr ?hp (fun _ hk => hk) trivial (Below.refl _ _) (Nat.le_refl _) (by simp) ?_; (case hd => rfl); (case hg => rfl); (case hr => first | (go_simp; done) | (go_simp; rfl)); (case hp => exact (Reps.c4 (show Kd.M k84 _ _ _ (⟨a0, 0, a1, (⟨#[]⟩ : ByteArray)⟩ : S84) [.int .i64 a0, .int .i64 0, .int .i64 a1, .string (⟨#[]⟩ : ByteArray)] from (k84_mkM _ _ _ (⟨a0, 0, a1, (⟨#[]⟩ : ByteArray)⟩ : S84) )) (Reps.none _ _))); intro v145 w4 ho5 hb hg_ hnew_; clear hg_ hnew_; (first | rw [← Ny144.out] at ho5 | (simp only [Int.reduceToNat] at ho5; rw [← Ny144.out] at ho5)); have n0_ := Aside0.mk (Kd.R_lower ho5 (sizU HB.out)); have n1_ := Aside0.mk (below_step (belU HB.out) hb); clear HB; have HO146 := n0_; have HB := n1_; clear n0_ n1_; clear hb ho5))
    go_ret
    exact ⟨_, by first | rfl | (simp [errW_none, errW_some] <;> rfl) | (simp [*, errW_none, errW_some] <;> rfl), by (with_reducible repeat (first | apply Kd.R_alloc | apply Kd.R_drewN | apply Kd.R_drew)); exact HO146.out, belU HB.out⟩

end Go.Proofs.Ytjaneipklpgnlaa.Q

namespace Go.Proofs.Ytjaneipklpgnlaa.Q
open Go.RowKit Go.Proofs.YtjaneipklpgnlaaW.PrintWords Go.Proofs.YtjaneipklpgnlaaW.PrintLast Go.Proofs.YtjaneipklpgnlaaW.PrintMore Go.Proofs.YtjaneipklpgnlaaK
attribute [local go_sem] max2_int min2_int max_two min_two max_three min_three max_four min_four   -- for this text's walks alone
attribute [local go_sem ↓] Go.Proofs.YtjaneipklpgnlaaK.isSome_setCell
set_option linter.unusedVariables false
set_option linter.unusedSimpArgs false

/-! ### aquiferref20_text: function 30 -/
def aquiferref20_text.f (a0 : Int) (a1 : ByteArray) : Option ((List (S84))) := if a1.toList = ([] : List UInt8) then (some ([] : List (S84))) else (some (([(⟨a0, 1, 0, a1⟩ : S84)] : List (S84))))
set_option maxHeartbeats 8000000 in
set_option maxRecDepth 100000 in
theorem aquiferref20_text.calls (a0 : Int) (a1 : ByteArray) (r : List (S84)) (w : World) (h : aquiferref20_text.f a0 a1 = some r) :
    Calls Try.prog 30 #[.int .i64 a0, .string a1] w fun e w' => ∃ v0_ : Value, e = .returned (v0_) ∧ Kd.R k84 84 w' w.heap.size (fun _ => True) v0_ r ∧ Below w.heap.size w w' := by
  have hu84 := Try.underlying84
  have HB := Aside0.mk (Below.refl w.heap.size w)
  have H : (if a1.toList = ([] : List UInt8) then (some ([] : List (S84))) else (some (([(⟨a0, 1, 0, a1⟩ : S84)] : List (S84))))) = some r := h
  clear h
  by_cases c3 : a1.toList = ([] : List UInt8)
  · rw [if_pos c3] at H
    have c3b0 : (a1.toList == ([] : List UInt8)) = true := beq_iff_eq.mpr c3
    have c3b1 : (a1.toList != ([] : List UInt8)) = false := bne_eq_false_iff_eq.mpr c3
    clear c3
    obtain rfl := Option.some.inj H
    go_enter Try.func30, Try.ntmps30
    go_wp2
    go_ret
    exact ⟨_, by first | rfl | (simp [errW_none, errW_some] <;> rfl) | (simp [*, errW_none, errW_some] <;> rfl), by first | exact Kd.R_nil _ _ _ _ _ | exact Kd.N_nil _ _ _ _ _ | exact Kd.V_nil _ _ _ _ _ | exact Kd.Q_nil _ _ _ _ _ | exact Kd.S_nil _ _ _ _ _, belU HB.out⟩
  · rw [if_neg c3] at H
    have c3b0 : (a1.toList == ([] : List UInt8)) = false := beq_eq_false_iff_ne.mpr c3
    have c3b1 : (a1.toList != ([] : List UInt8)) = true := bne_iff_ne.mpr c3
    obtain ⟨y147, hy147⟩ : ∃ y_ : List (S84), y_ = (([(⟨a0, 1, 0, a1⟩ : S84)] : List (S84))) := ⟨_, rfl⟩
    replace H : (some y147) = some r := by first | (rw [hy147]; with_reducible exact H) | (have H2_ := (Option.bind_some _ _).symm.trans H; rw [hy147]; with_reducible exact H2_) | (have H2_ := (Option.bind_some _ _).symm.trans H; with_reducible exact H2_) | with_reducible exact H | (rw [hy147]; exact H) | exact H
    have Ny147 := Aside0.mk hy147
    clear hy147
    obtain rfl := Option.some.inj H
    go_enter Try.func30, Try.ntmps30
    go_wp2_with (first | ((with_reducible refine gate_dst (N := 10) rfl ?_); refine Kd.R_lit k84 _ 84 ?hg (N := 10) ?hd (xs := ([(⟨a0, 1, 0, a1⟩ : S84)] : List (S84))) (inner := [.int .i64 a0, .int .i64 1, .int .i64 0, .string a1]) (ok := fun _ => True) (okp := fun _ => True) ?hr ?hp (fun _ hk => hk) trivial (Below.refl _ _) (Nat.le_refl _) (by simp) ?_; (case hd => rfl); (case hg => rfl); (case hr => first | (go_simp; done) | (go_simp; rfl)); (case hp => exact (Reps.c4 (show Kd.M k84 _ _ _ (⟨a0, 1, 0, a1⟩ : S84) [.int .i64 a0, .int .i64 1, .int .i64 0, .string a1] from (k84_mkM _ _ _ (⟨a0, 1, 0, a1⟩ : S84) )) (Reps.none _ _))); intro v148 w4 ho5 hb hg_ hnew_; clear hg_ hnew_; (first | rw [← Ny147.out] at ho5 | (simp only [Int.reduceToNat] at ho5; rw [← Ny147.out] at ho5)); have n0_ := Aside0.mk (Kd.R_lower ho5 (sizU HB.out)); have n1_ := Aside0.mk (below_step (belU HB.out) hb); clear HB; have HO149 := n0_; have HB := n1_; clear n0_ n1_; clear hb ho5))
    go_ret
    exact ⟨_, by first | rfl | (simp [errW_none, errW_some] <;> rfl) | (simp [*, errW_none, errW_some] <;> rfl), by (with_reducible repeat (first | apply Kd.R_alloc | apply Kd.R_drewN | apply Kd.R_drew)); exact HO149.out, belU HB.out⟩

end Go.Proofs.Ytjaneipklpgnlaa.Q

namespace Go.Proofs.Ytjaneipklpgnlaa.Q
open Go.RowKit Go.Proofs.YtjaneipklpgnlaaW.PrintWords Go.Proofs.YtjaneipklpgnlaaW.PrintLast Go.Proofs.YtjaneipklpgnlaaW.PrintMore Go.Proofs.YtjaneipklpgnlaaK
attribute [local go_sem] max2_int min2_int max_two min_two max_three min_three max_four min_four   -- for this text's walks alone
attribute [local go_sem ↓] Go.Proofs.YtjaneipklpgnlaaK.isSome_setCell
set_option linter.unusedVariables false
set_option linter.unusedSimpArgs false

/-! ### aquiferref20_Request: function 10 -/
def aquiferref20_Request.f (k : Nat) (a0_0 : Int) (a0_1 : Int) (a0_2 : Int) (a0_3 : Int) (a0_4 : Int) (a0_5 : Int) (a0_6 : ByteArray) (a0_7 : ByteArray) : Option (ByteArray × Int) := (aquiferref20_CheckRequest.f a0_0 a0_1 a0_2 a0_3 a0_4 a0_5 a0_6 a0_7).bind fun t197 => (if t197 = 0 then ((aquiferref20_number.f 1 a0_0).bind fun t198 => ((aquiferref20_number.f 2 a0_1).bind fun t201 => (if t198.length + t201.length < 3518437208883 then ((some (t198 ++ t201 : List (S84))).bind fun y204 => ((aquiferref20_number.f 3 a0_2).bind fun t207 => (if y204.length + t207.length < 3518437208883 then ((some (y204 ++ t207 : List (S84))).bind fun y210 => ((aquiferref20_number.f 4 a0_3).bind fun t213 => (if y210.length + t213.length < 3518437208883 then ((some (y210 ++ t213 : List (S84))).bind fun y216 => ((aquiferref20_number.f 5 a0_4).bind fun t219 => (if y216.length + t219.length < 3518437208883 then ((some (y216 ++ t219 : List (S84))).bind fun y222 => ((aquiferref20_number.f 6 a0_5).bind fun t225 => (if y222.length + t225.length < 3518437208883 then ((some (y222 ++ t225 : List (S84))).bind fun y228 => ((aquiferref20_text.f 7 a0_6).bind fun t231 => (if y228.length + t231.length < 3518437208883 then ((some (y228 ++ t231 : List (S84))).bind fun y234 => ((aquiferref20_text.f 8 a0_7).bind fun t237 => (if y234.length + t237.length < 3518437208883 then ((aquiferref04_Encode.f k (y234 ++ t237)).bind fun bt243 => (some (bt243.1, bt243.2))) else (none)))) else (none)))) else (none)))) else (none)))) else (none)))) else (none)))) else (none)))) else (some ((⟨#[]⟩ : ByteArray), t197)))
theorem aquiferref20_Request.mono : ∀ a0 a1 a2 a3 a4 a5 a6 a7 k, LeO (aquiferref20_Request.f k a0 a1 a2 a3 a4 a5 a6 a7) (aquiferref20_Request.f (k + 1) a0 a1 a2 a3 a4 a5 a6 a7) := by
  intro a0 a1 a2 a3 a4 a5 a6 a7 k
  unfold aquiferref20_Request.f
  repeat' first
      | (with_reducible exact aquiferref04_Encode.mono _ _)
      | (with_reducible exact LeO.refl _)
      | (with_reducible exact LeO.none _)
      | (with_reducible refine LeO.ite ?_ ?_)
      | (with_reducible refine LeO.bind ?_ (fun _ => ?_))
      | exact aquiferref04_Encode.mono _ _
      | exact LeO.none _
      | refine LeO.ite ?_ ?_
      | refine LeO.bind ?_ (fun _ => ?_)
set_option maxHeartbeats 8000000 in
set_option maxRecDepth 100000 in
theorem aquiferref20_Request.calls (k : Nat) (a0_0 : Int) (a0_1 : Int) (a0_2 : Int) (a0_3 : Int) (a0_4 : Int) (a0_5 : Int) (a0_6 : ByteArray) (a0_7 : ByteArray) (r1 : ByteArray) (r2 : Int) (w : World) (h : aquiferref20_Request.f k a0_0 a0_1 a0_2 a0_3 a0_4 a0_5 a0_6 a0_7 = some (r1, r2)) :
    Calls Try.prog 10 #[.agg #[.int .i64 a0_0, .int .i64 a0_1, .int .i64 a0_2, .int .i64 a0_3, .int .i64 a0_4, .int .i64 a0_5, .string a0_6, .string a0_7]] w fun e w' => e = .returned (.tuple #[.string r1, .int .i64 r2]) ∧ Below w.heap.size w w' := by
  have hu23 := Try.underlying23
  have HB := Aside0.mk (Below.refl w.heap.size w)
  have H : ((aquiferref20_CheckRequest.f a0_0 a0_1 a0_2 a0_3 a0_4 a0_5 a0_6 a0_7).bind fun t197 => (if t197 = 0 then ((aquiferref20_number.f 1 a0_0).bind fun t198 => ((aquiferref20_number.f 2 a0_1).bind fun t201 => (if t198.length + t201.length < 3518437208883 then ((some (t198 ++ t201 : List (S84))).bind fun y204 => ((aquiferref20_number.f 3 a0_2).bind fun t207 => (if y204.length + t207.length < 3518437208883 then ((some (y204 ++ t207 : List (S84))).bind fun y210 => ((aquiferref20_number.f 4 a0_3).bind fun t213 => (if y210.length + t213.length < 3518437208883 then ((some (y210 ++ t213 : List (S84))).bind fun y216 => ((aquiferref20_number.f 5 a0_4).bind fun t219 => (if y216.length + t219.length < 3518437208883 then ((some (y216 ++ t219 : List (S84))).bind fun y222 => ((aquiferref20_number.f 6 a0_5).bind fun t225 => (if y222.length + t225.length < 3518437208883 then ((some (y222 ++ t225 : List (S84))).bind fun y228 => ((aquiferref20_text.f 7 a0_6).bind fun t231 => (if y228.length + t231.length < 3518437208883 then ((some (y228 ++ t231 : List (S84))).bind fun y234 => ((aquiferref20_text.f 8 a0_7).bind fun t237 => (if y234.length + t237.length < 3518437208883 then ((aquiferref04_Encode.f k (y234 ++ t237)).bind fun bt243 => (some (bt243.1, bt243.2))) else (none)))) else (none)))) else (none)))) else (none)))) else (none)))) else (none)))) else (none)))) else (some ((⟨#[]⟩ : ByteArray), t197)))) = some (r1, r2) := h
  clear h
  replace H := Option.bind_eq_some_iff.mp H
  obtain ⟨t197, A20, H⟩ := H
  replace H : (if t197 = 0 then ((aquiferref20_number.f 1 a0_0).bind fun t198 => ((aquiferref20_number.f 2 a0_1).bind fun t201 => (if t198.length + t201.length < 3518437208883 then ((some (t198 ++ t201 : List (S84))).bind fun y204 => ((aquiferref20_number.f 3 a0_2).bind fun t207 => (if y204.length + t207.length < 3518437208883 then ((some (y204 ++ t207 : List (S84))).bind fun y210 => ((aquiferref20_number.f 4 a0_3).bind fun t213 => (if y210.length + t213.length < 3518437208883 then ((some (y210 ++ t213 : List (S84))).bind fun y216 => ((aquiferref20_number.f 5 a0_4).bind fun t219 => (if y216.length + t219.length < 3518437208883 then ((some (y216 ++ t219 : List (S84))).bind fun y222 => ((aquiferref20_number.f 6 a0_5).bind fun t225 => (if y222.length + t225.length < 3518437208883 then ((some (y222 ++ t225 : List (S84))).bind fun y228 => ((aquiferref20_text.f 7 a0_6).bind fun t231 => (if y228.length + t231.length < 3518437208883 then ((some (y228 ++ t231 : List (S84))).bind fun y234 => ((aquiferref20_text.f 8 a0_7).bind fun t237 => (if y234.length + t237.length < 3518437208883 then ((aquiferref04_Encode.f k (y234 ++ t237)).bind fun bt243 => (some (bt243.1, bt243.2))) else (none)))) else (none)))) else (none)))) else (none)))) else (none)))) else (none)))) else (none)))) else (some ((⟨#[]⟩ : ByteArray), t197))) = some (r1, r2) := H
  have A2 := Aside0.mk A20
  clear A20
  by_cases c3 : t197 = 0
  · rw [if_pos c3] at H
    have c3b0 : (t197 == 0) = true := beq_iff_eq.mpr c3
    have c3b1 : (t197 != 0) = false := bne_eq_false_iff_eq.mpr c3
    clear c3
    replace H := Option.bind_eq_some_iff.mp H
    obtain ⟨t198, A40, H⟩ := H
    replace H : ((aquiferref20_number.f 2 a0_1).bind fun t201 => (if t198.length + t201.length < 3518437208883 then ((some (t198 ++ t201 : List (S84))).bind fun y204 => ((aquiferref20_number.f 3 a0_2).bind fun t207 => (if y204.length + t207.length < 3518437208883 then ((some (y204 ++ t207 : List (S84))).bind fun y210 => ((aquiferref20_number.f 4 a0_3).bind fun t213 => (if y210.length + t213.length < 3518437208883 then ((some (y210 ++ t213 : List (S84))).bind fun y216 => ((aquiferref20_number.f 5 a0_4).bind fun t219 => (if y216.length + t219.length < 3518437208883 then ((some (y216 ++ t219 : List (S84))).bind fun y222 => ((aquiferref20_number.f 6 a0_5).bind fun t225 => (if y222.length + t225.length < 3518437208883 then ((some (y222 ++ t225 : List (S84))).bind fun y228 => ((aquiferref20_text.f 7 a0_6).bind fun t231 => (if y228.length + t231.length < 3518437208883 then ((some (y228 ++ t231 : List (S84))).bind fun y234 => ((aquiferref20_text.f 8 a0_7).bind fun t237 => (if y234.length + t237.length < 3518437208883 then ((aquiferref04_Encode.f k (y234 ++ t237)).bind fun bt243 => (some (bt243.1, bt243.2))) else (none)))) else (none)))) else (none)))) else (none)))) else (none)))) else (none)))) else (none))) = some (r1, r2) := H
    have A4 := Aside0.mk A40
    clear A40
    replace H := Option.bind_eq_some_iff.mp H
    obtain ⟨t201, A50, H⟩ := H
    replace H : (if t198.length + t201.length < 3518437208883 then ((some (t198 ++ t201 : List (S84))).bind fun y204 => ((aquiferref20_number.f 3 a0_2).bind fun t207 => (if y204.length + t207.length < 3518437208883 then ((some (y204 ++ t207 : List (S84))).bind fun y210 => ((aquiferref20_number.f 4 a0_3).bind fun t213 => (if y210.length + t213.length < 3518437208883 then ((some (y210 ++ t213 : List (S84))).bind fun y216 => ((aquiferref20_number.f 5 a0_4).bind fun t219 => (if y216.length + t219.length < 3518437208883 then ((some (y216 ++ t219 : List (S84))).bind fun y222 => ((aquiferref20_number.f 6 a0_5).bind fun t225 => (if y222.length + t225.length < 3518437208883 then ((some (y222 ++ t225 : List (S84))).bind fun y228 => ((aquiferref20_text.f 7 a0_6).bind fun t231 => (if y228.length + t231.length < 3518437208883 then ((some (y228 ++ t231 : List (S84))).bind fun y234 => ((aquiferref20_text.f 8 a0_7).bind fun t237 => (if y234.length + t237.length < 3518437208883 then ((aquiferref04_Encode.f k (y234 ++ t237)).bind fun bt243 => (some (bt243.1, bt243.2))) else (none)))) else (none)))) else (none)))) else (none)))) else (none)))) else (none)))) else (none)) = some (r1, r2) := H
    have A5 := Aside0.mk A50
    clear A50
    by_cases c6 : t198.length + t201.length < 3518437208883
    · rw [if_pos c6] at H
      have LMc6 := Aside0.mk c6
      clear c6
      obtain ⟨y204, hy204⟩ : ∃ y_ : List (S84), y_ = (t198 ++ t201) := ⟨_, rfl⟩
      replace H : ((aquiferref20_number.f 3 a0_2).bind fun t207 => (if y204.length + t207.length < 3518437208883 then ((some (y204 ++ t207 : List (S84))).bind fun y210 => ((aquiferref20_number.f 4 a0_3).bind fun t213 => (if y210.length + t213.length < 3518437208883 then ((some (y210 ++ t213 : List (S84))).bind fun y216 => ((aquiferref20_number.f 5 a0_4).bind fun t219 => (if y216.length + t219.length < 3518437208883 then ((some (y216 ++ t219 : List (S84))).bind fun y222 => ((aquiferref20_number.f 6 a0_5).bind fun t225 => (if y222.length + t225.length < 3518437208883 then ((some (y222 ++ t225 : List (S84))).bind fun y228 => ((aquiferref20_text.f 7 a0_6).bind fun t231 => (if y228.length + t231.length < 3518437208883 then ((some (y228 ++ t231 : List (S84))).bind fun y234 => ((aquiferref20_text.f 8 a0_7).bind fun t237 => (if y234.length + t237.length < 3518437208883 then ((aquiferref04_Encode.f k (y234 ++ t237)).bind fun bt243 => (some (bt243.1, bt243.2))) else (none)))) else (none)))) else (none)))) else (none)))) else (none)))) else (none))) = some (r1, r2) := by first | (rw [hy204]; with_reducible exact H) | (have H2_ := (Option.bind_some _ _).symm.trans H; rw [hy204]; with_reducible exact H2_) | (have H2_ := (Option.bind_some _ _).symm.trans H; with_reducible exact H2_) | with_reducible exact H | (rw [hy204]; exact H) | exact H
      have Ny204 := Aside0.mk hy204
      clear hy204
      replace H := Option.bind_eq_some_iff.mp H
      obtain ⟨t207, A70, H⟩ := H
      replace H : (if y204.length + t207.length < 3518437208883 then ((some (y204 ++ t207 : List (S84))).bind fun y210 => ((aquiferref20_number.f 4 a0_3).bind fun t213 => (if y210.length + t213.length < 3518437208883 then ((some (y210 ++ t213 : List (S84))).bind fun y216 => ((aquiferref20_number.f 5 a0_4).bind fun t219 => (if y216.length + t219.length < 3518437208883 then ((some (y216 ++ t219 : List (S84))).bind fun y222 => ((aquiferref20_number.f 6 a0_5).bind fun t225 => (if y222.length + t225.length < 3518437208883 then ((some (y222 ++ t225 : List (S84))).bind fun y228 => ((aquiferref20_text.f 7 a0_6).bind fun t231 => (if y228.length + t231.length < 3518437208883 then ((some (y228 ++ t231 : List (S84))).bind fun y234 => ((aquiferref20_text.f 8 a0_7).bind fun t237 => (if y234.length + t237.length < 3518437208883 then ((aquiferref04_Encode.f k (y234 ++ t237)).bind fun bt243 => (some (bt243.1, bt243.2))) else (none)))) else (none)))) else (none)))) else (none)))) else (none)))) else (none)) = some (r1, r2) := H
      have A7 := Aside0.mk A70
      clear A70
      by_cases c8 : y204.length + t207.length < 3518437208883
      · rw [if_pos c8] at H
        have LMc8 := Aside0.mk c8
        clear c8
        obtain ⟨y210, hy210⟩ : ∃ y_ : List (S84), y_ = (y204 ++ t207) := ⟨_, rfl⟩
        replace H : ((aquiferref20_number.f 4 a0_3).bind fun t213 => (if y210.length + t213.length < 3518437208883 then ((some (y210 ++ t213 : List (S84))).bind fun y216 => ((aquiferref20_number.f 5 a0_4).bind fun t219 => (if y216.length + t219.length < 3518437208883 then ((some (y216 ++ t219 : List (S84))).bind fun y222 => ((aquiferref20_number.f 6 a0_5).bind fun t225 => (if y222.length + t225.length < 3518437208883 then ((some (y222 ++ t225 : List (S84))).bind fun y228 => ((aquiferref20_text.f 7 a0_6).bind fun t231 => (if y228.length + t231.length < 3518437208883 then ((some (y228 ++ t231 : List (S84))).bind fun y234 => ((aquiferref20_text.f 8 a0_7).bind fun t237 => (if y234.length + t237.length < 3518437208883 then ((aquiferref04_Encode.f k (y234 ++ t237)).bind fun bt243 => (some (bt243.1, bt243.2))) else (none)))) else (none)))) else (none)))) else (none)))) else (none))) = some (r1, r2) := by first | (rw [hy210]; with_reducible exact H) | (have H2_ := (Option.bind_some _ _).symm.trans H; rw [hy210]; with_reducible exact H2_) | (have H2_ := (Option.bind_some _ _).symm.trans H; with_reducible exact H2_) | with_reducible exact H | (rw [hy210]; exact H) | exact H
        have Ny210 := Aside0.mk hy210
        clear hy210
        replace H := Option.bind_eq_some_iff.mp H
        obtain ⟨t213, A90, H⟩ := H
        replace H : (if y210.length + t213.length < 3518437208883 then ((some (y210 ++ t213 : List (S84))).bind fun y216 => ((aquiferref20_number.f 5 a0_4).bind fun t219 => (if y216.length + t219.length < 3518437208883 then ((some (y216 ++ t219 : List (S84))).bind fun y222 => ((aquiferref20_number.f 6 a0_5).bind fun t225 => (if y222.length + t225.length < 3518437208883 then ((some (y222 ++ t225 : List (S84))).bind fun y228 => ((aquiferref20_text.f 7 a0_6).bind fun t231 => (if y228.length + t231.length < 3518437208883 then ((some (y228 ++ t231 : List (S84))).bind fun y234 => ((aquiferref20_text.f 8 a0_7).bind fun t237 => (if y234.length + t237.length < 3518437208883 then ((aquiferref04_Encode.f k (y234 ++ t237)).bind fun bt243 => (some (bt243.1, bt243.2))) else (none)))) else (none)))) else (none)))) else (none)))) else (none)) = some (r1, r2) := H
        have A9 := Aside0.mk A90
        clear A90
        by_cases c10 : y210.length + t213.length < 3518437208883
        · rw [if_pos c10] at H
          have LMc10 := Aside0.mk c10
          clear c10
          obtain ⟨y216, hy216⟩ : ∃ y_ : List (S84), y_ = (y210 ++ t213) := ⟨_, rfl⟩
          replace H : ((aquiferref20_number.f 5 a0_4).bind fun t219 => (if y216.length + t219.length < 3518437208883 then ((some (y216 ++ t219 : List (S84))).bind fun y222 => ((aquiferref20_number.f 6 a0_5).bind fun t225 => (if y222.length + t225.length < 3518437208883 then ((some (y222 ++ t225 : List (S84))).bind fun y228 => ((aquiferref20_text.f 7 a0_6).bind fun t231 => (if y228.length + t231.length < 3518437208883 then ((some (y228 ++ t231 : List (S84))).bind fun y234 => ((aquiferref20_text.f 8 a0_7).bind fun t237 => (if y234.length + t237.length < 3518437208883 then ((aquiferref04_Encode.f k (y234 ++ t237)).bind fun bt243 => (some (bt243.1, bt243.2))) else (none)))) else (none)))) else (none)))) else (none))) = some (r1, r2) := by first | (rw [hy216]; with_reducible exact H) | (have H2_ := (Option.bind_some _ _).symm.trans H; rw [hy216]; with_reducible exact H2_) | (have H2_ := (Option.bind_some _ _).symm.trans H; with_reducible exact H2_) | with_reducible exact H | (rw [hy216]; exact H) | exact H
          have Ny216 := Aside0.mk hy216
          clear hy216
          replace H := Option.bind_eq_some_iff.mp H
          obtain ⟨t219, A110, H⟩ := H
          replace H : (if y216.length + t219.length < 3518437208883 then ((some (y216 ++ t219 : List (S84))).bind fun y222 => ((aquiferref20_number.f 6 a0_5).bind fun t225 => (if y222.length + t225.length < 3518437208883 then ((some (y222 ++ t225 : List (S84))).bind fun y228 => ((aquiferref20_text.f 7 a0_6).bind fun t231 => (if y228.length + t231.length < 3518437208883 then ((some (y228 ++ t231 : List (S84))).bind fun y234 => ((aquiferref20_text.f 8 a0_7).bind fun t237 => (if y234.length + t237.length < 3518437208883 then ((aquiferref04_Encode.f k (y234 ++ t237)).bind fun bt243 => (some (bt243.1, bt243.2))) else (none)))) else (none)))) else (none)))) else (none)) = some (r1, r2) := H
          have A11 := Aside0.mk A110
          clear A110
          by_cases c12 : y216.length + t219.length < 3518437208883
          · rw [if_pos c12] at H
            have LMc12 := Aside0.mk c12
            clear c12
            obtain ⟨y222, hy222⟩ : ∃ y_ : List (S84), y_ = (y216 ++ t219) := ⟨_, rfl⟩
            replace H : ((aquiferref20_number.f 6 a0_5).bind fun t225 => (if y222.length + t225.length < 3518437208883 then ((some (y222 ++ t225 : List (S84))).bind fun y228 => ((aquiferref20_text.f 7 a0_6).bind fun t231 => (if y228.length + t231.length < 3518437208883 then ((some (y228 ++ t231 : List (S84))).bind fun y234 => ((aquiferref20_text.f 8 a0_7).bind fun t237 => (if y234.length + t237.length < 3518437208883 then ((aquiferref04_Encode.f k (y234 ++ t237)).bind fun bt243 => (some (bt243.1, bt243.2))) else (none)))) else (none)))) else (none))) = some (r1, r2) := by first | (rw [hy222]; with_reducible exact H) | (have H2_ := (Option.bind_some _ _).symm.trans H; rw [hy222]; with_reducible exact H2_) | (have H2_ := (Option.bind_some _ _).symm.trans H; with_reducible exact H2_) | with_reducible exact H | (rw [hy222]; exact H) | exact H
            have Ny222 := Aside0.mk hy222
            clear hy222
            replace H := Option.bind_eq_some_iff.mp H
            obtain ⟨t225, A130, H⟩ := H
            replace H : (if y222.length + t225.length < 3518437208883 then ((some (y222 ++ t225 : List (S84))).bind fun y228 => ((aquiferref20_text.f 7 a0_6).bind fun t231 => (if y228.length + t231.length < 3518437208883 then ((some (y228 ++ t231 : List (S84))).bind fun y234 => ((aquiferref20_text.f 8 a0_7).bind fun t237 => (if y234.length + t237.length < 3518437208883 then ((aquiferref04_Encode.f k (y234 ++ t237)).bind fun bt243 => (some (bt243.1, bt243.2))) else (none)))) else (none)))) else (none)) = some (r1, r2) := H
            have A13 := Aside0.mk A130
            clear A130
            by_cases c14 : y222.length + t225.length < 3518437208883
            · rw [if_pos c14] at H
              have LMc14 := Aside0.mk c14
              clear c14
              obtain ⟨y228, hy228⟩ : ∃ y_ : List (S84), y_ = (y222 ++ t225) := ⟨_, rfl⟩
              replace H : ((aquiferref20_text.f 7 a0_6).bind fun t231 => (if y228.length + t231.length < 3518437208883 then ((some (y228 ++ t231 : List (S84))).bind fun y234 => ((aquiferref20_text.f 8 a0_7).bind fun t237 => (if y234.length + t237.length < 3518437208883 then ((aquiferref04_Encode.f k (y234 ++ t237)).bind fun bt243 => (some (bt243.1, bt243.2))) else (none)))) else (none))) = some (r1, r2) := by first | (rw [hy228]; with_reducible exact H) | (have H2_ := (Option.bind_some _ _).symm.trans H; rw [hy228]; with_reducible exact H2_) | (have H2_ := (Option.bind_some _ _).symm.trans H; with_reducible exact H2_) | with_reducible exact H | (rw [hy228]; exact H) | exact H
              have Ny228 := Aside0.mk hy228
              clear hy228
              replace H := Option.bind_eq_some_iff.mp H
              obtain ⟨t231, A150, H⟩ := H
              replace H : (if y228.length + t231.length < 3518437208883 then ((some (y228 ++ t231 : List (S84))).bind fun y234 => ((aquiferref20_text.f 8 a0_7).bind fun t237 => (if y234.length + t237.length < 3518437208883 then ((aquiferref04_Encode.f k (y234 ++ t237)).bind fun bt243 => (some (bt243.1, bt243.2))) else (none)))) else (none)) = some (r1, r2) := H
              have A15 := Aside0.mk A150
              clear A150
              by_cases c16 : y228.length + t231.length < 3518437208883
              · rw [if_pos c16] at H
                have LMc16 := Aside0.mk c16
                clear c16
                obtain ⟨y234, hy234⟩ : ∃ y_ : List (S84), y_ = (y228 ++ t231) := ⟨_, rfl⟩
                replace H : ((aquiferref20_text.f 8 a0_7).bind fun t237 => (if y234.length + t237.length < 3518437208883 then ((aquiferref04_Encode.f k (y234 ++ t237)).bind fun bt243 => (some (bt243.1, bt243.2))) else (none))) = some (r1, r2) := by first | (rw [hy234]; with_reducible exact H) | (have H2_ := (Option.bind_some _ _).symm.trans H; rw [hy234]; with_reducible exact H2_) | (have H2_ := (Option.bind_some _ _).symm.trans H; with_reducible exact H2_) | with_reducible exact H | (rw [hy234]; exact H) | exact H
                have Ny234 := Aside0.mk hy234
                clear hy234
                replace H := Option.bind_eq_some_iff.mp H
                obtain ⟨t237, A170, H⟩ := H
                replace H : (if y234.length + t237.length < 3518437208883 then ((aquiferref04_Encode.f k (y234 ++ t237)).bind fun bt243 => (some (bt243.1, bt243.2))) else (none)) = some (r1, r2) := H
                have A17 := Aside0.mk A170
                clear A170
                by_cases c18 : y234.length + t237.length < 3518437208883
                · rw [if_pos c18] at H
                  have LMc18 := Aside0.mk c18
                  clear c18
                  obtain ⟨y240, hy240⟩ : ∃ y_ : List (S84), y_ = (y234 ++ t237) := ⟨_, rfl⟩
                  replace H : ((aquiferref04_Encode.f k y240).bind fun bt243 => (some (bt243.1, bt243.2))) = some (r1, r2) := by first | (rw [hy240]; with_reducible exact H) | (have H2_ := (Option.bind_some _ _).symm.trans H; rw [hy240]; with_reducible exact H2_) | (have H2_ := (Option.bind_some _ _).symm.trans H; with_reducible exact H2_) | with_reducible exact H | (rw [hy240]; exact H) | exact H
                  have Ny240 := Aside0.mk hy240
                  clear hy240
                  replace H := Option.bind_eq_some_iff.mp H
                  obtain ⟨⟨t243, t244⟩, A190, H⟩ := H
                  replace H : (some (t243, t244)) = some (r1, r2) := H
                  have A19 := Aside0.mk A190
                  clear A190
                  simp only [Option.some.injEq, Prod.mk.injEq] at H
                  obtain ⟨rfl, rfl⟩ := H
                  go_enter Try.func10, Try.ntmps10
                  go_wp2_with (first | ((with_reducible refine gate_dst (N := 1) rfl ?_); refine box_event ?hg (N := 1) ?hd (cs := #[.int .i64 a0_0, .int .i64 a0_1, .int .i64 a0_2, .int .i64 a0_3, .int .i64 a0_4, .int .i64 a0_5, .string a0_6, .string a0_7]) (t := 23) ?hr ?_; (case hd => rfl); (case hg => rfl); (case hr => first | (go_simp; done) | (go_simp; rfl)); intro gb196 hg w20 hbox hb; have n0_ := Aside0.mk (below_step (belU HB.out) hb); have n1_ := Aside0.mk (hbox); have n2_ := Aside0.mk ((by rw [hg]; exact (sizU HB.out) : w.heap.size ≤ gb196)); have n3_ := Aside0.mk ((by rw [hg]; exact (sizU HB.out) : w.heap.size ≤ gb196)); clear HB; have HB := n0_; have BK196 := n1_; have GW196 := n2_; have GE196 := n3_; clear n0_ n1_ n2_ n3_; clear hb hbox hg; have hcz21_0 : w20.cell? ⟨gb196, 0, none⟩ = some (.int .i64 a0_0) := (blk_cell BK196.out 0).trans rfl; have hcz21_1 : w20.cell? ⟨gb196, 1, none⟩ = some (.int .i64 a0_1) := (blk_cell BK196.out 1).trans rfl; have hcz21_2 : w20.cell? ⟨gb196, 2, none⟩ = some (.int .i64 a0_2) := (blk_cell BK196.out 2).trans rfl; have hcz21_3 : w20.cell? ⟨gb196, 3, none⟩ = some (.int .i64 a0_3) := (blk_cell BK196.out 3).trans rfl; have hcz21_4 : w20.cell? ⟨gb196, 4, none⟩ = some (.int .i64 a0_4) := (blk_cell BK196.out 4).trans rfl; have hcz21_5 : w20.cell? ⟨gb196, 5, none⟩ = some (.int .i64 a0_5) := (blk_cell BK196.out 5).trans rfl; have hcz21_6 : w20.cell? ⟨gb196, 6, none⟩ = some (.string a0_6) := (blk_cell BK196.out 6).trans rfl; have hcz21_7 : w20.cell? ⟨gb196, 7, none⟩ = some (.string a0_7) := (blk_cell BK196.out 7).trans rfl; have hfz21_0 := blk_frozen BK196.out 0; have hfz21_1 := blk_frozen BK196.out 1; have hfz21_2 := blk_frozen BK196.out 2; have hfz21_3 := blk_frozen BK196.out 3; have hfz21_4 := blk_frozen BK196.out 4; have hfz21_5 := blk_frozen BK196.out 5; have hfz21_6 := blk_frozen BK196.out 6; have hfz21_7 := blk_frozen BK196.out 7) | ((with_reducible refine gate_callee (f := 14) rfl ?_); refine goesL_ (some 7) rfl rfl Try.func14 (by kernel_rfl) rfl #[.agg #[.int .i64 a0_0, .int .i64 a0_1, .int .i64 a0_2, .int .i64 a0_3, .int .i64 a0_4, .int .i64 a0_5, .string a0_6, .string a0_7]] rfl (by (try simp only [List.map_toArray, List.map_cons, List.map_nil]); first | done | rfl | (simp only [List.length_drop, List.length_take]; rfl)) ?_; (with_reducible refine (aquiferref20_CheckRequest.calls a0_0 a0_1 a0_2 a0_3 a0_4 a0_5 a0_6 a0_7 t197 _ A2.out).mono ?_); rintro e w22 ⟨rfl, hb⟩; refine ⟨_, rfl, ?_⟩; have n0_ := Aside0.mk (blk_below (blkU BK196.out) hb); have n1_ := Aside0.mk (below_step (belG HB.out GE196.out) hb); clear BK196; clear HB; have BK196 := n0_; have HB := n1_; clear n0_ n1_; (try clear hb); (try clear hb2); (try clear hk); (try clear hi); have hcz23_0 : w22.cell? ⟨gb196, 0, none⟩ = some (.int .i64 a0_0) := (blk_cell BK196.out 0).trans rfl; have hcz23_1 : w22.cell? ⟨gb196, 1, none⟩ = some (.int .i64 a0_1) := (blk_cell BK196.out 1).trans rfl; have hcz23_2 : w22.cell? ⟨gb196, 2, none⟩ = some (.int .i64 a0_2) := (blk_cell BK196.out 2).trans rfl; have hcz23_3 : w22.cell? ⟨gb196, 3, none⟩ = some (.int .i64 a0_3) := (blk_cell BK196.out 3).trans rfl; have hcz23_4 : w22.cell? ⟨gb196, 4, none⟩ = some (.int .i64 a0_4) := (blk_cell BK196.out 4).trans rfl; have hcz23_5 : w22.cell? ⟨gb196, 5, none⟩ = some (.int .i64 a0_5) := (blk_cell BK196.out 5).trans rfl; have hcz23_6 : w22.cell? ⟨gb196, 6, none⟩ = some (.string a0_6) := (blk_cell BK196.out 6).trans rfl; have hcz23_7 : w22.cell? ⟨gb196, 7, none⟩ = some (.string a0_7) := (blk_cell BK196.out 7).trans rfl; have hfz23_0 := blk_frozen BK196.out 0; have hfz23_1 := blk_frozen BK196.out 1; have hfz23_2 := blk_frozen BK196.out 2; have hfz23_3 := blk_frozen BK196.out 3; have hfz23_4 := blk_frozen BK196.out 4; have hfz23_5 := blk_frozen BK196.out 5; have hfz23_6 := blk_frozen BK196.out 6; have hfz23_7 := blk_frozen BK196.out 7) | ((with_reducible refine gate_callee (f := 29) rfl ?_); refine goesL_ (some 13) rfl rfl Try.func29 (by kernel_rfl) rfl #[.int .i64 1, .int .i64 a0_0] rfl (by (try simp only [List.map_toArray, List.map_cons, List.map_nil]); first | done | rfl | (simp only [List.length_drop, List.length_take]; rfl)) ?_; (with_reducible refine (aquiferref20_number.calls 1 a0_0 t198 _ A4.out).mono ?_); rintro e w24 ⟨v199, rfl, ho0, hb⟩; refine ⟨_, rfl, ?_⟩; have n0_ := Aside0.mk (Kd.R_lower ho0 (sizG HB.out GE196.out)); have n1_ := Aside0.mk (blk_below (blkU BK196.out) hb); have n2_ := Aside0.mk (below_step (belG HB.out GE196.out) hb); clear BK196; clear HB; have HO200 := n0_; have BK196 := n1_; have HB := n2_; clear n0_ n1_ n2_; (try clear hb); (try clear hb2); (try clear hk); (try clear hi); (try clear ho0); have hcz25_0 : w24.cell? ⟨gb196, 0, none⟩ = some (.int .i64 a0_0) := (blk_cell BK196.out 0).trans rfl; have hcz25_1 : w24.cell? ⟨gb196, 1, none⟩ = some (.int .i64 a0_1) := (blk_cell BK196.out 1).trans rfl; have hcz25_2 : w24.cell? ⟨gb196, 2, none⟩ = some (.int .i64 a0_2) := (blk_cell BK196.out 2).trans rfl; have hcz25_3 : w24.cell? ⟨gb196, 3, none⟩ = some (.int .i64 a0_3) := (blk_cell BK196.out 3).trans rfl; have hcz25_4 : w24.cell? ⟨gb196, 4, none⟩ = some (.int .i64 a0_4) := (blk_cell BK196.out 4).trans rfl; have hcz25_5 : w24.cell? ⟨gb196, 5, none⟩ = some (.int .i64 a0_5) := (blk_cell BK196.out 5).trans rfl; have hcz25_6 : w24.cell? ⟨gb196, 6, none⟩ = some (.string a0_6) := (blk_cell BK196.out 6).trans rfl; have hcz25_7 : w24.cell? ⟨gb196, 7, none⟩ = some (.string a0_7) := (blk_cell BK196.out 7).trans rfl; have hfz25_0 := blk_frozen BK196.out 0; have hfz25_1 := blk_frozen BK196.out 1; have hfz25_2 := blk_frozen BK196.out 2; have hfz25_3 := blk_frozen BK196.out 3; have hfz25_4 := blk_frozen BK196.out 4; have hfz25_5 := blk_frozen BK196.out 5; have hfz25_6 := blk_frozen BK196.out 6; have hfz25_7 := blk_frozen BK196.out 7) | ((with_reducible refine gate_callee (f := 29) rfl ?_); refine goesL_ (some 17) rfl rfl Try.func29 (by kernel_rfl) rfl #[.int .i64 2, .int .i64 a0_1] rfl (by (try simp only [List.map_toArray, List.map_cons, List.map_nil]); first | done | rfl | (simp only [List.length_drop, List.length_take]; rfl)) ?_; (with_reducible refine (aquiferref20_number.calls 2 a0_1 t201 _ A5.out).mono ?_); rintro e w26 ⟨v202, rfl, ho0, hb⟩; refine ⟨_, rfl, ?_⟩; have n0_ := Aside0.mk (Kd.R_elder' (RU HO200.out) (Kd.R_base ho0) hb); have n1_ := Aside0.mk (Kd.R_lower (Kd.R_new' ho0 (Kd.R_lt (RU HO200.out))) (sizG HB.out GE196.out)); have n2_ := Aside0.mk (blk_below (blkU BK196.out) hb); have n3_ := Aside0.mk (below_step (belG HB.out GE196.out) hb); clear HO200; clear BK196; clear HB; have HO200 := n0_; have HO203 := n1_; have BK196 := n2_; have HB := n3_; clear n0_ n1_ n2_ n3_; (try clear hb); (try clear hb2); (try clear hk); (try clear hi); (try clear ho0); obtain ⟨Ao28, co28, eo28⟩ := Kd.R_slice HO203.out; subst eo28) | ((with_reducible refine gate_builtin (b := .append) (xs := #[.tmp 14, .tmp 17]) rfl ?_); at_builtin; refine Kd.R_append_rows k84 (w0 := w) w.heap.size rfl (.tmp 14) (.tmp 17) 57 84 (.agg #[(.int .i64 0), (.int .i64 0), (.int .i64 0), (.string ⟨#[]⟩)]) 40 rfl Try.underlying57 info84 rfl (by decide) (by omega) v199 t198 t201 _ _ _ (fun k_ => some k_ ≠ (.slice Ao28 t201.length co28 : Value).ownBlock) (fun _ => False) rfl rfl ?aO ?aR (fun _ _ h => h) (fun _ h => h.elim) ?aF ?aB ?aS ?aL ?_; (case aR => exact CU (Kd.R_reads' HO203.out).2.2); (case aB => exact (belG HB.out GE196.out)); (case aF => exact (fun k_ hk => Kd.fresh' (Kd.R_lt (RU HO203.out)) k_ hk)); (case aO => exact (by (with_reducible repeat (first | apply Kd.R_alloc | apply Kd.R_drewN | apply Kd.R_drew)); exact Kd.R_mono HO200.out (fun _ hk => hk.2))); (case aS => exact (sizG HB.out GE196.out)); (case aL => have := LMc6.out; omega); intro v205 w27 ho hb hg hat; rw [← Ny204.out] at ho; have n0_ := Aside0.mk (blk_grown (g := gb196) (o := .cells #[.int .i64 a0_0, .int .i64 a0_1, .int .i64 a0_2, .int .i64 a0_3, .int .i64 a0_4, .int .i64 a0_5, .string a0_6, .string a0_7] 23 (0, 0)) (blkU BK196.out) hg (Kd.R_ne HO200.out BK196.out (by decide))); have n1_ := Aside0.mk (Kd.R_after (ok := (fun _ => True)) (RU HO203.out) hg hat); have n2_ := Aside0.mk (hb); have n3_ := Aside0.mk (ho); clear BK196; clear HO203; clear HB; clear HO200; have BK196 := n0_; have HO203 := n1_; have HB := n2_; have HO206 := n3_; clear n0_ n1_ n2_ n3_; clear ho hb hg hat; have hcz29_0 : w27.cell? ⟨gb196, 0, none⟩ = some (.int .i64 a0_0) := (blk_cell BK196.out 0).trans rfl; have hcz29_1 : w27.cell? ⟨gb196, 1, none⟩ = some (.int .i64 a0_1) := (blk_cell BK196.out 1).trans rfl; have hcz29_2 : w27.cell? ⟨gb196, 2, none⟩ = some (.int .i64 a0_2) := (blk_cell BK196.out 2).trans rfl; have hcz29_3 : w27.cell? ⟨gb196, 3, none⟩ = some (.int .i64 a0_3) := (blk_cell BK196.out 3).trans rfl; have hcz29_4 : w27.cell? ⟨gb196, 4, none⟩ = some (.int .i64 a0_4) := (blk_cell BK196.out 4).trans rfl; have hcz29_5 : w27.cell? ⟨gb196, 5, none⟩ = some (.int .i64 a0_5) := (blk_cell BK196.out 5).trans rfl; have hcz29_6 : w27.cell? ⟨gb196, 6, none⟩ = some (.string a0_6) := (blk_cell BK196.out 6).trans rfl; have hcz29_7 : w27.cell? ⟨gb196, 7, none⟩ = some (.string a0_7) := (blk_cell BK196.out 7).trans rfl; have hfz29_0 := blk_frozen BK196.out 0; have hfz29_1 := blk_frozen BK196.out 1; have hfz29_2 := blk_frozen BK196.out 2; have hfz29_3 := blk_frozen BK196.out 3; have hfz29_4 := blk_frozen BK196.out 4; have hfz29_5 := blk_frozen BK196.out 5; have hfz29_6 := blk_frozen BK196.out 6; have hfz29_7 := blk_frozen BK196.out 7) | ((with_reducible refine gate_callee (f := 29) rfl ?_); refine goesL_ (some 22) rfl rfl Try.func29 (by kernel_rfl) rfl #[.int .i64 3, .int .i64 a0_2] rfl (by (try simp only [List.map_toArray, List.map_cons, List.map_nil]); first | done | rfl | (simp only [List.length_drop, List.length_take]; rfl)) ?_; (with_reducible refine (aquiferref20_number.calls 3 a0_2 t207 _ A7.out).mono ?_); rintro e w30 ⟨v208, rfl, ho0, hb⟩; refine ⟨_, rfl, ?_⟩; have n0_ := Aside0.mk (Kd.R_elder' (RU HO203.out) (Kd.R_base ho0) hb); have n1_ := Aside0.mk (Kd.R_elder' (RU HO206.out) (Kd.R_base ho0) hb); have n2_ := Aside0.mk (Kd.R_lower (Kd.R_new' (Kd.R_new' ho0 (Kd.R_lt (RU HO203.out))) (Kd.R_lt (RU HO206.out))) (sizG HB.out GE196.out)); have n3_ := Aside0.mk (blk_below (blkU BK196.out) hb); have n4_ := Aside0.mk (below_step (belG HB.out GE196.out) hb); clear HO203; clear HO206; clear BK196; clear HB; have HO203 := n0_; have HO206 := n1_; have HO209 := n2_; have BK196 := n3_; have HB := n4_; clear n0_ n1_ n2_ n3_ n4_; (try clear hb); (try clear hb2); (try clear hk); (try clear hi); (try clear ho0); obtain ⟨Ao32, co32, eo32⟩ := Kd.R_slice HO209.out; subst eo32) | ((with_reducible refine gate_builtin (b := .append) (xs := #[.tmp 19, .tmp 22]) rfl ?_); at_builtin; refine Kd.R_append_rows k84 (w0 := w) w.heap.size rfl (.tmp 19) (.tmp 22) 57 84 (.agg #[(.int .i64 0), (.int .i64 0), (.int .i64 0), (.string ⟨#[]⟩)]) 40 rfl Try.underlying57 info84 rfl (by decide) (by omega) v205 y204 t207 _ _ _ (fun k_ => some k_ ≠ (.slice Ao28 t201.length co28 : Value).ownBlock ∧ some k_ ≠ (.slice Ao32 t207.length co32 : Value).ownBlock) (fun _ => False) rfl rfl ?aO ?aR (fun _ _ h => h) (fun _ h => h.elim) ?aF ?aB ?aS ?aL ?_; (case aR => exact CU (Kd.R_reads' HO209.out).2.2); (case aB => exact (belG HB.out GE196.out)); (case aF => exact (fun k_ hk => ⟨Kd.fresh' (Kd.R_lt (RU HO203.out)) k_ hk, Kd.fresh' (Kd.R_lt (RU HO209.out)) k_ hk⟩)); (case aO => exact (RU HO206.out)); (case aS => exact (sizG HB.out GE196.out)); (case aL => have := LMc8.out; omega); intro v211 w31 ho hb hg hat; rw [← Ny210.out] at ho; have n0_ := Aside0.mk (blk_grown (g := gb196) (o := .cells #[.int .i64 a0_0, .int .i64 a0_1, .int .i64 a0_2, .int .i64 a0_3, .int .i64 a0_4, .int .i64 a0_5, .string a0_6, .string a0_7] 23 (0, 0)) (blkU BK196.out) hg (Kd.R_ne HO206.out BK196.out (by decide))); have n1_ := Aside0.mk (Kd.R_after (ok := (fun k_ => some k_ ≠ (.slice Ao32 t207.length co32 : Value).ownBlock)) (by (with_reducible repeat (first | apply Kd.R_alloc | apply Kd.R_drewN | apply Kd.R_drew)); exact Kd.R_mono HO203.out (fun _ hk => ⟨hk.2, hk.1.2⟩)) hg hat); have n2_ := Aside0.mk (Kd.R_after (ok := (fun k_ => some k_ ≠ (.slice Ao28 t201.length co28 : Value).ownBlock)) (by (with_reducible repeat (first | apply Kd.R_alloc | apply Kd.R_drewN | apply Kd.R_drew)); exact Kd.R_mono HO209.out (fun _ hk => ⟨hk.1.2, hk.2⟩)) hg hat); have n3_ := Aside0.mk (hb); have n4_ := Aside0.mk (ho); clear BK196; clear HO203; clear HO209; clear HB; clear HO206; have BK196 := n0_; have HO203 := n1_; have HO209 := n2_; have HB := n3_; have HO212 := n4_; clear n0_ n1_ n2_ n3_ n4_; clear ho hb hg hat; have hcz33_0 : w31.cell? ⟨gb196, 0, none⟩ = some (.int .i64 a0_0) := (blk_cell BK196.out 0).trans rfl; have hcz33_1 : w31.cell? ⟨gb196, 1, none⟩ = some (.int .i64 a0_1) := (blk_cell BK196.out 1).trans rfl; have hcz33_2 : w31.cell? ⟨gb196, 2, none⟩ = some (.int .i64 a0_2) := (blk_cell BK196.out 2).trans rfl; have hcz33_3 : w31.cell? ⟨gb196, 3, none⟩ = some (.int .i64 a0_3) := (blk_cell BK196.out 3).trans rfl; have hcz33_4 : w31.cell? ⟨gb196, 4, none⟩ = some (.int .i64 a0_4) := (blk_cell BK196.out 4).trans rfl; have hcz33_5 : w31.cell? ⟨gb196, 5, none⟩ = some (.int .i64 a0_5) := (blk_cell BK196.out 5).trans rfl; have hcz33_6 : w31.cell? ⟨gb196, 6, none⟩ = some (.string a0_6) := (blk_cell BK196.out 6).trans rfl; have hcz33_7 : w31.cell? ⟨gb196, 7, none⟩ = some (.string a0_7) := (blk_cell BK196.out 7).trans rfl; have hfz33_0 := blk_frozen BK196.out 0; have hfz33_1 := blk_frozen BK196.out 1; have hfz33_2 := blk_frozen BK196.out 2; have hfz33_3 := blk_frozen BK196.out 3; have hfz33_4 := blk_frozen BK196.out 4; have hfz33_5 := blk_frozen BK196.out 5; have hfz33_6 := blk_frozen BK196.out 6; have hfz33_7 := blk_frozen BK196.out 7) | ((with_reducible refine gate_callee (f := 29) rfl ?_); refine goesL_ (some 27) rfl rfl Try.func29 (by kernel_rfl) rfl #[.int .i64 4, .int .i64 a0_3] rfl (by (try simp only [List.map_toArray, List.map_cons, List.map_nil]); first | done | rfl | (simp only [List.length_drop, List.length_take]; rfl)) ?_; (with_reducible refine (aquiferref20_number.calls 4 a0_3 t213 _ A9.out).mono ?_); rintro e w34 ⟨v214, rfl, ho0, hb⟩; refine ⟨_, rfl, ?_⟩; have n0_ := Aside0.mk (Kd.R_elder' (RU HO203.out) (Kd.R_base ho0) hb); have n1_ := Aside0.mk (Kd.R_elder' (RU HO209.out) (Kd.R_base ho0) hb); have n2_ := Aside0.mk (Kd.R_elder' (RU HO212.out) (Kd.R_base ho0) hb); have n3_ := Aside0.mk (Kd.R_lower (Kd.R_new' (Kd.R_new' (Kd.R_new' ho0 (Kd.R_lt (RU HO203.out))) (Kd.R_lt (RU HO209.out))) (Kd.R_lt (RU HO212.out))) (sizG HB.out GE196.out)); have n4_ := Aside0.mk (blk_below (blkU BK196.out) hb); have n5_ := Aside0.mk (below_step (belG HB.out GE196.out) hb); clear HO203; clear HO209; clear HO212; clear BK196; clear HB; have HO203 := n0_; have HO209 := n1_; have HO212 := n2_; have HO215 := n3_; have BK196 := n4_; have HB := n5_; clear n0_ n1_ n2_ n3_ n4_ n5_; (try clear hb); (try clear hb2); (try clear hk); (try clear hi); (try clear ho0); obtain ⟨Ao36, co36, eo36⟩ := Kd.R_slice HO215.out; subst eo36) | ((with_reducible refine gate_builtin (b := .append) (xs := #[.tmp 24, .tmp 27]) rfl ?_); at_builtin; refine Kd.R_append_rows k84 (w0 := w) w.heap.size rfl (.tmp 24) (.tmp 27) 57 84 (.agg #[(.int .i64 0), (.int .i64 0), (.int .i64 0), (.string ⟨#[]⟩)]) 40 rfl Try.underlying57 info84 rfl (by decide) (by omega) v211 y210 t213 _ _ _ (fun k_ => some k_ ≠ (.slice Ao28 t201.length co28 : Value).ownBlock ∧ some k_ ≠ (.slice Ao32 t207.length co32 : Value).ownBlock ∧ some k_ ≠ (.slice Ao36 t213.length co36 : Value).ownBlock) (fun _ => False) rfl rfl ?aO ?aR (fun _ _ h => h) (fun _ h => h.elim) ?aF ?aB ?aS ?aL ?_; (case aR => exact CU (Kd.R_reads' HO215.out).2.2); (case aB => exact (belG HB.out GE196.out)); (case aF => exact (fun k_ hk => ⟨Kd.fresh' (Kd.R_lt (RU HO203.out)) k_ hk, Kd.fresh' (Kd.R_lt (RU HO209.out)) k_ hk, Kd.fresh' (Kd.R_lt (RU HO215.out)) k_ hk⟩)); (case aO => exact (by (with_reducible repeat (first | apply Kd.R_alloc | apply Kd.R_drewN | apply Kd.R_drew)); exact Kd.R_mono HO212.out (fun _ hk => ⟨hk.1.1, ⟨hk.1.2, hk.2⟩⟩))); (case aS => exact (sizG HB.out GE196.out)); (case aL => have := LMc10.out; omega); intro v217 w35 ho hb hg hat; rw [← Ny216.out] at ho; have n0_ := Aside0.mk (blk_grown (g := gb196) (o := .cells #[.int .i64 a0_0, .int .i64 a0_1, .int .i64 a0_2, .int .i64 a0_3, .int .i64 a0_4, .int .i64 a0_5, .string a0_6, .string a0_7] 23 (0, 0)) (blkU BK196.out) hg (Kd.R_ne HO212.out BK196.out (by decide))); have n1_ := Aside0.mk (Kd.R_after (ok := (fun k_ => some k_ ≠ (.slice Ao32 t207.length co32 : Value).ownBlock ∧ some k_ ≠ (.slice Ao36 t213.length co36 : Value).ownBlock)) (by (with_reducible repeat (first | apply Kd.R_alloc | apply Kd.R_drewN | apply Kd.R_drew)); exact Kd.R_mono HO203.out (fun _ hk => ⟨⟨hk.1.1, hk.2⟩, hk.1.2⟩)) hg hat); have n2_ := Aside0.mk (Kd.R_after (ok := (fun k_ => some k_ ≠ (.slice Ao28 t201.length co28 : Value).ownBlock ∧ some k_ ≠ (.slice Ao36 t213.length co36 : Value).ownBlock)) (by (with_reducible repeat (first | apply Kd.R_alloc | apply Kd.R_drewN | apply Kd.R_drew)); exact Kd.R_mono HO209.out (fun _ hk => ⟨⟨hk.1.1, hk.2⟩, hk.1.2⟩)) hg hat); have n3_ := Aside0.mk (Kd.R_after (ok := (fun k_ => some k_ ≠ (.slice Ao28 t201.length co28 : Value).ownBlock ∧ some k_ ≠ (.slice Ao32 t207.length co32 : Value).ownBlock)) (by (with_reducible repeat (first | apply Kd.R_alloc | apply Kd.R_drewN | apply Kd.R_drew)); exact Kd.R_mono HO215.out (fun _ hk => ⟨⟨hk.1.1.2, hk.1.2⟩, hk.2⟩)) hg hat); have n4_ := Aside0.mk (hb); have n5_ := Aside0.mk (ho); clear BK196; clear HO203; clear HO209; clear HO215; clear HB; clear HO212; have BK196 := n0_; have HO203 := n1_; have HO209 := n2_; have HO215 := n3_; have HB := n4_; have HO218 := n5_; clear n0_ n1_ n2_ n3_ n4_ n5_; clear ho hb hg hat; have hcz37_0 : w35.cell? ⟨gb196, 0, none⟩ = some (.int .i64 a0_0) := (blk_cell BK196.out 0).trans rfl; have hcz37_1 : w35.cell? ⟨gb196, 1, none⟩ = some (.int .i64 a0_1) := (blk_cell BK196.out 1).trans rfl; have hcz37_2 : w35.cell? ⟨gb196, 2, none⟩ = some (.int .i64 a0_2) := (blk_cell BK196.out 2).trans rfl; have hcz37_3 : w35.cell? ⟨gb196, 3, none⟩ = some (.int .i64 a0_3) := (blk_cell BK196.out 3).trans rfl; have hcz37_4 : w35.cell? ⟨gb196, 4, none⟩ = some (.int .i64 a0_4) := (blk_cell BK196.out 4).trans rfl; have hcz37_5 : w35.cell? ⟨gb196, 5, none⟩ = some (.int .i64 a0_5) := (blk_cell BK196.out 5).trans rfl; have hcz37_6 : w35.cell? ⟨gb196, 6, none⟩ = some (.string a0_6) := (blk_cell BK196.out 6).trans rfl; have hcz37_7 : w35.cell? ⟨gb196, 7, none⟩ = some (.string a0_7) := (blk_cell BK196.out 7).trans rfl; have hfz37_0 := blk_frozen BK196.out 0; have hfz37_1 := blk_frozen BK196.out 1; have hfz37_2 := blk_frozen BK196.out 2; have hfz37_3 := blk_frozen BK196.out 3; have hfz37_4 := blk_frozen BK196.out 4; have hfz37_5 := blk_frozen BK196.out 5; have hfz37_6 := blk_frozen BK196.out 6; have hfz37_7 := blk_frozen BK196.out 7) | ((with_reducible refine gate_callee (f := 29) rfl ?_); refine goesL_ (some 32) rfl rfl Try.func29 (by kernel_rfl) rfl #[.int .i64 5, .int .i64 a0_4] rfl (by (try simp only [List.map_toArray, List.map_cons, List.map_nil]); first | done | rfl | (simp only [List.length_drop, List.length_take]; rfl)) ?_; (with_reducible refine (aquiferref20_number.calls 5 a0_4 t219 _ A11.out).mono ?_); rintro e w38 ⟨v220, rfl, ho0, hb⟩; refine ⟨_, rfl, ?_⟩; have n0_ := Aside0.mk (Kd.R_elder' (RU HO203.out) (Kd.R_base ho0) hb); have n1_ := Aside0.mk (Kd.R_elder' (RU HO209.out) (Kd.R_base ho0) hb); have n2_ := Aside0.mk (Kd.R_elder' (RU HO215.out) (Kd.R_base ho0) hb); have n3_ := Aside0.mk (Kd.R_elder' (RU HO218.out) (Kd.R_base ho0) hb); have n4_ := Aside0.mk (Kd.R_lower (Kd.R_new' (Kd.R_new' (Kd.R_new' (Kd.R_new' ho0 (Kd.R_lt (RU HO203.out))) (Kd.R_lt (RU HO209.out))) (Kd.R_lt (RU HO215.out))) (Kd.R_lt (RU HO218.out))) (sizG HB.out GE196.out)); have n5_ := Aside0.mk (blk_below (blkU BK196.out) hb); have n6_ := Aside0.mk (below_step (belG HB.out GE196.out) hb); clear HO203; clear HO209; clear HO215; clear HO218; clear BK196; clear HB; have HO203 := n0_; have HO209 := n1_; have HO215 := n2_; have HO218 := n3_; have HO221 := n4_; have BK196 := n5_; have HB := n6_; clear n0_ n1_ n2_ n3_ n4_ n5_ n6_; (try clear hb); (try clear hb2); (try clear hk); (try clear hi); (try clear ho0); obtain ⟨Ao40, co40, eo40⟩ := Kd.R_slice HO221.out; subst eo40) | ((with_reducible refine gate_builtin (b := .append) (xs := #[.tmp 29, .tmp 32]) rfl ?_); at_builtin; refine Kd.R_append_rows k84 (w0 := w) w.heap.size rfl (.tmp 29) (.tmp 32) 57 84 (.agg #[(.int .i64 0), (.int .i64 0), (.int .i64 0), (.string ⟨#[]⟩)]) 40 rfl Try.underlying57 info84 rfl (by decide) (by omega) v217 y216 t219 _ _ _ (fun k_ => some k_ ≠ (.slice Ao28 t201.length co28 : Value).ownBlock ∧ some k_ ≠ (.slice Ao32 t207.length co32 : Value).ownBlock ∧ some k_ ≠ (.slice Ao36 t213.length co36 : Value).ownBlock ∧ some k_ ≠ (.slice Ao40 t219.length co40 : Value).ownBlock) (fun _ => False) rfl rfl ?aO ?aR (fun _ _ h => h) (fun _ h => h.elim) ?aF ?aB ?aS ?aL ?_; (case aR => exact CU (Kd.R_reads' HO221.out).2.2); (case aB => exact (belG HB.out GE196.out)); (case aF => exact (fun k_ hk => ⟨Kd.fresh' (Kd.R_lt (RU HO203.out)) k_ hk, Kd.fresh' (Kd.R_lt (RU HO209.out)) k_ hk, Kd.fresh' (Kd.R_lt (RU HO215.out)) k_ hk, Kd.fresh' (Kd.R_lt (RU HO221.out)) k_ hk⟩)); (case aO => exact (by (with_reducible repeat (first | apply Kd.R_alloc | apply Kd.R_drewN | apply Kd.R_drew)); exact Kd.R_mono HO218.out (fun _ hk => ⟨hk.1.1, ⟨hk.1.2.1, ⟨hk.1.2.2, hk.2⟩⟩⟩))); (case aS => exact (sizG HB.out GE196.out)); (case aL => have := LMc12.out; omega); intro v223 w39 ho hb hg hat; rw [← Ny222.out] at ho; have n0_ := Aside0.mk (blk_grown (g := gb196) (o := .cells #[.int .i64 a0_0, .int .i64 a0_1, .int .i64 a0_2, .int .i64 a0_3, .int .i64 a0_4, .int .i64 a0_5, .string a0_6, .string a0_7] 23 (0, 0)) (blkU BK196.out) hg (Kd.R_ne HO218.out BK196.out (by decide))); have n1_ := Aside0.mk (Kd.R_after (ok := (fun k_ => some k_ ≠ (.slice Ao32 t207.length co32 : Value).ownBlock ∧ some k_ ≠ (.slice Ao36 t213.length co36 : Value).ownBlock ∧ some k_ ≠ (.slice Ao40 t219.length co40 : Value).ownBlock)) (by (with_reducible repeat (first | apply Kd.R_alloc | apply Kd.R_drewN | apply Kd.R_drew)); exact Kd.R_mono HO203.out (fun _ hk => ⟨⟨hk.1.1.1, ⟨hk.1.1.2, hk.2⟩⟩, hk.1.2⟩)) hg hat); have n2_ := Aside0.mk (Kd.R_after (ok := (fun k_ => some k_ ≠ (.slice Ao28 t201.length co28 : Value).ownBlock ∧ some k_ ≠ (.slice Ao36 t213.length co36 : Value).ownBlock ∧ some k_ ≠ (.slice Ao40 t219.length co40 : Value).ownBlock)) (by (with_reducible repeat (first | apply Kd.R_alloc | apply Kd.R_drewN | apply Kd.R_drew)); exact Kd.R_mono HO209.out (fun _ hk => ⟨⟨hk.1.1.1, ⟨hk.1.1.2, hk.2⟩⟩, hk.1.2⟩)) hg hat); have n3_ := Aside0.mk (Kd.R_after (ok := (fun k_ => some k_ ≠ (.slice Ao28 t201.length co28 : Value).ownBlock ∧ some k_ ≠ (.slice Ao32 t207.length co32 : Value).ownBlock ∧ some k_ ≠ (.slice Ao40 t219.length co40 : Value).ownBlock)) (by (with_reducible repeat (first | apply Kd.R_alloc | apply Kd.R_drewN | apply Kd.R_drew)); exact Kd.R_mono HO215.out (fun _ hk => ⟨⟨hk.1.1.1, ⟨hk.1.1.2, hk.2⟩⟩, hk.1.2⟩)) hg hat); have n4_ := Aside0.mk (Kd.R_after (ok := (fun k_ => some k_ ≠ (.slice Ao28 t201.length co28 : Value).ownBlock ∧ some k_ ≠ (.slice Ao32 t207.length co32 : Value).ownBlock ∧ some k_ ≠ (.slice Ao36 t213.length co36 : Value).ownBlock)) (by (with_reducible repeat (first | apply Kd.R_alloc | apply Kd.R_drewN | apply Kd.R_drew)); exact Kd.R_mono HO221.out (fun _ hk => ⟨⟨hk.1.1.1.2, ⟨hk.1.1.2, hk.1.2⟩⟩, hk.2⟩)) hg hat); have n5_ := Aside0.mk (hb); have n6_ := Aside0.mk (ho); clear BK196; clear HO203; clear HO209; clear HO215; clear HO221; clear HB; clear HO218; have BK196 := n0_; have HO203 := n1_; have HO209 := n2_; have HO215 := n3_; have HO221 := n4_; have HB := n5_; have HO224 := n6_; clear n0_ n1_ n2_ n3_ n4_ n5_ n6_; clear ho hb hg hat; have hcz41_0 : w39.cell? ⟨gb196, 0, none⟩ = some (.int .i64 a0_0) := (blk_cell BK196.out 0).trans rfl; have hcz41_1 : w39.cell? ⟨gb196, 1, none⟩ = some (.int .i64 a0_1) := (blk_cell BK196.out 1).trans rfl; have hcz41_2 : w39.cell? ⟨gb196, 2, none⟩ = some (.int .i64 a0_2) := (blk_cell BK196.out 2).trans rfl; have hcz41_3 : w39.cell? ⟨gb196, 3, none⟩ = some (.int .i64 a0_3) := (blk_cell BK196.out 3).trans rfl; have hcz41_4 : w39.cell? ⟨gb196, 4, none⟩ = some (.int .i64 a0_4) := (blk_cell BK196.out 4).trans rfl; have hcz41_5 : w39.cell? ⟨gb196, 5, none⟩ = some (.int .i64 a0_5) := (blk_cell BK196.out 5).trans rfl; have hcz41_6 : w39.cell? ⟨gb196, 6, none⟩ = some (.string a0_6) := (blk_cell BK196.out 6).trans rfl; have hcz41_7 : w39.cell? ⟨gb196, 7, none⟩ = some (.string a0_7) := (blk_cell BK196.out 7).trans rfl; have hfz41_0 := blk_frozen BK196.out 0; have hfz41_1 := blk_frozen BK196.out 1; have hfz41_2 := blk_frozen BK196.out 2; have hfz41_3 := blk_frozen BK196.out 3; have hfz41_4 := blk_frozen BK196.out 4; have hfz41_5 := blk_frozen BK196.out 5; have hfz41_6 := blk_frozen BK196.out 6; have hfz41_7 := blk_frozen BK196.out 7) | ((with_reducible refine gate_callee (f := 29) rfl ?_); refine goesL_ (some 37) rfl rfl Try.func29 (by kernel_rfl) rfl #[.int .i64 6, .int .i64 a0_5] rfl (by (try simp only [List.map_toArray, List.map_cons, List.map_nil]); first | done | rfl | (simp only [List.length_drop, List.length_take]; rfl)) ?_; (with_reducible refine (aquiferref20_number.calls 6 a0_5 t225 _ A13.out).mono ?_); rintro e w42 ⟨v226, rfl, ho0, hb⟩; refine ⟨_, rfl, ?_⟩; have n0_ := Aside0.mk (Kd.R_elder' (RU HO203.out) (Kd.R_base ho0) hb); have n1_ := Aside0.mk (Kd.R_elder' (RU HO209.out) (Kd.R_base ho0) hb); have n2_ := Aside0.mk (Kd.R_elder' (RU HO215.out) (Kd.R_base ho0) hb); have n3_ := Aside0.mk (Kd.R_elder' (RU HO221.out) (Kd.R_base ho0) hb); have n4_ := Aside0.mk (Kd.R_elder' (RU HO224.out) (Kd.R_base ho0) hb); have n5_ := Aside0.mk (Kd.R_lower (Kd.R_new' (Kd.R_new' (Kd.R_new' (Kd.R_new' (Kd.R_new' ho0 (Kd.R_lt (RU HO203.out))) (Kd.R_lt (RU HO209.out))) (Kd.R_lt (RU HO215.out))) (Kd.R_lt (RU HO221.out))) (Kd.R_lt (RU HO224.out))) (sizG HB.out GE196.out)); have n6_ := Aside0.mk (blk_below (blkU BK196.out) hb); have n7_ := Aside0.mk (below_step (belG HB.out GE196.out) hb); clear HO203; clear HO209; clear HO215; clear HO221; clear HO224; clear BK196; clear HB; have HO203 := n0_; have HO209 := n1_; have HO215 := n2_; have HO221 := n3_; have HO224 := n4_; have HO227 := n5_; have BK196 := n6_; have HB := n7_; clear n0_ n1_ n2_ n3_ n4_ n5_ n6_ n7_; (try clear hb); (try clear hb2); (try clear hk); (try clear hi); (try clear ho0); obtain ⟨Ao44, co44, eo44⟩ := Kd.R_slice HO227.out; subst eo44) | ((with_reducible refine gate_builtin (b := .append) (xs := #[.tmp 34, .tmp 37]) rfl ?_); at_builtin; refine Kd.R_append_rows k84 (w0 := w) w.heap.size rfl (.tmp 34) (.tmp 37) 57 84 (.agg #[(.int .i64 0), (.int .i64 0), (.int .i64 0), (.string ⟨#[]⟩)]) 40 rfl Try.underlying57 info84 rfl (by decide) (by omega) v223 y222 t225 _ _ _ (fun k_ => some k_ ≠ (.slice Ao28 t201.length co28 : Value).ownBlock ∧ some k_ ≠ (.slice Ao32 t207.length co32 : Value).ownBlock ∧ some k_ ≠ (.slice Ao36 t213.length co36 : Value).ownBlock ∧ some k_ ≠ (.slice Ao40 t219.length co40 : Value).ownBlock ∧ some k_ ≠ (.slice Ao44 t225.length co44 : Value).ownBlock) (fun _ => False) rfl rfl ?aO ?aR (fun _ _ h => h) (fun _ h => h.elim) ?aF ?aB ?aS ?aL ?_; (case aR => exact CU (Kd.R_reads' HO227.out).2.2); (case aB => exact (belG HB.out GE196.out)); (case aF => exact (fun k_ hk => ⟨Kd.fresh' (Kd.R_lt (RU HO203.out)) k_ hk, Kd.fresh' (Kd.R_lt (RU HO209.out)) k_ hk, Kd.fresh' (Kd.R_lt (RU HO215.out)) k_ hk, Kd.fresh' (Kd.R_lt (RU HO221.out)) k_ hk, Kd.fresh' (Kd.R_lt (RU HO227.out)) k_ hk⟩)); (case aO => exact (by (with_reducible repeat (first | apply Kd.R_alloc | apply Kd.R_drewN | apply Kd.R_drew)); exact Kd.R_mono HO224.out (fun _ hk => ⟨hk.1.1, ⟨hk.1.2.1, ⟨hk.1.2.2.1, ⟨hk.1.2.2.2, hk.2⟩⟩⟩⟩))); (case aS => exact (sizG HB.out GE196.out)); (case aL => have := LMc14.out; omega); intro v229 w43 ho hb hg hat; rw [← Ny228.out] at ho; have n0_ := Aside0.mk (blk_grown (g := gb196) (o := .cells #[.int .i64 a0_0, .int .i64 a0_1, .int .i64 a0_2, .int .i64 a0_3, .int .i64 a0_4, .int .i64 a0_5, .string a0_6, .string a0_7] 23 (0, 0)) (blkU BK196.out) hg (Kd.R_ne HO224.out BK196.out (by decide))); have n1_ := Aside0.mk (Kd.R_after (ok := (fun k_ => some k_ ≠ (.slice Ao32 t207.length co32 : Value).ownBlock ∧ some k_ ≠ (.slice Ao36 t213.length co36 : Value).ownBlock ∧ some k_ ≠ (.slice Ao40 t219.length co40 : Value).ownBlock ∧ some k_ ≠ (.slice Ao44 t225.length co44 : Value).ownBlock)) (by (with_reducible repeat (first | apply Kd.R_alloc | apply Kd.R_drewN | apply Kd.R_drew)); exact Kd.R_mono HO203.out (fun _ hk => ⟨⟨hk.1.1.1, ⟨hk.1.1.2.1, ⟨hk.1.1.2.2, hk.2⟩⟩⟩, hk.1.2⟩)) hg hat); have n2_ := Aside0.mk (Kd.R_after (ok := (fun k_ => some k_ ≠ (.slice Ao28 t201.length co28 : Value).ownBlock ∧ some k_ ≠ (.slice Ao36 t213.length co36 : Value).ownBlock ∧ some k_ ≠ (.slice Ao40 t219.length co40 : Value).ownBlock ∧ some k_ ≠ (.slice Ao44 t225.length co44 : Value).ownBlock)) (by (with_reducible repeat (first | apply Kd.R_alloc | apply Kd.R_drewN | apply Kd.R_drew)); exact Kd.R_mono HO209.out (fun _ hk => ⟨⟨hk.1.1.1, ⟨hk.1.1.2.1, ⟨hk.1.1.2.2, hk.2⟩⟩⟩, hk.1.2⟩)) hg hat); have n3_ := Aside0.mk (Kd.R_after (ok := (fun k_ => some k_ ≠ (.slice Ao28 t201.length co28 : Value).ownBlock ∧ some k_ ≠ (.slice Ao32 t207.length co32 : Value).ownBlock ∧ some k_ ≠ (.slice Ao40 t219.length co40 : Value).ownBlock ∧ some k_ ≠ (.slice Ao44 t225.length co44 : Value).ownBlock)) (by (with_reducible repeat (first | apply Kd.R_alloc | apply Kd.R_drewN | apply Kd.R_drew)); exact Kd.R_mono HO215.out (fun _ hk => ⟨⟨hk.1.1.1, ⟨hk.1.1.2.1, ⟨hk.1.1.2.2, hk.2⟩⟩⟩, hk.1.2⟩)) hg hat); have n4_ := Aside0.mk (Kd.R_after (ok := (fun k_ => some k_ ≠ (.slice Ao28 t201.length co28 : Value).ownBlock ∧ some k_ ≠ (.slice Ao32 t207.length co32 : Value).ownBlock ∧ some k_ ≠ (.slice Ao36 t213.length co36 : Value).ownBlock ∧ some k_ ≠ (.slice Ao44 t225.length co44 : Value).ownBlock)) (by (with_reducible repeat (first | apply Kd.R_alloc | apply Kd.R_drewN | apply Kd.R_drew)); exact Kd.R_mono HO221.out (fun _ hk => ⟨⟨hk.1.1.1, ⟨hk.1.1.2.1, ⟨hk.1.1.2.2, hk.2⟩⟩⟩, hk.1.2⟩)) hg hat); have n5_ := Aside0.mk (Kd.R_after (ok := (fun k_ => some k_ ≠ (.slice Ao28 t201.length co28 : Value).ownBlock ∧ some k_ ≠ (.slice Ao32 t207.length co32 : Value).ownBlock ∧ some k_ ≠ (.slice Ao36 t213.length co36 : Value).ownBlock ∧ some k_ ≠ (.slice Ao40 t219.length co40 : Value).ownBlock)) (by (with_reducible repeat (first | apply Kd.R_alloc | apply Kd.R_drewN | apply Kd.R_drew)); exact Kd.R_mono HO227.out (fun _ hk => ⟨⟨hk.1.1.1.1.2, ⟨hk.1.1.1.2, ⟨hk.1.1.2, hk.1.2⟩⟩⟩, hk.2⟩)) hg hat); have n6_ := Aside0.mk (hb); have n7_ := Aside0.mk (ho); clear BK196; clear HO203; clear HO209; clear HO215; clear HO221; clear HO227; clear HB; clear HO224; have BK196 := n0_; have HO203 := n1_; have HO209 := n2_; have HO215 := n3_; have HO221 := n4_; have HO227 := n5_; have HB := n6_; have HO230 := n7_; clear n0_ n1_ n2_ n3_ n4_ n5_ n6_ n7_; clear ho hb hg hat; have hcz45_0 : w43.cell? ⟨gb196, 0, none⟩ = some (.int .i64 a0_0) := (blk_cell BK196.out 0).trans rfl; have hcz45_1 : w43.cell? ⟨gb196, 1, none⟩ = some (.int .i64 a0_1) := (blk_cell BK196.out 1).trans rfl; have hcz45_2 : w43.cell? ⟨gb196, 2, none⟩ = some (.int .i64 a0_2) := (blk_cell BK196.out 2).trans rfl; have hcz45_3 : w43.cell? ⟨gb196, 3, none⟩ = some (.int .i64 a0_3) := (blk_cell BK196.out 3).trans rfl; have hcz45_4 : w43.cell? ⟨gb196, 4, none⟩ = some (.int .i64 a0_4) := (blk_cell BK196.out 4).trans rfl; have hcz45_5 : w43.cell? ⟨gb196, 5, none⟩ = some (.int .i64 a0_5) := (blk_cell BK196.out 5).trans rfl; have hcz45_6 : w43.cell? ⟨gb196, 6, none⟩ = some (.string a0_6) := (blk_cell BK196.out 6).trans rfl; have hcz45_7 : w43.cell? ⟨gb196, 7, none⟩ = some (.string a0_7) := (blk_cell BK196.out 7).trans rfl; have hfz45_0 := blk_frozen BK196.out 0; have hfz45_1 := blk_frozen BK196.out 1; have hfz45_2 := blk_frozen BK196.out 2; have hfz45_3 := blk_frozen BK196.out 3; have hfz45_4 := blk_frozen BK196.out 4; have hfz45_5 := blk_frozen BK196.out 5; have hfz45_6 := blk_frozen BK196.out 6; have hfz45_7 := blk_frozen BK196.out 7) | ((with_reducible refine gate_callee (f := 30) rfl ?_); refine goesL_ (some 42) rfl rfl Try.func30 (by kernel_rfl) rfl #[.int .i64 7, .string a0_6] rfl (by (try simp only [List.map_toArray, List.map_cons, List.map_nil]); first | done | rfl | (simp only [List.length_drop, List.length_take]; rfl)) ?_; (with_reducible refine (aquiferref20_text.calls 7 a0_6 t231 _ A15.out).mono ?_); rintro e w46 ⟨v232, rfl, ho0, hb⟩; refine ⟨_, rfl, ?_⟩; have n0_ := Aside0.mk (Kd.R_elder' (RU HO203.out) (Kd.R_base ho0) hb); have n1_ := Aside0.mk (Kd.R_elder' (RU HO209.out) (Kd.R_base ho0) hb); have n2_ := Aside0.mk (Kd.R_elder' (RU HO215.out) (Kd.R_base ho0) hb); have n3_ := Aside0.mk (Kd.R_elder' (RU HO221.out) (Kd.R_base ho0) hb); have n4_ := Aside0.mk (Kd.R_elder' (RU HO227.out) (Kd.R_base ho0) hb); have n5_ := Aside0.mk (Kd.R_elder' (RU HO230.out) (Kd.R_base ho0) hb); have n6_ := Aside0.mk (Kd.R_lower (Kd.R_new' (Kd.R_new' (Kd.R_new' (Kd.R_new' (Kd.R_new' (Kd.R_new' ho0 (Kd.R_lt (RU HO203.out))) (Kd.R_lt (RU HO209.out))) (Kd.R_lt (RU HO215.out))) (Kd.R_lt (RU HO221.out))) (Kd.R_lt (RU HO227.out))) (Kd.R_lt (RU HO230.out))) (sizG HB.out GE196.out)); have n7_ := Aside0.mk (blk_below (blkU BK196.out) hb); have n8_ := Aside0.mk (below_step (belG HB.out GE196.out) hb); clear HO203; clear HO209; clear HO215; clear HO221; clear HO227; clear HO230; clear BK196; clear HB; have HO203 := n0_; have HO209 := n1_; have HO215 := n2_; have HO221 := n3_; have HO227 := n4_; have HO230 := n5_; have HO233 := n6_; have BK196 := n7_; have HB := n8_; clear n0_ n1_ n2_ n3_ n4_ n5_ n6_ n7_ n8_; (try clear hb); (try clear hb2); (try clear hk); (try clear hi); (try clear ho0); obtain ⟨Ao48, co48, eo48⟩ := Kd.R_slice HO233.out; subst eo48) | ((with_reducible refine gate_builtin (b := .append) (xs := #[.tmp 39, .tmp 42]) rfl ?_); at_builtin; refine Kd.R_append_rows k84 (w0 := w) w.heap.size rfl (.tmp 39) (.tmp 42) 57 84 (.agg #[(.int .i64 0), (.int .i64 0), (.int .i64 0), (.string ⟨#[]⟩)]) 40 rfl Try.underlying57 info84 rfl (by decide) (by omega) v229 y228 t231 _ _ _ (fun k_ => some k_ ≠ (.slice Ao28 t201.length co28 : Value).ownBlock ∧ some k_ ≠ (.slice Ao32 t207.length co32 : Value).ownBlock ∧ some k_ ≠ (.slice Ao36 t213.length co36 : Value).ownBlock ∧ some k_ ≠ (.slice Ao40 t219.length co40 : Value).ownBlock ∧ some k_ ≠ (.slice Ao44 t225.length co44 : Value).ownBlock ∧ some k_ ≠ (.slice Ao48 t231.length co48 : Value).ownBlock) (fun _ => False) rfl rfl ?aO ?aR (fun _ _ h => h) (fun _ h => h.elim) ?aF ?aB ?aS ?aL ?_; (case aR => exact CU (Kd.R_reads' HO233.out).2.2); (case aB => exact (belG HB.out GE196.out)); (case aF => exact (fun k_ hk => ⟨Kd.fresh' (Kd.R_lt (RU HO203.out)) k_ hk, Kd.fresh' (Kd.R_lt (RU HO209.out)) k_ hk, Kd.fresh' (Kd.R_lt (RU HO215.out)) k_ hk, Kd.fresh' (Kd.R_lt (RU HO221.out)) k_ hk, Kd.fresh' (Kd.R_lt (RU HO227.out)) k_ hk, Kd.fresh' (Kd.R_lt (RU HO233.out)) k_ hk⟩)); (case aO => exact (by (with_reducible repeat (first | apply Kd.R_alloc | apply Kd.R_drewN | apply Kd.R_drew)); exact Kd.R_mono HO230.out (fun _ hk => ⟨hk.1.1, ⟨hk.1.2.1, ⟨hk.1.2.2.1, ⟨hk.1.2.2.2.1, ⟨hk.1.2.2.2.2, hk.2⟩⟩⟩⟩⟩))); (case aS => exact (sizG HB.out GE196.out)); (case aL => have := LMc16.out; omega); intro v235 w47 ho hb hg hat; rw [← Ny234.out] at ho; have n0_ := Aside0.mk (blk_grown (g := gb196) (o := .cells #[.int .i64 a0_0, .int .i64 a0_1, .int .i64 a0_2, .int .i64 a0_3, .int .i64 a0_4, .int .i64 a0_5, .string a0_6, .string a0_7] 23 (0, 0)) (blkU BK196.out) hg (Kd.R_ne HO230.out BK196.out (by decide))); have n1_ := Aside0.mk (Kd.R_after (ok := (fun k_ => some k_ ≠ (.slice Ao32 t207.length co32 : Value).ownBlock ∧ some k_ ≠ (.slice Ao36 t213.length co36 : Value).ownBlock ∧ some k_ ≠ (.slice Ao40 t219.length co40 : Value).ownBlock ∧ some k_ ≠ (.slice Ao44 t225.length co44 : Value).ownBlock ∧ some k_ ≠ (.slice Ao48 t231.length co48 : Value).ownBlock)) (by (with_reducible repeat (first | apply Kd.R_alloc | apply Kd.R_drewN | apply Kd.R_drew)); exact Kd.R_mono HO203.out (fun _ hk => ⟨⟨hk.1.1.1, ⟨hk.1.1.2.1, ⟨hk.1.1.2.2.1, ⟨hk.1.1.2.2.2, hk.2⟩⟩⟩⟩, hk.1.2⟩)) hg hat); have n2_ := Aside0.mk (Kd.R_after (ok := (fun k_ => some k_ ≠ (.slice Ao28 t201.length co28 : Value).ownBlock ∧ some k_ ≠ (.slice Ao36 t213.length co36 : Value).ownBlock ∧ some k_ ≠ (.slice Ao40 t219.length co40 : Value).ownBlock ∧ some k_ ≠ (.slice Ao44 t225.length co44 : Value).ownBlock ∧ some k_ ≠ (.slice Ao48 t231.length co48 : Value).ownBlock)) (by (with_reducible repeat (first | apply Kd.R_alloc | apply Kd.R_drewN | apply Kd.R_drew)); exact Kd.R_mono HO209.out (fun _ hk => ⟨⟨hk.1.1.1, ⟨hk.1.1.2.1, ⟨hk.1.1.2.2.1, ⟨hk.1.1.2.2.2, hk.2⟩⟩⟩⟩, hk.1.2⟩)) hg hat); have n3_ := Aside0.mk (Kd.R_after (ok := (fun k_ => some k_ ≠ (.slice Ao28 t201.length co28 : Value).ownBlock ∧ some k_ ≠ (.slice Ao32 t207.length co32 : Value).ownBlock ∧ some k_ ≠ (.slice Ao40 t219.length co40 : Value).ownBlock ∧ some k_ ≠ (.slice Ao44 t225.length co44 : Value).ownBlock ∧ some k_ ≠ (.slice Ao48 t231.length co48 : Value).ownBlock)) (by (with_reducible repeat (first | apply Kd.R_alloc | apply Kd.R_drewN | apply Kd.R_drew)); exact Kd.R_mono HO215.out (fun _ hk => ⟨⟨hk.1.1.1, ⟨hk.1.1.2.1, ⟨hk.1.1.2.2.1, ⟨hk.1.1.2.2.2, hk.2⟩⟩⟩⟩, hk.1.2⟩)) hg hat); have n4_ := Aside0.mk (Kd.R_after (ok := (fun k_ => some k_ ≠ (.slice Ao28 t201.length co28 : Value).ownBlock ∧ some k_ ≠ (.slice Ao32 t207.length co32 : Value).ownBlock ∧ some k_ ≠ (.slice Ao36 t213.length co36 : Value).ownBlock ∧ some k_ ≠ (.slice Ao44 t225.length co44 : Value).ownBlock ∧ some k_ ≠ (.slice Ao48 t231.length co48 : Value).ownBlock)) (by (with_reducible repeat (first | apply Kd.R_alloc | apply Kd.R_drewN | apply Kd.R_drew)); exact Kd.R_mono HO221.out (fun _ hk => ⟨⟨hk.1.1.1, ⟨hk.1.1.2.1, ⟨hk.1.1.2.2.1, ⟨hk.1.1.2.2.2, hk.2⟩⟩⟩⟩, hk.1.2⟩)) hg hat); have n5_ := Aside0.mk (Kd.R_after (ok := (fun k_ => some k_ ≠ (.slice Ao28 t201.length co28 : Value).ownBlock ∧ some k_ ≠ (.slice Ao32 t207.length co32 : Value).ownBlock ∧ some k_ ≠ (.slice Ao36 t213.length co36 : Value).ownBlock ∧ some k_ ≠ (.slice Ao40 t219.length co40 : Value).ownBlock ∧ some k_ ≠ (.slice Ao48 t231.length co48 : Value).ownBlock)) (by (with_reducible repeat (first | apply Kd.R_alloc | apply Kd.R_drewN | apply Kd.R_drew)); exact Kd.R_mono HO227.out (fun _ hk => ⟨⟨hk.1.1.1, ⟨hk.1.1.2.1, ⟨hk.1.1.2.2.1, ⟨hk.1.1.2.2.2, hk.2⟩⟩⟩⟩, hk.1.2⟩)) hg hat); have n6_ := Aside0.mk (Kd.R_after (ok := (fun k_ => some k_ ≠ (.slice Ao28 t201.length co28 : Value).ownBlock ∧ some k_ ≠ (.slice Ao32 t207.length co32 : Value).ownBlock ∧ some k_ ≠ (.slice Ao36 t213.length co36 : Value).ownBlock ∧ some k_ ≠ (.slice Ao40 t219.length co40 : Value).ownBlock ∧ some k_ ≠ (.slice Ao44 t225.length co44 : Value).ownBlock)) (by (with_reducible repeat (first | apply Kd.R_alloc | apply Kd.R_drewN | apply Kd.R_drew)); exact Kd.R_mono HO233.out (fun _ hk => ⟨⟨hk.1.1.1.1.1.2, ⟨hk.1.1.1.1.2, ⟨hk.1.1.1.2, ⟨hk.1.1.2, hk.1.2⟩⟩⟩⟩, hk.2⟩)) hg hat); have n7_ := Aside0.mk (hb); have n8_ := Aside0.mk (ho); clear BK196; clear HO203; clear HO209; clear HO215; clear HO221; clear HO227; clear HO233; clear HB; clear HO230; have BK196 := n0_; have HO203 := n1_; have HO209 := n2_; have HO215 := n3_; have HO221 := n4_; have HO227 := n5_; have HO233 := n6_; have HB := n7_; have HO236 := n8_; clear n0_ n1_ n2_ n3_ n4_ n5_ n6_ n7_ n8_; clear ho hb hg hat; have hcz49_0 : w47.cell? ⟨gb196, 0, none⟩ = some (.int .i64 a0_0) := (blk_cell BK196.out 0).trans rfl; have hcz49_1 : w47.cell? ⟨gb196, 1, none⟩ = some (.int .i64 a0_1) := (blk_cell BK196.out 1).trans rfl; have hcz49_2 : w47.cell? ⟨gb196, 2, none⟩ = some (.int .i64 a0_2) := (blk_cell BK196.out 2).trans rfl; have hcz49_3 : w47.cell? ⟨gb196, 3, none⟩ = some (.int .i64 a0_3) := (blk_cell BK196.out 3).trans rfl; have hcz49_4 : w47.cell? ⟨gb196, 4, none⟩ = some (.int .i64 a0_4) := (blk_cell BK196.out 4).trans rfl; have hcz49_5 : w47.cell? ⟨gb196, 5, none⟩ = some (.int .i64 a0_5) := (blk_cell BK196.out 5).trans rfl; have hcz49_6 : w47.cell? ⟨gb196, 6, none⟩ = some (.string a0_6) := (blk_cell BK196.out 6).trans rfl; have hcz49_7 : w47.cell? ⟨gb196, 7, none⟩ = some (.string a0_7) := (blk_cell BK196.out 7).trans rfl; have hfz49_0 := blk_frozen BK196.out 0; have hfz49_1 := blk_frozen BK196.out 1; have hfz49_2 := blk_frozen BK196.out 2; have hfz49_3 := blk_frozen BK196.out 3; have hfz49_4 := blk_frozen BK196.out 4; have hfz49_5 := blk_frozen BK196.out 5; have hfz49_6 := blk_frozen BK196.out 6; have hfz49_7 := blk_frozen BK196.out 7) | ((with_reducible refine gate_callee (f := 30) rfl ?_); refine goesL_ (some 47) rfl rfl Try.func30 (by kernel_rfl) rfl #[.int .i64 8, .string a0_7] rfl (by (try simp only [List.map_toArray, List.map_cons, List.map_nil]); first | done | rfl | (simp only [List.length_drop, List.length_take]; rfl)) ?_; (with_reducible refine (aquiferref20_text.calls 8 a0_7 t237 _ A17.out).mono ?_); rintro e w50 ⟨v238, rfl, ho0, hb⟩; refine ⟨_, rfl, ?_⟩; have n0_ := Aside0.mk (Kd.R_elder' (RU HO203.out) (Kd.R_base ho0) hb); have n1_ := Aside0.mk (Kd.R_elder' (RU HO209.out) (Kd.R_base ho0) hb); have n2_ := Aside0.mk (Kd.R_elder' (RU HO215.out) (Kd.R_base ho0) hb); have n3_ := Aside0.mk (Kd.R_elder' (RU HO221.out) (Kd.R_base ho0) hb); have n4_ := Aside0.mk (Kd.R_elder' (RU HO227.out) (Kd.R_base ho0) hb); have n5_ := Aside0.mk (Kd.R_elder' (RU HO233.out) (Kd.R_base ho0) hb); have n6_ := Aside0.mk (Kd.R_elder' (RU HO236.out) (Kd.R_base ho0) hb); have n7_ := Aside0.mk (Kd.R_lower (Kd.R_new' (Kd.R_new' (Kd.R_new' (Kd.R_new' (Kd.R_new' (Kd.R_new' (Kd.R_new' ho0 (Kd.R_lt (RU HO203.out))) (Kd.R_lt (RU HO209.out))) (Kd.R_lt (RU HO215.out))) (Kd.R_lt (RU HO221.out))) (Kd.R_lt (RU HO227.out))) (Kd.R_lt (RU HO233.out))) (Kd.R_lt (RU HO236.out))) (sizG HB.out GE196.out)); have n8_ := Aside0.mk (blk_below (blkU BK196.out) hb); have n9_ := Aside0.mk (below_step (belG HB.out GE196.out) hb); clear HO203; clear HO209; clear HO215; clear HO221; clear HO227; clear HO233; clear HO236; clear BK196; clear HB; have HO203 := n0_; have HO209 := n1_; have HO215 := n2_; have HO221 := n3_; have HO227 := n4_; have HO233 := n5_; have HO236 := n6_; have HO239 := n7_; have BK196 := n8_; have HB := n9_; clear n0_ n1_ n2_ n3_ n4_ n5_ n6_ n7_ n8_ n9_; (try clear hb); (try clear hb2); (try clear hk); (try clear hi); (try clear ho0); obtain ⟨Ao52, co52, eo52⟩ := Kd.R_slice HO239.out; subst eo52) | ((with_reducible refine gate_builtin (b := .append) (xs := #[.tmp 44, .tmp 47]) rfl ?_); at_builtin; refine Kd.R_append_rows k84 (w0 := w) w.heap.size rfl (.tmp 44) (.tmp 47) 57 84 (.agg #[(.int .i64 0), (.int .i64 0), (.int .i64 0), (.string ⟨#[]⟩)]) 40 rfl Try.underlying57 info84 rfl (by decide) (by omega) v235 y234 t237 _ _ _ (fun k_ => some k_ ≠ (.slice Ao28 t201.length co28 : Value).ownBlock ∧ some k_ ≠ (.slice Ao32 t207.length co32 : Value).ownBlock ∧ some k_ ≠ (.slice Ao36 t213.length co36 : Value).ownBlock ∧ some k_ ≠ (.slice Ao40 t219.length co40 : Value).ownBlock ∧ some k_ ≠ (.slice Ao44 t225.length co44 : Value).ownBlock ∧ some k_ ≠ (.slice Ao48 t231.length co48 : Value).ownBlock ∧ some k_ ≠ (.slice Ao52 t237.length co52 : Value).ownBlock) (fun _ => False) rfl rfl ?aO ?aR (fun _ _ h => h) (fun _ h => h.elim) ?aF ?aB ?aS ?aL ?_; (case aR => exact CU (Kd.R_reads' HO239.out).2.2); (case aB => exact (belG HB.out GE196.out)); (case aF => exact (fun k_ hk => ⟨Kd.fresh' (Kd.R_lt (RU HO203.out)) k_ hk, Kd.fresh' (Kd.R_lt (RU HO209.out)) k_ hk, Kd.fresh' (Kd.R_lt (RU HO215.out)) k_ hk, Kd.fresh' (Kd.R_lt (RU HO221.out)) k_ hk, Kd.fresh' (Kd.R_lt (RU HO227.out)) k_ hk, Kd.fresh' (Kd.R_lt (RU HO233.out)) k_ hk, Kd.fresh' (Kd.R_lt (RU HO239.out)) k_ hk⟩)); (case aO => exact (by (with_reducible repeat (first | apply Kd.R_alloc | apply Kd.R_drewN | apply Kd.R_drew)); exact Kd.R_mono HO236.out (fun _ hk => ⟨hk.1.1, ⟨hk.1.2.1, ⟨hk.1.2.2.1, ⟨hk.1.2.2.2.1, ⟨hk.1.2.2.2.2.1, ⟨hk.1.2.2.2.2.2, hk.2⟩⟩⟩⟩⟩⟩))); (case aS => exact (sizG HB.out GE196.out)); (case aL => have := LMc18.out; omega); intro v241 w51 ho hb hg hat; rw [← Ny240.out] at ho; have n0_ := Aside0.mk (blk_grown (g := gb196) (o := .cells #[.int .i64 a0_0, .int .i64 a0_1, .int .i64 a0_2, .int .i64 a0_3, .int .i64 a0_4, .int .i64 a0_5, .string a0_6, .string a0_7] 23 (0, 0)) (blkU BK196.out) hg (Kd.R_ne HO236.out BK196.out (by decide))); have n1_ := Aside0.mk (Kd.R_after (ok := (fun k_ => some k_ ≠ (.slice Ao32 t207.length co32 : Value).ownBlock ∧ some k_ ≠ (.slice Ao36 t213.length co36 : Value).ownBlock ∧ some k_ ≠ (.slice Ao40 t219.length co40 : Value).ownBlock ∧ some k_ ≠ (.slice Ao44 t225.length co44 : Value).ownBlock ∧ some k_ ≠ (.slice Ao48 t231.length co48 : Value).ownBlock ∧ some k_ ≠ (.slice Ao52 t237.length co52 : Value).ownBlock)) (by (with_reducible repeat (first | apply Kd.R_alloc | apply Kd.R_drewN | apply Kd.R_drew)); exact Kd.R_mono HO203.out (fun _ hk => ⟨⟨hk.1.1.1, ⟨hk.1.1.2.1, ⟨hk.1.1.2.2.1, ⟨hk.1.1.2.2.2.1, ⟨hk.1.1.2.2.2.2, hk.2⟩⟩⟩⟩⟩, hk.1.2⟩)) hg hat); have n2_ := Aside0.mk (Kd.R_after (ok := (fun k_ => some k_ ≠ (.slice Ao28 t201.length co28 : Value).ownBlock ∧ some k_ ≠ (.slice Ao36 t213.length co36 : Value).ownBlock ∧ some k_ ≠ (.slice Ao40 t219.length co40 : Value).ownBlock ∧ some k_ ≠ (.slice Ao44 t225.length co44 : Value).ownBlock ∧ some k_ ≠ (.slice Ao48 t231.length co48 : Value).ownBlock ∧ some k_ ≠ (.slice Ao52 t237.length co52 : Value).ownBlock)) (by (with_reducible repeat (first | apply Kd.R_alloc | apply Kd.R_drewN | apply Kd.R_drew)); exact Kd.R_mono HO209.out (fun _ hk => ⟨⟨hk.1.1.1, ⟨hk.1.1.2.1, ⟨hk.1.1.2.2.1, ⟨hk.1.1.2.2.2.1, ⟨hk.1.1.2.2.2.2, hk.2⟩⟩⟩⟩⟩, hk.1.2⟩)) hg hat); have n3_ := Aside0.mk (Kd.R_after (ok := (fun k_ => some k_ ≠ (.slice Ao28 t201.length co28 : Value).ownBlock ∧ some k_ ≠ (.slice Ao32 t207.length co32 : Value).ownBlock ∧ some k_ ≠ (.slice Ao40 t219.length co40 : Value).ownBlock ∧ some k_ ≠ (.slice Ao44 t225.length co44 : Value).ownBlock ∧ some k_ ≠ (.slice Ao48 t231.length co48 : Value).ownBlock ∧ some k_ ≠ (.slice Ao52 t237.length co52 : Value).ownBlock)) (by (with_reducible repeat (first | apply Kd.R_alloc | apply Kd.R_drewN | apply Kd.R_drew)); exact Kd.R_mono HO215.out (fun _ hk => ⟨⟨hk.1.1.1, ⟨hk.1.1.2.1, ⟨hk.1.1.2.2.1, ⟨hk.1.1.2.2.2.1, ⟨hk.1.1.2.2.2.2, hk.2⟩⟩⟩⟩⟩, hk.1.2⟩)) hg hat); have n4_ := Aside0.mk (Kd.R_after (ok := (fun k_ => some k_ ≠ (.slice Ao28 t201.length co28 : Value).ownBlock ∧ some k_ ≠ (.slice Ao32 t207.length co32 : Value).ownBlock ∧ some k_ ≠ (.slice Ao36 t213.length co36 : Value).ownBlock ∧ some k_ ≠ (.slice Ao44 t225.length co44 : Value).ownBlock ∧ some k_ ≠ (.slice Ao48 t231.length co48 : Value).ownBlock ∧ some k_ ≠ (.slice Ao52 t237.length co52 : Value).ownBlock)) (by (with_reducible repeat (first | apply Kd.R_alloc | apply Kd.R_drewN | apply Kd.R_drew)); exact Kd.R_mono HO221.out (fun _ hk => ⟨⟨hk.1.1.1, ⟨hk.1.1.2.1, ⟨hk.1.1.2.2.1, ⟨hk.1.1.2.2.2.1, ⟨hk.1.1.2.2.2.2, hk.2⟩⟩⟩⟩⟩, hk.1.2⟩)) hg hat); have n5_ := Aside0.mk (Kd.R_after (ok := (fun k_ => some k_ ≠ (.slice Ao28 t201.length co28 : Value).ownBlock ∧ some k_ ≠ (.slice Ao32 t207.length co32 : Value).ownBlock ∧ some k_ ≠ (.slice Ao36 t213.length co36 : Value).ownBlock ∧ some k_ ≠ (.slice Ao40 t219.length co40 : Value).ownBlock ∧ some k_ ≠ (.slice Ao48 t231.length co48 : Value).ownBlock ∧ some k_ ≠ (.slice Ao52 t237.length co52 : Value).ownBlock)) (by (with_reducible repeat (first | apply Kd.R_alloc | apply Kd.R_drewN | apply Kd.R_drew)); exact Kd.R_mono HO227.out (fun _ hk => ⟨⟨hk.1.1.1, ⟨hk.1.1.2.1, ⟨hk.1.1.2.2.1, ⟨hk.1.1.2.2.2.1, ⟨hk.1.1.2.2.2.2, hk.2⟩⟩⟩⟩⟩, hk.1.2⟩)) hg hat); have n6_ := Aside0.mk (Kd.R_after (ok := (fun k_ => some k_ ≠ (.slice Ao28 t201.length co28 : Value).ownBlock ∧ some k_ ≠ (.slice Ao32 t207.length co32 : Value).ownBlock ∧ some k_ ≠ (.slice Ao36 t213.length co36 : Value).ownBlock ∧ some k_ ≠ (.slice Ao40 t219.length co40 : Value).ownBlock ∧ some k_ ≠ (.slice Ao44 t225.length co44 : Value).ownBlock ∧ some k_ ≠ (.slice Ao52 t237.length co52 : Value).ownBlock)) (by (with_reducible repeat (first | apply Kd.R_alloc | apply Kd.R_drewN | apply Kd.R_drew)); exact Kd.R_mono HO233.out (fun _ hk => ⟨⟨hk.1.1.1, ⟨hk.1.1.2.1, ⟨hk.1.1.2.2.1, ⟨hk.1.1.2.2.2.1, ⟨hk.1.1.2.2.2.2, hk.2⟩⟩⟩⟩⟩, hk.1.2⟩)) hg hat); have n7_ := Aside0.mk (Kd.R_after (ok := (fun k_ => some k_ ≠ (.slice Ao28 t201.length co28 : Value).ownBlock ∧ some k_ ≠ (.slice Ao32 t207.length co32 : Value).ownBlock ∧ some k_ ≠ (.slice Ao36 t213.length co36 : Value).ownBlock ∧ some k_ ≠ (.slice Ao40 t219.length co40 : Value).ownBlock ∧ some k_ ≠ (.slice Ao44 t225.length co44 : Value).ownBlock ∧ some k_ ≠ (.slice Ao48 t231.length co48 : Value).ownBlock)) (by (with_reducible repeat (first | apply Kd.R_alloc | apply Kd.R_drewN | apply Kd.R_drew)); exact Kd.R_mono HO239.out (fun _ hk => ⟨⟨hk.1.1.1.1.1.1.2, ⟨hk.1.1.1.1.1.2, ⟨hk.1.1.1.1.2, ⟨hk.1.1.1.2, ⟨hk.1.1.2, hk.1.2⟩⟩⟩⟩⟩, hk.2⟩)) hg hat); have n8_ := Aside0.mk (hb); have n9_ := Aside0.mk (ho); clear BK196; clear HO203; clear HO209; clear HO215; clear HO221; clear HO227; clear HO233; clear HO239; clear HB; clear HO236; have BK196 := n0_; have HO203 := n1_; have HO209 := n2_; have HO215 := n3_; have HO221 := n4_; have HO227 := n5_; have HO233 := n6_; have HO239 := n7_; have HB := n8_; have HO242 := n9_; clear n0_ n1_ n2_ n3_ n4_ n5_ n6_ n7_ n8_ n9_; clear ho hb hg hat; obtain ⟨Ao53, co53, eo53⟩ := Kd.R_slice HO242.out; subst eo53) | ((with_reducible refine gate_callee (f := 31) rfl ?_); refine goesL_ (some 49) rfl rfl Try.func31 (by kernel_rfl) rfl #[.slice Ao53 y240.length co53] rfl (by (try simp only [List.map_toArray, List.map_cons, List.map_nil]); first | done | rfl | (simp only [List.length_drop, List.length_take]; rfl)) ?_; (with_reducible refine (aquiferref04_Encode.calls k _ _ y240 t243 t244 _ ?side1 ?side2 A19.out).mono ?_); (case side1 => exact CU (Kd.R_reads' HO242.out).2.2); (case side2 => exact (Kd.R_reads' HO242.out).2.1); rintro e w54 ⟨rfl, hb⟩; refine ⟨_, rfl, ?_⟩; have n0_ := Aside0.mk (Kd.R_below (RU HO203.out) hb); have n1_ := Aside0.mk (Kd.R_below (RU HO209.out) hb); have n2_ := Aside0.mk (Kd.R_below (RU HO215.out) hb); have n3_ := Aside0.mk (Kd.R_below (RU HO221.out) hb); have n4_ := Aside0.mk (Kd.R_below (RU HO227.out) hb); have n5_ := Aside0.mk (Kd.R_below (RU HO233.out) hb); have n6_ := Aside0.mk (Kd.R_below (RU HO239.out) hb); have n7_ := Aside0.mk (Kd.R_below (RU HO242.out) hb); have n8_ := Aside0.mk (blk_below (blkU BK196.out) hb); have n9_ := Aside0.mk (below_step (belG HB.out GE196.out) hb); clear HO203; clear HO209; clear HO215; clear HO221; clear HO227; clear HO233; clear HO239; clear HO242; clear BK196; clear HB; have HO203 := n0_; have HO209 := n1_; have HO215 := n2_; have HO221 := n3_; have HO227 := n4_; have HO233 := n5_; have HO239 := n6_; have HO242 := n7_; have BK196 := n8_; have HB := n9_; clear n0_ n1_ n2_ n3_ n4_ n5_ n6_ n7_ n8_ n9_; (try clear hb); (try clear hb2); (try clear hk); (try clear hi)))
                  go_ret2
                  exact ⟨by first | rfl | (simp [errW_none, errW_some] <;> rfl) | (simp [*, errW_none, errW_some] <;> rfl), belG HB.out GE196.out⟩
                · rw [if_neg c18] at H
                  exact absurd H (by simp)
              · rw [if_neg c16] at H
                exact absurd H (by simp)
            · rw [if_neg c14] at H
              exact absurd H (by simp)
          · rw [if_neg c12] at H
            exact absurd H (by simp)
        · rw [if_neg c10] at H
          exact absurd H (by simp)
      · rw [if_neg c8] at H
        exact absurd H (by simp)
    · rw [if_neg c6] at H
      exact absurd H (by simp)
  · rw [if_neg c3] at H
    have c3b0 : (t197 == 0) = false := beq_eq_false_iff_ne.mpr c3
    have c3b1 : (t197 != 0) = true := bne_iff_ne.mpr c3
    simp only [Option.some.injEq, Prod.mk.injEq] at H
    obtain ⟨rfl, rfl⟩ := H
    go_enter Try.func10, Try.ntmps10
    go_wp2_with (first | ((with_reducible refine gate_dst (N := 1) rfl ?_); refine box_event ?hg (N := 1) ?hd (cs := #[.int .i64 a0_0, .int .i64 a0_1, .int .i64 a0_2, .int .i64 a0_3, .int .i64 a0_4, .int .i64 a0_5, .string a0_6, .string a0_7]) (t := 23) ?hr ?_; (case hd => rfl); (case hg => rfl); (case hr => first | (go_simp; done) | (go_simp; rfl)); intro gb196 hg w55 hbox hb; have n0_ := Aside0.mk (below_step (belU HB.out) hb); have n1_ := Aside0.mk (hbox); have n2_ := Aside0.mk ((by rw [hg]; exact (sizU HB.out) : w.heap.size ≤ gb196)); have n3_ := Aside0.mk ((by rw [hg]; exact (sizU HB.out) : w.heap.size ≤ gb196)); clear HB; have HB := n0_; have BK196 := n1_; have GW196 := n2_; have GE196 := n3_; clear n0_ n1_ n2_ n3_; clear hb hbox hg; have hcz56_0 : w55.cell? ⟨gb196, 0, none⟩ = some (.int .i64 a0_0) := (blk_cell BK196.out 0).trans rfl; have hcz56_1 : w55.cell? ⟨gb196, 1, none⟩ = some (.int .i64 a0_1) := (blk_cell BK196.out 1).trans rfl; have hcz56_2 : w55.cell? ⟨gb196, 2, none⟩ = some (.int .i64 a0_2) := (blk_cell BK196.out 2).trans rfl; have hcz56_3 : w55.cell? ⟨gb196, 3, none⟩ = some (.int .i64 a0_3) := (blk_cell BK196.out 3).trans rfl; have hcz56_4 : w55.cell? ⟨gb196, 4, none⟩ = some (.int .i64 a0_4) := (blk_cell BK196.out 4).trans rfl; have hcz56_5 : w55.cell? ⟨gb196, 5, none⟩ = some (.int .i64 a0_5) := (blk_cell BK196.out 5).trans rfl; have hcz56_6 : w55.cell? ⟨gb196, 6, none⟩ = some (.string a0_6) := (blk_cell BK196.out 6).trans rfl; have hcz56_7 : w55.cell? ⟨gb196, 7, none⟩ = some (.string a0_7) := (blk_cell BK196.out 7).trans rfl; have hfz56_0 := blk_frozen BK196.out 0; have hfz56_1 := blk_frozen BK196.out 1; have hfz56_2 := blk_frozen BK196.out 2; have hfz56_3 := blk_frozen BK196.out 3; have hfz56_4 := blk_frozen BK196.out 4; have hfz56_5 := blk_frozen BK196.out 5; have hfz56_6 := blk_frozen BK196.out 6; have hfz56_7 := blk_frozen BK196.out 7) | ((with_reducible refine gate_callee (f := 14) rfl ?_); refine goesL_ (some 7) rfl rfl Try.func14 (by kernel_rfl) rfl #[.agg #[.int .i64 a0_0, .int .i64 a0_1, .int .i64 a0_2, .int .i64 a0_3, .int .i64 a0_4, .int .i64 a0_5, .string a0_6, .string a0_7]] rfl (by (try simp only [List.map_toArray, List.map_cons, List.map_nil]); first | done | rfl | (simp only [List.length_drop, List.length_take]; rfl)) ?_; (with_reducible refine (aquiferref20_CheckRequest.calls a0_0 a0_1 a0_2 a0_3 a0_4 a0_5 a0_6 a0_7 t197 _ A2.out).mono ?_); rintro e w57 ⟨rfl, hb⟩; refine ⟨_, rfl, ?_⟩; have n0_ := Aside0.mk (blk_below (blkU BK196.out) hb); have n1_ := Aside0.mk (below_step (belG HB.out GE196.out) hb); clear BK196; clear HB; have BK196 := n0_; have HB := n1_; clear n0_ n1_; (try clear hb); (try clear hb2); (try clear hk); (try clear hi)))
    go_ret2
    exact ⟨by first | rfl | (simp [errW_none, errW_some] <;> rfl) | (simp [*, errW_none, errW_some] <;> rfl), belG HB.out GE196.out⟩

end Go.Proofs.Ytjaneipklpgnlaa.Q
