import Derived.RangeFuncNested
import Derived.RangeFuncBound
import Derived.RangeFuncCalls
import Derived.RangeFuncLeaves
import Derived.Shelf.Abstract
import Derived.Shelf.RegionOpen
import Derived.WalkKit
import Derived.OwnWalkIn
import Derived.TacticsInMore
import Derived.LoopNIn
import Derived.LoopIn
import Derived.Test.YtinibpncbhmchaaPG
import Derived.Maps.AppendAt
section
namespace Go.Proofs.Ytinibpncbhmchaa.Q
open Go Go.RowKit Go.Shelf Go.Proofs.YtinibpncbhmchaaW.PrintWords Go.Proofs.YtinibpncbhmchaaW.PrintLast Go.Proofs.YtinibpncbhmchaaW.PrintMore
attribute [local go_sem] Oper.semAt_some
set_option linter.unusedSimpArgs false
set_option linter.unusedVariables false
/-- What a round over 'of' keeps: what lay below n₀, and the iterator's three boxes. -/
def KpOf (n₀ B : Nat) (W W' : World) : Prop := Below n₀ W W' ∧ ∀ k t v, (t = 22 ∨ t = 3) → B ≤ k → k < B + 3 → Boxed W k t v → Boxed W' k t v
theorem kpOf_t {n₀ B : Nat} {X Y Z : World} (h : KpOf n₀ B X Y) (h' : KpOf n₀ B Y Z) : KpOf n₀ B X Z := ⟨h.1.trans h'.1, fun k t v h0 h1 h2 hb => h'.2 k t v h0 h1 h2 (h.2 k t v h0 h1 h2 hb)⟩
theorem kpOf_b {n₀ B : Nat} {w : World} (hn : n₀ ≤ w.heap.size) (W : World) (l : Nat) (o o' : Obj) (hl : w.heap.size ≤ l) (h : W.heap[l]? = some o) (ho : o.isCells = false) (hw : o.isWalk = false) : KpOf n₀ B W (W.putObj l o') :=
  ⟨belowK_b hn W l o o' hl h ho hw, fun k t v _ _ _ hb => hb.kept (grownBy_putObj' W l o') (fun e => by
    cases e
    rw [show W.heap[l]? = _ from hb] at h
    cases h
    cases ho)⟩
def enc39 (x : S39) : Value := .agg #[.int .i64 x.f0, .int .i64 x.f1, .int .i64 x.f2, .string x.f3]
set_option maxHeartbeats 1000000 in
theorem of_in (F : Fence) (n : Nat) (h32 : F.fn 32) (hro : F.round = none) (A : Option Addr) (len c : Nat) (tag kind : Int) (w : World) :
    CallsIn F n Try.prog 32 #[.slice A len c, .int .i64 tag, .int .i64 kind] w fun e w' => e = .returned (.func (.func 38) #[] #[.pointer (some ⟨w.heap.size, 0, none⟩), .pointer (some ⟨w.heap.size + 1, 0, none⟩), .pointer (some ⟨w.heap.size + 1 + 1, 0, none⟩)]) ∧ w' = ((w.alloc (.cells #[.slice A len c] 22)).alloc (.cells #[.int .i64 tag] 3)).alloc (.cells #[.int .i64 kind] 3) := by
  refine callsIn_of_wp Try.func32 rfl h32 ?_ hro
  simp only [Try.ntmps32, List.size_toArray, List.length_cons, List.length_nil, Nat.reduceAdd, Nat.reduceSub, Array.replicate_succ, Array.replicate_zero, List.push_toArray, List.append_toArray, List.nil_append, List.cons_append]
  gi_wp2
  go_ret
  exact ⟨rfl, rfl⟩
set_option maxRecDepth 100000 in
set_option maxHeartbeats 4000000 in
theorem of1_in (F : Fence) (n : Nat) (h38 : F.fn 38) (hro : F.round = none) (hn : 1 ≤ n) (l B : Nat) (A : Option Addr) (c : Nat) (xs : List S39) (tag kind : Int) (w : World) (hr : Kd.C k39 w A xs.length xs) (hlen : xs.length ≤ 1048576) (J Jx : List S39 → World → Prop)
    (hY : ∀ pre x W, J pre W → pre.length < xs.length → YieldAt F (n - 1) Try.prog l #[enc39 x] W fun e W' =>
      (e = .returned (.bool true) ∧ J (pre ++ [x]) W' ∧ KpOf w.heap.size B W W') ∨ (e = .returned (.bool false) ∧ Jx (pre ++ [x]) W'))
    (W : World) (hW : Below w.heap.size w W) (b1 : Boxed W B 22 (.slice A xs.length c)) (b2 : Boxed W (B + 1) 3 (.int .i64 tag)) (b3 : Boxed W (B + 1 + 1) 3 (.int .i64 kind)) (hJ : AbidesFrom W.heap.size J) (h0 : J [] W) :
    CallsIn F n Try.prog 38 #[.func (.yield l) #[] #[], .pointer (some ⟨B, 0, none⟩), .pointer (some ⟨B + 1, 0, none⟩), .pointer (some ⟨B + 1 + 1, 0, none⟩)] W fun e W' => (∃ v, e = .returned v) ∧
      ((∃ ys, ys = xs.filter (isOf tag kind) ∧ J ys W') ∨ (∃ pre, pre <+: xs.filter (isOf tag kind) ∧ Jx pre W')) := by
  have c1 := b1.cell
  have HR := Aside0.mk hr
  have HW := Aside0.mk hW
  have HY := Aside0.mk hY
  clear hr hW hY
  have hu39 := Try.underlying39
  have hja : ∀ s W' o, J s W' → J s (W'.alloc o) := fun s W' o h => hJ s W' _ none h (World.grownBy_alloc W' o none) (fun r e => by cases e)
  have HJA := Aside0.mk hja
  clear hja hJ
  refine callsIn_of_wp Try.func38 rfl h38 ?_ hro
  simp only [Try.ntmps38, List.size_toArray, List.length_cons, List.length_nil, Nat.reduceAdd, Nat.reduceSub, Array.replicate_succ, Array.replicate_zero, List.push_toArray, List.append_toArray, List.nil_append, List.cons_append]
  gi_wp2
  gi_loopw [9] (fun i wr => ∃ k : Nat, k ≤ xs.length ∧ i = .int .i64 k ∧ J ((xs.take k).filter (isOf tag kind)) wr ∧ Aside0 (Below w.heap.size w wr) ∧ Boxed wr (B + 1) 3 (.int .i64 tag) ∧ Boxed wr (B + 1 + 1) 3 (.int .i64 kind))
    (fun i _ => xs.length - (intOf i).toNat)
  case atStart => exact ⟨0, Nat.zero_le _, rfl, h0, HW, b2, b3⟩
  case round =>
    obtain ⟨k, hk, rfl, hJs, HB, c2, c3⟩ := hrel
    have d2 := c2.cell
    have d3 := c3.cell
    by_cases hlt : k < xs.length
    · obtain ⟨ad, e, x0, x1, x2, x3⟩ := at_T39 HR.out (k : Int) (by omega) (by omega)
      subst e
      have hx : rd_T39 xs (k : Int) = xs[k] := by simp [rd_T39, hlt]
      rw [hx, Int.toNat_natCast] at x0 x1 x2 x3
      have hd : (xs.take (k + 1)).filter (isOf tag kind) = (xs.take k).filter (isOf tag kind) ++ (if isOf tag kind xs[k] then [xs[k]] else []) := by
        rw [List.take_succ_eq_append_getElem hlt, List.filter_append]
        cases h : isOf tag kind xs[k] <;> simp [h]
      have hp : (xs.take (k + 1)).filter (isOf tag kind) <+: xs.filter (isOf tag kind) := (List.take_prefix _ _).filter _
      have hln : ((xs.take k).filter (isOf tag kind)).length < xs.length := Nat.lt_of_le_of_lt (List.length_filter_le _ _) (by rw [List.length_take]; omega)
      have HP := Aside0.mk hp
      clear hp
      generalize xs[k] = x at x0 x1 x2 x3 hd
      have HD := Aside0.mk hd
      clear hx hd
      replace x0 := (HB.out.cell (World.block_lt_of_cell? w _ x0)).trans x0
      replace x1 := (HB.out.cell (World.block_lt_of_cell? w _ x1)).trans x1
      replace x2 := (HB.out.cell (World.block_lt_of_cell? w _ x2)).trans x2
      replace x3 := (HB.out.cell (World.block_lt_of_cell? w _ x3)).trans x3
      have hnew : ∀ o, Boxed (wr.alloc o) (B + 1) 3 (.int .i64 tag) := fun o => c2.alloc o
      have hnew3 : ∀ o, Boxed (wr.alloc o) (B + 1 + 1) 3 (.int .i64 kind) := fun o => c3.alloc o
      have e2 := fun o => (c2.alloc o).cell
      have e3 := fun o => (c3.alloc o).cell
      obtain ⟨y0, y1, y2, y3⟩ := x
      by_cases h1 : y0 = tag
      · by_cases h2 : y1 = kind
        · subst h1
          subst h2
          obtain ⟨fn, tmps, assign, body, hy, hR⟩ := HY.out _ ⟨y0, y1, y2, y3⟩ (wr.alloc (.cells #[.int .i64 y0, .int .i64 y1, .int .i64 y2, .string y3] 39 (0, 0))) (HJA.out _ _ _ hJs) hln
          have hI : isOf y0 y1 ⟨y0, y1, y2, y3⟩ = true := by simp [isOf]
          have hD := HD.out
          rw [hI, if_pos rfl] at hD
          clear HD
          have HD := Aside0.mk hD
          clear hD
          simp only [enc39] at hy
          gi_wp2
          refine hR.mono ?_
          rintro e W3 (⟨rfl, hJ3, hk3⟩ | ⟨rfl, hJx3⟩)
          · rw [← HD.out] at hJ3
            have c2' := hk3.2 _ _ _ (.inr rfl) (by omega) (by omega) (hnew _)
            have c3' := hk3.2 _ _ _ (.inr rfl) (by omega) (by omega) (hnew3 _)
            have HB3 := Aside0.mk ((HB.out.alloc (by have := HB.out.size; omega) _).trans hk3.1)
            clear hk3
            gi_wp2
            go_roundw
            case rel => exact ⟨k + 1, by omega, by go_num, hJ3, HB3, c2', c3'⟩
            case measure => simp [intOf]; omega
          · rw [← HD.out] at hJx3
            gi_wp2
            refine bodyPost_ret (results_none rfl _ _ _) rfl ?_
            exact ⟨⟨_, rfl⟩, .inr ⟨_, HP.out, hJx3⟩⟩
        · subst h1
          have hI : isOf y0 kind ⟨y0, y1, y2, y3⟩ = false := by simp [isOf, h2]
          have hD := HD.out
          rw [hI, if_neg (by simp), List.append_nil] at hD
          clear HD
          have hJ' := hJs
          rw [← hD] at hJ'
          clear hD
          gi_wp2
          refine ⟨fun _ h => (by cases h), ?_⟩
          gi_wp2
          go_roundw
          case rel => exact ⟨k + 1, by omega, by go_num, HJA.out _ _ _ hJ', ⟨HB.out.alloc (by have := HB.out.size; omega) _⟩, hnew _, hnew3 _⟩
          case measure => simp [intOf]; omega
      · have hI : isOf tag kind ⟨y0, y1, y2, y3⟩ = false := by simp [isOf, h1]
        have hD := HD.out
        rw [hI, if_neg (by simp), List.append_nil] at hD
        clear HD
        have hJ' := hJs
        rw [← hD] at hJ'
        clear hD
        gi_wp2
        refine ⟨fun _ h => (by cases h), ?_⟩
        gi_wp2
        go_roundw
        case rel => exact ⟨k + 1, by omega, by go_num, HJA.out _ _ _ hJ', ⟨HB.out.alloc (by have := HB.out.size; omega) _⟩, hnew _, hnew3 _⟩
        case measure => simp [intOf]; omega
    · obtain rfl : k = xs.length := by omega
      gi_wp2
      go_end0
      exact ⟨⟨_, rfl⟩, .inl ⟨_, by rw [List.take_length], hJs⟩⟩
theorem of_stops (F : Fence) (n : Nat) (h38 : F.fn 38) (hro : F.round = none) (hn : 1 ≤ n) (B : Nat) (A : Option Addr) (c : Nat) (xs : List S39) (tag kind : Int) (w : World) (hr : Kd.C k39 w A xs.length xs) (hlen : xs.length ≤ 1048576) (w1 : World) (hW1 : Below w.heap.size w w1)
    (b1 : Boxed w1 B 22 (.slice A xs.length c)) (b2 : Boxed w1 (B + 1) 3 (.int .i64 tag)) (b3 : Boxed w1 (B + 1 + 1) 3 (.int .i64 kind)) :
    SeqStopsK F n Try.prog 38 #[.pointer (some ⟨B, 0, none⟩), .pointer (some ⟨B + 1, 0, none⟩), .pointer (some ⟨B + 1 + 1, 0, none⟩)] (fun x : S39 => #[enc39 x]) (KpOf w.heap.size B) (fun ys => ys = xs.filter (isOf tag kind)) (fun pre => pre <+: xs.filter (isOf tag kind)) xs.length w1 := fun l J Jx W hW hJ hJx hY h0 =>
  of1_in F n h38 hro hn l B A c xs tag kind w hr hlen J Jx hY W (hW1.trans (hW.mono hW1.size)) ((hW.block _ b1.lt).trans b1) ((hW.block _ b2.lt).trans b2) ((hW.block _ b3.lt).trans b3) hJ h0
end Go.Proofs.Ytinibpncbhmchaa.Q
end
section
namespace Go.Proofs.Ytinibpncbhmchaa.Q
open Go Go.RowKit Go.Shelf Go.Proofs.YtinibpncbhmchaaW.PrintWords Go.Proofs.YtinibpncbhmchaaW.PrintLast Go.Proofs.YtinibpncbhmchaaW.PrintMore
attribute [local go_sem] Oper.semAt_some
set_option linter.unusedSimpArgs false
set_option linter.unusedVariables false
def numV : List S39 → Int
  | [] => 0
  | x :: _ => x.f2
set_option maxRecDepth 100000 in
set_option maxHeartbeats 4000000 in
theorem num_in (F : Fence) (n : Nat) (h0 : F.fn 19) (h32 : F.fn 32) (h38 : F.fn 38) (hro : F.round = none) (hn : 5 ≤ n) (A : Option Addr) (c : Nat) (xs : List S39) (tag : Int) (w : World) (hr : Kd.C k39 w A xs.length xs) (hlen : xs.length ≤ 1048576) :
    CallsIn F n Try.prog 19 #[.slice A xs.length c, .int .i64 tag] w fun e W' => e = .returned (.tuple #[.int .i64 (numV (xs.filter (isOf tag 0))), .bool (decide (xs.filter (isOf tag 0) ≠ []))]) ∧ Below w.heap.size w W' := by
  have h1 : 1 ≤ n := by omega
  refine callsIn_of_wp_marks Try.func19 rfl h0 ?_ hro
  simp only [Try.ntmps19, List.size_toArray, List.length_cons, List.length_nil, Nat.reduceAdd, Nat.reduceSub, Array.replicate_succ, Array.replicate_zero, List.push_toArray, List.append_toArray, List.nil_append, List.cons_append]
  gi_wp2_with (gi_at_call 32; refine (of_in F (n - 1) h32 hro _ _ _ _ _ _).mono ?_; rintro e w' ⟨rfl, rfl⟩)
  obtain ⟨Z, hZ⟩ : ∃ Z, Z = (w.alloc (.cells #[.int .i64 0] 3)).alloc (.cells #[.bool false] 4) := ⟨_, rfl⟩
  have bR := Boxed.new w 3 (.int .i64 0)
  have bQ := Boxed.new (w.alloc (.cells #[.int .i64 0] 3)) 4 (.bool false)
  have bR := bR.alloc (.cells #[.bool false] 4)
  have hB0 : Below w.heap.size w Z := by rw [hZ]; exact ((Below.refl _ w).alloc (Nat.le_refl _) _).alloc (by simp) _
  have hsz : Z.heap.size = w.heap.size + 1 + 1 := by rw [hZ]; simp
  rw [World.size_alloc] at bQ
  rw [← hZ] at bR bQ ⊢
  clear hZ
  have b1 := ((Boxed.new Z 22 (.slice A xs.length c)).alloc (.cells #[.int .i64 tag] 3)).alloc (.cells #[.int .i64 0] 3)
  have b2 := (Boxed.new (Z.alloc (.cells #[.slice A xs.length c] 22)) 3 (.int .i64 tag)).alloc (.cells #[.int .i64 0] 3)
  have b3 := Boxed.new ((Z.alloc (.cells #[.slice A xs.length c] 22)).alloc (.cells #[.int .i64 tag] 3)) 3 (.int .i64 0)
  simp only [World.size_alloc] at b2 b3
  rw [hsz] at b1 b2 b3
  replace hB0 := ((hB0.alloc (by omega) (.cells #[.slice A xs.length c] 22)).alloc (by simp; omega) (.cells #[.int .i64 tag] 3)).alloc (by simp; omega) (.cells #[.int .i64 0] 3)
  replace bR := ((bR.alloc (.cells #[.slice A xs.length c] 22)).alloc (.cells #[.int .i64 tag] 3)).alloc (.cells #[.int .i64 0] 3)
  replace bQ := ((bQ.alloc (.cells #[.slice A xs.length c] 22)).alloc (.cells #[.int .i64 tag] 3)).alloc (.cells #[.int .i64 0] 3)
  have hszW : (((Z.alloc (.cells #[.slice A xs.length c] 22)).alloc (.cells #[.int .i64 tag] 3)).alloc (.cells #[.int .i64 0] 3)).heap.size = w.heap.size + 5 := by simp; omega
  obtain ⟨W0, hW0⟩ : ∃ W0, ((Z.alloc (.cells #[.slice A xs.length c] 22)).alloc (.cells #[.int .i64 tag] 3)).alloc (.cells #[.int .i64 0] 3) = W0 := ⟨_, rfl⟩
  rw [hW0] at b1 b2 b3 bR bQ hB0 hszW ⊢
  clear hW0
  refine wpIn_rangeFunc_ownH hro h1 (gf := 38) (lb := #[.pointer (some ⟨(w.heap.size + 1 + 1), 0, none⟩), .pointer (some ⟨(w.heap.size + 1 + 1) + 1, 0, none⟩), .pointer (some ⟨(w.heap.size + 1 + 1) + 1 + 1, 0, none⟩)]) rfl h38 (enters_of Try.func38 (by kernel_rfl) rfl)
    (of_stops F (n - 1) h38 hro (by omega) (w.heap.size + 1 + 1) A c xs tag 0 w hr hlen W0 hB0 b1 b2 b3) kpOf_t (kpOf_b (by omega)) (Below.refl _ _) (fun _ => rfl)
    (fun pre W => ((pre = [] ∧ Boxed W w.heap.size 3 (.int .i64 0)) ∧ Boxed W (w.heap.size + 1) 4 (.bool false)) ∧ Below w.heap.size w W)
    (fun c pre W => ((c = .ret ∧ pre ≠ []) ∧ Boxed W w.heap.size 3 (.int .i64 (numV pre)) ∧ Boxed W (w.heap.size + 1) 4 (.bool true)) ∧ Below w.heap.size w W)
    (OwnFrom.and (OwnFrom.and (OwnFrom.and (ownFrom_pure _ _) (Own.from (boxed_own _ _ _) _)) (Own.from (boxed_own _ _ _) _)) (ownFrom_below (Nat.le_refl _) (by omega)))
    (fun c => OwnFrom.and (OwnFrom.and (ownFrom_pure _ _) (OwnFrom.and (Own.from (boxed_own _ _ _) _) (Own.from (boxed_own _ _ _) _))) (ownFrom_below (Nat.le_refl _) (by omega)))
    ⟨⟨⟨rfl, bR⟩, bQ⟩, hB0⟩
    (fun x a' W => ∃ Bx, w.heap.size + 1 < Bx ∧ W.heap[Bx]? = some (.cells #[.int .i64 x.f0, .int .i64 x.f1, .int .i64 x.f2, .string x.f3] 39 (0, 0)) ∧ a' = { tmps := #[.slice A xs.length c, .int .i64 tag, undef, undef, .pointer (some ⟨w.heap.size, 0, none⟩), .pointer (some ⟨w.heap.size + 1, 0, none⟩), .pointer (some ⟨Bx, 0, none⟩), .slice A xs.length c, .int .i64 tag, .func (.func 38) #[] #[.pointer (some ⟨(w.heap.size + 1 + 1), 0, none⟩), .pointer (some ⟨(w.heap.size + 1 + 1) + 1, 0, none⟩), .pointer (some ⟨(w.heap.size + 1 + 1) + 1 + 1, 0, none⟩)], enc39 x, undef, undef], defers := [] })
    (fun x a' _ X Y row hs hg hr => by obtain ⟨Bx, e1, e2, e3⟩ := hs; exact ⟨Bx, e1, (grownBy_keeps_cells hg (fun r e => (hr r e).2) e2 rfl).trans e2, e3⟩)
    ?assign ?body ?done ?stop
  case assign =>
    rintro l pre x W K ⟨⟨⟨rfl, bR1⟩, bB1⟩, hB1⟩ hK
    simp only [enc39] at hK ⊢
    have hu39 := Try.underlying39
    gi_wp2
    exact hK _ _ ((KeepsOthers.alloc _ _).from _) ⟨(Below.refl _ W).alloc hB1.size _, fun k t v _ _ _ hb => hb.alloc _⟩ ⟨⟨⟨by first | rfl | trivial, bR1.alloc _⟩, bB1.alloc _⟩, hB1.alloc hB1.size _⟩ ⟨W.heap.size, bB1.lt, World.alloc_heap_new W _, rfl⟩
  case body =>
    rintro l pre x a' W hl ⟨r, hr⟩ ⟨⟨⟨rfl, bR1⟩, bB1⟩, hB1⟩ ⟨Bx, hBx, bX, rfl⟩ hlt
    have cR := bR1.cell
    have fR := bR1.frozen
    have cB := bB1.cell
    have fB := bB1.frozen
    have cX : W.cell? ⟨Bx, 2, none⟩ = some (.int .i64 x.f2) := (blk_cell bX 2).trans rfl
    gi_wp2
    exact ⟨((KeepsOthers.setCell _ _ _).trans (KeepsOthers.setCell _ _ _)).from _, ⟨⟨by first | rfl | trivial, by simp⟩, (bR1.set _).other (by omega) _, (bB1.other (by omega) _).set _⟩, (hB1.setCell (p := ⟨w.heap.size, 0, none⟩) (by simp) _).setCell (p := ⟨w.heap.size + 1, 0, none⟩) (by simp) _⟩
  case done =>
    rintro D zs W hD rfl ⟨⟨⟨hp, bR1⟩, bB1⟩, hB1⟩ hK
    have cR := bR1.cell
    have fR := bR1.frozen
    have cB := bB1.cell
    have fB := bB1.frozen
    gi_wp2
    have hK' := ((KeepsOthers.setCell W ⟨w.heap.size, 0, none⟩ (.int .i64 0)).trans (KeepsOthers.setCell _ ⟨w.heap.size + 1, 0, none⟩ (.bool false))).same D _ hK rfl
    refine ⟨by simp, .inl ⟨_, _, rfl, run_takeDeferred hK', ?_⟩⟩
    have hc4 := cell_kept ((bR1.set (.int .i64 0)).other (B' := w.heap.size + 1) (by omega) (.bool false)).cell (grownBy_putObj' _ D (.deferred none)) (fun r e => by cases e; exact ⟨_, hK', rfl⟩)
    have hc5 := cell_kept ((bB1.other (B' := w.heap.size) (by omega) (.int .i64 0)).set (.bool false)).cell (grownBy_putObj' _ D (.deferred none)) (fun r e => by cases e; exact ⟨_, hK', rfl⟩)
    refine ⟨.tuple #[.int .i64 0, .bool false], ?_, by rw [hp]; rfl, ((hB1.setCell (p := ⟨w.heap.size, 0, none⟩) (by simp) _).setCell (p := ⟨w.heap.size + 1, 0, none⟩) (by simp) _).trans (belowK_b (w := w) (Nat.le_refl _) _ D _ _ (by omega) hK' rfl rfl)⟩
    simp [results, Try.f19, go_sem, hc4, hc5]
  case stop =>
    rintro D c pre W hD hpre ⟨⟨⟨rfl, hne⟩, bR1, bB1⟩, hB1⟩ hK
    gi_wp2
    refine ⟨by simp, .inl ⟨_, _, rfl, run_takeDeferred hK, ?_⟩⟩
    have hc4 := cell_kept bR1.cell (grownBy_putObj' _ D (.deferred none)) (fun r e => by cases e; exact ⟨_, hK, rfl⟩)
    have hc5 := cell_kept bB1.cell (grownBy_putObj' _ D (.deferred none)) (fun r e => by cases e; exact ⟨_, hK, rfl⟩)
    refine ⟨.tuple #[.int .i64 (numV pre), .bool true], ?_, ?_, hB1.trans (belowK_b (w := w) (Nat.le_refl _) W D _ _ (by omega) hK rfl rfl)⟩
    · simp [results, Try.f19, go_sem, hc4, hc5]
    · obtain ⟨u, hu⟩ := hpre
      rw [← hu]
      cases pre with
      | nil => exact absurd rfl hne
      | cons y t => rfl
theorem field_Num.calls (A0 : Option Addr) (c0 : Nat) (l0 : List S39) (a1 : Int) (r1 : Int) (r2 : Bool) (w : World) (hr0 : Kd.C k39 w A0 l0.length l0) (hc0 : l0.length ≤ c0) (h : field_Num.f l0 a1 = some (r1, r2)) :
    Calls Try.prog 19 #[.slice A0 l0.length c0, .int .i64 a1] w fun e w' => e = .returned (.tuple #[.int .i64 r1, .bool r2]) ∧ Below w.heap.size w w' := by
  unfold field_Num.f at h
  split at h
  · rename_i hl
    refine callsIn_wide.1 ((num_in Fence.wide 5 trivial trivial trivial rfl (Nat.le_refl _) A0 c0 l0 a1 w hr0 hl).mono ?_)
    rintro e W' ⟨rfl, hb⟩
    refine ⟨?_, hb⟩
    have h := Option.some.inj h
    cases hq : l0.filter (isOf a1 0) with
    | nil => rw [hq] at h; cases h; rfl
    | cons x t => rw [hq] at h; cases h; rfl
  · cases h
end Go.Proofs.Ytinibpncbhmchaa.Q
end
section
namespace Go.Proofs.Ytinibpncbhmchaa.Q
open Go Go.RowKit Go.Shelf Go.Proofs.YtinibpncbhmchaaW.PrintWords Go.Proofs.YtinibpncbhmchaaW.PrintLast Go.Proofs.YtinibpncbhmchaaW.PrintMore
attribute [local go_sem] Oper.semAt_some
set_option linter.unusedSimpArgs false
set_option linter.unusedVariables false
def textV : List S39 → ByteArray
  | [] => ⟨#[]⟩
  | x :: _ => x.f3
set_option maxRecDepth 100000 in
set_option maxHeartbeats 4000000 in
theorem text_in (F : Fence) (n : Nat) (h0 : F.fn 21) (h32 : F.fn 32) (h38 : F.fn 38) (hro : F.round = none) (hn : 5 ≤ n) (A : Option Addr) (c : Nat) (xs : List S39) (tag : Int) (w : World) (hr : Kd.C k39 w A xs.length xs) (hlen : xs.length ≤ 1048576) :
    CallsIn F n Try.prog 21 #[.slice A xs.length c, .int .i64 tag] w fun e W' => e = .returned (.tuple #[.string (textV (xs.filter (isOf tag 1))), .bool (decide (xs.filter (isOf tag 1) ≠ []))]) ∧ Below w.heap.size w W' := by
  have h1 : 1 ≤ n := by omega
  refine callsIn_of_wp_marks Try.func21 rfl h0 ?_ hro
  simp only [Try.ntmps21, List.size_toArray, List.length_cons, List.length_nil, Nat.reduceAdd, Nat.reduceSub, Array.replicate_succ, Array.replicate_zero, List.push_toArray, List.append_toArray, List.nil_append, List.cons_append]
  gi_wp2_with (gi_at_call 32; refine (of_in F (n - 1) h32 hro _ _ _ _ _ _).mono ?_; rintro e w' ⟨rfl, rfl⟩)
  obtain ⟨Z, hZ⟩ : ∃ Z, Z = (w.alloc (.cells #[.string ⟨#[]⟩] 9)).alloc (.cells #[.bool false] 4) := ⟨_, rfl⟩
  have bR := Boxed.new w 9 (.string ⟨#[]⟩)
  have bQ := Boxed.new (w.alloc (.cells #[.string ⟨#[]⟩] 9)) 4 (.bool false)
  have bR := bR.alloc (.cells #[.bool false] 4)
  have hB0 : Below w.heap.size w Z := by rw [hZ]; exact ((Below.refl _ w).alloc (Nat.le_refl _) _).alloc (by simp) _
  have hsz : Z.heap.size = w.heap.size + 1 + 1 := by rw [hZ]; simp
  rw [World.size_alloc] at bQ
  rw [← hZ] at bR bQ ⊢
  clear hZ
  have b1 := ((Boxed.new Z 22 (.slice A xs.length c)).alloc (.cells #[.int .i64 tag] 3)).alloc (.cells #[.int .i64 1] 3)
  have b2 := (Boxed.new (Z.alloc (.cells #[.slice A xs.length c] 22)) 3 (.int .i64 tag)).alloc (.cells #[.int .i64 1] 3)
  have b3 := Boxed.new ((Z.alloc (.cells #[.slice A xs.length c] 22)).alloc (.cells #[.int .i64 tag] 3)) 3 (.int .i64 1)
  simp only [World.size_alloc] at b2 b3
  rw [hsz] at b1 b2 b3
  replace hB0 := ((hB0.alloc (by omega) (.cells #[.slice A xs.length c] 22)).alloc (by simp; omega) (.cells #[.int .i64 tag] 3)).alloc (by simp; omega) (.cells #[.int .i64 1] 3)
  replace bR := ((bR.alloc (.cells #[.slice A xs.length c] 22)).alloc (.cells #[.int .i64 tag] 3)).alloc (.cells #[.int .i64 1] 3)
  replace bQ := ((bQ.alloc (.cells #[.slice A xs.length c] 22)).alloc (.cells #[.int .i64 tag] 3)).alloc (.cells #[.int .i64 1] 3)
  have hszW : (((Z.alloc (.cells #[.slice A xs.length c] 22)).alloc (.cells #[.int .i64 tag] 3)).alloc (.cells #[.int .i64 1] 3)).heap.size = w.heap.size + 5 := by simp; omega
  obtain ⟨W0, hW0⟩ : ∃ W0, ((Z.alloc (.cells #[.slice A xs.length c] 22)).alloc (.cells #[.int .i64 tag] 3)).alloc (.cells #[.int .i64 1] 3) = W0 := ⟨_, rfl⟩
  rw [hW0] at b1 b2 b3 bR bQ hB0 hszW ⊢
  clear hW0
  refine wpIn_rangeFunc_ownH hro h1 (gf := 38) (lb := #[.pointer (some ⟨(w.heap.size + 1 + 1), 0, none⟩), .pointer (some ⟨(w.heap.size + 1 + 1) + 1, 0, none⟩), .pointer (some ⟨(w.heap.size + 1 + 1) + 1 + 1, 0, none⟩)]) rfl h38 (enters_of Try.func38 (by kernel_rfl) rfl)
    (of_stops F (n - 1) h38 hro (by omega) (w.heap.size + 1 + 1) A c xs tag 1 w hr hlen W0 hB0 b1 b2 b3) kpOf_t (kpOf_b (by omega)) (Below.refl _ _) (fun _ => rfl)
    (fun pre W => ((pre = [] ∧ Boxed W w.heap.size 9 (.string ⟨#[]⟩)) ∧ Boxed W (w.heap.size + 1) 4 (.bool false)) ∧ Below w.heap.size w W)
    (fun c pre W => ((c = .ret ∧ pre ≠ []) ∧ Boxed W w.heap.size 9 (.string (textV pre)) ∧ Boxed W (w.heap.size + 1) 4 (.bool true)) ∧ Below w.heap.size w W)
    (OwnFrom.and (OwnFrom.and (OwnFrom.and (ownFrom_pure _ _) (Own.from (boxed_own _ _ _) _)) (Own.from (boxed_own _ _ _) _)) (ownFrom_below (Nat.le_refl _) (by omega)))
    (fun c => OwnFrom.and (OwnFrom.and (ownFrom_pure _ _) (OwnFrom.and (Own.from (boxed_own _ _ _) _) (Own.from (boxed_own _ _ _) _))) (ownFrom_below (Nat.le_refl _) (by omega)))
    ⟨⟨⟨rfl, bR⟩, bQ⟩, hB0⟩
    (fun x a' W => ∃ Bx, w.heap.size + 1 < Bx ∧ W.heap[Bx]? = some (.cells #[.int .i64 x.f0, .int .i64 x.f1, .int .i64 x.f2, .string x.f3] 39 (0, 0)) ∧ a' = { tmps := #[.slice A xs.length c, .int .i64 tag, undef, undef, .pointer (some ⟨w.heap.size, 0, none⟩), .pointer (some ⟨w.heap.size + 1, 0, none⟩), .pointer (some ⟨Bx, 0, none⟩), .slice A xs.length c, .int .i64 tag, .func (.func 38) #[] #[.pointer (some ⟨(w.heap.size + 1 + 1), 0, none⟩), .pointer (some ⟨(w.heap.size + 1 + 1) + 1, 0, none⟩), .pointer (some ⟨(w.heap.size + 1 + 1) + 1 + 1, 0, none⟩)], enc39 x, undef, undef], defers := [] })
    (fun x a' _ X Y row hs hg hr => by obtain ⟨Bx, e1, e2, e3⟩ := hs; exact ⟨Bx, e1, (grownBy_keeps_cells hg (fun r e => (hr r e).2) e2 rfl).trans e2, e3⟩)
    ?assign ?body ?done ?stop
  case assign =>
    rintro l pre x W K ⟨⟨⟨rfl, bR1⟩, bB1⟩, hB1⟩ hK
    simp only [enc39] at hK ⊢
    have hu39 := Try.underlying39
    gi_wp2
    exact hK _ _ ((KeepsOthers.alloc _ _).from _) ⟨(Below.refl _ W).alloc hB1.size _, fun k t v _ _ _ hb => hb.alloc _⟩ ⟨⟨⟨by first | rfl | trivial, bR1.alloc _⟩, bB1.alloc _⟩, hB1.alloc hB1.size _⟩ ⟨W.heap.size, bB1.lt, World.alloc_heap_new W _, rfl⟩
  case body =>
    rintro l pre x a' W hl ⟨r, hr⟩ ⟨⟨⟨rfl, bR1⟩, bB1⟩, hB1⟩ ⟨Bx, hBx, bX, rfl⟩ hlt
    have cR := bR1.cell
    have fR := bR1.frozen
    have cB := bB1.cell
    have fB := bB1.frozen
    have cX : W.cell? ⟨Bx, 3, none⟩ = some (.string x.f3) := (blk_cell bX 3).trans rfl
    gi_wp2
    exact ⟨((KeepsOthers.setCell _ _ _).trans (KeepsOthers.setCell _ _ _)).from _, ⟨⟨by first | rfl | trivial, by simp⟩, (bR1.set _).other (by omega) _, (bB1.other (by omega) _).set _⟩, (hB1.setCell (p := ⟨w.heap.size, 0, none⟩) (by simp) _).setCell (p := ⟨w.heap.size + 1, 0, none⟩) (by simp) _⟩
  case done =>
    rintro D zs W hD rfl ⟨⟨⟨hp, bR1⟩, bB1⟩, hB1⟩ hK
    have cR := bR1.cell
    have fR := bR1.frozen
    have cB := bB1.cell
    have fB := bB1.frozen
    gi_wp2
    have hK' := ((KeepsOthers.setCell W ⟨w.heap.size, 0, none⟩ (.string ⟨#[]⟩)).trans (KeepsOthers.setCell _ ⟨w.heap.size + 1, 0, none⟩ (.bool false))).same D _ hK rfl
    refine ⟨by simp, .inl ⟨_, _, rfl, run_takeDeferred hK', ?_⟩⟩
    have hc4 := cell_kept ((bR1.set (.string ⟨#[]⟩)).other (B' := w.heap.size + 1) (by omega) (.bool false)).cell (grownBy_putObj' _ D (.deferred none)) (fun r e => by cases e; exact ⟨_, hK', rfl⟩)
    have hc5 := cell_kept ((bB1.other (B' := w.heap.size) (by omega) (.string ⟨#[]⟩)).set (.bool false)).cell (grownBy_putObj' _ D (.deferred none)) (fun r e => by cases e; exact ⟨_, hK', rfl⟩)
    refine ⟨.tuple #[.string ⟨#[]⟩, .bool false], ?_, by rw [hp]; rfl, ((hB1.setCell (p := ⟨w.heap.size, 0, none⟩) (by simp) _).setCell (p := ⟨w.heap.size + 1, 0, none⟩) (by simp) _).trans (belowK_b (w := w) (Nat.le_refl _) _ D _ _ (by omega) hK' rfl rfl)⟩
    simp [results, Try.f21, go_sem, hc4, hc5]
  case stop =>
    rintro D c pre W hD hpre ⟨⟨⟨rfl, hne⟩, bR1, bB1⟩, hB1⟩ hK
    gi_wp2
    refine ⟨by simp, .inl ⟨_, _, rfl, run_takeDeferred hK, ?_⟩⟩
    have hc4 := cell_kept bR1.cell (grownBy_putObj' _ D (.deferred none)) (fun r e => by cases e; exact ⟨_, hK, rfl⟩)
    have hc5 := cell_kept bB1.cell (grownBy_putObj' _ D (.deferred none)) (fun r e => by cases e; exact ⟨_, hK, rfl⟩)
    refine ⟨.tuple #[.string (textV pre), .bool true], ?_, ?_, hB1.trans (belowK_b (w := w) (Nat.le_refl _) W D _ _ (by omega) hK rfl rfl)⟩
    · simp [results, Try.f21, go_sem, hc4, hc5]
    · obtain ⟨u, hu⟩ := hpre
      rw [← hu]
      cases pre with
      | nil => exact absurd rfl hne
      | cons y t => rfl
theorem field_Text.calls (A0 : Option Addr) (c0 : Nat) (l0 : List S39) (a1 : Int) (r1 : ByteArray) (r2 : Bool) (w : World) (hr0 : Kd.C k39 w A0 l0.length l0) (hc0 : l0.length ≤ c0) (h : field_Text.f l0 a1 = some (r1, r2)) :
    Calls Try.prog 21 #[.slice A0 l0.length c0, .int .i64 a1] w fun e w' => e = .returned (.tuple #[.string r1, .bool r2]) ∧ Below w.heap.size w w' := by
  unfold field_Text.f at h
  split at h
  · rename_i hl
    refine callsIn_wide.1 ((text_in Fence.wide 5 trivial trivial trivial rfl (Nat.le_refl _) A0 c0 l0 a1 w hr0 hl).mono ?_)
    rintro e W' ⟨rfl, hb⟩
    refine ⟨?_, hb⟩
    have h := Option.some.inj h
    cases hq : l0.filter (isOf a1 1) with
    | nil => rw [hq] at h; cases h; rfl
    | cons x t => rw [hq] at h; cases h; rfl
  · cases h
end Go.Proofs.Ytinibpncbhmchaa.Q
end
section
namespace Go.Proofs.Ytinibpncbhmchaa.Q
open Go Go.RowKit Go.Shelf Go.Proofs.YtinibpncbhmchaaW.PrintWords Go.Proofs.YtinibpncbhmchaaW.PrintLast Go.Proofs.YtinibpncbhmchaaW.PrintMore
attribute [local go_sem] Oper.semAt_some
set_option linter.unusedSimpArgs false
set_option linter.unusedVariables false
def strF (x : S39) : Value := .string x.f3
set_option maxRecDepth 100000 in
set_option maxHeartbeats 4000000 in
theorem texts_in (F : Fence) (n : Nat) (h0 : F.fn 18) (h32 : F.fn 32) (h38 : F.fn 38) (hro : F.round = none) (hn : 5 ≤ n) (A : Option Addr) (c : Nat) (xs : List S39) (tag : Int) (w : World) (hr : Kd.C k39 w A xs.length xs) (hlen : xs.length ≤ 1048576) :
    CallsIn F n Try.prog 18 #[.slice A xs.length c, .int .i64 tag] w fun e W' => ∃ v, e = .returned v ∧ W'.ownsRow w.heap.size 9 1 v (xs.filter (isOf tag 1)).length ((xs.filter (isOf tag 1)).map strF) ∧ Below w.heap.size w W' := by
  have h1 : 1 ≤ n := by omega
  obtain ⟨i0, hi, hz0, hz1, hz2⟩ := info_parts info9
  refine callsIn_of_wp_marks Try.func18 rfl h0 ?_ hro
  simp only [Try.ntmps18, List.size_toArray, List.length_cons, List.length_nil, Nat.reduceAdd, Nat.reduceSub, Array.replicate_succ, Array.replicate_zero, List.push_toArray, List.append_toArray, List.nil_append, List.cons_append]
  gi_wp2_with (gi_at_call 32; refine (of_in F (n - 1) h32 hro _ _ _ _ _ _).mono ?_; rintro e w' ⟨rfl, rfl⟩)
  obtain ⟨Z, hZ⟩ : ∃ Z, Z = w.alloc (.cells #[.slice none 0 0] 42) := ⟨_, rfl⟩
  have bO := Boxed.new w 42 (.slice none 0 0)
  have hB0 : Below w.heap.size w Z := by rw [hZ]; exact (Below.refl _ w).alloc (Nat.le_refl _) _
  have hsz : Z.heap.size = w.heap.size + 1 := by rw [hZ]; simp
  rw [← hZ] at bO ⊢
  clear hZ
  have b1 := ((Boxed.new Z 22 (.slice A xs.length c)).alloc (.cells #[.int .i64 tag] 3)).alloc (.cells #[.int .i64 1] 3)
  have b2 := (Boxed.new (Z.alloc (.cells #[.slice A xs.length c] 22)) 3 (.int .i64 tag)).alloc (.cells #[.int .i64 1] 3)
  have b3 := Boxed.new ((Z.alloc (.cells #[.slice A xs.length c] 22)).alloc (.cells #[.int .i64 tag] 3)) 3 (.int .i64 1)
  simp only [World.size_alloc] at b2 b3
  rw [hsz] at b1 b2 b3
  replace hB0 := ((hB0.alloc (by omega) (.cells #[.slice A xs.length c] 22)).alloc (by simp; omega) (.cells #[.int .i64 tag] 3)).alloc (by simp; omega) (.cells #[.int .i64 1] 3)
  replace bO := ((bO.alloc (.cells #[.slice A xs.length c] 22)).alloc (.cells #[.int .i64 tag] 3)).alloc (.cells #[.int .i64 1] 3)
  have hszW : (((Z.alloc (.cells #[.slice A xs.length c] 22)).alloc (.cells #[.int .i64 tag] 3)).alloc (.cells #[.int .i64 1] 3)).heap.size = w.heap.size + 4 := by simp; omega
  obtain ⟨W0, hW0⟩ : ∃ W0, ((Z.alloc (.cells #[.slice A xs.length c] 22)).alloc (.cells #[.int .i64 tag] 3)).alloc (.cells #[.int .i64 1] 3) = W0 := ⟨_, rfl⟩
  rw [hW0] at b1 b2 b3 bO hB0 hszW ⊢
  clear hW0
  refine wpIn_rangeFunc_ownH hro h1 (gf := 38) (lb := #[.pointer (some ⟨w.heap.size + 1, 0, none⟩), .pointer (some ⟨w.heap.size + 1 + 1, 0, none⟩), .pointer (some ⟨w.heap.size + 1 + 1 + 1, 0, none⟩)]) rfl h38 (enters_of Try.func38 (by kernel_rfl) rfl)
    (of_stops F (n - 1) h38 hro (by omega) (w.heap.size + 1) A c xs tag 1 w hr hlen W0 hB0 b1 b2 b3) kpOf_t (kpOf_b (by omega)) (Below.refl _ _) (fun _ => rfl)
    (fun pre W => (∃ v, Boxed W w.heap.size 42 v ∧ W.ownsRow w.heap.size 9 1 v pre.length (pre.map strF) ∧ True) ∧ Below w.heap.size w W)
    (fun c pre W => False)
    (OwnFrom.and (Own.from (holdsRow_own w.heap.size w.heap.size 42 9 1 (fun pre : List S39 => pre.length) (fun pre : List S39 => pre.map strF) (fun _ _ => True)) _) (ownFrom_below (Nat.le_refl _) (by omega)))
    (fun _ _ _ _ _ hs _ _ => hs)
    ⟨⟨_, bO, World.ownsRow_nil _ _ _ _, trivial⟩, hB0⟩
    (fun x a' W => ∃ Bx, w.heap.size < Bx ∧ W.heap[Bx]? = some (.cells #[.int .i64 x.f0, .int .i64 x.f1, .int .i64 x.f2, .string x.f3] 39 (0, 0)) ∧ a' = { tmps := #[.slice A xs.length c, .int .i64 tag, undef, undef, .slice none 0 0, .pointer (some ⟨w.heap.size, 0, none⟩), .pointer (some ⟨Bx, 0, none⟩), .slice A xs.length c, .int .i64 tag, .func (.func 38) #[] #[.pointer (some ⟨w.heap.size + 1, 0, none⟩), .pointer (some ⟨w.heap.size + 1 + 1, 0, none⟩), .pointer (some ⟨w.heap.size + 1 + 1 + 1, 0, none⟩)], enc39 x, undef, undef, undef, undef, undef, undef], defers := [] })
    (fun x a' _ X Y row hs hg hr => by obtain ⟨Bx, e1, e2, e3⟩ := hs; exact ⟨Bx, e1, (grownBy_keeps_cells hg (fun r e => (hr r e).2) e2 rfl).trans e2, e3⟩)
    ?assign ?body ?done ?stop
  case assign =>
    rintro l pre x W K ⟨⟨v, bO1, hrow, _⟩, hB1⟩ hK
    simp only [enc39] at hK ⊢
    have hu39 := Try.underlying39
    gi_wp2
    exact hK _ _ ((KeepsOthers.alloc _ _).from _) ⟨(Below.refl _ W).alloc hB1.size _, fun k t v _ _ _ hb => hb.alloc _⟩ ⟨⟨v, bO1.alloc _, hrow.alloc _, trivial⟩, hB1.alloc hB1.size _⟩ ⟨W.heap.size, bO1.lt, World.alloc_heap_new W _, rfl⟩
  case body =>
    rintro l pre x a' W hl ⟨r, hr⟩ ⟨⟨v, hv, hrow, _⟩, hB⟩ ⟨Bx, hBx, bX, rfl⟩ hlt
    have hml : pre.length + 1 ≤ maxLen := by unfold maxLen; omega
    have hc := hv.cell
    have cX : W.cell? ⟨Bx, 3, none⟩ = some (.string x.f3) := (blk_cell bX 3).trans rfl
    gi_wp2_with (gi_at_builtin; refine wpListIn_append_own _ rfl _ _ 42 rfl w.heap.size 9 i0 (.string ⟨#[]⟩) 1 16 Try.underlying42 hi hz0 hz1 hz2 rfl (by decide) _ _ _ rfl (hrow.alloc _) ⟨W.heap.size, 0, none⟩ 1 1 [.string x.f3] rfl rfl (cell_one_new _ _ _) (by simp [Value.oneCell']) (by omega) (by omega) (by have := hB.size; simp; omega) ?_; intro v' w1 hown' hgrow _; obtain ⟨g', cap', rfl⟩ := ownsRow_succ hown'; obtain ⟨hv1, hv2, hr2, hk2, hb2⟩ := hv.appended (by decide) hrow hB.size (Nat.le_refl _) hown' hgrow; have hc1 := hv1.cell; have hf1 := hv1.frozen)
    refine ⟨hk2.from _, ⟨hb2, fun k t u ht h1 h2 hb => ?_⟩, ⟨_, hv2, by simpa [strF] using hr2, trivial⟩, hB.trans hb2⟩
    exact ((hb.alloc _).kept hgrow (hb.not_row (by rcases ht with rfl | rfl <;> decide) hrow)).other (by omega) _
  case done =>
    rintro D ys W hD rfl ⟨⟨v, hv, hrow, _⟩, hB⟩ hK
    have hc := hv.cell
    gi_wp2
    refine ⟨by simp, .inl ⟨_, _, rfl, run_takeDeferred hK, ?_⟩⟩
    exact ⟨_, results_tmp rfl _ _ _, v, rfl, ownsRow_putObj hrow _ hK rfl, hB.trans (belowK_b (w := w) (Nat.le_refl _) W D _ _ (by omega) hK rfl rfl)⟩
  case stop =>
    rintro D c pre W _ _ h _
    exact h.elim
theorem field_Texts.calls (A0 : Option Addr) (c0 : Nat) (l0 : List S39) (a1 : Int) (r : List ByteArray) (w : World) (hr0 : Kd.C k39 w A0 l0.length l0) (hc0 : l0.length ≤ c0) (h : field_Texts.f l0 a1 = some r) :
    Calls Try.prog 18 #[.slice A0 l0.length c0, .int .i64 a1] w fun e w' => ∃ v0_ : Value, e = .returned (v0_) ∧ Kd.R Kd.string 9 w' w.heap.size (fun _ => True) v0_ r ∧ Below w.heap.size w w' := by
  unfold field_Texts.f at h
  split at h
  · rename_i hl
    have h := Option.some.inj h
    subst h
    refine callsIn_wide.1 ((texts_in Fence.wide 5 trivial trivial trivial rfl (Nat.le_refl _) A0 c0 l0 a1 w hr0 hl).mono ?_)
    rintro e W' ⟨v, rfl, ho, hb⟩
    refine ⟨v, rfl, ?_, hb⟩
    have hm : (l0.filter (isOf a1 1)).map strF = ((l0.filter (isOf a1 1)).map (·.f3)).map Value.string := by simp [strF]
    rw [hm] at ho
    have hle : (l0.filter (isOf a1 1)).length = ((l0.filter (isOf a1 1)).map (·.f3)).length := by simp
    rw [hle] at ho
    exact Kd.R_of_own ho (fun _ _ => trivial)
  · cases h
end Go.Proofs.Ytinibpncbhmchaa.Q
end
