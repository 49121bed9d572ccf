/- Parts of the proof: HWith, HSw58, HWo, HRList, HCheck, HHasM, Q39, Q40, Q41. -/
import Derived.Test.YtjllbkeobibnkaaDoorZO3
import Derived.Test.YtjllbkeobibnkaaDoorZO1
import Derived.Deep.MidRow
import Derived.Shelf.SlSortCmp.Whole1
import Derived.IntWalk
import Derived.Shelf.Slices.In.Clone
import Derived.StillTailTactics
import Derived.BigQuiet
import Derived.Test.YtjllbkeobibnkaaDoorZO2
import Derived.Test.YtjllbkeobibnkaaDoorWWords
import Derived.Test.YtjllbkeobibnkaaDoorWMore
set_option linter.unusedVariables false
set_option linter.unusedSimpArgs false
namespace Go.Proofs.YtjllbkeobibnkaaDoor.Q
open Go Go.Proofs Go.Shelf Go.RowKit Go.Lib Go.Sort Go.Proofs.YtjllbkeobibnkaaDoorP Go.Proofs.YtjllbkeobibnkaaDoorK Go.Proofs.YtjllbkeobibnkaaDoorW.PrintWords Go.Proofs.YtjllbkeobibnkaaDoorW.PrintLast Go.Proofs.YtjllbkeobibnkaaDoorW.PrintMore
set_option linter.unusedSimpArgs false
set_option linter.unusedVariables false
def endK (p : ByteArray) (l : List S58) : Nat := if hitK p l = true then posK p l + 1 else posK p l
def withS (l : List S58) (p : ByteArray) (a : S51) : List S58 := l.take (posK p l) ++ ([⟨p, a⟩] ++ l.drop (endK p l))
theorem endK_le (p : ByteArray) (l : List S58) : endK p l ≤ l.length := by
  have := posK_le p l
  unfold endK
  split
  · rename_i h
    unfold hitK at h
    split at h
    · rename_i k hk
      have := (List.getElem?_eq_some_iff.1 hk).1
      omega
    · cases h
  · exact this
theorem one58' {W : World} {g : Nat} (p : S58) (h : W.heap[g]? = some (.cells (A58 p) 58 (0, 0))) : k58.C W (some ⟨g, 0, none⟩) 1 [p] := by
  refine ⟨rfl, by decide, fun _ => ⟨_, rfl, fun j x hj => ?_⟩⟩
  obtain rfl : j = 0 := by
    have := (List.getElem?_eq_some_iff.1 hj).1
    simp at this
    omega
  obtain rfl : p = x := by simpa using hj
  refine ⟨L58 p, L58_len p, rfl, fun i u hi => ?_⟩
  rw [Nat.zero_mul, Nat.zero_add, Addr.add_lit, Nat.zero_add, blk_cell h]
  unfold A58
  simpa using hi
attribute [local go_sem] A51_size A51_0 A51_1 A51_g0 A51_g1 A58_size A58_0 A58_1 A58_2 A58_g0 A58_g1 A58_g2 cell_held frozen_held
theorem A58_ne (x : S58) : (A58 x = #[]) = False := eq_false (fun h => by have := congrArg Array.size h; rw [A58_size] at this; exact absurd this (by decide))
attribute [local go_sem] zero51 zero58 zero65 set58 laid58 laid58a A58_ne
attribute [local go_sem ↓ high] lvx_of
attribute [local go_sem] lv_sc lv24 lv33
attribute [local go_sem ↓ high] lv51 lv51s lv58 lv58a lv65 lv65a lv65l lv65r sc51 sc58 sc65 sc65a sc65l sc65r sc58a
--REGWORDS with5
def with5.T5 : Bool × List (List Nat × List Nat) := (true, [([], []), ([], []), ([0, 1], [0, 1]), ([], []), ([], []), ([3, 4], [3, 4]), ([5], [5]), ([], []), ([], []), ([7, 8], [7, 8]), ([2, 6, 9], [2, 6, 9]), ([10], [10]), ([11, 11, 0, 1, 2, 3, 4, 5, 6, 7, 8, 9, 10, 11], [11])])
def with5.B5 : List Nat := [0, 0, 3, 0, 0, 24, 56, 0, 0, 384, 1023, 2047, 4095]
theorem with5.tab5 : rtab .any (opsOf Tryd.f35 5) = with5.T5 := by kernel_rfl
theorem with5.bits5 : waitsOk with5.T5.2 with5.B5 = true := by kernel_rfl
--END
set_option maxRecDepth 100000 in
set_option maxHeartbeats 4000000 in
theorem with_any (w : World) (A : Option Addr) (c : Nat) (l : List S58) (p : ByteArray) (a : S51) (hC : k58.C w A l.length l) (hc : l.length ≤ c) (hs : shortK l = true) (hl : l.length ≤ 100000) (hp : p.size ≤ 65536) (hr : risK l) :
    Calls Tryd.prog 35 #[.slice A l.length c, .string p, .agg (A51 a)] w fun e w' => ∃ v, e = .returned v ∧ k58.R 58 w' w.heap.size (fun _ => True) v (withS l p a) ∧ Below w.heap.size w w' := by
  have HB := Aside0.mk (fun W (hb : Below w.heap.size w W) => bsf_any W A c l p (Kd.C_below hC hb) hs hp hr)
  have hpos := posK_le p l
  have hend := endK_le p l
  have HT := Aside0.mk (fun W (hb : Below w.heap.size w W) => Kd.C_take (Kd.C_below hC hb) hpos)
  have HD := Aside0.mk (fun W (hb : Below w.heap.size w W) => Kd.C_drop (Kd.C_below hC hb) hend hc)
  have hle : (l.take (posK p l)).length + ([(⟨p, a⟩ : S58)].length + (l.drop (endK p l)).length) ≤ 1048576 := by
    simp only [List.length_take, List.length_drop, List.length_cons, List.length_nil]
    omega
  unfold withS
  have ht1 : (l.take (posK p l)).length = posK p l := by rw [List.length_take]; omega
  have hd1 : (l.drop (endK p l)).length = l.length - endK p l := List.length_drop
  have hee : endK p l = if hitK p l = true then posK p l + 1 else posK p l := rfl
  have HCC := Aside0.mk (fun W b (x y z : List S58) (A1 A2 A3 : Option Addr) (c1 c2 c3 n1 n2 n3 : Nat) (e1 : n1 = x.length) (e2 : n2 = y.length) (e3 : n3 = z.length) (hb : W.heap[b]? = some (.cells #[.slice A1 n1 c1, .slice A2 n2 c2, .slice A3 n3 c3] 22 (0, 0))) (h1 : k58.C W A1 x.length x) (h2 : k58.C W A2 y.length y) (h3 : k58.C W A3 z.length z) (hl : x.length + (y.length + z.length) ≤ 1048576) =>
    (concat_any W b 3 [x, y, z] (by simpa using hl) (by simp) (fun j hj => by
      subst e1 e2 e3
      rcases (show j = 0 ∨ j = 1 ∨ j = 2 by simp at hj; omega) with rfl | rfl | rfl
      · exact ⟨A1, c1, (blk_cell hb 0).trans rfl, h1⟩
      · exact ⟨A2, c2, (blk_cell hb 1).trans rfl, h2⟩
      · exact ⟨A3, c3, (blk_cell hb 2).trans rfl, h3⟩)))
  generalize l.take (posK p l) = x at HT hle ht1 ⊢
  generalize l.drop (endK p l) = z at HD hle hd1 ⊢
  generalize endK p l = en at *
  generalize posK p l = po at *
  generalize hitK p l = hi at *
  have HE := Aside0.mk hee
  have hnone : A = none → l.length = 0 := fun h => by
    rcases Nat.eq_zero_or_pos l.length with h0 | h0
    · exact h0
    · obtain ⟨a, he, _⟩ := hC.2.2 h0
      rw [h] at he
      cases he
  clear hC hs hp hr hee
  generalize hn : l.length = n at *
  clear hn
  have hzl : ∀ X W, z = [] → k58.C W X z.length z := fun X W h => by subst h; exact ⟨rfl, by decide, fun h => absurd h (by decide)⟩
  have hmode : (A = none ∧ n = 0 ∧ po = 0 ∧ en = 0 ∧ hi = false ∧ ∀ W, Below w.heap.size w W → k58.C W none z.length z) ∨ (∃ ad, A = some ad ∧ c = en ∧ ∀ W, Below w.heap.size w W → k58.C W (some ad) z.length z) ∨ (∃ ad, A = some ad ∧ ¬ c = en ∧ ∀ W, Below w.heap.size w W → k58.C W (some (ad.add (en * 35))) z.length z) := by
    cases A with
    | none =>
      have h0 := hnone rfl
      refine .inl ⟨rfl, h0, by omega, by omega, ?_, fun W _ => hzl _ W (List.eq_nil_of_length_eq_zero (by omega))⟩
      cases hi with
      | false => rfl
      | true => have := HE.out; rw [if_pos rfl] at this; omega
    | some ad =>
      by_cases hce : c = en
      · exact .inr (.inl ⟨ad, rfl, hce, fun W _ => hzl _ W (List.eq_nil_of_length_eq_zero (by omega))⟩)
      · exact .inr (.inr ⟨ad, rfl, hce, fun W hb => by have := HD.out W hb; rw [if_neg hce] at this; exact this⟩)
  clear hzl hnone HD
  rcases hmode with ⟨rfl, rfl, rfl, rfl, rfl, hD3⟩ | ⟨ad, rfl, hce, hD3⟩ | ⟨ad, rfl, hce, hD3⟩
  rotate_left
  · cases hi with
    | true =>
      have he := HE.out
      rw [if_pos rfl] at he
      subst he
      subst hce
      have q1 : (po : Int) ≤ (po : Int) + 1 := by omega
      have q2 : (0 : Int) ≤ (po : Int) + 1 := by omega
      have q3 : (po : Int) + 1 ≤ (n : Int) := by omega
      have HD3 := Aside0.mk hD3
      clear hD3
      go_enter Tryd.func35, Tryd.ntmps35
      go_wp2_with fail
      refine (HB.out _ (bel _ _)).mono ?_
      rintro e w1 ⟨rfl, hb1⟩
      have p1 := prev_call hb1
      clear hb1
      go_wp2_with fail
      --REG with5
      refine start_ (n := 13) (S := fun w' => w'.heap[w.heap.size]? = some (.cells (A51 a) 51 (0, 0))) (ds := []) #[false, false, false, false, false, false, false, false, false, false, false, false, false] (by kernel_rfl) rfl rfl held (fun hHeld => ?_); refine with_tabW with5.tab5 with5.bits5 (fun HT_ HW_ => ?_)
      refine pure_ (i := 0) (N := some 20) (v := ?_) (a' := ?_) #[true, false, false, false, false, false, false, false, false, false, false, false, false] rfl rfl (any_of HT_.out (by kernel_rfl)) (fun _ _ _ h => h) (Or.inl ⟨by rfl, ?_⟩) ?_ ?_
      rotate_left
      · intro w'
        go_simp
        with_reducible rfl
      rotate_left
      · simp only [Act.put, List.setIfInBounds_toArray, List.set_cons_zero, List.set_cons_succ, i64_w, i32_w]
        rfl
      refine pure_ (i := 1) (N := some 21) (v := ?_) (a' := ?_) #[true, true, false, false, false, false, false, false, false, false, false, false, false] rfl rfl (any_of HT_.out (by kernel_rfl)) (fun _ _ _ h => h) (Or.inl ⟨by rfl, ?_⟩) ?_ ?_
      rotate_left
      · intro w'
        go_simp
        with_reducible rfl
      rotate_left
      · simp only [Act.put, List.setIfInBounds_toArray, List.set_cons_zero, List.set_cons_succ, i64_w, i32_w]
        rfl
      refine pure_ (i := 2) (N := some 22) (v := ?_) (a' := ?_) #[true, true, true, false, false, false, false, false, false, false, false, false, false] rfl rfl (any_of HT_.out (by kernel_rfl)) (fun _ _ _ h => h) (Or.inl ⟨by rfl, ?_⟩) ?_ ?_
      rotate_left
      · intro w'
        go_simp
        with_reducible rfl
      rotate_left
      · simp only [Act.put, List.setIfInBounds_toArray, List.set_cons_zero, List.set_cons_succ, i64_w, i32_w]
        rfl
      refine pure_ (i := 3) (N := some 23) (v := ?_) (a' := ?_) #[true, true, true, true, false, false, false, false, false, false, false, false, false] rfl rfl (any_of HT_.out (by kernel_rfl)) (fun _ _ _ h => h) (Or.inl ⟨by rfl, ?_⟩) ?_ ?_
      rotate_left
      · intro w'
        go_simp
        with_reducible rfl
      rotate_left
      · simp only [Act.put, List.setIfInBounds_toArray, List.set_cons_zero, List.set_cons_succ, i64_w, i32_w]
        rfl
      refine pure_ (i := 7) (N := some 27) (v := ?_) (a' := ?_) #[true, true, true, true, false, false, false, true, false, false, false, false, false] rfl rfl (any_of HT_.out (by kernel_rfl)) (fun _ _ _ h => h) (Or.inl ⟨by rfl, ?_⟩) ?_ ?_
      rotate_left
      · intro w'
        go_simp
        with_reducible rfl
      rotate_left
      · simp only [Act.put, List.setIfInBounds_toArray, List.set_cons_zero, List.set_cons_succ, i64_w, i32_w]
        rfl
      refine pure_ (i := 8) (N := some 28) (v := ?_) (a' := ?_) #[true, true, true, true, false, false, false, true, true, false, false, false, false] rfl rfl (any_of HT_.out (by kernel_rfl)) (fun _ _ _ h => h) (Or.inl ⟨by rfl, ?_⟩) ?_ ?_
      rotate_left
      · intro w'
        go_simp
        with_reducible rfl
      rotate_left
      · simp only [Act.put, List.setIfInBounds_toArray, List.set_cons_zero, List.set_cons_succ, i64_w, i32_w]
        rfl
      refine pure_ (i := 9) (N := some 29) (v := ?_) (a' := ?_) #[true, true, true, true, false, false, false, true, true, true, false, false, false] rfl rfl (any_of HT_.out (by kernel_rfl)) (fun _ _ _ h => h) (Or.inl ⟨by rfl, ?_⟩) ?_ ?_
      rotate_left
      · intro w'
        go_simp
        with_reducible rfl
      rotate_left
      · simp only [Act.put, List.setIfInBounds_toArray, List.set_cons_zero, List.set_cons_succ, i64_w, i32_w]
        rfl
      refine take_ (i := 4) (N := some 24) (v := ?_) (a' := ?_) #[true, true, true, true, true, false, false, true, true, true, false, false, false] rfl rfl (take_ofW HT_.out HW_.out (by kernel_rfl)) (fun _ _ _ h => h) (Or.inl ⟨by rfl, ?_⟩) hHeld ?_ ?_
      rotate_left
      · rintro w' s0
        have i0 : Go.Proofs.YtjllbkeobibnkaaDoorK.Holds w' w.heap.size (.cells (A51 a) 51) := ⟨s0⟩
        go_simp
        with_reducible rfl
      rotate_left
      · simp only [Act.put, List.setIfInBounds_toArray, List.set_cons_zero, List.set_cons_succ, i64_w, i32_w]
        rfl
      refine pure_ (i := 5) (N := some 25) (v := ?_) (a' := ?_) #[true, true, true, true, true, true, false, true, true, true, false, false, false] rfl rfl (any_of HT_.out (by kernel_rfl)) (fun _ _ _ h => h) (Or.inl ⟨by rfl, ?_⟩) ?_ ?_
      rotate_left
      · intro w'
        go_simp
        with_reducible rfl
      rotate_left
      · simp only [Act.put, List.setIfInBounds_toArray, List.set_cons_zero, List.set_cons_succ, i64_w, i32_w]
        rfl
      refine one_ (i := 6) (N := some 26) #[true, true, true, true, true, true, true, true, true, true, false, false, false] rfl rfl (one_of HT_.out (by kernel_rfl)) (by decide) (fun K hK => ?_)
      refine new_step (ob := .cells (A58 ⟨p, a⟩) 58) (by rfl) rfl (by go_simp; rfl) ?_
      intro w2 p2 h2
      refine hK.out _ _ held (fun hHeld => ?_)
      clear hK K
      refine norm_ (a' := ?_) ?_ ?_
      rotate_left
      · show Act.put _ (some 26) _ = _
        simp only [Act.put, List.setIfInBounds_toArray, List.set_cons_zero, List.set_cons_succ, i64_w, i32_w]
        rfl
      refine one_ (i := 10) (N := some 30) #[true, true, true, true, true, true, true, true, true, true, true, false, false] rfl rfl (one_of HT_.out (by kernel_rfl)) (by decide) (fun K hK => ?_)
      refine new_step (ob := .cells #[_, _, _] 22) (by rfl) rfl (by go_simp; first | rfl | exact ⟨rfl, rfl⟩) ?_
      intro w3 p3 h3
      refine hK.out _ _ held (fun hHeld => ?_)
      clear hK K
      refine norm_ (a' := ?_) ?_ ?_
      rotate_left
      · show Act.put _ (some 30) _ = _
        simp only [Act.put, List.setIfInBounds_toArray, List.set_cons_zero, List.set_cons_succ, i64_w, i32_w]
        rfl
      refine one_ (i := 11) (N := some 31) #[true, true, true, true, true, true, true, true, true, true, true, true, false] rfl rfl (one_of HT_.out (by kernel_rfl)) (by decide) (fun K hK => ?_)
      refine goes_ Tryd.func62 (by kernel_rfl) rfl #[.slice (some ⟨w2.heap.size, 0, none⟩) 3 3] (by rfl) rfl rfl (by (try simp only [List.map_toArray, List.map_cons, List.map_nil]); first | done | rfl) ?_
      refine (HCC.out _ _ x [⟨p, a⟩] z _ _ _ _ _ _ _ _ _ ?e1 ?e2 ?e3 held ?h1 ?h2 ?h3 hle).mono ?_
      case e1 => omega
      case e2 => rfl
      case e3 => omega
      case h1 => exact HT.out _ (bel _ _)
      case h2 => exact Kd.C_below (one58' _ (held (W := w2) (g := w1.drew.heap.size))) (bel _ _)
      case h3 => exact HD3.out _ (bel _ _)
      rintro e4 w4 ⟨v4, rfl, hv, hb⟩
      have p4 := prev_call hb
      have HV4 := Aside0.mk hv
      clear hb hv
      refine ⟨_, rfl, ?_⟩
      refine hK.out _ _ held (fun hHeld => ?_)
      clear hK K
      refine norm_ (a' := ?_) ?_ ?_
      rotate_left
      · show Act.put _ (some 31) _ = _
        simp only [Act.put, List.setIfInBounds_toArray, List.set_cons_zero, List.set_cons_succ, i64_w, i32_w]
        rfl
      refine pure_ (i := 12) (N := some 6) (v := ?_) (a' := ?_) #[true, true, true, true, true, true, true, true, true, true, true, true, true] rfl rfl (any_of HT_.out (by kernel_rfl)) (fun _ _ _ h => h) (Or.inl ⟨by rfl, ?_⟩) ?_ ?_
      rotate_left
      · intro w'
        go_simp
        with_reducible rfl
      rotate_left
      · simp only [Act.put, List.setIfInBounds_toArray, List.set_cons_zero, List.set_cons_succ, i64_w, i32_w]
        rfl
      refine done_ (done_of HT_.out (by kernel_rfl)) ?_
      --END
      go_wp2_with fail
      go_ret
      exact ⟨_, rfl, Kd.R_lower (by simpa using HV4.out) (siz w _), bel _ _⟩
    | false =>
      have he := HE.out
      rw [if_neg (by decide)] at he
      obtain rfl : po = en := he.symm
      obtain rfl : po = c := hce.symm
      have q3 : (po : Int) ≤ (n : Int) := by omega
      have HD3 := Aside0.mk hD3
      clear hD3
      go_enter Tryd.func35, Tryd.ntmps35
      go_wp2_with fail
      refine (HB.out _ (bel _ _)).mono ?_
      rintro e w1 ⟨rfl, hb1⟩
      have p1 := prev_call hb1
      clear hb1
      go_wp2_with fail
      --REG with5
      refine start_ (n := 13) (S := fun w' => w'.heap[w.heap.size]? = some (.cells (A51 a) 51 (0, 0))) (ds := []) #[false, false, false, false, false, false, false, false, false, false, false, false, false] (by kernel_rfl) rfl rfl held (fun hHeld => ?_); refine with_tabW with5.tab5 with5.bits5 (fun HT_ HW_ => ?_)
      refine pure_ (i := 0) (N := some 20) (v := ?_) (a' := ?_) #[true, false, false, false, false, false, false, false, false, false, false, false, false] rfl rfl (any_of HT_.out (by kernel_rfl)) (fun _ _ _ h => h) (Or.inl ⟨by rfl, ?_⟩) ?_ ?_
      rotate_left
      · intro w'
        go_simp
        with_reducible rfl
      rotate_left
      · simp only [Act.put, List.setIfInBounds_toArray, List.set_cons_zero, List.set_cons_succ, i64_w, i32_w]
        rfl
      refine pure_ (i := 1) (N := some 21) (v := ?_) (a' := ?_) #[true, true, false, false, false, false, false, false, false, false, false, false, false] rfl rfl (any_of HT_.out (by kernel_rfl)) (fun _ _ _ h => h) (Or.inl ⟨by rfl, ?_⟩) ?_ ?_
      rotate_left
      · intro w'
        go_simp
        with_reducible rfl
      rotate_left
      · simp only [Act.put, List.setIfInBounds_toArray, List.set_cons_zero, List.set_cons_succ, i64_w, i32_w]
        rfl
      refine pure_ (i := 2) (N := some 22) (v := ?_) (a' := ?_) #[true, true, true, false, false, false, false, false, false, false, false, false, false] rfl rfl (any_of HT_.out (by kernel_rfl)) (fun _ _ _ h => h) (Or.inl ⟨by rfl, ?_⟩) ?_ ?_
      rotate_left
      · intro w'
        go_simp
        with_reducible rfl
      rotate_left
      · simp only [Act.put, List.setIfInBounds_toArray, List.set_cons_zero, List.set_cons_succ, i64_w, i32_w]
        rfl
      refine pure_ (i := 3) (N := some 23) (v := ?_) (a' := ?_) #[true, true, true, true, false, false, false, false, false, false, false, false, false] rfl rfl (any_of HT_.out (by kernel_rfl)) (fun _ _ _ h => h) (Or.inl ⟨by rfl, ?_⟩) ?_ ?_
      rotate_left
      · intro w'
        go_simp
        with_reducible rfl
      rotate_left
      · simp only [Act.put, List.setIfInBounds_toArray, List.set_cons_zero, List.set_cons_succ, i64_w, i32_w]
        rfl
      refine pure_ (i := 7) (N := some 27) (v := ?_) (a' := ?_) #[true, true, true, true, false, false, false, true, false, false, false, false, false] rfl rfl (any_of HT_.out (by kernel_rfl)) (fun _ _ _ h => h) (Or.inl ⟨by rfl, ?_⟩) ?_ ?_
      rotate_left
      · intro w'
        go_simp
        with_reducible rfl
      rotate_left
      · simp only [Act.put, List.setIfInBounds_toArray, List.set_cons_zero, List.set_cons_succ, i64_w, i32_w]
        rfl
      refine pure_ (i := 8) (N := some 28) (v := ?_) (a' := ?_) #[true, true, true, true, false, false, false, true, true, false, false, false, false] rfl rfl (any_of HT_.out (by kernel_rfl)) (fun _ _ _ h => h) (Or.inl ⟨by rfl, ?_⟩) ?_ ?_
      rotate_left
      · intro w'
        go_simp
        with_reducible rfl
      rotate_left
      · simp only [Act.put, List.setIfInBounds_toArray, List.set_cons_zero, List.set_cons_succ, i64_w, i32_w]
        rfl
      refine pure_ (i := 9) (N := some 29) (v := ?_) (a' := ?_) #[true, true, true, true, false, false, false, true, true, true, false, false, false] rfl rfl (any_of HT_.out (by kernel_rfl)) (fun _ _ _ h => h) (Or.inl ⟨by rfl, ?_⟩) ?_ ?_
      rotate_left
      · intro w'
        go_simp
        with_reducible rfl
      rotate_left
      · simp only [Act.put, List.setIfInBounds_toArray, List.set_cons_zero, List.set_cons_succ, i64_w, i32_w]
        rfl
      refine take_ (i := 4) (N := some 24) (v := ?_) (a' := ?_) #[true, true, true, true, true, false, false, true, true, true, false, false, false] rfl rfl (take_ofW HT_.out HW_.out (by kernel_rfl)) (fun _ _ _ h => h) (Or.inl ⟨by rfl, ?_⟩) hHeld ?_ ?_
      rotate_left
      · rintro w' s0
        have i0 : Go.Proofs.YtjllbkeobibnkaaDoorK.Holds w' w.heap.size (.cells (A51 a) 51) := ⟨s0⟩
        go_simp
        with_reducible rfl
      rotate_left
      · simp only [Act.put, List.setIfInBounds_toArray, List.set_cons_zero, List.set_cons_succ, i64_w, i32_w]
        rfl
      refine pure_ (i := 5) (N := some 25) (v := ?_) (a' := ?_) #[true, true, true, true, true, true, false, true, true, true, false, false, false] rfl rfl (any_of HT_.out (by kernel_rfl)) (fun _ _ _ h => h) (Or.inl ⟨by rfl, ?_⟩) ?_ ?_
      rotate_left
      · intro w'
        go_simp
        with_reducible rfl
      rotate_left
      · simp only [Act.put, List.setIfInBounds_toArray, List.set_cons_zero, List.set_cons_succ, i64_w, i32_w]
        rfl
      refine one_ (i := 6) (N := some 26) #[true, true, true, true, true, true, true, true, true, true, false, false, false] rfl rfl (one_of HT_.out (by kernel_rfl)) (by decide) (fun K hK => ?_)
      refine new_step (ob := .cells (A58 ⟨p, a⟩) 58) (by rfl) rfl (by go_simp; rfl) ?_
      intro w2 p2 h2
      refine hK.out _ _ held (fun hHeld => ?_)
      clear hK K
      refine norm_ (a' := ?_) ?_ ?_
      rotate_left
      · show Act.put _ (some 26) _ = _
        simp only [Act.put, List.setIfInBounds_toArray, List.set_cons_zero, List.set_cons_succ, i64_w, i32_w]
        rfl
      refine one_ (i := 10) (N := some 30) #[true, true, true, true, true, true, true, true, true, true, true, false, false] rfl rfl (one_of HT_.out (by kernel_rfl)) (by decide) (fun K hK => ?_)
      refine new_step (ob := .cells #[_, _, _] 22) (by rfl) rfl (by go_simp; first | rfl | exact ⟨rfl, rfl⟩) ?_
      intro w3 p3 h3
      refine hK.out _ _ held (fun hHeld => ?_)
      clear hK K
      refine norm_ (a' := ?_) ?_ ?_
      rotate_left
      · show Act.put _ (some 30) _ = _
        simp only [Act.put, List.setIfInBounds_toArray, List.set_cons_zero, List.set_cons_succ, i64_w, i32_w]
        rfl
      refine one_ (i := 11) (N := some 31) #[true, true, true, true, true, true, true, true, true, true, true, true, false] rfl rfl (one_of HT_.out (by kernel_rfl)) (by decide) (fun K hK => ?_)
      refine goes_ Tryd.func62 (by kernel_rfl) rfl #[.slice (some ⟨w2.heap.size, 0, none⟩) 3 3] (by rfl) rfl rfl (by (try simp only [List.map_toArray, List.map_cons, List.map_nil]); first | done | rfl) ?_
      refine (HCC.out _ _ x [⟨p, a⟩] z _ _ _ _ _ _ _ _ _ ?e1 ?e2 ?e3 held ?h1 ?h2 ?h3 hle).mono ?_
      case e1 => omega
      case e2 => rfl
      case e3 => omega
      case h1 => exact HT.out _ (bel _ _)
      case h2 => exact Kd.C_below (one58' _ (held (W := w2) (g := w1.drew.heap.size))) (bel _ _)
      case h3 => exact HD3.out _ (bel _ _)
      rintro e4 w4 ⟨v4, rfl, hv, hb⟩
      have p4 := prev_call hb
      have HV4 := Aside0.mk hv
      clear hb hv
      refine ⟨_, rfl, ?_⟩
      refine hK.out _ _ held (fun hHeld => ?_)
      clear hK K
      refine norm_ (a' := ?_) ?_ ?_
      rotate_left
      · show Act.put _ (some 31) _ = _
        simp only [Act.put, List.setIfInBounds_toArray, List.set_cons_zero, List.set_cons_succ, i64_w, i32_w]
        rfl
      refine pure_ (i := 12) (N := some 6) (v := ?_) (a' := ?_) #[true, true, true, true, true, true, true, true, true, true, true, true, true] rfl rfl (any_of HT_.out (by kernel_rfl)) (fun _ _ _ h => h) (Or.inl ⟨by rfl, ?_⟩) ?_ ?_
      rotate_left
      · intro w'
        go_simp
        with_reducible rfl
      rotate_left
      · simp only [Act.put, List.setIfInBounds_toArray, List.set_cons_zero, List.set_cons_succ, i64_w, i32_w]
        rfl
      refine done_ (done_of HT_.out (by kernel_rfl)) ?_
      --END
      go_wp2_with fail
      go_ret
      exact ⟨_, rfl, Kd.R_lower (by simpa using HV4.out) (siz w _), bel _ _⟩
  · cases hi with
    | true =>
      have he := HE.out
      rw [if_pos rfl] at he
      subst he
      have q1 : po ≤ c := by omega
      have q2 : (0 : Int) ≤ (po : Int) + 1 := by omega
      have q3 : (po : Int) + 1 ≤ (n : Int) := by omega
      have HD3 := Aside0.mk hD3
      clear hD3
      go_enter Tryd.func35, Tryd.ntmps35
      go_wp2_with fail
      refine (HB.out _ (bel _ _)).mono ?_
      rintro e w1 ⟨rfl, hb1⟩
      have p1 := prev_call hb1
      clear hb1
      go_wp2_with fail
      --REG with5
      refine start_ (n := 13) (S := fun w' => w'.heap[w.heap.size]? = some (.cells (A51 a) 51 (0, 0))) (ds := []) #[false, false, false, false, false, false, false, false, false, false, false, false, false] (by kernel_rfl) rfl rfl held (fun hHeld => ?_); refine with_tabW with5.tab5 with5.bits5 (fun HT_ HW_ => ?_)
      refine pure_ (i := 0) (N := some 20) (v := ?_) (a' := ?_) #[true, false, false, false, false, false, false, false, false, false, false, false, false] rfl rfl (any_of HT_.out (by kernel_rfl)) (fun _ _ _ h => h) (Or.inl ⟨by rfl, ?_⟩) ?_ ?_
      rotate_left
      · intro w'
        go_simp
        with_reducible rfl
      rotate_left
      · simp only [Act.put, List.setIfInBounds_toArray, List.set_cons_zero, List.set_cons_succ, i64_w, i32_w]
        rfl
      refine pure_ (i := 1) (N := some 21) (v := ?_) (a' := ?_) #[true, true, false, false, false, false, false, false, false, false, false, false, false] rfl rfl (any_of HT_.out (by kernel_rfl)) (fun _ _ _ h => h) (Or.inl ⟨by rfl, ?_⟩) ?_ ?_
      rotate_left
      · intro w'
        go_simp
        with_reducible rfl
      rotate_left
      · simp only [Act.put, List.setIfInBounds_toArray, List.set_cons_zero, List.set_cons_succ, i64_w, i32_w]
        rfl
      refine pure_ (i := 2) (N := some 22) (v := ?_) (a' := ?_) #[true, true, true, false, false, false, false, false, false, false, false, false, false] rfl rfl (any_of HT_.out (by kernel_rfl)) (fun _ _ _ h => h) (Or.inl ⟨by rfl, ?_⟩) ?_ ?_
      rotate_left
      · intro w'
        go_simp
        with_reducible rfl
      rotate_left
      · simp only [Act.put, List.setIfInBounds_toArray, List.set_cons_zero, List.set_cons_succ, i64_w, i32_w]
        rfl
      refine pure_ (i := 3) (N := some 23) (v := ?_) (a' := ?_) #[true, true, true, true, false, false, false, false, false, false, false, false, false] rfl rfl (any_of HT_.out (by kernel_rfl)) (fun _ _ _ h => h) (Or.inl ⟨by rfl, ?_⟩) ?_ ?_
      rotate_left
      · intro w'
        go_simp
        with_reducible rfl
      rotate_left
      · simp only [Act.put, List.setIfInBounds_toArray, List.set_cons_zero, List.set_cons_succ, i64_w, i32_w]
        rfl
      refine pure_ (i := 7) (N := some 27) (v := ?_) (a' := ?_) #[true, true, true, true, false, false, false, true, false, false, false, false, false] rfl rfl (any_of HT_.out (by kernel_rfl)) (fun _ _ _ h => h) (Or.inl ⟨by rfl, ?_⟩) ?_ ?_
      rotate_left
      · intro w'
        go_simp
        with_reducible rfl
      rotate_left
      · simp only [Act.put, List.setIfInBounds_toArray, List.set_cons_zero, List.set_cons_succ, i64_w, i32_w]
        rfl
      refine pure_ (i := 8) (N := some 28) (v := ?_) (a' := ?_) #[true, true, true, true, false, false, false, true, true, false, false, false, false] rfl rfl (any_of HT_.out (by kernel_rfl)) (fun _ _ _ h => h) (Or.inl ⟨by rfl, ?_⟩) ?_ ?_
      rotate_left
      · intro w'
        go_simp
        with_reducible rfl
      rotate_left
      · simp only [Act.put, List.setIfInBounds_toArray, List.set_cons_zero, List.set_cons_succ, i64_w, i32_w]
        rfl
      refine pure_ (i := 9) (N := some 29) (v := ?_) (a' := ?_) #[true, true, true, true, false, false, false, true, true, true, false, false, false] rfl rfl (any_of HT_.out (by kernel_rfl)) (fun _ _ _ h => h) (Or.inl ⟨by rfl, ?_⟩) ?_ ?_
      rotate_left
      · intro w'
        go_simp
        with_reducible rfl
      rotate_left
      · simp only [Act.put, List.setIfInBounds_toArray, List.set_cons_zero, List.set_cons_succ, i64_w, i32_w]
        rfl
      refine take_ (i := 4) (N := some 24) (v := ?_) (a' := ?_) #[true, true, true, true, true, false, false, true, true, true, false, false, false] rfl rfl (take_ofW HT_.out HW_.out (by kernel_rfl)) (fun _ _ _ h => h) (Or.inl ⟨by rfl, ?_⟩) hHeld ?_ ?_
      rotate_left
      · rintro w' s0
        have i0 : Go.Proofs.YtjllbkeobibnkaaDoorK.Holds w' w.heap.size (.cells (A51 a) 51) := ⟨s0⟩
        go_simp
        with_reducible rfl
      rotate_left
      · simp only [Act.put, List.setIfInBounds_toArray, List.set_cons_zero, List.set_cons_succ, i64_w, i32_w]
        rfl
      refine pure_ (i := 5) (N := some 25) (v := ?_) (a' := ?_) #[true, true, true, true, true, true, false, true, true, true, false, false, false] rfl rfl (any_of HT_.out (by kernel_rfl)) (fun _ _ _ h => h) (Or.inl ⟨by rfl, ?_⟩) ?_ ?_
      rotate_left
      · intro w'
        go_simp
        with_reducible rfl
      rotate_left
      · simp only [Act.put, List.setIfInBounds_toArray, List.set_cons_zero, List.set_cons_succ, i64_w, i32_w]
        rfl
      refine one_ (i := 6) (N := some 26) #[true, true, true, true, true, true, true, true, true, true, false, false, false] rfl rfl (one_of HT_.out (by kernel_rfl)) (by decide) (fun K hK => ?_)
      refine new_step (ob := .cells (A58 ⟨p, a⟩) 58) (by rfl) rfl (by go_simp; rfl) ?_
      intro w2 p2 h2
      refine hK.out _ _ held (fun hHeld => ?_)
      clear hK K
      refine norm_ (a' := ?_) ?_ ?_
      rotate_left
      · show Act.put _ (some 26) _ = _
        simp only [Act.put, List.setIfInBounds_toArray, List.set_cons_zero, List.set_cons_succ, i64_w, i32_w]
        rfl
      refine one_ (i := 10) (N := some 30) #[true, true, true, true, true, true, true, true, true, true, true, false, false] rfl rfl (one_of HT_.out (by kernel_rfl)) (by decide) (fun K hK => ?_)
      refine new_step (ob := .cells #[_, _, _] 22) (by rfl) rfl (by go_simp; first | rfl | exact ⟨rfl, rfl⟩) ?_
      intro w3 p3 h3
      refine hK.out _ _ held (fun hHeld => ?_)
      clear hK K
      refine norm_ (a' := ?_) ?_ ?_
      rotate_left
      · show Act.put _ (some 30) _ = _
        simp only [Act.put, List.setIfInBounds_toArray, List.set_cons_zero, List.set_cons_succ, i64_w, i32_w]
        rfl
      refine one_ (i := 11) (N := some 31) #[true, true, true, true, true, true, true, true, true, true, true, true, false] rfl rfl (one_of HT_.out (by kernel_rfl)) (by decide) (fun K hK => ?_)
      refine goes_ Tryd.func62 (by kernel_rfl) rfl #[.slice (some ⟨w2.heap.size, 0, none⟩) 3 3] (by rfl) rfl rfl (by (try simp only [List.map_toArray, List.map_cons, List.map_nil]); first | done | rfl) ?_
      refine (HCC.out _ _ x [⟨p, a⟩] z _ _ _ _ _ _ _ _ _ ?e1 ?e2 ?e3 held ?h1 ?h2 ?h3 hle).mono ?_
      case e1 => omega
      case e2 => rfl
      case e3 => omega
      case h1 => exact HT.out _ (bel _ _)
      case h2 => exact Kd.C_below (one58' _ (held (W := w2) (g := w1.drew.heap.size))) (bel _ _)
      case h3 => exact HD3.out _ (bel _ _)
      rintro e4 w4 ⟨v4, rfl, hv, hb⟩
      have p4 := prev_call hb
      have HV4 := Aside0.mk hv
      clear hb hv
      refine ⟨_, rfl, ?_⟩
      refine hK.out _ _ held (fun hHeld => ?_)
      clear hK K
      refine norm_ (a' := ?_) ?_ ?_
      rotate_left
      · show Act.put _ (some 31) _ = _
        simp only [Act.put, List.setIfInBounds_toArray, List.set_cons_zero, List.set_cons_succ, i64_w, i32_w]
        rfl
      refine pure_ (i := 12) (N := some 6) (v := ?_) (a' := ?_) #[true, true, true, true, true, true, true, true, true, true, true, true, true] rfl rfl (any_of HT_.out (by kernel_rfl)) (fun _ _ _ h => h) (Or.inl ⟨by rfl, ?_⟩) ?_ ?_
      rotate_left
      · intro w'
        go_simp
        with_reducible rfl
      rotate_left
      · simp only [Act.put, List.setIfInBounds_toArray, List.set_cons_zero, List.set_cons_succ, i64_w, i32_w]
        rfl
      refine done_ (done_of HT_.out (by kernel_rfl)) ?_
      --END
      go_wp2_with fail
      go_ret
      exact ⟨_, rfl, Kd.R_lower (by simpa using HV4.out) (siz w _), bel _ _⟩
    | false =>
      have he := HE.out
      rw [if_neg (by decide)] at he
      obtain rfl : po = en := he.symm
      have q1 : po ≤ c := by omega
      have q3 : (po : Int) ≤ (n : Int) := by omega
      have HD3 := Aside0.mk hD3
      clear hD3
      go_enter Tryd.func35, Tryd.ntmps35
      go_wp2_with fail
      refine (HB.out _ (bel _ _)).mono ?_
      rintro e w1 ⟨rfl, hb1⟩
      have p1 := prev_call hb1
      clear hb1
      go_wp2_with fail
      --REG with5
      refine start_ (n := 13) (S := fun w' => w'.heap[w.heap.size]? = some (.cells (A51 a) 51 (0, 0))) (ds := []) #[false, false, false, false, false, false, false, false, false, false, false, false, false] (by kernel_rfl) rfl rfl held (fun hHeld => ?_); refine with_tabW with5.tab5 with5.bits5 (fun HT_ HW_ => ?_)
      refine pure_ (i := 0) (N := some 20) (v := ?_) (a' := ?_) #[true, false, false, false, false, false, false, false, false, false, false, false, false] rfl rfl (any_of HT_.out (by kernel_rfl)) (fun _ _ _ h => h) (Or.inl ⟨by rfl, ?_⟩) ?_ ?_
      rotate_left
      · intro w'
        go_simp
        with_reducible rfl
      rotate_left
      · simp only [Act.put, List.setIfInBounds_toArray, List.set_cons_zero, List.set_cons_succ, i64_w, i32_w]
        rfl
      refine pure_ (i := 1) (N := some 21) (v := ?_) (a' := ?_) #[true, true, false, false, false, false, false, false, false, false, false, false, false] rfl rfl (any_of HT_.out (by kernel_rfl)) (fun _ _ _ h => h) (Or.inl ⟨by rfl, ?_⟩) ?_ ?_
      rotate_left
      · intro w'
        go_simp
        with_reducible rfl
      rotate_left
      · simp only [Act.put, List.setIfInBounds_toArray, List.set_cons_zero, List.set_cons_succ, i64_w, i32_w]
        rfl
      refine pure_ (i := 2) (N := some 22) (v := ?_) (a' := ?_) #[true, true, true, false, false, false, false, false, false, false, false, false, false] rfl rfl (any_of HT_.out (by kernel_rfl)) (fun _ _ _ h => h) (Or.inl ⟨by rfl, ?_⟩) ?_ ?_
      rotate_left
      · intro w'
        go_simp
        with_reducible rfl
      rotate_left
      · simp only [Act.put, List.setIfInBounds_toArray, List.set_cons_zero, List.set_cons_succ, i64_w, i32_w]
        rfl
      refine pure_ (i := 3) (N := some 23) (v := ?_) (a' := ?_) #[true, true, true, true, false, false, false, false, false, false, false, false, false] rfl rfl (any_of HT_.out (by kernel_rfl)) (fun _ _ _ h => h) (Or.inl ⟨by rfl, ?_⟩) ?_ ?_
      rotate_left
      · intro w'
        go_simp
        with_reducible rfl
      rotate_left
      · simp only [Act.put, List.setIfInBounds_toArray, List.set_cons_zero, List.set_cons_succ, i64_w, i32_w]
        rfl
      refine pure_ (i := 7) (N := some 27) (v := ?_) (a' := ?_) #[true, true, true, true, false, false, false, true, false, false, false, false, false] rfl rfl (any_of HT_.out (by kernel_rfl)) (fun _ _ _ h => h) (Or.inl ⟨by rfl, ?_⟩) ?_ ?_
      rotate_left
      · intro w'
        go_simp
        with_reducible rfl
      rotate_left
      · simp only [Act.put, List.setIfInBounds_toArray, List.set_cons_zero, List.set_cons_succ, i64_w, i32_w]
        rfl
      refine pure_ (i := 8) (N := some 28) (v := ?_) (a' := ?_) #[true, true, true, true, false, false, false, true, true, false, false, false, false] rfl rfl (any_of HT_.out (by kernel_rfl)) (fun _ _ _ h => h) (Or.inl ⟨by rfl, ?_⟩) ?_ ?_
      rotate_left
      · intro w'
        go_simp
        with_reducible rfl
      rotate_left
      · simp only [Act.put, List.setIfInBounds_toArray, List.set_cons_zero, List.set_cons_succ, i64_w, i32_w]
        rfl
      refine pure_ (i := 9) (N := some 29) (v := ?_) (a' := ?_) #[true, true, true, true, false, false, false, true, true, true, false, false, false] rfl rfl (any_of HT_.out (by kernel_rfl)) (fun _ _ _ h => h) (Or.inl ⟨by rfl, ?_⟩) ?_ ?_
      rotate_left
      · intro w'
        go_simp
        with_reducible rfl
      rotate_left
      · simp only [Act.put, List.setIfInBounds_toArray, List.set_cons_zero, List.set_cons_succ, i64_w, i32_w]
        rfl
      refine take_ (i := 4) (N := some 24) (v := ?_) (a' := ?_) #[true, true, true, true, true, false, false, true, true, true, false, false, false] rfl rfl (take_ofW HT_.out HW_.out (by kernel_rfl)) (fun _ _ _ h => h) (Or.inl ⟨by rfl, ?_⟩) hHeld ?_ ?_
      rotate_left
      · rintro w' s0
        have i0 : Go.Proofs.YtjllbkeobibnkaaDoorK.Holds w' w.heap.size (.cells (A51 a) 51) := ⟨s0⟩
        go_simp
        with_reducible rfl
      rotate_left
      · simp only [Act.put, List.setIfInBounds_toArray, List.set_cons_zero, List.set_cons_succ, i64_w, i32_w]
        rfl
      refine pure_ (i := 5) (N := some 25) (v := ?_) (a' := ?_) #[true, true, true, true, true, true, false, true, true, true, false, false, false] rfl rfl (any_of HT_.out (by kernel_rfl)) (fun _ _ _ h => h) (Or.inl ⟨by rfl, ?_⟩) ?_ ?_
      rotate_left
      · intro w'
        go_simp
        with_reducible rfl
      rotate_left
      · simp only [Act.put, List.setIfInBounds_toArray, List.set_cons_zero, List.set_cons_succ, i64_w, i32_w]
        rfl
      refine one_ (i := 6) (N := some 26) #[true, true, true, true, true, true, true, true, true, true, false, false, false] rfl rfl (one_of HT_.out (by kernel_rfl)) (by decide) (fun K hK => ?_)
      refine new_step (ob := .cells (A58 ⟨p, a⟩) 58) (by rfl) rfl (by go_simp; rfl) ?_
      intro w2 p2 h2
      refine hK.out _ _ held (fun hHeld => ?_)
      clear hK K
      refine norm_ (a' := ?_) ?_ ?_
      rotate_left
      · show Act.put _ (some 26) _ = _
        simp only [Act.put, List.setIfInBounds_toArray, List.set_cons_zero, List.set_cons_succ, i64_w, i32_w]
        rfl
      refine one_ (i := 10) (N := some 30) #[true, true, true, true, true, true, true, true, true, true, true, false, false] rfl rfl (one_of HT_.out (by kernel_rfl)) (by decide) (fun K hK => ?_)
      refine new_step (ob := .cells #[_, _, _] 22) (by rfl) rfl (by go_simp; first | rfl | exact ⟨rfl, rfl⟩) ?_
      intro w3 p3 h3
      refine hK.out _ _ held (fun hHeld => ?_)
      clear hK K
      refine norm_ (a' := ?_) ?_ ?_
      rotate_left
      · show Act.put _ (some 30) _ = _
        simp only [Act.put, List.setIfInBounds_toArray, List.set_cons_zero, List.set_cons_succ, i64_w, i32_w]
        rfl
      refine one_ (i := 11) (N := some 31) #[true, true, true, true, true, true, true, true, true, true, true, true, false] rfl rfl (one_of HT_.out (by kernel_rfl)) (by decide) (fun K hK => ?_)
      refine goes_ Tryd.func62 (by kernel_rfl) rfl #[.slice (some ⟨w2.heap.size, 0, none⟩) 3 3] (by rfl) rfl rfl (by (try simp only [List.map_toArray, List.map_cons, List.map_nil]); first | done | rfl) ?_
      refine (HCC.out _ _ x [⟨p, a⟩] z _ _ _ _ _ _ _ _ _ ?e1 ?e2 ?e3 held ?h1 ?h2 ?h3 hle).mono ?_
      case e1 => omega
      case e2 => rfl
      case e3 => omega
      case h1 => exact HT.out _ (bel _ _)
      case h2 => exact Kd.C_below (one58' _ (held (W := w2) (g := w1.drew.heap.size))) (bel _ _)
      case h3 => exact HD3.out _ (bel _ _)
      rintro e4 w4 ⟨v4, rfl, hv, hb⟩
      have p4 := prev_call hb
      have HV4 := Aside0.mk hv
      clear hb hv
      refine ⟨_, rfl, ?_⟩
      refine hK.out _ _ held (fun hHeld => ?_)
      clear hK K
      refine norm_ (a' := ?_) ?_ ?_
      rotate_left
      · show Act.put _ (some 31) _ = _
        simp only [Act.put, List.setIfInBounds_toArray, List.set_cons_zero, List.set_cons_succ, i64_w, i32_w]
        rfl
      refine pure_ (i := 12) (N := some 6) (v := ?_) (a' := ?_) #[true, true, true, true, true, true, true, true, true, true, true, true, true] rfl rfl (any_of HT_.out (by kernel_rfl)) (fun _ _ _ h => h) (Or.inl ⟨by rfl, ?_⟩) ?_ ?_
      rotate_left
      · intro w'
        go_simp
        with_reducible rfl
      rotate_left
      · simp only [Act.put, List.setIfInBounds_toArray, List.set_cons_zero, List.set_cons_succ, i64_w, i32_w]
        rfl
      refine done_ (done_of HT_.out (by kernel_rfl)) ?_
      --END
      go_wp2_with fail
      go_ret
      exact ⟨_, rfl, Kd.R_lower (by simpa using HV4.out) (siz w _), bel _ _⟩
  · have HD3 := Aside0.mk hD3
    clear hD3 HE
    go_enter Tryd.func35, Tryd.ntmps35
    go_wp2_with fail
    refine (HB.out _ (bel _ _)).mono ?_
    rintro e w1 ⟨rfl, hb1⟩
    have p1 := prev_call hb1
    clear hb1
    go_wp2_with fail
    --REG with5
    refine start_ (n := 13) (S := fun w' => w'.heap[w.heap.size]? = some (.cells (A51 a) 51 (0, 0))) (ds := []) #[false, false, false, false, false, false, false, false, false, false, false, false, false] (by kernel_rfl) rfl rfl held (fun hHeld => ?_); refine with_tabW with5.tab5 with5.bits5 (fun HT_ HW_ => ?_)
    refine pure_ (i := 0) (N := some 20) (v := ?_) (a' := ?_) #[true, false, false, false, false, false, false, false, false, false, false, false, false] rfl rfl (any_of HT_.out (by kernel_rfl)) (fun _ _ _ h => h) (Or.inl ⟨by rfl, ?_⟩) ?_ ?_
    rotate_left
    · intro w'
      go_simp
      with_reducible rfl
    rotate_left
    · simp only [Act.put, List.setIfInBounds_toArray, List.set_cons_zero, List.set_cons_succ, i64_w, i32_w]
      rfl
    refine pure_ (i := 1) (N := some 21) (v := ?_) (a' := ?_) #[true, true, false, false, false, false, false, false, false, false, false, false, false] rfl rfl (any_of HT_.out (by kernel_rfl)) (fun _ _ _ h => h) (Or.inl ⟨by rfl, ?_⟩) ?_ ?_
    rotate_left
    · intro w'
      go_simp
      with_reducible rfl
    rotate_left
    · simp only [Act.put, List.setIfInBounds_toArray, List.set_cons_zero, List.set_cons_succ, i64_w, i32_w]
      rfl
    refine pure_ (i := 2) (N := some 22) (v := ?_) (a' := ?_) #[true, true, true, false, false, false, false, false, false, false, false, false, false] rfl rfl (any_of HT_.out (by kernel_rfl)) (fun _ _ _ h => h) (Or.inl ⟨by rfl, ?_⟩) ?_ ?_
    rotate_left
    · intro w'
      go_simp
      with_reducible rfl
    rotate_left
    · simp only [Act.put, List.setIfInBounds_toArray, List.set_cons_zero, List.set_cons_succ, i64_w, i32_w]
      rfl
    refine pure_ (i := 3) (N := some 23) (v := ?_) (a' := ?_) #[true, true, true, true, false, false, false, false, false, false, false, false, false] rfl rfl (any_of HT_.out (by kernel_rfl)) (fun _ _ _ h => h) (Or.inl ⟨by rfl, ?_⟩) ?_ ?_
    rotate_left
    · intro w'
      go_simp
      with_reducible rfl
    rotate_left
    · simp only [Act.put, List.setIfInBounds_toArray, List.set_cons_zero, List.set_cons_succ, i64_w, i32_w]
      rfl
    refine pure_ (i := 7) (N := some 27) (v := ?_) (a' := ?_) #[true, true, true, true, false, false, false, true, false, false, false, false, false] rfl rfl (any_of HT_.out (by kernel_rfl)) (fun _ _ _ h => h) (Or.inl ⟨by rfl, ?_⟩) ?_ ?_
    rotate_left
    · intro w'
      go_simp
      with_reducible rfl
    rotate_left
    · simp only [Act.put, List.setIfInBounds_toArray, List.set_cons_zero, List.set_cons_succ, i64_w, i32_w]
      rfl
    refine pure_ (i := 8) (N := some 28) (v := ?_) (a' := ?_) #[true, true, true, true, false, false, false, true, true, false, false, false, false] rfl rfl (any_of HT_.out (by kernel_rfl)) (fun _ _ _ h => h) (Or.inl ⟨by rfl, ?_⟩) ?_ ?_
    rotate_left
    · intro w'
      go_simp
      with_reducible rfl
    rotate_left
    · simp only [Act.put, List.setIfInBounds_toArray, List.set_cons_zero, List.set_cons_succ, i64_w, i32_w]
      rfl
    refine pure_ (i := 9) (N := some 29) (v := ?_) (a' := ?_) #[true, true, true, true, false, false, false, true, true, true, false, false, false] rfl rfl (any_of HT_.out (by kernel_rfl)) (fun _ _ _ h => h) (Or.inl ⟨by rfl, ?_⟩) ?_ ?_
    rotate_left
    · intro w'
      go_simp
      with_reducible rfl
    rotate_left
    · simp only [Act.put, List.setIfInBounds_toArray, List.set_cons_zero, List.set_cons_succ, i64_w, i32_w]
      rfl
    refine take_ (i := 4) (N := some 24) (v := ?_) (a' := ?_) #[true, true, true, true, true, false, false, true, true, true, false, false, false] rfl rfl (take_ofW HT_.out HW_.out (by kernel_rfl)) (fun _ _ _ h => h) (Or.inl ⟨by rfl, ?_⟩) hHeld ?_ ?_
    rotate_left
    · rintro w' s0
      have i0 : Go.Proofs.YtjllbkeobibnkaaDoorK.Holds w' w.heap.size (.cells (A51 a) 51) := ⟨s0⟩
      go_simp
      with_reducible rfl
    rotate_left
    · simp only [Act.put, List.setIfInBounds_toArray, List.set_cons_zero, List.set_cons_succ, i64_w, i32_w]
      rfl
    refine pure_ (i := 5) (N := some 25) (v := ?_) (a' := ?_) #[true, true, true, true, true, true, false, true, true, true, false, false, false] rfl rfl (any_of HT_.out (by kernel_rfl)) (fun _ _ _ h => h) (Or.inl ⟨by rfl, ?_⟩) ?_ ?_
    rotate_left
    · intro w'
      go_simp
      with_reducible rfl
    rotate_left
    · simp only [Act.put, List.setIfInBounds_toArray, List.set_cons_zero, List.set_cons_succ, i64_w, i32_w]
      rfl
    refine one_ (i := 6) (N := some 26) #[true, true, true, true, true, true, true, true, true, true, false, false, false] rfl rfl (one_of HT_.out (by kernel_rfl)) (by decide) (fun K hK => ?_)
    refine new_step (ob := .cells (A58 ⟨p, a⟩) 58) (by rfl) rfl (by go_simp; rfl) ?_
    intro w2 p2 h2
    refine hK.out _ _ held (fun hHeld => ?_)
    clear hK K
    refine norm_ (a' := ?_) ?_ ?_
    rotate_left
    · show Act.put _ (some 26) _ = _
      simp only [Act.put, List.setIfInBounds_toArray, List.set_cons_zero, List.set_cons_succ, i64_w, i32_w]
      rfl
    refine one_ (i := 10) (N := some 30) #[true, true, true, true, true, true, true, true, true, true, true, false, false] rfl rfl (one_of HT_.out (by kernel_rfl)) (by decide) (fun K hK => ?_)
    refine new_step (ob := .cells #[_, _, _] 22) (by rfl) rfl (by go_simp; first | rfl | exact ⟨rfl, rfl⟩) ?_
    intro w3 p3 h3
    refine hK.out _ _ held (fun hHeld => ?_)
    clear hK K
    refine norm_ (a' := ?_) ?_ ?_
    rotate_left
    · show Act.put _ (some 30) _ = _
      simp only [Act.put, List.setIfInBounds_toArray, List.set_cons_zero, List.set_cons_succ, i64_w, i32_w]
      rfl
    refine one_ (i := 11) (N := some 31) #[true, true, true, true, true, true, true, true, true, true, true, true, false] rfl rfl (one_of HT_.out (by kernel_rfl)) (by decide) (fun K hK => ?_)
    refine goes_ Tryd.func62 (by kernel_rfl) rfl #[.slice (some ⟨w2.heap.size, 0, none⟩) 3 3] (by rfl) rfl rfl (by (try simp only [List.map_toArray, List.map_cons, List.map_nil]); first | done | rfl) ?_
    refine (HCC.out _ _ x [⟨p, a⟩] z _ _ _ _ _ _ _ _ _ ?e1 ?e2 ?e3 held ?h1 ?h2 ?h3 hle).mono ?_
    case e1 => omega
    case e2 => rfl
    case e3 => omega
    case h1 => exact HT.out _ (bel _ _)
    case h2 => exact Kd.C_below (one58' _ (held (W := w2) (g := w1.drew.heap.size))) (bel _ _)
    case h3 => exact HD3.out _ (bel _ _)
    rintro e4 w4 ⟨v4, rfl, hv, hb⟩
    have p4 := prev_call hb
    have HV4 := Aside0.mk hv
    clear hb hv
    refine ⟨_, rfl, ?_⟩
    refine hK.out _ _ held (fun hHeld => ?_)
    clear hK K
    refine norm_ (a' := ?_) ?_ ?_
    rotate_left
    · show Act.put _ (some 31) _ = _
      simp only [Act.put, List.setIfInBounds_toArray, List.set_cons_zero, List.set_cons_succ, i64_w, i32_w]
      rfl
    refine pure_ (i := 12) (N := some 6) (v := ?_) (a' := ?_) #[true, true, true, true, true, true, true, true, true, true, true, true, true] rfl rfl (any_of HT_.out (by kernel_rfl)) (fun _ _ _ h => h) (Or.inl ⟨by rfl, ?_⟩) ?_ ?_
    rotate_left
    · intro w'
      go_simp
      with_reducible rfl
    rotate_left
    · simp only [Act.put, List.setIfInBounds_toArray, List.set_cons_zero, List.set_cons_succ, i64_w, i32_w]
      rfl
    refine done_ (done_of HT_.out (by kernel_rfl)) ?_
    --END
    go_wp2_with fail
    go_ret
    exact ⟨_, rfl, Kd.R_lower (by simpa using HV4.out) (siz w _), bel _ _⟩
end Go.Proofs.YtjllbkeobibnkaaDoor.Q

namespace Go.Proofs.YtjllbkeobibnkaaDoor.Q
open Go Go.Proofs Go.Shelf Go.RowKit Go.Lib Go.Proofs.YtjllbkeobibnkaaDoorK Go.Proofs.YtjllbkeobibnkaaDoorW.PrintWords Go.Proofs.YtjllbkeobibnkaaDoorW.PrintLast Go.Proofs.YtjllbkeobibnkaaDoorW.PrintMore
set_option linter.unusedSimpArgs false
set_option linter.unusedVariables false
instance : Inhabited S58 := ⟨z58⟩
theorem row_open {W : World} {base g n cap : Nat} {xs : List S58} (h : Kd.R k58 58 W base (fun _ => True) (.slice (some ⟨g, 0, none⟩) n cap) xs) :
    n = xs.length ∧ base ≤ g ∧ n ≤ cap ∧ cap ≤ maxLen ∧ ∃ cur, W.heap[g]? = some (.cells cur 58 (0, 0)) ∧ cur.size = cap * 35 ∧ ∀ t, t < n * 35 → cur[t]? = (L58 xs[t / 35]!)[t % 35]? := by
  obtain ⟨_, inner, ⟨hlen, hor⟩, hrep⟩ := h
  rcases hor with ⟨he, _⟩ | ⟨g', cap', cur, he, hb, hg, hnc, hcm, hcs, htk⟩
  · exact absurd he (by simp)
  · simp only [Value.slice.injEq, Option.some.injEq, Addr.mk.injEq, and_true] at he
    obtain ⟨rfl, rfl, rfl⟩ := he
    refine ⟨rfl, hb, hnc, hcm, cur, hg, hcs, fun t ht => ?_⟩
    have h5 : t / 35 < xs.length := by omega
    have hm : t % 35 < 35 := Nat.mod_lt _ (by decide)
    have hp := hrep.2 (t / 35) xs[t / 35] (List.getElem?_eq_getElem h5)
    have hk := (show _ = L58 _ from hp)
    have e1 : cur[t]? = inner[t]? := by
      rw [← htk, List.getElem?_take]
      have : t < xs.length * k58.sz := ht
      rw [if_pos this]
      simp
    have e2 : inner[t]? = ((inner.drop (t / 35 * 35)).take 35)[t % 35]? := by
      rw [List.getElem?_take, if_pos hm, List.getElem?_drop]
      congr 1
      omega
    rw [e1, e2]
    have e3 : (inner.drop (t / 35 * 35)).take 35 = L58 xs[t / 35] := hk
    rw [e3, getElem!_pos xs _ h5]
theorem row_mk {W : World} {base g n cap : Nat} {ys : List S58} {cur : Array Value} (hb : base ≤ g) (hn : n = ys.length) (hnc : n ≤ cap) (hcm : cap ≤ maxLen) (hg : W.heap[g]? = some (.cells cur 58 (0, 0))) (hcs : cur.size = cap * 35)
    (hc : ∀ t, t < n * 35 → cur[t]? = (L58 ys[t / 35]!)[t % 35]?) : Kd.R k58 58 W base (fun _ => True) (.slice (some ⟨g, 0, none⟩) n cap) ys := by
  have htl : (cur.toList.take (n * 35)).length = n * 35 := by
    rw [List.length_take, Array.length_toList, hcs]
    have := Nat.mul_le_mul_right 35 hnc
    omega
  refine ⟨fun _ _ => trivial, ?_⟩
  refine ⟨cur.toList.take (n * 35), ⟨by rw [htl, hn]; rfl, .inr ⟨g, cap, cur, by rw [hn], hb, hg, by rw [← hn]; exact hnc, hcm, hcs, by rw [hn]; rfl⟩⟩, by rw [htl, hn]; rfl, ?_⟩
  intro j p hp
  have hj : j < n := by
    have := (List.getElem?_eq_some_iff.1 hp).1
    omega
  have e : ((cur.toList.take (n * 35)).drop (j * k58.sz)).take k58.sz = L58 p := by
    apply List.ext_getElem?
    intro i
    show (((cur.toList.take (n * 35)).drop (j * 35)).take 35)[i]? = _
    rw [List.getElem?_take]
    by_cases hi : i < 35
    · rw [if_pos hi, List.getElem?_drop, List.getElem?_take, if_pos (by omega), Array.getElem?_toList, hc _ (by omega)]
      have e1 : (j * 35 + i) / 35 = j := by omega
      have e2 : (j * 35 + i) % 35 = i := by omega
      have e3 : ys[j]! = p := by
        have hjl : j < ys.length := by omega
        rw [getElem!_pos ys j hjl]
        rw [List.getElem?_eq_getElem hjl] at hp
        exact Option.some.inj hp
      rw [e1, e2, e3]
    · rw [if_neg hi, List.getElem?_eq_none (by rw [L58_len]; omega)]
  rw [e]
  exact (rfl : L58 p = L58 p)
theorem setCells_block (g : Nat) (t : TypeId) : ∀ (vs : List Value) (o : Nat) (W : World) (cur : Array Value), W.heap[g]? = some (.cells cur t (0, 0)) → ∃ cur', (W.setCells g o vs).heap[g]? = some (.cells cur' t (0, 0)) ∧ cur'.size = cur.size ∧ (o + vs.length ≤ cur.size → ∀ k, cur'[k]? = if o ≤ k ∧ k < o + vs.length then vs[k - o]? else cur[k]?)
  | [], o, W, cur, h => ⟨cur, h, rfl, fun _ k => by rw [if_neg (by simp only [List.length_nil]; omega)]⟩
  | v :: vs, o, W, cur, h => by
    obtain ⟨cur', h1, h2, h3⟩ := setCells_block g t vs (o + 1) (W.setCell ⟨g, o, none⟩ v) (cur.setIfInBounds o v) (blk_set h o v)
    rw [Array.size_setIfInBounds] at h2 h3
    refine ⟨cur', h1, h2, fun hsz k => ?_⟩
    simp only [List.length_cons] at hsz ⊢
    rw [h3 (by omega) k]
    by_cases hk : k = o
    · subst hk
      rw [if_neg (by omega), if_pos ⟨Nat.le_refl _, by omega⟩, Nat.sub_self, Array.getElem?_setIfInBounds_self_of_lt (by omega)]
      rfl
    · rw [Array.getElem?_setIfInBounds_ne (fun e => hk e.symm)]
      by_cases h4 : o + 1 ≤ k ∧ k < o + 1 + vs.length
      · rw [if_pos h4, if_pos ⟨by omega, by omega⟩, show k - o = (k - (o + 1)) + 1 by omega]
        rfl
      · rw [if_neg h4, if_neg (by omega)]
theorem setCells_grown (g : Nat) : ∀ (vs : List Value) (o : Nat) (W : World), W.grownBy (W.setCells g o vs) (some g)
  | [], o, W => ⟨rfl, rfl, rfl, Nat.le_refl _, fun _ _ _ => rfl⟩
  | v :: vs, o, W => by
    have h1 := setCells_grown g vs (o + 1) (W.setCell ⟨g, o, none⟩ v)
    have hs : (W.setCell ⟨g, o, none⟩ v).heap.size = W.heap.size := by simp [World.setCell]
    refine ⟨h1.os, h1.tape, h1.output, by rw [← hs]; exact h1.size, fun k hk hne => ?_⟩
    refine (h1.block k (by rw [hs]; exact hk) hne).trans (Below.heap_setCell W ⟨g, o, none⟩ v k (fun e => hne (by rw [e])))
theorem row_set {W : World} {base g n cap : Nat} {xs : List S58} (h : Kd.R k58 58 W base (fun _ => True) (.slice (some ⟨g, 0, none⟩) n cap) xs) (i : Nat) (hi : i < n) (x : S58) :
    Kd.R k58 58 (W.setCells g (i * 35) (L58 x)) base (fun _ => True) (.slice (some ⟨g, 0, none⟩) n cap) (xs.set i x) ∧ W.grownBy (W.setCells g (i * 35) (L58 x)) (some g) := by
  obtain ⟨hn, hb, hnc, hcm, cur, hg, hcs, hc⟩ := row_open h
  obtain ⟨cur', h1, h2, h3⟩ := setCells_block g 58 (L58 x) (i * 35) W cur hg
  have h4 := h3 (by rw [L58_len, hcs]; omega)
  rw [L58_len] at h4
  refine ⟨row_mk hb (by rw [List.length_set]; exact hn) hnc hcm h1 (by rw [h2, hcs]) (fun t ht => ?_), setCells_grown g _ _ W⟩
  rw [h4 t]
  have h5 : t / 35 < xs.length := by omega
  have h6 : t / 35 < (xs.set i x).length := by rw [List.length_set]; exact h5
  rw [getElem!_pos (xs.set i x) (t / 35) h6, List.getElem_set]
  by_cases hr : i * 35 ≤ t ∧ t < i * 35 + 35
  · rw [if_pos hr, if_pos (by omega), show t - i * 35 = t % 35 by omega]
  · rw [if_neg hr, if_neg (by omega), hc t ht, getElem!_pos xs (t / 35) h5]
theorem row_there {W : World} {base g n cap : Nat} {xs : List S58} (h : Kd.R k58 58 W base (fun _ => True) (.slice (some ⟨g, 0, none⟩) n cap) xs) (i : Nat) (hi : i < n) : W.there g (i * 35) 35 := by
  obtain ⟨hn, hb, hnc, hcm, cur, hg, hcs, hc⟩ := row_open h
  intro j hj
  refine ⟨?_, blk_frozen hg _⟩
  rw [blk_cell hg, Array.getElem?_eq_getElem (by omega)]
  rfl
theorem store_cand {op : Oper} {a : Act} {W : World} {K : Act → World → Prop} {Q : Exit → Act → World → Prop} (x y : Operand) (ho : op.op = .store 58 x y) {base g n cap : Nat} {ys : List S58} (h : Kd.R k58 58 W base (fun _ => True) (.slice (some ⟨g, 0, none⟩) n cap) ys) (i : Nat) (hi : i < n) (z : S58) {ad : Addr} (had : ad = ⟨g, 0, none⟩)
    (hx : a.eval x = .pointer (some (ad.add (i * 35)))) (hy : a.eval y = .agg (A58 z)) (hK : ∀ W1, Kd.R k58 58 W1 base (fun _ => True) (.slice (some ⟨g, 0, none⟩) n cap) (ys.set i z) → W.grownBy W1 (some g) → K (a.put op.dst undef) W1) : op.wp Tryd.prog a W K Q := by
  obtain ⟨h1, h2⟩ := row_set h i hi z
  refine wp_store_mid 58 x y ho g (i * 35) (A58 z) ?_ hy (by rw [A58_size]; exact row_there h i hi) (by rw [A58_size]; exact info58s) (by rw [← Array.all_toList]; exact A58_all z) (hK _ h1 h2)
  rw [hx, had, Go.Proofs.YtjllbkeobibnkaaDoorK.add_at, Nat.zero_add]
end Go.Proofs.YtjllbkeobibnkaaDoor.Q

namespace Go.Proofs.YtjllbkeobibnkaaDoor.Q
open Go Go.Proofs Go.Shelf Go.RowKit Go.Lib Go.Sort Go.Proofs.YtjllbkeobibnkaaDoorK Go.Proofs.YtjllbkeobibnkaaDoorW.PrintWords Go.Proofs.YtjllbkeobibnkaaDoorW.PrintLast Go.Proofs.YtjllbkeobibnkaaDoorW.PrintMore
set_option linter.unusedSimpArgs false
set_option linter.unusedVariables false
set_option maxRecDepth 100000 in
set_option maxHeartbeats 1000000 in
/-- slices.Clone of a row that is read: a row of its own. -/
theorem clone_any (w : World) (A : Option Addr) (c : Nat) (l : List S58) (hC : k58.C w A l.length l) (hl : l.length ≤ 1048576) :
    Calls Tryd.prog 64 #[.slice A l.length c] w fun e w' => ∃ v, e = .returned v ∧ k58.R 58 w' w.heap.size (fun _ => True) v l ∧ Below w.heap.size w w' := by
  have q22 : ∀ (w : World) (a : Option Addr) (n c n' c' : Nat), (binOp .eql 22 (.slice a n c) (.slice none n' c')).run Tryd.prog w = .ok (.bool a.isNone) w := fun w a n c n' c' => Lib.run_eql_slice_nil w _ _ a n c n' c' Tryd.underlying22
  have hu22 : ∀ w, Sem.run Tryd.prog (underlying 22) w = .ok (TypeDesc.slice 58) w := run_underlying Tryd.underlying22
  cases A with
  | none =>
    have h0 : l = [] := by
      rcases Nat.eq_zero_or_pos l.length with h | h
      · exact List.eq_nil_of_length_eq_zero h
      · obtain ⟨a, he, _⟩ := hC.2.2 h
        cases he
    subst h0
    clear hC
    go_enter Tryd.func64, Tryd.ntmps64
    go_wp2_with fail
    go_ret
    exact ⟨_, rfl, Kd.R_nil _ _ _ _ _, bel _ _⟩
  | some ad =>
    have HR := Aside0.mk hC
    clear hC
    have HB := Aside0.mk (Below.refl w.heap.size w)
    go_enter Tryd.func64, Tryd.ntmps64
    go_wp2_with (first
      | ((with_reducible refine gate_dst (N := 5) rfl ?_); refine Kd.R_lit k58 _ 58 ?hg (N := 5) ?hd (xs := ([] : List S58)) (inner := []) (ok := fun _ => True) (okp := fun _ => True) ?hr ?hp (fun _ hk => hk) trivial (Below.refl _ _) (Nat.le_refl _) (by simp) ?_; (case hd => rfl); (case hg => rfl); (case hr => first | (go_simp; done) | (go_simp; rfl)); (case hp => exact (Reps.none _ _)); intro v5 w5 ho5 hb5 hg5 hnew5; clear hg5 hnew5; have HO5 := Aside0.mk ho5; have HB5 := Aside0.mk hb5; clear ho5 hb5)
      | ((with_reducible refine gate_builtin (b := .append) (xs := #[.tmp 5, .tmp 6]) rfl ?_); at_builtin; refine Kd.R_append_rows k58 (w0 := w) w.heap.size rfl (.tmp 5) (.tmp 6) 22 58 (.agg (A58 z58)) 64 rfl Tryd.underlying22 info58b (A58_size z58) (by decide) (by decide) v5 ([] : List S58) l _ _ _ (fun _ => True) (fun _ => False) rfl rfl ?aO ?aR (fun _ _ h => h) (fun _ h => h.elim) ?aF ?aB ?aS ?aL ?_; (case aR => exact Kd.C_below HR.out HB5.out); (case aB => exact HB5.out); (case aF => exact (fun _ _ => trivial)); (case aO => exact HO5.out); (case aS => exact HB5.out.size); (case aL => simp; omega); intro v6 w6 ho6 hb6 hg6 hat6; have HO6 := Aside0.mk ho6; have HB6 := Aside0.mk hb6; clear ho6 hb6 hg6 hat6))
    go_ret
    exact ⟨_, rfl, HO6.out, HB6.out⟩
theorem zcells (n : Nat) : (Builtin.zeroCells (A58 z58) n).size = n * 35 := by
  unfold Builtin.zeroCells
  rw [Array.size_map, Array.size_range, A58_size]
theorem zcells_one (n : Nat) : ∀ v ∈ (Builtin.zeroCells (A58 z58) n).toList, v.oneCell' = true := by
  intro v hv
  unfold Builtin.zeroCells at hv
  simp only [Array.toList_map, List.mem_map] at hv
  obtain ⟨i, _, rfl⟩ := hv
  have h : i % (A58 z58).size < (A58 z58).size := Nat.mod_lt _ (by rw [A58_size]; decide)
  rw [getElem!_pos (A58 z58) _ h]
  exact List.all_eq_true.1 (A58_all z58) _ (by rw [← Array.getElem_toList]; exact List.getElem_mem _)
theorem row_cut {W : World} {base g n c : Nat} {xs : List S58} (h : k58.R 58 W base (fun _ => True) (.slice (some ⟨g, 0, none⟩) n c) xs) (i : Nat) (hi : i ≤ n) (ty : TypeId) :
    ∃ W1, (Builtin.clear_ #[22] ty #[.slice (if c = i then some ⟨g, 0, none⟩ else some ((⟨g, 0, none⟩ : Addr).add (i * 35))) (n - i) (c - i)]).run Tryd.prog W = .ok (.tuple #[]) W1 ∧ k58.R 58 W1 base (fun _ => True) (.slice (some ⟨g, 0, none⟩) i c) (xs.take i) ∧ W.grownBy W1 (some g) := by
  obtain ⟨hn, hb, hnc, hcm, cur, hg, hcs, hc⟩ := row_open h
  by_cases h0 : n - i = 0
  · refine ⟨W, ?_, Kd.R_take h (by omega), World.grownBy.refl W _⟩
    rw [h0]
    split <;> simp [Builtin.clear_, run_underlying Tryd.underlying22]
  · rw [if_neg (by omega)]
    have hst := run_storeCells_at Tryd.prog g (i * 35) 58 (Builtin.zeroCells (A58 z58) (n - i)).toList 0 cur W hg (by rw [Array.length_toList, zcells, hcs]; have := Nat.mul_le_mul_right 35 hnc; omega) (zcells_one _)
    simp only [Nat.add_zero] at hst
    refine ⟨_, ?_, ?_, grown_setRow W g (cur.toList.take (i * 35) ++ (Builtin.zeroCells (A58 z58) (n - i)).toList ++ cur.toList.drop (i * 35 + (Builtin.zeroCells (A58 z58) (n - i)).toList.length)).toArray⟩
    · obtain ⟨m, hm⟩ : ∃ m, n - i = m + 1 := ⟨n - i - 1, by omega⟩
      rw [Go.Proofs.YtjllbkeobibnkaaDoorK.add_at, Nat.zero_add]
      rw [hm] at hst ⊢
      simp [Builtin.clear_, run_underlying Tryd.underlying22, zero58, hst, Value.cells]
    · refine row_mk hb (by rw [List.length_take]; omega) (by omega) hcm (setRow_heap W g cur _ 58 (0, 0) hg) ?_ (fun t ht => ?_)
      · rw [List.size_toArray, List.length_append, List.length_append, List.length_take, List.length_drop, Array.length_toList, Array.length_toList, zcells, hcs]
        have := Nat.mul_le_mul_right 35 hnc
        have := Nat.mul_le_mul_right 35 hi
        omega
      · have hti : t < (cur.toList.take (i * 35)).length := by
          rw [List.length_take, Array.length_toList, hcs]
          have := Nat.mul_le_mul_right 35 hnc
          have := Nat.mul_le_mul_right 35 hi
          omega
        have hix : t / 35 < (xs.take i).length := by rw [List.length_take]; omega
        rw [List.getElem?_toArray, List.append_assoc, List.getElem?_append_left hti, List.getElem?_take, if_pos ht, Array.getElem?_toList, hc t (by have := Nat.mul_le_mul_right 35 hi; omega), getElem!_pos (xs.take i) _ hix, getElem!_pos xs _ (by rw [List.length_take] at hix; omega), List.getElem_take]
section
variable {ops : Array Oper} {rest : List Oper} {o : Oper} {a : Act} {Q : Exit → Act → World → Prop}
theorem clear58 {W : World} (hgd : o.guard = none) (hN : o.dst = none) (x : Operand) (ho : o.op = .call { callee := .builtin .clear, args := #[x], argTypes := #[22] }) {base g n c : Nat} {xs : List S58} (h : k58.R 58 W base (fun _ => True) (.slice (some ⟨g, 0, none⟩) n c) xs) (i : Nat) (hi : i ≤ n)
    (hx : a.eval x = .slice (if c = i then some ⟨g, 0, none⟩ else some ((⟨g, 0, none⟩ : Addr).add (i * 35))) (n - i) (c - i))
    (hk : ∀ W1, k58.R 58 W1 base (fun _ => True) (.slice (some ⟨g, 0, none⟩) i c) (xs.take i) → W.grownBy W1 (some g) → wpList Tryd.prog ops Q rest a W1) : wpList Tryd.prog ops Q (o :: rest) a W := by
  obtain ⟨W1, hr, h1, h2⟩ := row_cut h i hi o.type
  refine wpList_plain hgd fun K hK => ?_
  unfold Oper.wp execOp
  simp only [ho, resolve, invoke, builtin, Sem.run_bind, Sem.run_pure, Result.andThen_ok, List.map_toArray, List.map_cons, List.map_nil, hx, hr]
  exact hK _ _ (by rw [hN]; exact hk W1 h1 h2)
theorem store58 {W : World} (hgd : o.guard = none) (hN : o.dst = none) (x y : Operand) (ho : o.op = .store 58 x y) {base g n c : Nat} {xs : List S58} (h : k58.R 58 W base (fun _ => True) (.slice (some ⟨g, 0, none⟩) n c) xs) (i : Nat) (hi : i < n) (z : S58) {ad : Addr} (had : ad = ⟨g, 0, none⟩)
    (hx : a.eval x = .pointer (some (ad.add (i * 35)))) (hy : a.eval y = .agg (A58 z)) (hk : ∀ W1, k58.R 58 W1 base (fun _ => True) (.slice (some ⟨g, 0, none⟩) n c) (xs.set i z) → W.grownBy W1 (some g) → wpList Tryd.prog ops Q rest a W1) : wpList Tryd.prog ops Q (o :: rest) a W := by
  refine wpList_plain hgd fun K hK => ?_
  exact store_cand x y ho h i hi z had hx hy (fun W1 h1 h2 => hK _ _ (by rw [hN]; exact hk W1 h1 h2))
end
theorem row_form {W : World} {base n c : Nat} {A : Option Addr} {xs : List S58} (h : k58.R 58 W base (fun _ => True) (.slice A n c) xs) (hn : 0 < xs.length) : ∃ g, A = some ⟨g, 0, none⟩ := by
  obtain ⟨_, inner, ⟨hlen, hor⟩, hrep⟩ := h
  rcases hor with ⟨he, h0⟩ | ⟨g', cap', cur, he, hb, hg, hnc, hcm, hcs, htk⟩
  · omega
  · injection he with h1
    exact ⟨g', h1⟩
def woS (l : List S58) (p : ByteArray) : List S58 := l.filter fun k => !eqP p k
theorem idxK_spec (q : S58 → Bool) (l : List S58) : ∀ i : Nat, (idxK q i l = -1 ∧ ∀ x ∈ l, q x = false) ∨ ∃ j, ∃ h : j < l.length, idxK q i l = ((i + j : Nat) : Int) ∧ (∀ x ∈ l.take j, q x = false) ∧ q l[j] = true := by
  induction l with
  | nil => intro i; exact .inl ⟨rfl, by simp⟩
  | cons k l ih =>
    intro i
    unfold idxK
    cases h : q k with
    | true => rw [if_pos rfl]; exact .inr ⟨0, Nat.zero_lt_succ _, rfl, by simp, h⟩
    | false =>
      rw [if_neg (by decide)]
      rcases ih (i + 1) with ⟨h1, h2⟩ | ⟨j, hj, h1, h2, h3⟩
      · refine .inl ⟨h1, fun x hx => ?_⟩
        rcases List.mem_cons.1 hx with e | hx
        · rw [e]; exact h
        · exact h2 x hx
      · refine .inr ⟨j + 1, Nat.succ_lt_succ hj, by rw [h1]; congr 1; omega, fun x hx => ?_, h3⟩
        rw [List.take_succ_cons] at hx
        rcases List.mem_cons.1 hx with e | hx
        · rw [e]; exact h
        · exact h2 x hx
attribute [local go_sem] A51_size A51_0 A51_1 A51_g0 A51_g1 A58_size A58_0 A58_1 A58_2 A58_g0 A58_g1 A58_g2 cell_held frozen_held
attribute [local go_sem] zero51 zero58 zero65
attribute [local go_sem ↓ high] lvx_of
attribute [local go_sem] lv_sc lv24 lv33
attribute [local go_sem ↓ high] lv51 lv51s lv58 lv58a lv65 lv65a lv65l lv65r sc51 sc58 sc65 sc65a sc65l sc65r sc58a
set_option maxRecDepth 100000 in
theorem wo1_any (w : World) (b : Nat) (p : ByteArray) (x : S58) (h : w.heap[b]? = some (.cells #[.string p] 9 (0, 0))) : Calls Tryd.prog 65 #[.agg (A58 x), .pointer (some ⟨b, 0, none⟩)] w fun e w' => e = .returned (.bool (eqP p x)) ∧ Below w.heap.size w w' := by
  have hh : Go.Proofs.YtjllbkeobibnkaaDoorK.Holds w b (.cells #[.string p] 9) := ⟨h⟩
  have hlt := blk_lt h
  clear h
  show Calls _ _ _ _ fun e w' => e = .returned (.bool (x.f0.toList == p.toList)) ∧ _
  go_enter Tryd.func65, Tryd.ntmps65
  go_wp2_with fail
  go_ret
  exact ⟨rfl, bel _ _⟩
end Go.Proofs.YtjllbkeobibnkaaDoor.Q

namespace Go.Proofs.YtjllbkeobibnkaaDoor.Q
open Go Go.Proofs Go.Shelf Go.RowKit Go.Lib Go.Sort Go.Proofs.YtjllbkeobibnkaaDoorP Go.Proofs.YtjllbkeobibnkaaDoorK Go.Proofs.YtjllbkeobibnkaaDoorW.PrintWords Go.Proofs.YtjllbkeobibnkaaDoorW.PrintLast Go.Proofs.YtjllbkeobibnkaaDoorW.PrintMore
set_option linter.unusedSimpArgs false
set_option linter.unusedVariables false
theorem rCmp_any (w : World) (a b : ByteArray) (ha : a.size ≤ 65536) (hb : b.size ≤ 65536) : Calls Tryd.prog 67 #[.string a, .string b] w fun e w' => e = .returned (.int .i64 (pcmp a b)) ∧ Below w.heap.size w w' :=
  aquiferref05_Compare.calls (2 * a.size + b.size + 300) a b _ w (refcompare a b ha hb _ (by omega) (by omega))
attribute [local go_sem] A51_size A51_0 A51_1 A51_g0 A51_g1 A58_size A58_0 A58_1 A58_2 A58_g0 A58_g1 A58_g2 cell_held frozen_held
attribute [local go_sem] zero51 zero58 zero65
attribute [local go_sem ↓ high] lvx_of
attribute [local go_sem] lv_sc lv24 lv33
attribute [local go_sem ↓ high] lv51 lv51s lv58 lv58a lv65 lv65a lv65l lv65r sc58 sc65 sc65a sc65l sc65r sc58a
end Go.Proofs.YtjllbkeobibnkaaDoor.Q

namespace Go.Proofs.YtjllbkeobibnkaaDoor.Q
open Go Go.Proofs Go.Shelf Go.RowKit Go.Lib Go.Sort Go.Proofs.YtjllbkeobibnkaaDoorP Go.Proofs.YtjllbkeobibnkaaDoorK Go.Proofs.YtjllbkeobibnkaaDoorW.PrintWords Go.Proofs.YtjllbkeobibnkaaDoorW.PrintLast Go.Proofs.YtjllbkeobibnkaaDoorW.PrintMore
set_option linter.unusedSimpArgs false
set_option linter.unusedVariables false
/-- Both sides have a version, but unlike. -/
def badK (R : List S58) (k : S58) : Bool := (findS R k.f0).2 && (((findS R k.f0).1.f0 == k.f1.f0) && !alikeS (findS R k.f0).1 k.f1)
def listsS (s : S24) : Bool := listA 1 none s.f0 && (listA 0 none s.f1 && listA 1 none s.f2)
def checkS (s : S24) : Int := if listsS s = true then (if s.f0.any (badK s.f2) = true then 2 else 0) else 2
/-- Sides that are not too long. -/
def okS (s : S24) : Bool := shortK s.f0 && (shortK s.f1 && shortK s.f2)
theorem okS_open {s : S24} (h : okS s = true) : shortK s.f0 = true ∧ shortK s.f1 = true ∧ shortK s.f2 = true := by
  unfold okS at h
  simpa using h
theorem okS_short {s : S24} (h : okS s = true) : shortS s = true := by
  obtain ⟨h1, h2, h3⟩ := okS_open h
  unfold shortS
  rw [decide_eq_true (shortK_open h1).1, decide_eq_true (shortK_open h2).1, decide_eq_true (shortK_open h3).1]
  rfl
attribute [local go_sem] A51_size A51_0 A51_1 A51_g0 A51_g1 A58_size A58_0 A58_1 A58_2 A58_g0 A58_g1 A58_g2 cell_held frozen_held
attribute [local go_sem] zero51 zero58 zero65
attribute [local go_sem ↓ high] lvx_of
attribute [local go_sem] lv_sc lv24 lv33
attribute [local go_sem ↓ high] lv51 lv51s lv58 lv58a lv65 lv65a lv65l lv65r sc51 sc58 sc65 sc65a sc65l sc65r sc58a
set_option maxRecDepth 100000 in
set_option maxHeartbeats 4000000 in
theorem Check_any (w : World) (s : S24) (v : Array Value) (hs : SideIn w s v) (ho : okS s = true) :
    Calls Tryd.prog 25 #[.agg v] w fun e w' => e = .returned (.int .i64 (checkS s)) ∧ Below w.heap.size w w' := by
  obtain ⟨A, c, B, d, C, e, rfl, l1, l2, l3, h1, h2, h3⟩ := hs.out
  obtain ⟨m1, m2, m3⟩ := okS_open ho
  have n1 := (shortK_open m1).1
  have n3 := (shortK_open m3).1
  have HL0 := Aside0.mk (fun W (hb : Below w.heap.size w W) => list_any W A c s.f0 1 (Kd.C_below h1 hb) m1)
  have HL1 := Aside0.mk (fun W (hb : Below w.heap.size w W) => list_any W B d s.f1 0 (Kd.C_below h2 hb) m2)
  have HL2 := Aside0.mk (fun W (hb : Below w.heap.size w W) => list_any W C e s.f2 1 (Kd.C_below h3 hb) m3)
  have HF := Aside0.mk (fun W p (hb : Below w.heap.size w W) => Find_any W C e s.f2 p (Kd.C_below h3 hb) n3)
  have HC := Aside0.mk h1
  obtain ⟨V, hV⟩ : ∃ V, checkS s = V := ⟨_, rfl⟩
  rw [hV]
  unfold checkS listsS at hV
  clear hs ho l1 l2 l3 h1 h2 h3 m1 m2 m3 n3
  generalize s.f0 = la at *
  generalize s.f1 = lb at *
  generalize s.f2 = lc at *
  generalize listA 1 none la = b0 at *
  generalize listA 0 none lb = b1 at *
  generalize listA 1 none lc = b2 at *
  have HV := Aside0.mk hV
  clear hV
  go_enter Tryd.func25, Tryd.ntmps25
  go_wp2_with fail
  refine (HL0.out _ (bel _ _)).mono ?_
  rintro r1 w1 ⟨rfl, hb⟩
  have p1 := prev_call hb
  clear hb
  cases b0
  · go_wp2_with fail
    go_ret
    exact ⟨by rw [← HV.out]; rfl, bel _ _⟩
  go_wp2_with fail
  refine (HL1.out _ (bel _ _)).mono ?_
  rintro r2 w2 ⟨rfl, hb⟩
  have p2 := prev_call hb
  clear hb
  cases b1
  · go_wp2_with fail
    go_ret
    exact ⟨by rw [← HV.out]; rfl, bel _ _⟩
  go_wp2_with fail
  refine (HL2.out _ (bel _ _)).mono ?_
  rintro r3 w3 ⟨rfl, hb⟩
  have p3 := prev_call hb
  clear hb
  cases b2
  · go_wp2_with fail
    go_ret
    exact ⟨by rw [← HV.out]; rfl, bel _ _⟩
  have hV := HV.out
  simp only [Bool.and_self, if_true] at hV
  have HV := Aside0.mk hV
  clear hV
  go_wp2_with fail
  go_loopw [26] (fun i wr => ∃ j : Nat, j ≤ la.length ∧ i = .int .i64 (j : Int) ∧ Aside0 ((if (la.drop j).any (badK lc) = true then (2 : Int) else 0) = V) ∧ Aside0 (Below w3.heap.size w3 wr)) (fun i _ => la.length - (intOf i).toNat)
  case atStart => exact ⟨0, Nat.zero_le _, rfl, HV, ⟨Below.refl _ _⟩⟩
  case round =>
    obtain ⟨j, hj, rfl, HI, HB⟩ := hrel
    have pr := prev_call HB.out
    have bw : Bel w.heap.size w wr := inferInstance
    by_cases hlt : j < la.length
    · obtain ⟨ad, e0, x0⟩ := C58_at HC.out j hlt
      subst e0
      have hI := HI.out
      rw [List.drop_eq_getElem_cons hlt, List.any_cons] at hI
      generalize la[j] = x at x0 hI
      replace x0 := At_below x0 (bel w wr)
      have X0 := Aside0.mk x0
      have HFX := Aside0.mk (fun W hb => HF.out W x.f0 hb)
      unfold badK at hI
      generalize findS lc x.f0 = f at HFX hI
      obtain ⟨r, b⟩ := f
      dsimp only at HFX hI
      have ow : OwnB w.heap.size (.row wr.heap.size) := own_row (siz w wr)
      have aw : Apart w.heap.size (.row wr.heap.size) := apart_ne (by have := (inferInstance : Size (w.heap.size + 1) wr).out; omega)
      have ow3 : OwnB w3.heap.size (.row wr.heap.size) := own_row HB.out.size
      have HII := Aside0.mk hI
      clear x0 hI HI
      go_wp2_with (refine seg_load rfl 58 (.tmp 28) rfl X0.out (A58 x) rfl rfl Tryd.underlying58 rfl (by rw [L58_len]; exact info58s) ?_)
      refine (HFX.out _ (bel _ _)).mono ?_
      rintro r4 w4 ⟨rfl, hb⟩
      have p4 := prev_call hb
      clear hb
      have ow4 : OwnB w.heap.size (.row w4.heap.size) := own_row (siz w w4)
      have ow5 : OwnB w3.heap.size (.row w4.heap.size) := own_row (siz w3 w4)
      have aw4 : Apart wr.heap.size (.row w4.heap.size) := apart_ne (by have := (inferInstance : Size (wr.heap.size + 1) w4).out; omega)
      cases b with
      | false =>
        have hI := HII.out
        simp only [Bool.false_and, Bool.false_or] at hI
        have HI := Aside0.mk hI
        clear hI
        go_wp2_with fail
        go_roundw
        case rel => exact ⟨j + 1, by omega, by go_num, HI, ⟨bel _ _⟩⟩
        case measure => simp [intOf]; omega
      | true =>
        cases hv : (r.f0 == x.f1.f0) with
        | false =>
          have hI := HII.out
          simp only [hv, Bool.true_and, Bool.false_and, Bool.false_or] at hI
          have HI := Aside0.mk hI
          clear hI
          go_wp2_with fail
          go_roundw
          case rel => exact ⟨j + 1, by omega, by go_num, HI, ⟨bel _ _⟩⟩
          case measure => simp [intOf]; omega
        | true =>
          have hI := HII.out
          simp only [hv, Bool.true_and] at hI
          have HAL := Aside0.mk (fun W => alike_any W r x.f1)
          generalize alikeS r x.f1 = q at HAL hI
          have HI := Aside0.mk hI
          clear hI
          go_wp2_with fail
          refine (HAL.out _).mono ?_
          rintro r5 w5 ⟨rfl, hb⟩
          have p5 := prev_call hb
          clear hb
          cases q with
          | false =>
            go_wp2_with fail
            go_ret
            exact ⟨by rw [← HI.out]; rfl, bel _ _⟩
          | true =>
            have hI := HI.out
            simp only [Bool.not_true, Bool.false_or] at hI
            have HI := Aside0.mk hI
            clear hI
            go_wp2_with fail
            go_roundw
            case rel => exact ⟨j + 1, by omega, by go_num, HI, ⟨bel _ _⟩⟩
            case measure => simp [intOf]; omega
    · have hI := HI.out
      rw [List.drop_of_length_le (by omega)] at hI
      have HI' := Aside0.mk hI
      clear hI HI
      go_wp2_with fail
      go_ret
      exact ⟨by rw [← HI'.out]; rfl, bel _ _⟩
end Go.Proofs.YtjllbkeobibnkaaDoor.Q

namespace Go.Proofs.YtjllbkeobibnkaaDoor.Q
open Go Go.Proofs Go.Shelf Go.RowKit Go.Lib Go.Sort Go.Proofs.YtjllbkeobibnkaaDoorP Go.Proofs.YtjllbkeobibnkaaDoorK Go.Proofs.YtjllbkeobibnkaaDoorW.PrintWords Go.Proofs.YtjllbkeobibnkaaDoorW.PrintLast Go.Proofs.YtjllbkeobibnkaaDoorW.PrintMore
set_option linter.unusedSimpArgs false
set_option linter.unusedVariables false
theorem within_c (W : World) (d p : ByteArray) (hp : p.size ≤ 65536) : Calls Tryd.prog 50 #[.string d, .string p] W fun e w' => e = .returned (.bool (withinS d p)) ∧ Below W.heap.size W w' := by
  have hb := fun W => Below_any W d p hp
  unfold withinS
  have HB := Aside0.mk hb
  clear hb
  cases h : (p.toList == d.toList) with
  | true =>
    go_enter Tryd.func50, Tryd.ntmps50
    go_wp2_with fail
    go_ret
    exact ⟨rfl, bel _ _⟩
  | false =>
    go_enter Tryd.func50, Tryd.ntmps50
    go_wp2_with fail
    refine (HB.out _).mono ?_
    rintro e w1 ⟨rfl, hb⟩
    go_wp2_with fail
    go_ret
    exact ⟨rfl, hb⟩
theorem C_str {w : World} {A : Option Addr} {l : List ByteArray} (h : Kd.C Kd.string w A l.length l) (j : Nat) (hj : j < l.length) : ∃ ad, A = some ad ∧ w.cell? (ad.add j) = some (.string l[j]) := by
  obtain ⟨ad, e, hc⟩ := h.2.2 (by omega)
  obtain ⟨c, h1, h2, h3⟩ := hc j l[j] (List.getElem?_eq_getElem hj)
  refine ⟨ad, e, ?_⟩
  have h4 : w.cell? (ad.add (j * 1 + 0)) = some (.string l[j]) := h3 0 (.string l[j]) (by rw [show c = [Value.string l[j]] from h2]; rfl)
  simpa using h4
/-- Where the first one stands that is so; -1: none is. -/
def idxP (p : ByteArray → Bool) : Nat → List ByteArray → Int
  | _, [] => -1
  | i, x :: l => if p x = true then (i : Int) else idxP p (i + 1) l
theorem idxP_any (p : ByteArray → Bool) (l : List ByteArray) : ∀ i, decide (0 ≤ idxP p i l) = l.any p := by
  induction l with
  | nil => intro i; rfl
  | cons x l ih =>
    intro i
    unfold idxP
    rw [List.any_cons]
    cases h : p x with
    | true => rw [if_pos rfl]; simp
    | false => rw [if_neg (by decide), ih]; rfl
/-- What is asked of a predicate that is bound to one box. -/
def PredB (g b : Nat) (p : ByteArray → Bool) (l : List ByteArray) (w : World) : Prop := ∀ W x, x ∈ l → Below w.heap.size w W → Calls Tryd.prog g #[.string x, .pointer (some ⟨b, 0, none⟩)] W fun e w' => e = .returned (.bool (p x)) ∧ Below W.heap.size W w'
set_option maxRecDepth 100000 in
set_option maxHeartbeats 1000000 in
theorem idxf_any (w : World) (A : Option Addr) (c : Nat) (l : List ByteArray) (hC : Kd.C Kd.string w A l.length l) (hl : l.length ≤ 1048576) (g b : Nat) (eg : ∀ args w, (callFunc g args).run Tryd.prog w = .ok (.enter g args) w) (p : ByteArray → Bool) (hp : PredB g b p l w) :
    Calls Tryd.prog 73 #[.slice A l.length c, .func (.func g) #[] #[.pointer (some ⟨b, 0, none⟩)]] w fun e w' => e = .returned (.int .i64 (idxP p 0 l)) ∧ Below w.heap.size w w' := by
  have HR := Aside0.mk hC
  have HP := Aside0.mk hp
  have HB0 := Aside0.mk (Below.refl w.heap.size w)
  clear hC hp
  go_enter Tryd.func73, Tryd.ntmps73
  go_wp2_with fail
  go_loopw [8] (fun i wr => ∃ j : Nat, j ≤ l.length ∧ i = .int .i64 (j : Int) ∧ Aside0 (idxP p j (l.drop j) = idxP p 0 l) ∧ Aside0 (Below w.heap.size w wr)) (fun i _ => l.length - (RowKit.intOf i).toNat)
  case atStart => exact ⟨0, Nat.zero_le _, rfl, ⟨rfl⟩, HB0⟩
  case round =>
    obtain ⟨j, hj, rfl, HI, HB⟩ := hrel
    by_cases hlt : j < l.length
    · obtain ⟨ad, e, x0⟩ := C_str HR.out j hlt
      subst e
      have hd := List.drop_eq_getElem_cons hlt
      have hmem := List.getElem_mem hlt
      have hI := HI.out
      rw [hd] at hI
      simp only [idxP] at hI
      have hpw := fun W => HP.out W l[j] hmem
      generalize l[j] = x at x0 hI hpw
      replace x0 := (HB.out.cell (World.block_lt_of_cell? w _ x0)).trans x0
      have HPW := Aside0.mk hpw
      clear hd hmem hpw HI
      have bw : Bel w.heap.size w wr := ⟨fun _ => HB.out⟩
      cases hx : p x with
      | true =>
        rw [if_pos hx] at hI
        have HI := Aside0.mk hI
        have HPW := HPW.out
        rw [hx] at HPW
        have HPW := Aside0.mk HPW
        clear hI hx
        go_wp2_with fail
        refine (HPW.out _ (bel _ _)).mono ?_
        rintro e w1 ⟨rfl, hb1⟩
        have p1 := prev_call hb1
        go_wp2_with fail
        go_ret
        exact ⟨by rw [← HI.out]; rfl, bel _ _⟩
      | false =>
        rw [if_neg (by rw [hx]; decide)] at hI
        have HI := Aside0.mk hI
        have HPW := HPW.out
        rw [hx] at HPW
        have HPW := Aside0.mk HPW
        clear hI hx
        go_wp2_with fail
        refine (HPW.out _ (bel _ _)).mono ?_
        rintro e w1 ⟨rfl, hb1⟩
        have p1 := prev_call hb1
        go_wp2_with fail
        go_roundw
        case rel => exact ⟨j + 1, by omega, by go_num, HI, ⟨bel _ _⟩⟩
        case measure => simp [RowKit.intOf]; omega
    · have hI := HI.out
      rw [List.drop_of_length_le (by omega)] at hI
      have HI' := Aside0.mk hI
      clear hI HI
      go_wp2_with fail
      go_ret
      exact ⟨by rw [← HI'.out]; rfl, HB.out⟩
theorem contf_any (w : World) (A : Option Addr) (c : Nat) (l : List ByteArray) (hC : Kd.C Kd.string w A l.length l) (hl : l.length ≤ 1048576) (g b : Nat) (eg : ∀ args w, (callFunc g args).run Tryd.prog w = .ok (.enter g args) w) (p : ByteArray → Bool) (hp : PredB g b p l w) :
    Calls Tryd.prog 48 #[.slice A l.length c, .func (.func g) #[] #[.pointer (some ⟨b, 0, none⟩)]] w fun e w' => e = .returned (.bool (l.any p)) ∧ Below w.heap.size w w' := by
  rw [← idxP_any p l 0]
  have hi := idxf_any w A c l hC hl g b eg p hp
  generalize idxP p 0 l = z at hi
  have HI := Aside0.mk hi
  clear hi hC hp eg
  go_enter Tryd.func48, Tryd.ntmps48
  go_wp2_with fail
  refine HI.out.mono ?_
  rintro e w1 ⟨rfl, hb1⟩
  go_wp2_with fail
  go_ret
  exact ⟨rfl, hb1⟩
/-- Does a path lie in one of a list? -/
def hasS (s : List ByteArray) (p : ByteArray) : Bool := isP p && s.any fun d => withinS d p
theorem has1_any (w : World) (b : Nat) (p : ByteArray) (hp : p.size ≤ 65536) (h : w.heap[b]? = some (.cells #[.string p] 9 (0, 0))) (l : List ByteArray) : PredB 49 b (fun d => withinS d p) l w := by
  intro W x _ hb
  have hW := (hb.block b (blk_lt h)).trans h
  have hh : Go.Proofs.YtjllbkeobibnkaaDoorK.Holds W b (.cells #[.string p] 9) := ⟨hW⟩
  have x0 : W.cell? ⟨b, 0, none⟩ = some (.string p) := cell_held.trans rfl
  have hwi := fun W => within_c W x p hp
  have HWI := Aside0.mk hwi
  clear hwi hb hh hW h hp
  go_enter Tryd.func49, Tryd.ntmps49
  go_wp2_with fail
  refine (HWI.out _).mono ?_
  rintro e w1 ⟨rfl, hb1⟩
  go_wp2_with fail
  go_ret
  exact ⟨rfl, hb1⟩
set_option maxHeartbeats 1000000 in
theorem Has_any (w : World) (A : Option Addr) (c : Nat) (l : List ByteArray) (p : ByteArray) (hC : Kd.C Kd.string w A l.length l) (hl : l.length ≤ 1048576) (hp : p.size ≤ 65536) :
    Calls Tryd.prog 20 #[.slice A l.length c, .string p] w fun e w' => e = .returned (.bool (hasS l p)) ∧ Below w.heap.size w w' := by
  have hk := fun W => Kind_any W p hp
  have eg : ∀ args w, (callFunc 49 args).run Tryd.prog w = .ok (.enter 49 args) w := enters_of Tryd.func49 (by kernel_rfl) rfl
  have EG := Aside0.mk eg
  have HC := Aside0.mk hC
  have HP := Aside0.mk hp
  have HL := Aside0.mk hl
  unfold hasS isP
  generalize kindS p = r at hk
  obtain ⟨k, e⟩ := r
  dsimp only at hk ⊢
  by_cases h0 : e = 0
  · subst h0
    have HK := Aside0.mk hk
    clear hk hC hp hl eg
    go_enter Tryd.func20, Tryd.ntmps20
    go_wp2_with fail
    refine (HK.out _).mono ?_
    rintro e w1 ⟨rfl, hb1⟩
    have p1 := prev_call hb1
    go_wp2_with fail
    refine (contf_any w1 A c l (Kd.C_below HC.out (bel _ _)) HL.out _ w.heap.size EG.out _ (has1_any w1 w.heap.size p HP.out held l)).mono ?_
    rintro e w2 ⟨rfl, hb2⟩
    have p2 := prev_call hb2
    go_wp2_with fail
    go_ret
    exact ⟨rfl, bel _ _⟩
  · have h1 : (e == 0) = false := beq_eq_false_iff_ne.mpr h0
    have h2 : (e != 0) = true := bne_iff_ne.mpr h0
    rw [h1]
    have HK := Aside0.mk hk
    clear hk hC hp hl eg h0
    go_enter Tryd.func20, Tryd.ntmps20
    go_wp2_with fail
    refine (HK.out _).mono ?_
    rintro e w1 ⟨rfl, hb1⟩
    have p1 := prev_call hb1
    go_wp2_with fail
    go_ret
    exact ⟨rfl, bel _ _⟩
end Go.Proofs.YtjllbkeobibnkaaDoor.Q

namespace Go.Proofs.YtjllbkeobibnkaaDoor.Q
open Go.RowKit Go.Proofs.YtjllbkeobibnkaaDoorW.PrintWords Go.Proofs.YtjllbkeobibnkaaDoorW.PrintLast Go.Proofs.YtjllbkeobibnkaaDoorW.PrintMore Go.Proofs.YtjllbkeobibnkaaDoorK
attribute [local go_sem] max2_int min2_int max_two min_two max_three min_three max_four min_four   -- for this text's walks alone
attribute [local go_sem ↓] Go.Proofs.YtjllbkeobibnkaaDoorK.isSome_setCell
set_option linter.unusedVariables false
set_option linter.unusedSimpArgs false

def scope_within.f (a0 : ByteArray) (a1 : ByteArray) : Option (Bool) := if a1.toList = a0.toList then (some true) else ((path_Below.f a0 a1).bind fun t146 => (some t146))
set_option maxHeartbeats 8000000 in
set_option maxRecDepth 100000 in
theorem scope_within.calls (a0 : ByteArray) (a1 : ByteArray) (r : Bool) (w : World) (h : scope_within.f a0 a1 = some r) :
    Calls Tryd.prog 50 #[.string a0, .string a1] w fun e w' => e = .returned (.bool r) ∧ Below w.heap.size w w' := by
  have HB := Aside0.mk (Below.refl w.heap.size w)
  have H : (if a1.toList = a0.toList then (some true) else ((path_Below.f a0 a1).bind fun t146 => (some t146))) = some r := h
  clear h
  by_cases c3 : a1.toList = a0.toList
  · rw [if_pos c3] at H
    have c3b0 : (a1.toList == a0.toList) = true := beq_iff_eq.mpr c3
    have c3b1 : (a1.toList != a0.toList) = false := bne_eq_false_iff_eq.mpr c3
    clear c3
    obtain rfl := Option.some.inj H
    go_enter Tryd.func50, Tryd.ntmps50
    go_wp2
    go_ret
    exact ⟨by first | rfl | (simp [errW_none, errW_some] <;> rfl) | (simp [*, errW_none, errW_some] <;> rfl), belU HB.out⟩
  · rw [if_neg c3] at H
    have c3b0 : (a1.toList == a0.toList) = false := beq_eq_false_iff_ne.mpr c3
    have c3b1 : (a1.toList != a0.toList) = true := bne_iff_ne.mpr c3
    replace H := Option.bind_eq_some_iff.mp H
    obtain ⟨t146, A40, H⟩ := H
    replace H : (some t146) = some r := H
    have A4 := Aside0.mk A40
    clear A40
    obtain rfl := Option.some.inj H
    go_enter Tryd.func50, Tryd.ntmps50
    go_wp2_with (first | (go_at_call 74; (with_reducible refine (path_Below.calls a0 a1 t146 _ A4.out).mono ?_); rintro e w5 ⟨rfl, hb⟩; have n0_ := Aside0.mk (below_step (belU HB.out) hb); clear HB; have HB := n0_; clear n0_; (try clear hb); (try clear hb2); (try clear hk); (try clear hi)))
    go_ret
    exact ⟨by first | rfl | (simp [errW_none, errW_some] <;> rfl) | (simp [*, errW_none, errW_some] <;> rfl), belU HB.out⟩

end Go.Proofs.YtjllbkeobibnkaaDoor.Q

namespace Go.Proofs.YtjllbkeobibnkaaDoor.Q
open Go.RowKit Go.Proofs.YtjllbkeobibnkaaDoorW.PrintWords Go.Proofs.YtjllbkeobibnkaaDoorW.PrintLast Go.Proofs.YtjllbkeobibnkaaDoorW.PrintMore Go.Proofs.YtjllbkeobibnkaaDoorK
attribute [local go_sem] max2_int min2_int max_two min_two max_three min_three max_four min_four   -- for this text's walks alone
attribute [local go_sem ↓] Go.Proofs.YtjllbkeobibnkaaDoorK.isSome_setCell
set_option linter.unusedVariables false
set_option linter.unusedSimpArgs false

def scope_dir.f (a0 : ByteArray) : Option (Int) := (path_Kind.f a0).bind fun bt147 => (if bt147.2 = 0 then (if bt147.1 = 2 then (some 13) else (some bt147.2)) else (some bt147.2))
set_option maxHeartbeats 8000000 in
set_option maxRecDepth 100000 in
theorem scope_dir.calls (a0 : ByteArray) (r : Int) (w : World) (h : scope_dir.f a0 = some r) :
    Calls Tryd.prog 68 #[.string a0] w fun e w' => e = .returned (.int .i64 r) ∧ Below w.heap.size w w' := by
  have HB := Aside0.mk (Below.refl w.heap.size w)
  have H : ((path_Kind.f a0).bind fun bt147 => (if bt147.2 = 0 then (if bt147.1 = 2 then (some 13) else (some bt147.2)) else (some bt147.2))) = some r := h
  clear h
  replace H := Option.bind_eq_some_iff.mp H
  obtain ⟨⟨t147, t148⟩, A20, H⟩ := H
  replace H : (if t148 = 0 then (if t147 = 2 then (some 13) else (some t148)) else (some t148)) = some r := H
  have A2 := Aside0.mk A20
  clear A20
  by_cases c3 : t148 = 0
  · rw [if_pos c3] at H
    have c3b0 : (t148 == 0) = true := beq_iff_eq.mpr c3
    have c3b1 : (t148 != 0) = false := bne_eq_false_iff_eq.mpr c3
    clear c3
    by_cases c4 : t147 = 2
    · rw [if_pos c4] at H
      have c4b0 : (t147 == 2) = true := beq_iff_eq.mpr c4
      have c4b1 : (t147 != 2) = false := bne_eq_false_iff_eq.mpr c4
      clear c4
      obtain rfl := Option.some.inj H
      go_enter Tryd.func68, Tryd.ntmps68
      go_wp2_with (first | ((with_reducible refine gate_callee (f := 47) rfl ?_); refine goesL_ (some 7) rfl rfl Tryd.func47 (by kernel_rfl) rfl #[.string a0] rfl (by (try simp only [List.map_toArray, List.map_cons, List.map_nil]); first | done | rfl | (simp only [List.length_drop, List.length_take]; rfl)) ?_; (with_reducible refine (path_Kind.calls a0 t147 t148 _ A2.out).mono ?_); rintro e w5 ⟨rfl, hb⟩; refine ⟨_, rfl, ?_⟩; have n0_ := Aside0.mk (below_step (belU HB.out) hb); clear HB; have HB := n0_; clear n0_; (try clear hb); (try clear hb2); (try clear hk); (try clear hi)))
      go_ret
      exact ⟨by first | rfl | (simp [errW_none, errW_some] <;> rfl) | (simp [*, errW_none, errW_some] <;> rfl), belU HB.out⟩
    · rw [if_neg c4] at H
      have c4b0 : (t147 == 2) = false := beq_eq_false_iff_ne.mpr c4
      have c4b1 : (t147 != 2) = true := bne_iff_ne.mpr c4
      obtain rfl := Option.some.inj H
      go_enter Tryd.func68, Tryd.ntmps68
      go_wp2_with (first | ((with_reducible refine gate_callee (f := 47) rfl ?_); refine goesL_ (some 7) rfl rfl Tryd.func47 (by kernel_rfl) rfl #[.string a0] rfl (by (try simp only [List.map_toArray, List.map_cons, List.map_nil]); first | done | rfl | (simp only [List.length_drop, List.length_take]; rfl)) ?_; (with_reducible refine (path_Kind.calls a0 t147 t148 _ A2.out).mono ?_); rintro e w6 ⟨rfl, hb⟩; refine ⟨_, rfl, ?_⟩; have n0_ := Aside0.mk (below_step (belU HB.out) hb); clear HB; have HB := n0_; clear n0_; (try clear hb); (try clear hb2); (try clear hk); (try clear hi)))
      go_ret
      exact ⟨by first | rfl | (simp [errW_none, errW_some] <;> rfl) | (simp [*, errW_none, errW_some] <;> rfl), belU HB.out⟩
  · rw [if_neg c3] at H
    have c3b0 : (t148 == 0) = false := beq_eq_false_iff_ne.mpr c3
    have c3b1 : (t148 != 0) = true := bne_iff_ne.mpr c3
    obtain rfl := Option.some.inj H
    go_enter Tryd.func68, Tryd.ntmps68
    go_wp2_with (first | ((with_reducible refine gate_callee (f := 47) rfl ?_); refine goesL_ (some 7) rfl rfl Tryd.func47 (by kernel_rfl) rfl #[.string a0] rfl (by (try simp only [List.map_toArray, List.map_cons, List.map_nil]); first | done | rfl | (simp only [List.length_drop, List.length_take]; rfl)) ?_; (with_reducible refine (path_Kind.calls a0 t147 t148 _ A2.out).mono ?_); rintro e w7 ⟨rfl, hb⟩; refine ⟨_, rfl, ?_⟩; have n0_ := Aside0.mk (below_step (belU HB.out) hb); clear HB; have HB := n0_; clear n0_; (try clear hb); (try clear hb2); (try clear hk); (try clear hi)))
    go_ret
    exact ⟨by first | rfl | (simp [errW_none, errW_some] <;> rfl) | (simp [*, errW_none, errW_some] <;> rfl), belU HB.out⟩

end Go.Proofs.YtjllbkeobibnkaaDoor.Q

namespace Go.Proofs.YtjllbkeobibnkaaDoor.Q
open Go.RowKit Go.Proofs.YtjllbkeobibnkaaDoorW.PrintWords Go.Proofs.YtjllbkeobibnkaaDoorW.PrintLast Go.Proofs.YtjllbkeobibnkaaDoorW.PrintMore Go.Proofs.YtjllbkeobibnkaaDoorK
attribute [local go_sem] max2_int min2_int max_two min_two max_three min_three max_four min_four   -- for this text's walks alone
attribute [local go_sem ↓] Go.Proofs.YtjllbkeobibnkaaDoorK.isSome_setCell
set_option linter.unusedVariables false
set_option linter.unusedSimpArgs false

def scope_May.l0 : Nat → List ByteArray → List ByteArray → Int → Int → Option (Bool)
  | 0, _, _, _, _ => none
  | k + 1, x0, x5, x6, x7 => if x7 < x6 then (if 0 ≤ x7 then (if x7 < (x5.length : Int) then ((scope_dir.f (rdOf ByteArray.empty x5 x7)).bind fun t150 => (if t150 = 0 then (if x7 > 0 then (if 0 ≤ (wrap64 (x7 - 1)) then (if (wrap64 (x7 - 1)) < (x0.length : Int) then ((path_Compare.f (rdOf ByteArray.empty x0 (wrap64 (x7 - 1))) (rdOf ByteArray.empty x5 x7)).bind fun t152 => (if t152 ≥ 0 then (some false) else ((scope_within.f (rdOf ByteArray.empty x0 (wrap64 (x7 - 1))) (rdOf ByteArray.empty x5 x7)).bind fun t154 => (if t154 = true then (some false) else (scope_May.l0 k x0 x5 x6 (wrap64 (x7 + 1))))))) else (none)) else (none)) else (scope_May.l0 k x0 x5 x6 (wrap64 (x7 + 1)))) else (some false))) else (none)) else (none)) else (some (decide ((x0.length : Int) ≤ 16)))
def scope_May.f (k : Nat) (l0 : List ByteArray) : Option (Bool) := scope_May.l0 k l0 l0 (l0.length : Int) 0
set_option maxHeartbeats 8000000 in
set_option maxRecDepth 100000 in
theorem scope_May.calls (k : Nat) (A0 : Option Addr) (c0 : Nat) (l0 : List ByteArray) (r : Bool) (w : World) (hr0 : Kd.C Kd.string w A0 l0.length l0) (hc0 : l0.length ≤ c0) (h : scope_May.f k l0 = some r) :
    Calls Tryd.prog 42 #[.slice A0 l0.length c0] w fun e w' => e = .returned (.bool r) ∧ Below w.heap.size w w' := by
  have HR0 := Aside0.mk hr0
  have HC0 := Aside0.mk hc0
  clear hr0 hc0
  have HB := Aside0.mk (Below.refl w.heap.size w)
  have H : (scope_May.l0 k l0 l0 (l0.length : Int) 0) = some r := h
  clear h
  have H' := Aside0.mk H
  clear H
  go_enter Tryd.func42, Tryd.ntmps42
  go_wp2
  go_loopg [7] k (fun kq v7 w' => ∃ (x7_1 : Int), v7 = .int .i64 x7_1 ∧ Aside0 (scope_May.l0 kq l0 l0 (l0.length : Int) x7_1 = some r) ∧ Aside0 (kq ≤ k) ∧ Aside0 (Below w.heap.size w w'))
  case atStart => exact ⟨(0), (by first | rfl | (simp; done) | (simp [*]; done)), H', ⟨Nat.le_refl _⟩, ⟨belU HB.out⟩⟩
  case round =>
    clear H'
    obtain ⟨x7_1, rfl, HA, HK1, HB⟩ := hrel
    cases gk with
    | zero => exact absurd HA.out (by simp [scope_May.l0])
    | succ k1 =>
      have H := HA.out
      clear HA
      simp only [scope_May.l0] at H
      by_cases c2 : x7_1 < (l0.length : Int)
      · rw [if_pos c2] at H
        have c2b0 : decide (x7_1 < (l0.length : Int)) = true := decide_eq_true c2
        clear c2
        by_cases c3 : 0 ≤ x7_1
        · rw [if_pos c3] at H
          have c3b0 : decide (0 ≤ x7_1) = true := decide_eq_true c3
          clear c3
          by_cases c4 : x7_1 < (l0.length : Int)
          · rw [if_pos c4] at H
            have c4b0 : decide (x7_1 < (l0.length : Int)) = true := decide_eq_true c4
            clear c4
            replace H := Option.bind_eq_some_iff.mp H
            obtain ⟨t150, A50, H⟩ := H
            replace H : (if t150 = 0 then (if x7_1 > 0 then (if 0 ≤ (wrap64 (x7_1 - 1)) then (if (wrap64 (x7_1 - 1)) < (l0.length : Int) then ((path_Compare.f (rdOf ByteArray.empty l0 (wrap64 (x7_1 - 1))) (rdOf ByteArray.empty l0 x7_1)).bind fun t152 => (if t152 ≥ 0 then (some false) else ((scope_within.f (rdOf ByteArray.empty l0 (wrap64 (x7_1 - 1))) (rdOf ByteArray.empty l0 x7_1)).bind fun t154 => (if t154 = true then (some false) else (scope_May.l0 k1 l0 l0 (l0.length : Int) (wrap64 (x7_1 + 1))))))) else (none)) else (none)) else (scope_May.l0 k1 l0 l0 (l0.length : Int) (wrap64 (x7_1 + 1)))) else (some false)) = some r := H
            have A5 := Aside0.mk A50
            clear A50
            by_cases c6 : t150 = 0
            · rw [if_pos c6] at H
              have c6b0 : (t150 == 0) = true := beq_iff_eq.mpr c6
              have c6b1 : (t150 != 0) = false := bne_eq_false_iff_eq.mpr c6
              clear c6
              by_cases c7 : x7_1 > 0
              · rw [if_pos c7] at H
                have c7b0 : decide (0 < x7_1) = true := decide_eq_true c7
                clear c7
                obtain ⟨ji8, hji8⟩ : ∃ j_ : Int, (wrap64 (x7_1 - 1)) = j_ := ⟨_, rfl⟩
                replace H : (if 0 ≤ (ji8) then (if (ji8) < (l0.length : Int) then ((path_Compare.f (rdOf ByteArray.empty l0 (ji8)) (rdOf ByteArray.empty l0 x7_1)).bind fun t152 => (if t152 ≥ 0 then (some false) else ((scope_within.f (rdOf ByteArray.empty l0 (ji8)) (rdOf ByteArray.empty l0 x7_1)).bind fun t154 => (if t154 = true then (some false) else (scope_May.l0 k1 l0 l0 (l0.length : Int) (wrap64 (x7_1 + 1))))))) else (none)) else (none)) = some r := by first | (rw [hji8] at H; exact H) | (simp only [hji8] at H ⊢; exact H)
                (try rw [hji8] at A5)
                have hji8w : (IntKind.i64.wrap (x7_1 - 1)) = ji8 := (i64_w _).trans hji8
                by_cases c9 : 0 ≤ (ji8)
                · rw [if_pos c9] at H
                  have c9b0 : decide (0 ≤ (ji8)) = true := decide_eq_true c9
                  clear c9
                  by_cases c10 : (ji8) < (l0.length : Int)
                  · rw [if_pos c10] at H
                    have c10b0 : decide ((ji8) < (l0.length : Int)) = true := decide_eq_true c10
                    clear c10
                    replace H := Option.bind_eq_some_iff.mp H
                    obtain ⟨t152, A110, H⟩ := H
                    replace H : (if t152 ≥ 0 then (some false) else ((scope_within.f (rdOf ByteArray.empty l0 (ji8)) (rdOf ByteArray.empty l0 x7_1)).bind fun t154 => (if t154 = true then (some false) else (scope_May.l0 k1 l0 l0 (l0.length : Int) (wrap64 (x7_1 + 1)))))) = some r := H
                    have A11 := Aside0.mk A110
                    clear A110
                    by_cases c12 : t152 ≥ 0
                    · rw [if_pos c12] at H
                      have c12b0 : decide (0 ≤ t152) = true := decide_eq_true c12
                      clear c12
                      obtain rfl := Option.some.inj H
                      have p149 : 0 ≤ (x7_1 : Int) := of_decide_eq_true (by first | (with_reducible assumption) | assumption)
                      have q149 : x7_1 < (l0.length : Int) := of_decide_eq_true (by first | (with_reducible assumption) | assumption)
                      obtain ⟨ad149, e149, hx149_0⟩ := Kd.at_string HR0.out x7_1 p149 q149
                      cases e149
                      replace hx149_0 := (HB.out.cell (World.block_lt_of_cell? w _ hx149_0)).trans hx149_0
                      replace p149 := eq_true p149
                      replace q149 := eq_true q149
                      go_wp2_with (first | ((with_reducible refine gate_callee (f := 68) rfl ?_); refine goesL_ (some 13) rfl rfl Tryd.func68 (by kernel_rfl) rfl #[.string (rdOf ByteArray.empty l0 x7_1)] rfl (by (try simp only [List.map_toArray, List.map_cons, List.map_nil]); first | done | rfl | (simp only [List.length_drop, List.length_take]; rfl)) ?_; (with_reducible refine (scope_dir.calls (rdOf ByteArray.empty l0 x7_1) t150 _ A5.out).mono ?_); rintro e w13 ⟨rfl, hb⟩; refine ⟨_, rfl, ?_⟩; have n0_ := Aside0.mk (below_step (belU HB.out) hb); clear HB; have HB := n0_; clear n0_; (try clear hb); (try clear hb2); (try clear hk); (try clear hi); have p151 : 0 ≤ ((ji8) : Int) := of_decide_eq_true (by first | (with_reducible assumption) | assumption); have q151 : (ji8) < (l0.length : Int) := of_decide_eq_true (by first | (with_reducible assumption) | assumption); obtain ⟨ad151, e151, hx151_0⟩ := Kd.at_string HR0.out (ji8) p151 q151; obtain rfl : ad149 = ad151 := (by injection e151); replace hx151_0 := (HB.out.cell (World.block_lt_of_cell? w _ hx151_0)).trans hx151_0; replace p151 := eq_true p151; replace q151 := eq_true q151) | (go_at_call 61; (with_reducible refine (path_Compare.calls (rdOf ByteArray.empty l0 (ji8)) (rdOf ByteArray.empty l0 x7_1) t152 _ A11.out).mono ?_); rintro e w14 ⟨rfl, hb⟩; have n0_ := Aside0.mk (below_step (belU HB.out) hb); clear HB; have HB := n0_; clear n0_; (try clear hb); (try clear hb2); (try clear hk); (try clear hi)))
                      go_ret
                      exact ⟨by first | rfl | (simp [errW_none, errW_some] <;> rfl) | (simp only [← hji8]; first | rfl | (simp [errW_none, errW_some] <;> rfl)) | (simp [*, errW_none, errW_some] <;> rfl), belU HB.out⟩
                    · rw [if_neg c12] at H
                      have c12b0 : decide (0 ≤ t152) = false := decide_eq_false c12
                      clear c12
                      replace H := Option.bind_eq_some_iff.mp H
                      obtain ⟨t154, A150, H⟩ := H
                      replace H : (if t154 = true then (some false) else (scope_May.l0 k1 l0 l0 (l0.length : Int) (wrap64 (x7_1 + 1)))) = some r := H
                      have A15 := Aside0.mk A150
                      clear A150
                      by_cases c16 : t154 = true
                      · subst c16
                        have H1 : (some false) = some r := by rw [if_pos rfl] at H; exact H
                        clear H
                        have H := H1
                        clear H1
                        obtain rfl := Option.some.inj H
                        have p149 : 0 ≤ (x7_1 : Int) := of_decide_eq_true (by first | (with_reducible assumption) | assumption)
                        have q149 : x7_1 < (l0.length : Int) := of_decide_eq_true (by first | (with_reducible assumption) | assumption)
                        obtain ⟨ad149, e149, hx149_0⟩ := Kd.at_string HR0.out x7_1 p149 q149
                        cases e149
                        replace hx149_0 := (HB.out.cell (World.block_lt_of_cell? w _ hx149_0)).trans hx149_0
                        replace p149 := eq_true p149
                        replace q149 := eq_true q149
                        go_wp2_with (first | ((with_reducible refine gate_callee (f := 68) rfl ?_); refine goesL_ (some 13) rfl rfl Tryd.func68 (by kernel_rfl) rfl #[.string (rdOf ByteArray.empty l0 x7_1)] rfl (by (try simp only [List.map_toArray, List.map_cons, List.map_nil]); first | done | rfl | (simp only [List.length_drop, List.length_take]; rfl)) ?_; (with_reducible refine (scope_dir.calls (rdOf ByteArray.empty l0 x7_1) t150 _ A5.out).mono ?_); rintro e w17 ⟨rfl, hb⟩; refine ⟨_, rfl, ?_⟩; have n0_ := Aside0.mk (below_step (belU HB.out) hb); clear HB; have HB := n0_; clear n0_; (try clear hb); (try clear hb2); (try clear hk); (try clear hi); have p151 : 0 ≤ ((ji8) : Int) := of_decide_eq_true (by first | (with_reducible assumption) | assumption); have q151 : (ji8) < (l0.length : Int) := of_decide_eq_true (by first | (with_reducible assumption) | assumption); obtain ⟨ad151, e151, hx151_0⟩ := Kd.at_string HR0.out (ji8) p151 q151; obtain rfl : ad149 = ad151 := (by injection e151); replace hx151_0 := (HB.out.cell (World.block_lt_of_cell? w _ hx151_0)).trans hx151_0; replace p151 := eq_true p151; replace q151 := eq_true q151) | (go_at_call 61; (with_reducible refine (path_Compare.calls (rdOf ByteArray.empty l0 (ji8)) (rdOf ByteArray.empty l0 x7_1) t152 _ A11.out).mono ?_); rintro e w18 ⟨rfl, hb⟩; have n0_ := Aside0.mk (below_step (belU HB.out) hb); clear HB; have HB := n0_; clear n0_; (try clear hb); (try clear hb2); (try clear hk); (try clear hi); have p153 : 0 ≤ ((ji8) : Int) := of_decide_eq_true (by first | (with_reducible assumption) | assumption); have q153 : (ji8) < (l0.length : Int) := of_decide_eq_true (by first | (with_reducible assumption) | assumption); obtain ⟨ad153, e153, hx153_0⟩ := Kd.at_string HR0.out (ji8) p153 q153; obtain rfl : ad149 = ad153 := (by injection e153); replace hx153_0 := (HB.out.cell (World.block_lt_of_cell? w _ hx153_0)).trans hx153_0; replace p153 := eq_true p153; replace q153 := eq_true q153) | (go_at_call 50; (with_reducible refine (scope_within.calls (rdOf ByteArray.empty l0 (ji8)) (rdOf ByteArray.empty l0 x7_1) true _ A15.out).mono ?_); rintro e w19 ⟨rfl, hb⟩; have n0_ := Aside0.mk (below_step (belU HB.out) hb); clear HB; have HB := n0_; clear n0_; (try clear hb); (try clear hb2); (try clear hk); (try clear hi)))
                        go_ret
                        exact ⟨by first | rfl | (simp [errW_none, errW_some] <;> rfl) | (simp only [← hji8]; first | rfl | (simp [errW_none, errW_some] <;> rfl)) | (simp [*, errW_none, errW_some] <;> rfl), belU HB.out⟩
                      · replace c16 := Bool.eq_false_iff.mpr c16
                        subst c16
                        have H1 : (scope_May.l0 k1 l0 l0 (l0.length : Int) (wrap64 (x7_1 + 1))) = some r := by rw [if_neg (show ¬ (false = true) by decide)] at H; exact H
                        clear H
                        have H := H1
                        clear H1
                        have H' := Aside0.mk H
                        clear H
                        have p149 : 0 ≤ (x7_1 : Int) := of_decide_eq_true (by first | (with_reducible assumption) | assumption)
                        have q149 : x7_1 < (l0.length : Int) := of_decide_eq_true (by first | (with_reducible assumption) | assumption)
                        obtain ⟨ad149, e149, hx149_0⟩ := Kd.at_string HR0.out x7_1 p149 q149
                        cases e149
                        replace hx149_0 := (HB.out.cell (World.block_lt_of_cell? w _ hx149_0)).trans hx149_0
                        replace p149 := eq_true p149
                        replace q149 := eq_true q149
                        go_wp2_with (first | ((with_reducible refine gate_callee (f := 68) rfl ?_); refine goesL_ (some 13) rfl rfl Tryd.func68 (by kernel_rfl) rfl #[.string (rdOf ByteArray.empty l0 x7_1)] rfl (by (try simp only [List.map_toArray, List.map_cons, List.map_nil]); first | done | rfl | (simp only [List.length_drop, List.length_take]; rfl)) ?_; (with_reducible refine (scope_dir.calls (rdOf ByteArray.empty l0 x7_1) t150 _ A5.out).mono ?_); rintro e w20 ⟨rfl, hb⟩; refine ⟨_, rfl, ?_⟩; have n0_ := Aside0.mk (below_step (belU HB.out) hb); clear HB; have HB := n0_; clear n0_; (try clear hb); (try clear hb2); (try clear hk); (try clear hi); have p151 : 0 ≤ ((ji8) : Int) := of_decide_eq_true (by first | (with_reducible assumption) | assumption); have q151 : (ji8) < (l0.length : Int) := of_decide_eq_true (by first | (with_reducible assumption) | assumption); obtain ⟨ad151, e151, hx151_0⟩ := Kd.at_string HR0.out (ji8) p151 q151; obtain rfl : ad149 = ad151 := (by injection e151); replace hx151_0 := (HB.out.cell (World.block_lt_of_cell? w _ hx151_0)).trans hx151_0; replace p151 := eq_true p151; replace q151 := eq_true q151) | (go_at_call 61; (with_reducible refine (path_Compare.calls (rdOf ByteArray.empty l0 (ji8)) (rdOf ByteArray.empty l0 x7_1) t152 _ A11.out).mono ?_); rintro e w21 ⟨rfl, hb⟩; have n0_ := Aside0.mk (below_step (belU HB.out) hb); clear HB; have HB := n0_; clear n0_; (try clear hb); (try clear hb2); (try clear hk); (try clear hi); have p153 : 0 ≤ ((ji8) : Int) := of_decide_eq_true (by first | (with_reducible assumption) | assumption); have q153 : (ji8) < (l0.length : Int) := of_decide_eq_true (by first | (with_reducible assumption) | assumption); obtain ⟨ad153, e153, hx153_0⟩ := Kd.at_string HR0.out (ji8) p153 q153; obtain rfl : ad149 = ad153 := (by injection e153); replace hx153_0 := (HB.out.cell (World.block_lt_of_cell? w _ hx153_0)).trans hx153_0; replace p153 := eq_true p153; replace q153 := eq_true q153) | (go_at_call 50; (with_reducible refine (scope_within.calls (rdOf ByteArray.empty l0 (ji8)) (rdOf ByteArray.empty l0 x7_1) false _ A15.out).mono ?_); rintro e w22 ⟨rfl, hb⟩; have n0_ := Aside0.mk (below_step (belU HB.out) hb); clear HB; have HB := n0_; clear n0_; (try clear hb); (try clear hb2); (try clear hk); (try clear hi)))
                        go_roundg k1
                        case measure => have := HK1.out; omega
                        case rel => exact ⟨(wrap64 (x7_1 + 1)), (by first | rfl | (simp; done) | (simp [*]; done)), H', ⟨by have := HK1.out; omega⟩, ⟨belU HB.out⟩⟩
                  · rw [if_neg c10] at H
                    exact absurd H (by simp)
                · rw [if_neg c9] at H
                  exact absurd H (by simp)
              · rw [if_neg c7] at H
                have c7b0 : decide (0 < x7_1) = false := decide_eq_false c7
                clear c7
                have H' := Aside0.mk H
                clear H
                have p149 : 0 ≤ (x7_1 : Int) := of_decide_eq_true (by first | (with_reducible assumption) | assumption)
                have q149 : x7_1 < (l0.length : Int) := of_decide_eq_true (by first | (with_reducible assumption) | assumption)
                obtain ⟨ad149, e149, hx149_0⟩ := Kd.at_string HR0.out x7_1 p149 q149
                cases e149
                replace hx149_0 := (HB.out.cell (World.block_lt_of_cell? w _ hx149_0)).trans hx149_0
                replace p149 := eq_true p149
                replace q149 := eq_true q149
                go_wp2_with (first | ((with_reducible refine gate_callee (f := 68) rfl ?_); refine goesL_ (some 13) rfl rfl Tryd.func68 (by kernel_rfl) rfl #[.string (rdOf ByteArray.empty l0 x7_1)] rfl (by (try simp only [List.map_toArray, List.map_cons, List.map_nil]); first | done | rfl | (simp only [List.length_drop, List.length_take]; rfl)) ?_; (with_reducible refine (scope_dir.calls (rdOf ByteArray.empty l0 x7_1) t150 _ A5.out).mono ?_); rintro e w23 ⟨rfl, hb⟩; refine ⟨_, rfl, ?_⟩; have n0_ := Aside0.mk (below_step (belU HB.out) hb); clear HB; have HB := n0_; clear n0_; (try clear hb); (try clear hb2); (try clear hk); (try clear hi)))
                go_roundg k1
                case measure => have := HK1.out; omega
                case rel => exact ⟨(wrap64 (x7_1 + 1)), (by first | rfl | (simp; done) | (simp [*]; done)), H', ⟨by have := HK1.out; omega⟩, ⟨belU HB.out⟩⟩
            · rw [if_neg c6] at H
              have c6b0 : (t150 == 0) = false := beq_eq_false_iff_ne.mpr c6
              have c6b1 : (t150 != 0) = true := bne_iff_ne.mpr c6
              obtain rfl := Option.some.inj H
              have p149 : 0 ≤ (x7_1 : Int) := of_decide_eq_true (by first | (with_reducible assumption) | assumption)
              have q149 : x7_1 < (l0.length : Int) := of_decide_eq_true (by first | (with_reducible assumption) | assumption)
              obtain ⟨ad149, e149, hx149_0⟩ := Kd.at_string HR0.out x7_1 p149 q149
              cases e149
              replace hx149_0 := (HB.out.cell (World.block_lt_of_cell? w _ hx149_0)).trans hx149_0
              replace p149 := eq_true p149
              replace q149 := eq_true q149
              go_wp2_with (first | ((with_reducible refine gate_callee (f := 68) rfl ?_); refine goesL_ (some 13) rfl rfl Tryd.func68 (by kernel_rfl) rfl #[.string (rdOf ByteArray.empty l0 x7_1)] rfl (by (try simp only [List.map_toArray, List.map_cons, List.map_nil]); first | done | rfl | (simp only [List.length_drop, List.length_take]; rfl)) ?_; (with_reducible refine (scope_dir.calls (rdOf ByteArray.empty l0 x7_1) t150 _ A5.out).mono ?_); rintro e w24 ⟨rfl, hb⟩; refine ⟨_, rfl, ?_⟩; have n0_ := Aside0.mk (below_step (belU HB.out) hb); clear HB; have HB := n0_; clear n0_; (try clear hb); (try clear hb2); (try clear hk); (try clear hi)))
              go_ret
              exact ⟨by first | rfl | (simp [errW_none, errW_some] <;> rfl) | (simp [*, errW_none, errW_some] <;> rfl), belU HB.out⟩
          · rw [if_neg c4] at H
            exact absurd H (by simp)
        · rw [if_neg c3] at H
          exact absurd H (by simp)
      · rw [if_neg c2] at H
        have c2b0 : decide (x7_1 < (l0.length : Int)) = false := decide_eq_false c2
        clear c2
        obtain rfl := Option.some.inj H
        go_wp2
        go_ret
        exact ⟨by first | rfl | (simp [errW_none, errW_some] <;> rfl) | (simp [*, errW_none, errW_some] <;> rfl), belU HB.out⟩

end Go.Proofs.YtjllbkeobibnkaaDoor.Q
