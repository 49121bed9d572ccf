/- Parts of the proof: Q17, Q18, Q30, PBel, Q20, Q21, Q24, PSet, HUni, HTxt, Q1, Q27, PLaw06, Q33. -/
import Derived.Test.YtkflalaocnghcaaDoorZG1
import Derived.Test.YtkflalaocnghcaaDoorZG2
import Derived.Test.YtkflalaocnghcaaDoorWZeros
import Derived.Shelf.Strings.BuilderK
namespace Go.Proofs.YtkflalaocnghcaaDoor.Q
open Go.RowKit Go.Proofs.YtkflalaocnghcaaDoorW.PrintWords Go.Proofs.YtkflalaocnghcaaDoorW.PrintLast Go.Proofs.YtkflalaocnghcaaDoorW.PrintMore Go.Proofs.YtkflalaocnghcaaDoorK
attribute [local go_sem] max2_int min2_int max_two min_two max_three min_three max_four min_four   -- for this text's walks alone
attribute [local go_sem ↓] Go.Proofs.YtkflalaocnghcaaDoorK.isSome_setCell
set_option linter.unusedVariables false
set_option linter.unusedSimpArgs false

/-! ### aquiferref06_Within: function 37 -/
def aquiferref06_Within.f (k : Nat) (a0 : ByteArray) (a1 : ByteArray) : Option (Bool) := (aquiferref05_Is.f k a1).bind fun t151 => (if t151 = true then (if a1.toList = a0.toList then (some true) else ((aquiferref05_Below.f k a0 a1).bind fun t152 => (some t152))) else ((aquiferref05_Below.f k a0 a1).bind fun t153 => (some t153)))
theorem aquiferref06_Within.mono : ∀ a0 a1 k, LeO (aquiferref06_Within.f k a0 a1) (aquiferref06_Within.f (k + 1) a0 a1) := by
  intro a0 a1 k
  unfold aquiferref06_Within.f
  repeat' first
      | (with_reducible exact aquiferref05_Below.mono _ _ _)
      | (with_reducible exact aquiferref05_Is.mono _ _)
      | (with_reducible exact LeO.refl _)
      | (with_reducible exact LeO.none _)
      | (with_reducible refine LeO.ite ?_ ?_)
      | (with_reducible refine LeO.bind ?_ (fun _ => ?_))
      | exact aquiferref05_Below.mono _ _ _
      | exact aquiferref05_Is.mono _ _
      | exact LeO.none _
      | refine LeO.ite ?_ ?_
      | refine LeO.bind ?_ (fun _ => ?_)
set_option maxHeartbeats 8000000 in
set_option maxRecDepth 100000 in
theorem aquiferref06_Within.calls (k : Nat) (a0 : ByteArray) (a1 : ByteArray) (r : Bool) (w : World) (h : aquiferref06_Within.f k a0 a1 = some r) :
    Calls Tryd.prog 37 #[.string a0, .string a1] w fun e w' => e = .returned (.bool r) ∧ Below w.heap.size w w' := by
  have HB := Aside0.mk (Below.refl w.heap.size w)
  have H : ((aquiferref05_Is.f k a1).bind fun t151 => (if t151 = true then (if a1.toList = a0.toList then (some true) else ((aquiferref05_Below.f k a0 a1).bind fun t152 => (some t152))) else ((aquiferref05_Below.f k a0 a1).bind fun t153 => (some t153)))) = some r := h
  clear h
  replace H := Option.bind_eq_some_iff.mp H
  obtain ⟨t151, A30, H⟩ := H
  replace H : (if t151 = true then (if a1.toList = a0.toList then (some true) else ((aquiferref05_Below.f k a0 a1).bind fun t152 => (some t152))) else ((aquiferref05_Below.f k a0 a1).bind fun t153 => (some t153))) = some r := H
  have A3 := Aside0.mk A30
  clear A30
  by_cases c4 : t151 = true
  · subst c4
    have H1 : (if a1.toList = a0.toList then (some true) else ((aquiferref05_Below.f k a0 a1).bind fun t152 => (some t152))) = some r := by rw [if_pos rfl] at H; exact H
    clear H
    have H := H1
    clear H1
    by_cases c5 : a1.toList = a0.toList
    · rw [if_pos c5] at H
      have c5b0 : (a1.toList == a0.toList) = true := beq_iff_eq.mpr c5
      have c5b1 : (a1.toList != a0.toList) = false := bne_eq_false_iff_eq.mpr c5
      clear c5
      obtain rfl := Option.some.inj H
      go_enter Tryd.func37, Tryd.ntmps37
      go_wp2_with (first | ((with_reducible refine gate_callee (f := 52) rfl ?_); refine goesL_ (some 6) rfl rfl Tryd.func52 (by kernel_rfl) rfl #[.string a1] rfl (by (try simp only [List.map_toArray, List.map_cons, List.map_nil]); first | done | rfl | (simp only [List.length_drop, List.length_take]; rfl)) ?_; (with_reducible refine (aquiferref05_Is.calls k a1 true _ A3.out).mono ?_); rintro e w6 ⟨rfl, hb⟩; refine ⟨_, rfl, ?_⟩; have n0_ := Aside0.mk (below_step (belU HB.out) hb); clear HB; have HB := n0_; clear n0_; (try clear hb); (try clear hb2); (try clear hk); (try clear hi)))
      go_ret
      exact ⟨by first | rfl | (simp [errW_none, errW_some] <;> rfl) | (simp [*, errW_none, errW_some] <;> rfl), belU HB.out⟩
    · rw [if_neg c5] at H
      have c5b0 : (a1.toList == a0.toList) = false := beq_eq_false_iff_ne.mpr c5
      have c5b1 : (a1.toList != a0.toList) = true := bne_iff_ne.mpr c5
      replace H := Option.bind_eq_some_iff.mp H
      obtain ⟨t152, A70, H⟩ := H
      replace H : (some t152) = some r := H
      have A7 := Aside0.mk A70
      clear A70
      obtain rfl := Option.some.inj H
      go_enter Tryd.func37, Tryd.ntmps37
      go_wp2_with (first | ((with_reducible refine gate_callee (f := 52) rfl ?_); refine goesL_ (some 6) rfl rfl Tryd.func52 (by kernel_rfl) rfl #[.string a1] rfl (by (try simp only [List.map_toArray, List.map_cons, List.map_nil]); first | done | rfl | (simp only [List.length_drop, List.length_take]; rfl)) ?_; (with_reducible refine (aquiferref05_Is.calls k a1 true _ A3.out).mono ?_); rintro e w8 ⟨rfl, hb⟩; refine ⟨_, rfl, ?_⟩; have n0_ := Aside0.mk (below_step (belU HB.out) hb); clear HB; have HB := n0_; clear n0_; (try clear hb); (try clear hb2); (try clear hk); (try clear hi)) | (go_at_call 53; (with_reducible refine (aquiferref05_Below.calls k a0 a1 t152 _ A7.out).mono ?_); rintro e w9 ⟨rfl, hb⟩; have n0_ := Aside0.mk (below_step (belU HB.out) hb); clear HB; have HB := n0_; clear n0_; (try clear hb); (try clear hb2); (try clear hk); (try clear hi)))
      go_ret
      exact ⟨by first | rfl | (simp [errW_none, errW_some] <;> rfl) | (simp [*, errW_none, errW_some] <;> rfl), belU HB.out⟩
  · replace c4 := Bool.eq_false_iff.mpr c4
    subst c4
    have H1 : ((aquiferref05_Below.f k a0 a1).bind fun t153 => (some t153)) = some r := by rw [if_neg (show ¬ (false = true) by decide)] at H; exact H
    clear H
    have H := H1
    clear H1
    replace H := Option.bind_eq_some_iff.mp H
    obtain ⟨t153, A100, H⟩ := H
    replace H : (some t153) = some r := H
    have A10 := Aside0.mk A100
    clear A100
    obtain rfl := Option.some.inj H
    go_enter Tryd.func37, Tryd.ntmps37
    go_wp2_with (first | ((with_reducible refine gate_callee (f := 52) rfl ?_); refine goesL_ (some 6) rfl rfl Tryd.func52 (by kernel_rfl) rfl #[.string a1] rfl (by (try simp only [List.map_toArray, List.map_cons, List.map_nil]); first | done | rfl | (simp only [List.length_drop, List.length_take]; rfl)) ?_; (with_reducible refine (aquiferref05_Is.calls k a1 false _ A3.out).mono ?_); rintro e w11 ⟨rfl, hb⟩; refine ⟨_, rfl, ?_⟩; have n0_ := Aside0.mk (below_step (belU HB.out) hb); clear HB; have HB := n0_; clear n0_; (try clear hb); (try clear hb2); (try clear hk); (try clear hi)) | (go_at_call 53; (with_reducible refine (aquiferref05_Below.calls k a0 a1 t153 _ A10.out).mono ?_); rintro e w12 ⟨rfl, hb⟩; have n0_ := Aside0.mk (below_step (belU HB.out) hb); clear HB; have HB := n0_; clear n0_; (try clear hb); (try clear hb2); (try clear hk); (try clear hi)))
    go_ret
    exact ⟨by first | rfl | (simp [errW_none, errW_some] <;> rfl) | (simp [*, errW_none, errW_some] <;> rfl), belU HB.out⟩

end Go.Proofs.YtkflalaocnghcaaDoor.Q

namespace Go.Proofs.YtkflalaocnghcaaDoor.Q
open Go.RowKit Go.Proofs.YtkflalaocnghcaaDoorW.PrintWords Go.Proofs.YtkflalaocnghcaaDoorW.PrintLast Go.Proofs.YtkflalaocnghcaaDoorW.PrintMore Go.Proofs.YtkflalaocnghcaaDoorK
attribute [local go_sem] max2_int min2_int max_two min_two max_three min_three max_four min_four   -- for this text's walks alone
attribute [local go_sem ↓] Go.Proofs.YtkflalaocnghcaaDoorK.isSome_setCell
set_option linter.unusedVariables false
set_option linter.unusedSimpArgs false

/-! ### aquiferref06_Has: function 17 -/
def aquiferref06_Has.l0 : Nat → List ByteArray → ByteArray → Int → Option (Bool)
  | 0, _, _, _ => none
  | k + 1, x0, x1, x5 => if x5 < (x0.length : Int) then (if 0 ≤ x5 then ((aquiferref06_Within.f k (rdOf ByteArray.empty x0 x5) x1).bind fun t155 => (if t155 = true then (some true) else (aquiferref06_Has.l0 k x0 x1 (wrap64 (x5 + 1))))) else (none)) else (some false)
def aquiferref06_Has.f (k : Nat) (l0 : List ByteArray) (a1 : ByteArray) : Option (Bool) := aquiferref06_Has.l0 k l0 a1 0
theorem aquiferref06_Has.mono_l : ∀ k, (∀ y0 y1 y2, LeO (aquiferref06_Has.l0 k y0 y1 y2) (aquiferref06_Has.l0 (k + 1) y0 y1 y2))
  | 0 => fun _ _ _ r h => by simp [aquiferref06_Has.l0] at h
  | k + 1 => by
    have ih0 := aquiferref06_Has.mono_l k
    · intro y0 y1 y2
      unfold aquiferref06_Has.l0
      repeat' first
      | (with_reducible exact ih0 _ _ _)
      | (with_reducible exact aquiferref06_Within.mono _ _ _)
      | (with_reducible exact LeO.refl _)
      | (with_reducible exact LeO.none _)
      | (with_reducible refine LeO.ite ?_ ?_)
      | (with_reducible refine LeO.bind ?_ (fun _ => ?_))
      | exact ih0 _ _ _
      | exact aquiferref06_Within.mono _ _ _
      | exact LeO.none _
      | refine LeO.ite ?_ ?_
      | refine LeO.bind ?_ (fun _ => ?_)
theorem aquiferref06_Has.mono : ∀ a0 a1 k, LeO (aquiferref06_Has.f k a0 a1) (aquiferref06_Has.f (k + 1) a0 a1) := by
  intro a0 a1 k
  have ih0 := aquiferref06_Has.mono_l k
  unfold aquiferref06_Has.f
  repeat' first
      | (with_reducible exact ih0 _ _ _)
      | (with_reducible exact aquiferref06_Within.mono _ _ _)
      | (with_reducible exact LeO.refl _)
      | (with_reducible exact LeO.none _)
      | (with_reducible refine LeO.ite ?_ ?_)
      | (with_reducible refine LeO.bind ?_ (fun _ => ?_))
      | exact ih0 _ _ _
      | exact aquiferref06_Within.mono _ _ _
      | exact LeO.none _
      | refine LeO.ite ?_ ?_
      | refine LeO.bind ?_ (fun _ => ?_)
set_option maxHeartbeats 8000000 in
set_option maxRecDepth 100000 in
theorem aquiferref06_Has.calls (k : Nat) (A0 : Option Addr) (c0 : Nat) (l0 : List ByteArray) (a1 : ByteArray) (r : Bool) (w : World) (hr0 : Kd.C Kd.string w A0 l0.length l0) (hc0 : l0.length ≤ c0) (h : aquiferref06_Has.f k l0 a1 = some r) :
    Calls Tryd.prog 17 #[.slice A0 l0.length c0, .string a1] w fun e w' => e = .returned (.bool r) ∧ Below w.heap.size w w' := by
  have HR0 := Aside0.mk hr0
  have HC0 := Aside0.mk hc0
  clear hr0 hc0
  have HB := Aside0.mk (Below.refl w.heap.size w)
  have H : (aquiferref06_Has.l0 k l0 a1 0) = some r := h
  clear h
  have H' := Aside0.mk H
  clear H
  go_enter Tryd.func17, Tryd.ntmps17
  go_wp2
  go_loopg [5] k (fun kq v5 w' => ∃ (x5_1 : Int), v5 = .int .i64 x5_1 ∧ Aside0 (aquiferref06_Has.l0 kq l0 a1 x5_1 = some r) ∧ Aside0 (kq ≤ k) ∧ Aside0 (Below w.heap.size w w'))
  case atStart => exact ⟨(0), (by first | rfl | (simp; done) | (simp [*]; done)), H', ⟨Nat.le_refl _⟩, ⟨belU HB.out⟩⟩
  case round =>
    clear H'
    try clear c1
    try clear p2
    obtain ⟨x5_1, rfl, HA, HK1, HB⟩ := hrel
    cases gk with
    | zero => exact absurd HA.out (by simp [aquiferref06_Has.l0])
    | succ k1 =>
      have H := HA.out
      clear HA
      simp only [aquiferref06_Has.l0] at H
      by_cases c3 : x5_1 < (l0.length : Int)
      · rw [if_pos c3] at H
        have c3b0 : decide (x5_1 < (l0.length : Int)) = true := decide_eq_true c3
        clear c3
        by_cases c4 : 0 ≤ x5_1
        · rw [if_pos c4] at H
          have c4b0 : decide (0 ≤ x5_1) = true := decide_eq_true c4
          clear c4
          replace H := Option.bind_eq_some_iff.mp H
          obtain ⟨t155, A50, H⟩ := H
          replace H : (if t155 = true then (some true) else (aquiferref06_Has.l0 k1 l0 a1 (wrap64 (x5_1 + 1)))) = some r := H
          have A5 := Aside0.mk A50
          clear A50
          by_cases c6 : t155 = true
          · subst c6
            have H1 : (some true) = some r := by rw [if_pos rfl] at H; exact H
            clear H
            have H := H1
            clear H1
            obtain rfl := Option.some.inj H
            have p154 : 0 ≤ (x5_1 : Int) := of_decide_eq_true (by first | (with_reducible assumption) | assumption)
            have q154 : x5_1 < (l0.length : Int) := of_decide_eq_true (by first | (with_reducible assumption) | assumption)
            obtain ⟨ad154, e154, hx154_0⟩ := Kd.at_string HR0.out x5_1 p154 q154
            cases e154
            replace hx154_0 := (HB.out.cell (World.block_lt_of_cell? w _ hx154_0)).trans hx154_0
            replace p154 := eq_true p154
            replace q154 := eq_true q154
            go_wp2_with (first | ((with_reducible refine gate_callee (f := 37) rfl ?_); refine goesL_ (some 17) rfl rfl Tryd.func37 (by kernel_rfl) rfl #[.string (rdOf ByteArray.empty l0 x5_1), .string a1] rfl (by (try simp only [List.map_toArray, List.map_cons, List.map_nil]); first | done | rfl | (simp only [List.length_drop, List.length_take]; rfl)) ?_; (with_reducible refine (aquiferref06_Within.calls k1 (rdOf ByteArray.empty l0 x5_1) a1 true _ A5.out).mono ?_); rintro e w7 ⟨rfl, hb⟩; refine ⟨_, rfl, ?_⟩; have n0_ := Aside0.mk (below_step (belU HB.out) hb); clear HB; have HB := n0_; clear n0_; (try clear hb); (try clear hb2); (try clear hk); (try clear hi)))
            go_ret
            exact ⟨by first | rfl | (simp [errW_none, errW_some] <;> rfl) | (simp [*, errW_none, errW_some] <;> rfl), belU HB.out⟩
          · replace c6 := Bool.eq_false_iff.mpr c6
            subst c6
            have H1 : (aquiferref06_Has.l0 k1 l0 a1 (wrap64 (x5_1 + 1))) = some r := by rw [if_neg (show ¬ (false = true) by decide)] at H; exact H
            clear H
            have H := H1
            clear H1
            have H' := Aside0.mk H
            clear H
            have p154 : 0 ≤ (x5_1 : Int) := of_decide_eq_true (by first | (with_reducible assumption) | assumption)
            have q154 : x5_1 < (l0.length : Int) := of_decide_eq_true (by first | (with_reducible assumption) | assumption)
            obtain ⟨ad154, e154, hx154_0⟩ := Kd.at_string HR0.out x5_1 p154 q154
            cases e154
            replace hx154_0 := (HB.out.cell (World.block_lt_of_cell? w _ hx154_0)).trans hx154_0
            replace p154 := eq_true p154
            replace q154 := eq_true q154
            go_wp2_with (first | ((with_reducible refine gate_callee (f := 37) rfl ?_); refine goesL_ (some 17) rfl rfl Tryd.func37 (by kernel_rfl) rfl #[.string (rdOf ByteArray.empty l0 x5_1), .string a1] rfl (by (try simp only [List.map_toArray, List.map_cons, List.map_nil]); first | done | rfl | (simp only [List.length_drop, List.length_take]; rfl)) ?_; (with_reducible refine (aquiferref06_Within.calls k1 (rdOf ByteArray.empty l0 x5_1) a1 false _ A5.out).mono ?_); rintro e w8 ⟨rfl, hb⟩; refine ⟨_, rfl, ?_⟩; have n0_ := Aside0.mk (below_step (belU HB.out) hb); clear HB; have HB := n0_; clear n0_; (try clear hb); (try clear hb2); (try clear hk); (try clear hi)))
            go_roundg k1
            case measure => have := HK1.out; omega
            case rel => exact ⟨(wrap64 (x5_1 + 1)), (by first | rfl | (simp; done) | (simp [*]; done)), H', ⟨by have := HK1.out; omega⟩, ⟨belU HB.out⟩⟩
        · rw [if_neg c4] at H
          exact absurd H (by simp)
      · rw [if_neg c3] at H
        have c3b0 : decide (x5_1 < (l0.length : Int)) = false := decide_eq_false c3
        clear c3
        obtain rfl := Option.some.inj H
        go_wp2
        go_ret
        exact ⟨by first | rfl | (simp [errW_none, errW_some] <;> rfl) | (simp [*, errW_none, errW_some] <;> rfl), belU HB.out⟩

end Go.Proofs.YtkflalaocnghcaaDoor.Q

namespace Go.Proofs.YtkflalaocnghcaaDoor.Q
open Go.RowKit Go.Proofs.YtkflalaocnghcaaDoorW.PrintWords Go.Proofs.YtkflalaocnghcaaDoorW.PrintLast Go.Proofs.YtkflalaocnghcaaDoorW.PrintMore Go.Proofs.YtkflalaocnghcaaDoorK
attribute [local go_sem] max2_int min2_int max_two min_two max_three min_three max_four min_four   -- for this text's walks alone
attribute [local go_sem ↓] Go.Proofs.YtkflalaocnghcaaDoorK.isSome_setCell
set_option linter.unusedVariables false
set_option linter.unusedSimpArgs false

/-! ### aquiferref06_Covers: function 19 -/
def aquiferref06_Covers.l0 : Nat → List ByteArray → List ByteArray → Int → Option (Bool)
  | 0, _, _, _ => none
  | k + 1, x0, x1, x5 => if x5 < (x1.length : Int) then (if 0 ≤ x5 then ((aquiferref06_Has.f k x0 (rdOf ByteArray.empty x1 x5)).bind fun t250 => (if t250 = true then (aquiferref06_Covers.l0 k x0 x1 (wrap64 (x5 + 1))) else (some false))) else (none)) else (some true)
def aquiferref06_Covers.f (k : Nat) (l0 : List ByteArray) (l1 : List ByteArray) : Option (Bool) := aquiferref06_Covers.l0 k l0 l1 0
theorem aquiferref06_Covers.mono_l : ∀ k, (∀ y0 y1 y2, LeO (aquiferref06_Covers.l0 k y0 y1 y2) (aquiferref06_Covers.l0 (k + 1) y0 y1 y2))
  | 0 => fun _ _ _ r h => by simp [aquiferref06_Covers.l0] at h
  | k + 1 => by
    have ih0 := aquiferref06_Covers.mono_l k
    · intro y0 y1 y2
      unfold aquiferref06_Covers.l0
      repeat' first
      | (with_reducible exact ih0 _ _ _)
      | (with_reducible exact aquiferref06_Has.mono _ _ _)
      | (with_reducible exact LeO.refl _)
      | (with_reducible exact LeO.none _)
      | (with_reducible refine LeO.ite ?_ ?_)
      | (with_reducible refine LeO.bind ?_ (fun _ => ?_))
      | exact ih0 _ _ _
      | exact aquiferref06_Has.mono _ _ _
      | exact LeO.none _
      | refine LeO.ite ?_ ?_
      | refine LeO.bind ?_ (fun _ => ?_)
theorem aquiferref06_Covers.mono : ∀ a0 a1 k, LeO (aquiferref06_Covers.f k a0 a1) (aquiferref06_Covers.f (k + 1) a0 a1) := by
  intro a0 a1 k
  have ih0 := aquiferref06_Covers.mono_l k
  unfold aquiferref06_Covers.f
  repeat' first
      | (with_reducible exact ih0 _ _ _)
      | (with_reducible exact aquiferref06_Has.mono _ _ _)
      | (with_reducible exact LeO.refl _)
      | (with_reducible exact LeO.none _)
      | (with_reducible refine LeO.ite ?_ ?_)
      | (with_reducible refine LeO.bind ?_ (fun _ => ?_))
      | exact ih0 _ _ _
      | exact aquiferref06_Has.mono _ _ _
      | exact LeO.none _
      | refine LeO.ite ?_ ?_
      | refine LeO.bind ?_ (fun _ => ?_)
set_option maxHeartbeats 8000000 in
set_option maxRecDepth 100000 in
theorem aquiferref06_Covers.calls (k : Nat) (A0 : Option Addr) (c0 : Nat) (l0 : List ByteArray) (A1 : Option Addr) (c1 : Nat) (l1 : List ByteArray) (r : Bool) (w : World) (hr0 : Kd.C Kd.string w A0 l0.length l0) (hc0 : l0.length ≤ c0) (hr1 : Kd.C Kd.string w A1 l1.length l1) (hc1 : l1.length ≤ c1) (h : aquiferref06_Covers.f k l0 l1 = some r) :
    Calls Tryd.prog 19 #[.slice A0 l0.length c0, .slice A1 l1.length c1] w fun e w' => e = .returned (.bool r) ∧ Below w.heap.size w w' := by
  have HR0 := Aside0.mk hr0
  have HC0 := Aside0.mk hc0
  clear hr0 hc0
  have HR1 := Aside0.mk hr1
  have HC1 := Aside0.mk hc1
  clear hr1 hc1
  have HB := Aside0.mk (Below.refl w.heap.size w)
  have H : (aquiferref06_Covers.l0 k l0 l1 0) = some r := h
  clear h
  have H' := Aside0.mk H
  clear H
  go_enter Tryd.func19, Tryd.ntmps19
  go_wp2
  go_loopg [5] k (fun kq v5 w' => ∃ (x5_1 : Int), v5 = .int .i64 x5_1 ∧ Aside0 (aquiferref06_Covers.l0 kq l0 l1 x5_1 = some r) ∧ Aside0 (kq ≤ k) ∧ Aside0 (Below w.heap.size w w'))
  case atStart => exact ⟨(0), (by first | rfl | (simp; done) | (simp [*]; done)), H', ⟨Nat.le_refl _⟩, ⟨belU HB.out⟩⟩
  case round =>
    clear H'
    try clear c1
    try clear p2
    obtain ⟨x5_1, rfl, HA, HK1, HB⟩ := hrel
    cases gk with
    | zero => exact absurd HA.out (by simp [aquiferref06_Covers.l0])
    | succ k1 =>
      have H := HA.out
      clear HA
      simp only [aquiferref06_Covers.l0] at H
      by_cases c3 : x5_1 < (l1.length : Int)
      · rw [if_pos c3] at H
        have c3b0 : decide (x5_1 < (l1.length : Int)) = true := decide_eq_true c3
        clear c3
        by_cases c4 : 0 ≤ x5_1
        · rw [if_pos c4] at H
          have c4b0 : decide (0 ≤ x5_1) = true := decide_eq_true c4
          clear c4
          replace H := Option.bind_eq_some_iff.mp H
          obtain ⟨t250, A50, H⟩ := H
          replace H : (if t250 = true then (aquiferref06_Covers.l0 k1 l0 l1 (wrap64 (x5_1 + 1))) else (some false)) = some r := H
          have A5 := Aside0.mk A50
          clear A50
          by_cases c6 : t250 = true
          · subst c6
            have H1 : (aquiferref06_Covers.l0 k1 l0 l1 (wrap64 (x5_1 + 1))) = some r := by rw [if_pos rfl] at H; exact H
            clear H
            have H := H1
            clear H1
            have H' := Aside0.mk H
            clear H
            have p249 : 0 ≤ (x5_1 : Int) := of_decide_eq_true (by first | (with_reducible assumption) | assumption)
            have q249 : x5_1 < (l1.length : Int) := of_decide_eq_true (by first | (with_reducible assumption) | assumption)
            obtain ⟨ad249, e249, hx249_0⟩ := Kd.at_string HR1.out x5_1 p249 q249
            cases e249
            replace hx249_0 := (HB.out.cell (World.block_lt_of_cell? w _ hx249_0)).trans hx249_0
            replace p249 := eq_true p249
            replace q249 := eq_true q249
            go_wp2_with (first | ((with_reducible refine gate_callee (f := 17) rfl ?_); refine goesL_ (some 17) rfl rfl Tryd.func17 (by kernel_rfl) rfl #[.slice A0 l0.length c0, .string (rdOf ByteArray.empty l1 x5_1)] rfl (by (try simp only [List.map_toArray, List.map_cons, List.map_nil]); first | done | rfl | (simp only [List.length_drop, List.length_take]; rfl)) ?_; (with_reducible refine (aquiferref06_Has.calls k1 _ _ l0 (rdOf ByteArray.empty l1 x5_1) true _ ?side1 ?side2 A5.out).mono ?_); (case side1 => exact CU (Kd.C_below HR0.out HB.out)); (case side2 => exact HC0.out); rintro e w7 ⟨rfl, hb⟩; refine ⟨_, rfl, ?_⟩; have n0_ := Aside0.mk (below_step (belU HB.out) hb); clear HB; have HB := n0_; clear n0_; (try clear hb); (try clear hb2); (try clear hk); (try clear hi)))
            go_roundg k1
            case measure => have := HK1.out; omega
            case rel => exact ⟨(wrap64 (x5_1 + 1)), (by first | rfl | (simp; done) | (simp [*]; done)), H', ⟨by have := HK1.out; omega⟩, ⟨belU HB.out⟩⟩
          · replace c6 := Bool.eq_false_iff.mpr c6
            subst c6
            have H1 : (some false) = some r := by rw [if_neg (show ¬ (false = true) by decide)] at H; exact H
            clear H
            have H := H1
            clear H1
            obtain rfl := Option.some.inj H
            have p249 : 0 ≤ (x5_1 : Int) := of_decide_eq_true (by first | (with_reducible assumption) | assumption)
            have q249 : x5_1 < (l1.length : Int) := of_decide_eq_true (by first | (with_reducible assumption) | assumption)
            obtain ⟨ad249, e249, hx249_0⟩ := Kd.at_string HR1.out x5_1 p249 q249
            cases e249
            replace hx249_0 := (HB.out.cell (World.block_lt_of_cell? w _ hx249_0)).trans hx249_0
            replace p249 := eq_true p249
            replace q249 := eq_true q249
            go_wp2_with (first | ((with_reducible refine gate_callee (f := 17) rfl ?_); refine goesL_ (some 17) rfl rfl Tryd.func17 (by kernel_rfl) rfl #[.slice A0 l0.length c0, .string (rdOf ByteArray.empty l1 x5_1)] rfl (by (try simp only [List.map_toArray, List.map_cons, List.map_nil]); first | done | rfl | (simp only [List.length_drop, List.length_take]; rfl)) ?_; (with_reducible refine (aquiferref06_Has.calls k1 _ _ l0 (rdOf ByteArray.empty l1 x5_1) false _ ?side1 ?side2 A5.out).mono ?_); (case side1 => exact CU (Kd.C_below HR0.out HB.out)); (case side2 => exact HC0.out); rintro e w8 ⟨rfl, hb⟩; refine ⟨_, rfl, ?_⟩; have n0_ := Aside0.mk (below_step (belU HB.out) hb); clear HB; have HB := n0_; clear n0_; (try clear hb); (try clear hb2); (try clear hk); (try clear hi)))
            go_ret
            exact ⟨by first | rfl | (simp [errW_none, errW_some] <;> rfl) | (simp [*, errW_none, errW_some] <;> rfl), belU HB.out⟩
        · rw [if_neg c4] at H
          exact absurd H (by simp)
      · rw [if_neg c3] at H
        have c3b0 : decide (x5_1 < (l1.length : Int)) = false := decide_eq_false c3
        clear c3
        obtain rfl := Option.some.inj H
        go_wp2
        go_ret
        exact ⟨by first | rfl | (simp [errW_none, errW_some] <;> rfl) | (simp [*, errW_none, errW_some] <;> rfl), belU HB.out⟩

end Go.Proofs.YtkflalaocnghcaaDoor.Q

namespace Go.Proofs.YtkflalaocnghcaaDoor.Q
open Go Go.Proofs Go.Shelf Go.RowKit Go.Lib Go.Sort Go.Proofs.YtkflalaocnghcaaDoorP Go.Proofs.YtkflalaocnghcaaDoorK Go.Proofs.YtkflalaocnghcaaDoorW.PrintWords Go.Proofs.YtkflalaocnghcaaDoorW.PrintLast Go.Proofs.YtkflalaocnghcaaDoorW.PrintMore
set_option linter.unusedSimpArgs false
set_option linter.unusedVariables false
/-! ### A path's names; what lies in a directory -/
theorem dlen (p : ByteArray) : p.data.toList.length = p.size := rfl
def parts (p : ByteArray) : List (List UInt8) := if p.size = 0 then [] else names p.data.toList
theorem parts_inj {a b : ByteArray} (h : parts a = parts b) : a = b := by
  unfold parts at h
  split at h
  · rename_i h0
    split at h
    · rename_i h1
      apply ByteArray.ext
      apply Array.ext'
      have e1 : a.data.toList = [] := List.eq_nil_of_length_eq_zero (by rw [dlen]; exact h0)
      have e2 : b.data.toList = [] := List.eq_nil_of_length_eq_zero (by rw [dlen]; exact h1)
      rw [e1, e2]
    · exact absurd h.symm (names_ne _)
  · split at h
    · exact absurd h (names_ne _)
    · exact ByteArray.ext (Array.ext' (names_inj h))
theorem kindL_nil : kindL [] = 0 := rfl
/-- All but the last one are directories' names. -/
theorem kindsL_some (l : List (List UInt8)) : ∀ (k r : Int), l ≠ [] → kindsL l k = some r → (r = 1 ∨ r = 2) ∧ (∀ n ∈ l, n ≠ []) ∧ (2 ≤ l.length → kindsL l.dropLast 0 = some 1) := by
  induction l with
  | nil => intro k r h; exact absurd rfl h
  | cons n l ih =>
    intro k r _ h
    rw [kindsL_cons] at h
    by_cases h0 : kindL n = 0
    · rw [if_pos h0] at h; cases h
    · rw [if_neg h0] at h
      have hn : n ≠ [] := fun e => h0 (by rw [e]; exact kindL_nil)
      cases l with
      | nil =>
        rw [if_neg (fun hh => hh.2 rfl)] at h
        simp only [kindsL, Option.some.injEq] at h
        subst h
        exact ⟨(kindL_cases n).resolve_left h0, fun m hm => by rw [List.mem_singleton.1 hm]; exact hn, fun h2 => by simp at h2⟩
      | cons m l =>
        by_cases h2 : kindL n = 2
        · rw [if_pos ⟨h2, by simp⟩] at h; cases h
        · rw [if_neg (fun hh => h2 hh.1)] at h
          obtain ⟨i1, i2, i3⟩ := ih _ _ (by simp) h
          have h1 : kindL n = 1 := ((kindL_cases n).resolve_left h0).resolve_right h2
          refine ⟨i1, fun x hx => (List.mem_cons.1 hx).elim (fun e => by rw [e]; exact hn) (i2 x), fun _ => ?_⟩
          rw [List.dropLast_cons_cons, kindsL_cons, if_neg h0, if_neg (fun hh => h2 hh.1), h1]
          cases l with
          | nil => rfl
          | cons m2 l =>
            have := i3 (by simp)
            rw [List.dropLast_cons_cons, kindsL_cons] at this ⊢
            exact this
/-- What a path that may be is. -/
theorem isP_open {p : ByteArray} (h : isP p = true) : p.size ≤ 96 ∧ ((p.size = 0 ∧ (kindS p).1 = 1) ∨ (p.size ≠ 0 ∧ (names p.data.toList).length ≤ 8 ∧ kindsL (names p.data.toList) 0 = some (kindS p).1)) := by
  unfold isP at h
  rw [beq_iff_eq] at h
  unfold kindS at h ⊢
  by_cases h96 : 96 < p.size
  · rw [if_pos h96] at h; exact absurd h (by decide)
  · rw [if_neg h96] at h ⊢
    refine ⟨by omega, ?_⟩
    by_cases h0 : p.size = 0
    · rw [if_pos h0] at h ⊢; exact .inl ⟨h0, rfl⟩
    · rw [if_neg h0] at h ⊢
      refine .inr ⟨h0, ?_⟩
      cases hk : kindsL (names p.data.toList) 0 with
      | none => rw [hk] at h; simp at h
      | some r =>
        rw [hk] at h
        dsimp only at h ⊢
        by_cases h8 : 8 < (names p.data.toList).length
        · rw [if_pos h8] at h; simp at h
        · rw [if_neg h8]; exact ⟨by omega, rfl⟩
theorem isP_mk {p : ByteArray} {r : Int} (h1 : p.size ≤ 96) (h0 : p.size ≠ 0) (h2 : (names p.data.toList).length ≤ 8) (h3 : kindsL (names p.data.toList) 0 = some r) : isP p = true ∧ (kindS p).1 = r := by
  unfold isP kindS
  rw [if_neg (by omega), if_neg h0, h3]
  dsimp only
  rw [if_neg (by omega)]
  exact ⟨rfl, rfl⟩
theorem isP_kind {p : ByteArray} (h : isP p = true) : (kindS p).1 = 1 ∨ (kindS p).1 = 2 := by
  rcases (isP_open h).2 with ⟨_, h1⟩ | ⟨_, _, h1⟩
  · exact .inl h1
  · exact (kindsL_some _ _ _ (names_ne _) h1).1
theorem names_free (a : List UInt8) (h : 47 ∉ a) : names a = [a] := by rw [names_sepC]; exact sepC_free 47 a h
theorem names_app (a b : List UInt8) : names (a ++ 47 :: b) = names a ++ names b := by rw [names_sepC, names_sepC, names_sepC]; exact sepC_app 47 a b
theorem parB_list (p : ByteArray) : (parB p).data.toList = p.data.toList.take (max (lastIndexByte p 47) 0).toNat := by
  unfold parB
  rw [ByteArray.data_extract, Array.toList_extract, List.extract_eq_take_drop]
  simp
theorem at_eq (p : ByteArray) (j : Nat) (h : j < p.size) : (((p.data[j]!).toNat : Int) = 47) ↔ p.data.toList[j]'h = 47 := by
  have e : p.data[j]! = p.data.toList[j]'h := by
    rw [getElem!_pos p.data j h]
    simp
  rw [e]
  exact ⟨fun h => UInt8.toNat.inj (by have : (47 : UInt8).toNat = 47 := rfl; omega), fun h => by rw [h]; rfl⟩
theorem parB_names (p : ByteArray) : (names (parB p).data.toList = (names p.data.toList).dropLast ∧ 2 ≤ (names p.data.toList).length) ∨ ((names p.data.toList).length = 1 ∧ (parB p).size = 0) := by
  have hl := parB_list p
  unfold lastIndexByte at hl
  rcases lastIdx_spec p 47 p.size with ⟨e, hn⟩ | ⟨i, hi, e, hc, hn⟩
  · right
    rw [e] at hl
    have hf : 47 ∉ p.data.toList := by
      intro hm
      obtain ⟨j, hj, hq⟩ := List.getElem_of_mem hm
      exact hn j hj ((at_eq p j hj).2 hq)
    refine ⟨by rw [names_free _ hf]; rfl, ?_⟩
    rw [← dlen, hl]
    rfl
  · left
    rw [e] at hl
    have hmx : (max (i : Int) 0).toNat = i := by omega
    rw [hmx] at hl
    have hil : i < p.data.toList.length := hi
    have hci := (at_eq p i hi).1 hc
    have hsp : p.data.toList = p.data.toList.take i ++ 47 :: p.data.toList.drop (i + 1) := by
      conv => lhs; rw [← List.take_append_drop i p.data.toList, List.drop_eq_getElem_cons hil, hci]
    have hf : 47 ∉ p.data.toList.drop (i + 1) := by
      intro hm
      obtain ⟨j, hj, hq⟩ := List.getElem_of_mem hm
      rw [List.length_drop] at hj
      rw [List.getElem_drop] at hq
      have hjl : i + 1 + j < p.size := by rw [← dlen]; omega
      exact hn (i + 1 + j) (by omega) hjl ((at_eq p (i + 1 + j) hjl).2 hq)
    have hna : names p.data.toList = names (p.data.toList.take i) ++ [p.data.toList.drop (i + 1)] := by
      conv => lhs; rw [hsp, names_app, names_free _ hf]
    rw [hl, hna]
    refine ⟨by rw [List.dropLast_concat], ?_⟩
    rw [List.length_append]
    have := List.length_pos_iff.2 (names_ne (p.data.toList.take i))
    simp only [List.length_singleton]
    omega
theorem parB_parts {p : ByteArray} (h : isP p = true) (h0 : p.size ≠ 0) : isP (parB p) = true ∧ (kindS (parB p)).1 = 1 ∧ parts (parB p) = (parts p).dropLast ∧ parts p ≠ [] := by
  obtain ⟨h96, ho⟩ := isP_open h
  rcases ho with ⟨h1, _⟩ | ⟨_, h8, hk⟩
  · exact absurd h1 h0
  · obtain ⟨_, hne, hdl⟩ := kindsL_some _ _ _ (names_ne _) hk
    have hpp : parts p = names p.data.toList := if_neg h0
    have hlt : (parB p).size < p.size := by
      have hp : (parS p).2 = true := by unfold parS; rw [if_neg (fun hh => hh.elim h0 (fun e => by rw [h] at e; cases e))]
      have := parS_size hp
      unfold parS at this
      rw [if_neg (fun hh => hh.elim h0 (fun e => by rw [h] at e; cases e))] at this
      exact this
    rw [hpp]
    refine (parB_names p).elim (fun ⟨h1, h2⟩ => ?_) (fun ⟨h1, h2⟩ => ?_)
    · have hb0 : (parB p).size ≠ 0 := by
        intro e
        have e1 : (parB p).data.toList = [] := List.eq_nil_of_length_eq_zero (by rw [dlen]; exact e)
        rw [e1] at h1
        have hm : ([] : List UInt8) ∈ (names p.data.toList).dropLast := by rw [← h1]; exact List.mem_cons_self
        exact hne [] ((List.dropLast_prefix _).subset hm) rfl
      have hmk := isP_mk (p := parB p) (r := 1) (by omega) hb0 (by rw [h1, List.length_dropLast]; omega) (by rw [h1]; exact hdl h2)
      exact ⟨hmk.1, hmk.2, by unfold parts; rw [if_neg hb0]; exact h1, names_ne _⟩
    · have hz : kindS (parB p) = (1, 0) := by unfold kindS; rw [if_neg (by omega), if_pos h2]
      refine ⟨by unfold isP; rw [hz]; rfl, by rw [hz], ?_, names_ne _⟩
      unfold parts
      rw [if_pos h2]
      match hq : names p.data.toList, h1 with
      | [x], _ => rfl
theorem ups_none {p : ByteArray} (h : p.size = 0 ∨ isP p = false) : ups p = [] := by
  rw [ups_eq]
  unfold parS
  rw [if_pos h]
  rfl
theorem ups_some {p : ByteArray} (h : isP p = true) (h0 : p.size ≠ 0) : ups p = parB p :: ups (parB p) := by
  have hp : parS p = (parB p, true) := if_neg (fun hh => hh.elim h0 (fun e => by rw [h] at e; cases e))
  rw [ups_eq, hp]
  rfl
/-- A directory's path. -/
def isD (p : ByteArray) : Prop := isP p = true ∧ (kindS p).1 = 1
theorem ups_iff (n : Nat) : ∀ (p d : ByteArray), isP p = true → (parts p).length = n → (d ∈ ups p ↔ isD d ∧ parts d <+: parts p ∧ (parts d).length < (parts p).length) := by
  induction n with
  | zero =>
    intro p d h hn
    have h0 : p.size = 0 := by
      rcases Nat.eq_zero_or_pos p.size with e | e
      · exact e
      · have := (parB_parts h (by omega)).2.2.2
        exact absurd (List.eq_nil_of_length_eq_zero hn) this
    rw [ups_none (.inl h0)]
    constructor
    · intro hm; simp at hm
    · rintro ⟨_, _, hl⟩; omega
  | succ n ih =>
    intro p d h hn
    have h0 : p.size ≠ 0 := fun e => by unfold parts at hn; rw [if_pos e] at hn; simp at hn
    obtain ⟨b1, b2, b3, b4⟩ := parB_parts h h0
    have hbl : (parts (parB p)).length = n := by rw [b3, List.length_dropLast]; omega
    rw [ups_some h h0, List.mem_cons, ih (parB p) d b1 hbl]
    constructor
    · rintro (e | ⟨hd, hp, hl⟩)
      · subst e
        exact ⟨⟨b1, b2⟩, by rw [b3]; exact List.dropLast_prefix _, by omega⟩
      · exact ⟨hd, hp.trans (by rw [b3]; exact List.dropLast_prefix _), by omega⟩
    · rintro ⟨hd, hp, hl⟩
      have hp2 : parts d <+: parts (parB p) := by
        rw [b3, List.dropLast_eq_take]
        rw [List.prefix_iff_eq_take] at hp ⊢
        rw [List.take_take, Nat.min_eq_left (by omega)]
        exact hp
      rcases Nat.lt_or_ge (parts d).length n with hlt | hge
      · exact .inr ⟨hd, hp2, by omega⟩
      · exact .inl (parts_inj (List.IsPrefix.eq_of_length_le hp2 (by omega)))
theorem below_iff (d p : ByteArray) : belowS d p = true ↔ isP p = true ∧ isD d ∧ parts d <+: parts p ∧ (parts d).length < (parts p).length := by
  unfold belowS
  rw [List.any_eq_true]
  cases h : isP p with
  | false =>
    rw [ups_none (.inr h)]
    simp
  | true =>
    rw [← ups_iff _ p d h rfl]
    constructor
    · rintro ⟨x, hx, he⟩
      rw [beq_iff_eq, tlB] at he
      exact ⟨rfl, by rw [← he]; exact hx⟩
    · rintro ⟨_, hx⟩
      exact ⟨d, hx, beq_iff_eq.2 rfl⟩
theorem within_iff (d p : ByteArray) : withinS d p = true ↔ p = d ∨ (isP p = true ∧ isD d ∧ parts d <+: parts p ∧ (parts d).length < (parts p).length) := by
  unfold withinS
  rw [Bool.or_eq_true, beq_iff_eq, tlB, below_iff]
/-- Between a directory and a path. -/
theorem within_parts {d p : ByteArray} (hd : isD d) (hp : isP p = true) : withinS d p = true ↔ parts d <+: parts p := by
  rw [within_iff]
  constructor
  · rintro (e | ⟨_, _, h, _⟩)
    · rw [e]; exact List.prefix_rfl
    · exact h
  · intro h
    rcases Nat.lt_or_ge (parts d).length (parts p).length with hlt | hge
    · exact .inr ⟨hp, hd, h, hlt⟩
    · exact .inl (parts_inj (List.IsPrefix.eq_of_length_le h hge)).symm
theorem refsplit (p : ByteArray) (hp : p.size ≤ 65536) (k : Nat) (hk : 300 ≤ k) : ∃ M, aquiferref05_Split.f k p = some M ∧ M.map (·.data.toList) = if isP p = true then parts p else [] := by
  unfold aquiferref05_Split.f
  rw [refis p hp k hk, Option.bind_some]
  by_cases h : isP p = true
  · rw [if_pos h, if_pos h]
    by_cases h0 : p.size = 0
    · rw [if_pos ((size_zero_list p).2 h0)]
      refine ⟨[], rfl, ?_⟩
      unfold parts
      rw [if_pos h0]
      rfl
    · rw [if_neg (fun e => h0 ((size_zero_list p).1 e))]
      obtain ⟨M, hf, hM⟩ := refnames p hp k (by have := (isP_open h).1; omega)
      refine ⟨M, by rw [hf]; rfl, ?_⟩
      unfold parts
      rw [if_neg h0]
      exact hM
  · rw [if_neg h, if_neg h]
    exact ⟨[], rfl, rfl⟩
theorem bel_loop (A B : List ByteArray) (hl : A.length < B.length) (hb : A.length ≤ 100000) (d : Nat) : ∀ (i k : Nat), i + d = A.length → d < k → aquiferref05_Below.l0 k A B (i : Int) = some (decide ((A.drop i).map (·.data.toList) <+: (B.drop i).map (·.data.toList))) := by
  induction d with
  | zero =>
    intro i k h hk
    obtain ⟨k, rfl⟩ : ∃ q, k = q + 1 := ⟨k - 1, by omega⟩
    unfold aquiferref05_Below.l0
    rw [if_neg (by omega), List.drop_of_length_le (by omega)]
    simp
  | succ d ih =>
    intro i k h hk
    obtain ⟨k, rfl⟩ : ∃ q, k = q + 1 := ⟨k - 1, by omega⟩
    have hi : i < A.length := by omega
    have hj : i < B.length := by omega
    unfold aquiferref05_Below.l0
    rw [if_pos (by omega), if_pos (by omega), if_pos (by omega), rdB A i hi, rdB B i hj, wr1 i (by omega), ih (i + 1) k (by omega) (by omega), List.drop_eq_getElem_cons hi, List.drop_eq_getElem_cons hj, List.map_cons, List.map_cons]
    by_cases he : A[i].toList = B[i].toList
    · have he' : A[i].data.toList = B[i].data.toList := by rw [← ByteArray.toList_eq, ← ByteArray.toList_eq]; exact he
      rw [if_pos he, he']
      congr 1
      rw [decide_eq_decide, List.cons_prefix_cons]
      simp
    · have he' : A[i].data.toList ≠ B[i].data.toList := by rw [← ByteArray.toList_eq, ← ByteArray.toList_eq]; exact he
      rw [if_neg he]
      congr 1
      symm
      rw [decide_eq_false_iff_not, List.cons_prefix_cons]
      exact fun h => he' h.1
theorem refbelow (d p : ByteArray) (hd : d.size ≤ 65536) (hp : p.size ≤ 65536) (k : Nat) (hk : 400 ≤ k) : aquiferref05_Below.f k d p = some (belowS d p) := by
  obtain ⟨k, rfl⟩ : ∃ q, k = q + 1 := ⟨k - 1, by omega⟩
  have hj : ∀ t, aquiferref05_Below.j0 (k + 1) d p t = if t = true then some false else ((aquiferref05_Split.f k d).bind fun t143 => ((aquiferref05_Split.f k p).bind fun t146 => (if (t146.length : Int) ≤ (t143.length : Int) then (some false) else (aquiferref05_Below.l0 k t143 t146 0)))) := fun _ => rfl
  unfold aquiferref05_Below.f
  rw [refkind d hd _ (by omega), Option.bind_some, refis p hp _ (by omega), Option.bind_some, hj, hj]
  have hfalse : ¬ (isP p = true ∧ isD d) → belowS d p = false := fun h => Bool.eq_false_iff.2 (fun hb => h ⟨((below_iff d p).1 hb).1, ((below_iff d p).1 hb).2.1⟩)
  by_cases h1 : (kindS d).2 = 0
  · rw [if_pos h1]
    have hid : isP d = true := by unfold isP; rw [h1]; rfl
    by_cases h2 : (kindS d).1 = 1
    · rw [if_pos h2]
      cases hip : isP p with
      | false =>
        rw [if_pos (by decide), hfalse (fun h => by rw [hip] at h; exact absurd h.1 (by decide))]
      | true =>
        rw [if_neg (by decide)]
        obtain ⟨A, hA, hAm⟩ := refsplit d hd k (by omega)
        obtain ⟨B, hB, hBm⟩ := refsplit p hp k (by omega)
        rw [hid, if_pos rfl] at hAm
        rw [hip, if_pos rfl] at hBm
        have lA : A.length = (parts d).length := by rw [← hAm, List.length_map]
        have lB : B.length = (parts p).length := by rw [← hBm, List.length_map]
        rw [hA, Option.bind_some, hB, Option.bind_some]
        have hA8 : (parts d).length ≤ 8 := by
          rcases (isP_open hid).2 with ⟨h0, _⟩ | ⟨h0, h8, _⟩
          · unfold parts; rw [if_pos h0]; exact Nat.zero_le _
          · unfold parts; rw [if_neg h0]; exact h8
        by_cases hl : B.length ≤ A.length
        · rw [if_pos (by omega)]
          congr 1
          symm
          exact Bool.eq_false_iff.2 (fun hb => by have := ((below_iff d p).1 hb).2.2.2; omega)
        · rw [if_neg (by omega)]
          have := bel_loop A B (by omega) (by omega) A.length 0 k (by omega) (by omega)
          simp only [Int.natCast_zero, List.drop_zero, hAm, hBm] at this
          rw [this]
          congr 1
          rw [Bool.eq_iff_iff, decide_eq_true_eq, below_iff]
          exact ⟨fun h => ⟨hip, ⟨hid, h2⟩, h, by omega⟩, fun h => h.2.2.1⟩
    · rw [if_neg h2, if_pos rfl, hfalse (fun h => h2 h.2.2)]
  · rw [if_neg h1, if_pos rfl, hfalse (fun h => by
      have := h.2.1
      unfold isP at this
      rw [beq_iff_eq] at this
      exact h1 this)]
/-- What the document means by lying in a directory. -/
theorem refwithin (d p : ByteArray) (hd : d.size ≤ 65536) (hp : p.size ≤ 65536) (k : Nat) (hk : 400 ≤ k) : aquiferref06_Within.f k d p = some (isP p && withinS d p) := by
  unfold aquiferref06_Within.f
  rw [refis p hp k (by omega), Option.bind_some, refbelow d p hd hp k hk, Option.bind_some]
  unfold withinS
  cases h : isP p with
  | false =>
    rw [if_neg (by decide)]
    congr 1
    exact Bool.eq_false_iff.2 (fun hb => by have := ((below_iff d p).1 hb).1; rw [h] at this; cases this)
  | true =>
    rw [if_pos rfl]
    by_cases he : p.toList = d.toList
    · rw [if_pos he, beq_iff_eq.2 he]; rfl
    · rw [if_neg he, beq_eq_false_iff_ne.2 he]; rfl
theorem has_loop (s : List ByteArray) (p : ByteArray) (hs : shortP s = true) (hp : p.size ≤ 65536) (d : Nat) : ∀ (i k : Nat), i + d = s.length → 400 + d < k → aquiferref06_Has.l0 k s p (i : Int) = some (isP p && (s.drop i).any fun d => withinS d p) := by
  obtain ⟨hl, hm⟩ := shortP_mem hs
  induction d with
  | zero =>
    intro i k h hk
    obtain ⟨k, rfl⟩ : ∃ q, k = q + 1 := ⟨k - 1, by omega⟩
    unfold aquiferref06_Has.l0
    rw [if_neg (by omega), List.drop_of_length_le (by omega)]
    simp
  | succ d ih =>
    intro i k h hk
    obtain ⟨k, rfl⟩ : ∃ q, k = q + 1 := ⟨k - 1, by omega⟩
    have hi : i < s.length := by omega
    unfold aquiferref06_Has.l0
    rw [if_pos (by omega), if_pos (by omega), rdB s i hi, refwithin _ p (hm _ (List.getElem_mem hi)) hp k (by omega), Option.bind_some, wr1 i (by omega), ih (i + 1) k (by omega) (by omega), List.drop_eq_getElem_cons hi, List.any_cons]
    cases isP p <;> cases withinS s[i] p <;> simp
theorem refhas (s : List ByteArray) (p : ByteArray) (hs : shortP s = true) (hp : p.size ≤ 65536) (k : Nat) (hk : 400 + s.length < k) : aquiferref06_Has.f k s p = some (hasS s p) := by
  have h := has_loop s p hs hp s.length 0 k (by omega) hk
  unfold aquiferref06_Has.f hasS
  simpa using h
theorem cov_loop (a b : List ByteArray) (ha : shortP a = true) (hb : shortP b = true) (d : Nat) : ∀ (i k : Nat), i + d = b.length → 400 + a.length + d < k → aquiferref06_Covers.l0 k a b (i : Int) = some (!(b.drop i).any fun p => !hasS a p) := by
  obtain ⟨hl, hm⟩ := shortP_mem hb
  induction d with
  | zero =>
    intro i k h hk
    obtain ⟨k, rfl⟩ : ∃ q, k = q + 1 := ⟨k - 1, by omega⟩
    unfold aquiferref06_Covers.l0
    rw [if_neg (by omega), List.drop_of_length_le (by omega)]
    simp
  | succ d ih =>
    intro i k h hk
    obtain ⟨k, rfl⟩ : ∃ q, k = q + 1 := ⟨k - 1, by omega⟩
    have hi : i < b.length := by omega
    unfold aquiferref06_Covers.l0
    rw [if_pos (by omega), if_pos (by omega), rdB b i hi, refhas a _ ha (hm _ (List.getElem_mem hi)) k (by omega), Option.bind_some, wr1 i (by omega), ih (i + 1) k (by omega) (by omega), List.drop_eq_getElem_cons hi, List.any_cons]
    cases hasS a b[i] <;> simp
theorem refcovers (a b : List ByteArray) (ha : shortP a = true) (hb : shortP b = true) (k : Nat) (hk : 400 + a.length + b.length < k) : aquiferref06_Covers.f k a b = some (coversS a b) := by
  have h := cov_loop a b ha hb b.length 0 k (by omega) hk
  unfold aquiferref06_Covers.f coversS
  simpa using h
end Go.Proofs.YtkflalaocnghcaaDoor.Q

namespace Go.Proofs.YtkflalaocnghcaaDoor.Q
open Go.RowKit Go.Proofs.YtkflalaocnghcaaDoorW.PrintWords Go.Proofs.YtkflalaocnghcaaDoorW.PrintLast Go.Proofs.YtkflalaocnghcaaDoorW.PrintMore Go.Proofs.YtkflalaocnghcaaDoorK
attribute [local go_sem] max2_int min2_int max_two min_two max_three min_three max_four min_four   -- for this text's walks alone
attribute [local go_sem ↓] Go.Proofs.YtkflalaocnghcaaDoorK.isSome_setCell
set_option linter.unusedVariables false
set_option linter.unusedSimpArgs false

/-! ### aquiferref06_reduce: function 31 -/
mutual
def aquiferref06_reduce.l0 : Nat → List ByteArray → List ByteArray → Option (List ByteArray)
  | 0, _, _ => none
  | k + 1, x0, x3 => aquiferref06_reduce.l1 k x0 x3 false (⟨#[]⟩ : ByteArray) 0
def aquiferref06_reduce.l1 : Nat → List ByteArray → List ByteArray → Bool → ByteArray → Int → Option (List ByteArray)
  | 0, _, _, _, _, _ => none
  | k + 1, x0, x3, x4, x5, x6 => if x6 < (x0.length : Int) then (if 0 ≤ x6 then ((aquiferref06_Has.f k x3 (rdOf ByteArray.empty x0 x6)).bind fun t170 => (if t170 = true then (aquiferref06_reduce.l1 k x0 x3 x4 x5 (wrap64 (x6 + 1))) else (if x4 = true then ((aquiferref05_Compare.f k (rdOf ByteArray.empty x0 x6) x5).bind fun t172 => (if t172 < 0 then (aquiferref06_reduce.l1 k x0 x3 true (rdOf ByteArray.empty x0 x6) (wrap64 (x6 + 1))) else (aquiferref06_reduce.l1 k x0 x3 x4 x5 (wrap64 (x6 + 1))))) else (aquiferref06_reduce.l1 k x0 x3 true (rdOf ByteArray.empty x0 x6) (wrap64 (x6 + 1)))))) else (none)) else (if x4 = true then (if x3.length < 8796093022208 then (aquiferref06_reduce.l0 k x0 (x3 ++ [x5])) else (none)) else (some x3))
end
def aquiferref06_reduce.f (k : Nat) (l0 : List ByteArray) : Option (List ByteArray) := aquiferref06_reduce.l0 k l0 ([] : List ByteArray)
theorem aquiferref06_reduce.mono_l : ∀ k, (∀ y0 y1, LeO (aquiferref06_reduce.l0 k y0 y1) (aquiferref06_reduce.l0 (k + 1) y0 y1)) ∧ (∀ y0 y1 y2 y3 y4, LeO (aquiferref06_reduce.l1 k y0 y1 y2 y3 y4) (aquiferref06_reduce.l1 (k + 1) y0 y1 y2 y3 y4))
  | 0 => ⟨fun _ _ r h => by simp [aquiferref06_reduce.l0] at h, fun _ _ _ _ _ r h => by simp [aquiferref06_reduce.l1] at h⟩
  | k + 1 => by
    obtain ⟨ih0, ih1⟩ := aquiferref06_reduce.mono_l k
    refine ⟨?_, ?_⟩
    · intro y0 y1
      unfold aquiferref06_reduce.l0
      repeat' first
      | (with_reducible exact ih0 _ _)
      | (with_reducible exact ih1 _ _ _ _ _)
      | (with_reducible exact aquiferref05_Compare.mono _ _ _)
      | (with_reducible exact aquiferref06_Has.mono _ _ _)
      | (with_reducible exact LeO.refl _)
      | (with_reducible exact LeO.none _)
      | (with_reducible refine LeO.ite ?_ ?_)
      | (with_reducible refine LeO.bind ?_ (fun _ => ?_))
      | exact ih0 _ _
      | exact ih1 _ _ _ _ _
      | exact aquiferref05_Compare.mono _ _ _
      | exact aquiferref06_Has.mono _ _ _
      | exact LeO.none _
      | refine LeO.ite ?_ ?_
      | refine LeO.bind ?_ (fun _ => ?_)
    · intro y0 y1 y2 y3 y4
      unfold aquiferref06_reduce.l1
      repeat' first
      | (with_reducible exact ih0 _ _)
      | (with_reducible exact ih1 _ _ _ _ _)
      | (with_reducible exact aquiferref05_Compare.mono _ _ _)
      | (with_reducible exact aquiferref06_Has.mono _ _ _)
      | (with_reducible exact LeO.refl _)
      | (with_reducible exact LeO.none _)
      | (with_reducible refine LeO.ite ?_ ?_)
      | (with_reducible refine LeO.bind ?_ (fun _ => ?_))
      | exact ih0 _ _
      | exact ih1 _ _ _ _ _
      | exact aquiferref05_Compare.mono _ _ _
      | exact aquiferref06_Has.mono _ _ _
      | exact LeO.none _
      | refine LeO.ite ?_ ?_
      | refine LeO.bind ?_ (fun _ => ?_)
theorem aquiferref06_reduce.mono : ∀ a0 k, LeO (aquiferref06_reduce.f k a0) (aquiferref06_reduce.f (k + 1) a0) := by
  intro a0 k
  obtain ⟨ih0, ih1⟩ := aquiferref06_reduce.mono_l k
  unfold aquiferref06_reduce.f
  repeat' first
      | (with_reducible exact ih0 _ _)
      | (with_reducible exact ih1 _ _ _ _ _)
      | (with_reducible exact aquiferref05_Compare.mono _ _ _)
      | (with_reducible exact aquiferref06_Has.mono _ _ _)
      | (with_reducible exact LeO.refl _)
      | (with_reducible exact LeO.none _)
      | (with_reducible refine LeO.ite ?_ ?_)
      | (with_reducible refine LeO.bind ?_ (fun _ => ?_))
      | exact ih0 _ _
      | exact ih1 _ _ _ _ _
      | exact aquiferref05_Compare.mono _ _ _
      | exact aquiferref06_Has.mono _ _ _
      | exact LeO.none _
      | refine LeO.ite ?_ ?_
      | refine LeO.bind ?_ (fun _ => ?_)
set_option maxHeartbeats 8000000 in
set_option maxRecDepth 100000 in
theorem aquiferref06_reduce.calls (k : Nat) (A0 : Option Addr) (c0 : Nat) (l0 : List ByteArray) (r : List ByteArray) (w : World) (hr0 : Kd.C Kd.string w A0 l0.length l0) (hc0 : l0.length ≤ c0) (h : aquiferref06_reduce.f k l0 = some r) :
    Calls Tryd.prog 31 #[.slice A0 l0.length c0] w fun e w' => ∃ v0_ : Value, e = .returned (v0_) ∧ Kd.R Kd.string 9 w' w.heap.size (fun _ => True) v0_ r ∧ Below w.heap.size w w' := by
  have HR0 := Aside0.mk hr0
  have HC0 := Aside0.mk hc0
  clear hr0 hc0
  have HB := Aside0.mk (Below.refl w.heap.size w)
  have H : (aquiferref06_reduce.l0 k l0 ([] : List ByteArray)) = some r := h
  clear h
  have H' := Aside0.mk H
  clear H
  go_enter Tryd.func31, Tryd.ntmps31
  go_wp2
  go_loopg [3] k (fun kq v3 w' => ∃ (x3_1 : List ByteArray), Aside0 (aquiferref06_reduce.l0 kq l0 x3_1 = some r) ∧ Aside0 (kq ≤ k) ∧ Aside0 (Kd.R Kd.string 9 w' w.heap.size (fun _ => True) v3 x3_1) ∧ Aside0 (Below w.heap.size w w'))
  case atStart => exact ⟨(([] : List ByteArray)), H', ⟨Nat.le_refl _⟩, ⟨by first | exact Kd.R_nil _ _ _ _ _ | exact Kd.N_nil _ _ _ _ _ | exact Kd.V_nil _ _ _ _ _ | exact Kd.Q_nil _ _ _ _ _ | exact Kd.S_nil _ _ _ _ _⟩, ⟨belU HB.out⟩⟩
  case round =>
    clear H'
    obtain ⟨x3_1, HA, HK1, HO_3, HB⟩ := hrel
    cases gk with
    | zero => exact absurd HA.out (by simp [aquiferref06_reduce.l0])
    | succ k1 =>
      have H := HA.out
      clear HA
      simp only [aquiferref06_reduce.l0] at H
      have H' := Aside0.mk H
      clear H
      go_wp2
      go_loopg [4, 5, 6] k1 (fun kq v4 v5 v6 w' => ∃ (x4_2 : Bool) (x5_2 : ByteArray) (x6_2 : Int), v4 = .bool x4_2 ∧ v5 = .string x5_2 ∧ v6 = .int .i64 x6_2 ∧ Aside0 (aquiferref06_reduce.l1 kq l0 x3_1 x4_2 x5_2 x6_2 = some r) ∧ Aside0 (kq ≤ k1) ∧ Aside0 (Kd.R Kd.string 9 w' w.heap.size (fun _ => True) u3 x3_1) ∧ Aside0 (Below w.heap.size w w'))
      case atStart => exact ⟨(false), ((⟨#[]⟩ : ByteArray)), (0), (by first | rfl | (simp; done) | (simp [*]; done)), (by first | rfl | (simp; done) | (simp [*]; done)), (by first | rfl | (simp; done) | (simp [*]; done)), H', ⟨Nat.le_refl _⟩, ⟨RU HO_3.out⟩, ⟨belU HB.out⟩⟩
      case round =>
        clear H'
        obtain ⟨x4_2, x5_2, x6_2, rfl, rfl, rfl, HA, HK2, HO_3, HB⟩ := hrel
        cases gk with
        | zero => exact absurd HA.out (by simp [aquiferref06_reduce.l1])
        | succ k2 =>
          have H := HA.out
          clear HA
          simp only [aquiferref06_reduce.l1] at H
          by_cases c2 : x6_2 < (l0.length : Int)
          · rw [if_pos c2] at H
            have c2b0 : decide (x6_2 < (l0.length : Int)) = true := decide_eq_true c2
            clear c2
            by_cases c3 : 0 ≤ x6_2
            · rw [if_pos c3] at H
              have c3b0 : decide (0 ≤ x6_2) = true := decide_eq_true c3
              clear c3
              replace H := Option.bind_eq_some_iff.mp H
              obtain ⟨t170, A40, H⟩ := H
              replace H : (if t170 = true then (aquiferref06_reduce.l1 k2 l0 x3_1 x4_2 x5_2 (wrap64 (x6_2 + 1))) else (if x4_2 = true then ((aquiferref05_Compare.f k2 (rdOf ByteArray.empty l0 x6_2) x5_2).bind fun t172 => (if t172 < 0 then (aquiferref06_reduce.l1 k2 l0 x3_1 true (rdOf ByteArray.empty l0 x6_2) (wrap64 (x6_2 + 1))) else (aquiferref06_reduce.l1 k2 l0 x3_1 x4_2 x5_2 (wrap64 (x6_2 + 1))))) else (aquiferref06_reduce.l1 k2 l0 x3_1 true (rdOf ByteArray.empty l0 x6_2) (wrap64 (x6_2 + 1))))) = some r := H
              have A4 := Aside0.mk A40
              clear A40
              by_cases c5 : t170 = true
              · subst c5
                have H1 : (aquiferref06_reduce.l1 k2 l0 x3_1 x4_2 x5_2 (wrap64 (x6_2 + 1))) = some r := by rw [if_pos rfl] at H; exact H
                clear H
                have H := H1
                clear H1
                have H' := Aside0.mk H
                clear H
                have p169 : 0 ≤ (x6_2 : Int) := of_decide_eq_true (by first | (with_reducible assumption) | assumption)
                have q169 : x6_2 < (l0.length : Int) := of_decide_eq_true (by first | (with_reducible assumption) | assumption)
                obtain ⟨ad169, e169, hx169_0⟩ := Kd.at_string HR0.out x6_2 p169 q169
                cases e169
                replace hx169_0 := (HB.out.cell (World.block_lt_of_cell? w _ hx169_0)).trans hx169_0
                replace p169 := eq_true p169
                replace q169 := eq_true q169
                obtain ⟨Ao6, co6, eo6⟩ := Kd.R_slice HO_3.out
                subst eo6
                go_wp2_with (first | ((with_reducible refine gate_callee (f := 17) rfl ?_); refine goesL_ (some 18) rfl rfl Tryd.func17 (by kernel_rfl) rfl #[.slice Ao6 x3_1.length co6, .string (rdOf ByteArray.empty l0 x6_2)] rfl (by (try simp only [List.map_toArray, List.map_cons, List.map_nil]); first | done | rfl | (simp only [List.length_drop, List.length_take]; rfl)) ?_; (with_reducible refine (aquiferref06_Has.calls k2 _ _ x3_1 (rdOf ByteArray.empty l0 x6_2) true _ ?side1 ?side2 A4.out).mono ?_); (case side1 => exact CU (Kd.R_reads' HO_3.out).2.2); (case side2 => exact (Kd.R_reads' HO_3.out).2.1); rintro e w7 ⟨rfl, hb⟩; refine ⟨_, rfl, ?_⟩; have n0_ := Aside0.mk (Kd.R_below (RU HO_3.out) hb); have n1_ := Aside0.mk (below_step (belU HB.out) hb); clear HO_3; clear HB; have HO_3 := n0_; have HB := n1_; clear n0_ n1_; (try clear hb); (try clear hb2); (try clear hk); (try clear hi)))
                go_roundg k2
                case measure => have := HK1.out; have := HK2.out; omega
                case rel => exact ⟨(x4_2), (x5_2), (wrap64 (x6_2 + 1)), (by first | rfl | (simp; done) | (simp [*]; done)), (by first | rfl | (simp; done) | (simp [*]; done)), (by first | rfl | (simp; done) | (simp [*]; done)), H', ⟨by have := HK1.out; have := HK2.out; omega⟩, ⟨RU HO_3.out⟩, ⟨belU HB.out⟩⟩
              · replace c5 := Bool.eq_false_iff.mpr c5
                subst c5
                have H1 : (if x4_2 = true then ((aquiferref05_Compare.f k2 (rdOf ByteArray.empty l0 x6_2) x5_2).bind fun t172 => (if t172 < 0 then (aquiferref06_reduce.l1 k2 l0 x3_1 true (rdOf ByteArray.empty l0 x6_2) (wrap64 (x6_2 + 1))) else (aquiferref06_reduce.l1 k2 l0 x3_1 x4_2 x5_2 (wrap64 (x6_2 + 1))))) else (aquiferref06_reduce.l1 k2 l0 x3_1 true (rdOf ByteArray.empty l0 x6_2) (wrap64 (x6_2 + 1)))) = some r := by rw [if_neg (show ¬ (false = true) by decide)] at H; exact H
                clear H
                have H := H1
                clear H1
                by_cases c8 : x4_2 = true
                · subst c8
                  have H1 : ((aquiferref05_Compare.f k2 (rdOf ByteArray.empty l0 x6_2) x5_2).bind fun t172 => (if t172 < 0 then (aquiferref06_reduce.l1 k2 l0 x3_1 true (rdOf ByteArray.empty l0 x6_2) (wrap64 (x6_2 + 1))) else (aquiferref06_reduce.l1 k2 l0 x3_1 true x5_2 (wrap64 (x6_2 + 1))))) = some r := by rw [if_pos rfl] at H; exact H
                  clear H
                  have H := H1
                  clear H1
                  replace H := Option.bind_eq_some_iff.mp H
                  obtain ⟨t172, A90, H⟩ := H
                  replace H : (if t172 < 0 then (aquiferref06_reduce.l1 k2 l0 x3_1 true (rdOf ByteArray.empty l0 x6_2) (wrap64 (x6_2 + 1))) else (aquiferref06_reduce.l1 k2 l0 x3_1 true x5_2 (wrap64 (x6_2 + 1)))) = some r := H
                  have A9 := Aside0.mk A90
                  clear A90
                  by_cases c10 : t172 < 0
                  · rw [if_pos c10] at H
                    have c10b0 : decide (t172 < 0) = true := decide_eq_true c10
                    clear c10
                    have H' := Aside0.mk H
                    clear H
                    have p169 : 0 ≤ (x6_2 : Int) := of_decide_eq_true (by first | (with_reducible assumption) | assumption)
                    have q169 : x6_2 < (l0.length : Int) := of_decide_eq_true (by first | (with_reducible assumption) | assumption)
                    obtain ⟨ad169, e169, hx169_0⟩ := Kd.at_string HR0.out x6_2 p169 q169
                    cases e169
                    replace hx169_0 := (HB.out.cell (World.block_lt_of_cell? w _ hx169_0)).trans hx169_0
                    replace p169 := eq_true p169
                    replace q169 := eq_true q169
                    obtain ⟨Ao11, co11, eo11⟩ := Kd.R_slice HO_3.out
                    subst eo11
                    go_wp2_with (first | ((with_reducible refine gate_callee (f := 17) rfl ?_); refine goesL_ (some 18) rfl rfl Tryd.func17 (by kernel_rfl) rfl #[.slice Ao11 x3_1.length co11, .string (rdOf ByteArray.empty l0 x6_2)] rfl (by (try simp only [List.map_toArray, List.map_cons, List.map_nil]); first | done | rfl | (simp only [List.length_drop, List.length_take]; rfl)) ?_; (with_reducible refine (aquiferref06_Has.calls k2 _ _ x3_1 (rdOf ByteArray.empty l0 x6_2) false _ ?side1 ?side2 A4.out).mono ?_); (case side1 => exact CU (Kd.R_reads' HO_3.out).2.2); (case side2 => exact (Kd.R_reads' HO_3.out).2.1); rintro e w12 ⟨rfl, hb⟩; refine ⟨_, rfl, ?_⟩; have n0_ := Aside0.mk (Kd.R_below (RU HO_3.out) hb); have n1_ := Aside0.mk (below_step (belU HB.out) hb); clear HO_3; clear HB; have HO_3 := n0_; have HB := n1_; clear n0_ n1_; (try clear hb); (try clear hb2); (try clear hk); (try clear hi); have p171 : 0 ≤ (x6_2 : Int) := of_decide_eq_true (by first | (with_reducible assumption) | assumption); have q171 : x6_2 < (l0.length : Int) := of_decide_eq_true (by first | (with_reducible assumption) | assumption); obtain ⟨ad171, e171, hx171_0⟩ := Kd.at_string HR0.out x6_2 p171 q171; obtain rfl : ad169 = ad171 := (by injection e171); replace hx171_0 := (HB.out.cell (World.block_lt_of_cell? w _ hx171_0)).trans hx171_0; replace p171 := eq_true p171; replace q171 := eq_true q171) | (go_at_call 46; (with_reducible refine (aquiferref05_Compare.calls k2 (rdOf ByteArray.empty l0 x6_2) x5_2 t172 _ A9.out).mono ?_); rintro e w13 ⟨rfl, hb⟩; have n0_ := Aside0.mk (Kd.R_below (RU HO_3.out) hb); have n1_ := Aside0.mk (below_step (belU HB.out) hb); clear HO_3; clear HB; have HO_3 := n0_; have HB := n1_; clear n0_ n1_; (try clear hb); (try clear hb2); (try clear hk); (try clear hi); have p173 : 0 ≤ (x6_2 : Int) := of_decide_eq_true (by first | (with_reducible assumption) | assumption); have q173 : x6_2 < (l0.length : Int) := of_decide_eq_true (by first | (with_reducible assumption) | assumption); obtain ⟨ad173, e173, hx173_0⟩ := Kd.at_string HR0.out x6_2 p173 q173; obtain rfl : ad169 = ad173 := (by injection e173); replace hx173_0 := (HB.out.cell (World.block_lt_of_cell? w _ hx173_0)).trans hx173_0; replace p173 := eq_true p173; replace q173 := eq_true q173))
                    go_roundg k2
                    case measure => have := HK1.out; have := HK2.out; omega
                    case rel => exact ⟨(true), (rdOf ByteArray.empty l0 x6_2), (wrap64 (x6_2 + 1)), (by first | rfl | (simp; done) | (simp [*]; done)), (by first | rfl | (simp; done) | (simp [*]; done)), (by first | rfl | (simp; done) | (simp [*]; done)), H', ⟨by have := HK1.out; have := HK2.out; omega⟩, ⟨RU HO_3.out⟩, ⟨belU HB.out⟩⟩
                  · rw [if_neg c10] at H
                    have c10b0 : decide (t172 < 0) = false := decide_eq_false c10
                    clear c10
                    have H' := Aside0.mk H
                    clear H
                    have p169 : 0 ≤ (x6_2 : Int) := of_decide_eq_true (by first | (with_reducible assumption) | assumption)
                    have q169 : x6_2 < (l0.length : Int) := of_decide_eq_true (by first | (with_reducible assumption) | assumption)
                    obtain ⟨ad169, e169, hx169_0⟩ := Kd.at_string HR0.out x6_2 p169 q169
                    cases e169
                    replace hx169_0 := (HB.out.cell (World.block_lt_of_cell? w _ hx169_0)).trans hx169_0
                    replace p169 := eq_true p169
                    replace q169 := eq_true q169
                    obtain ⟨Ao14, co14, eo14⟩ := Kd.R_slice HO_3.out
                    subst eo14
                    go_wp2_with (first | ((with_reducible refine gate_callee (f := 17) rfl ?_); refine goesL_ (some 18) rfl rfl Tryd.func17 (by kernel_rfl) rfl #[.slice Ao14 x3_1.length co14, .string (rdOf ByteArray.empty l0 x6_2)] rfl (by (try simp only [List.map_toArray, List.map_cons, List.map_nil]); first | done | rfl | (simp only [List.length_drop, List.length_take]; rfl)) ?_; (with_reducible refine (aquiferref06_Has.calls k2 _ _ x3_1 (rdOf ByteArray.empty l0 x6_2) false _ ?side1 ?side2 A4.out).mono ?_); (case side1 => exact CU (Kd.R_reads' HO_3.out).2.2); (case side2 => exact (Kd.R_reads' HO_3.out).2.1); rintro e w15 ⟨rfl, hb⟩; refine ⟨_, rfl, ?_⟩; have n0_ := Aside0.mk (Kd.R_below (RU HO_3.out) hb); have n1_ := Aside0.mk (below_step (belU HB.out) hb); clear HO_3; clear HB; have HO_3 := n0_; have HB := n1_; clear n0_ n1_; (try clear hb); (try clear hb2); (try clear hk); (try clear hi); have p171 : 0 ≤ (x6_2 : Int) := of_decide_eq_true (by first | (with_reducible assumption) | assumption); have q171 : x6_2 < (l0.length : Int) := of_decide_eq_true (by first | (with_reducible assumption) | assumption); obtain ⟨ad171, e171, hx171_0⟩ := Kd.at_string HR0.out x6_2 p171 q171; obtain rfl : ad169 = ad171 := (by injection e171); replace hx171_0 := (HB.out.cell (World.block_lt_of_cell? w _ hx171_0)).trans hx171_0; replace p171 := eq_true p171; replace q171 := eq_true q171) | (go_at_call 46; (with_reducible refine (aquiferref05_Compare.calls k2 (rdOf ByteArray.empty l0 x6_2) x5_2 t172 _ A9.out).mono ?_); rintro e w16 ⟨rfl, hb⟩; have n0_ := Aside0.mk (Kd.R_below (RU HO_3.out) hb); have n1_ := Aside0.mk (below_step (belU HB.out) hb); clear HO_3; clear HB; have HO_3 := n0_; have HB := n1_; clear n0_ n1_; (try clear hb); (try clear hb2); (try clear hk); (try clear hi)))
                    go_roundg k2
                    case measure => have := HK1.out; have := HK2.out; omega
                    case rel => exact ⟨(true), (x5_2), (wrap64 (x6_2 + 1)), (by first | rfl | (simp; done) | (simp [*]; done)), (by first | rfl | (simp; done) | (simp [*]; done)), (by first | rfl | (simp; done) | (simp [*]; done)), H', ⟨by have := HK1.out; have := HK2.out; omega⟩, ⟨RU HO_3.out⟩, ⟨belU HB.out⟩⟩
                · replace c8 := Bool.eq_false_iff.mpr c8
                  subst c8
                  have H1 : (aquiferref06_reduce.l1 k2 l0 x3_1 true (rdOf ByteArray.empty l0 x6_2) (wrap64 (x6_2 + 1))) = some r := by rw [if_neg (show ¬ (false = true) by decide)] at H; exact H
                  clear H
                  have H := H1
                  clear H1
                  have H' := Aside0.mk H
                  clear H
                  have p169 : 0 ≤ (x6_2 : Int) := of_decide_eq_true (by first | (with_reducible assumption) | assumption)
                  have q169 : x6_2 < (l0.length : Int) := of_decide_eq_true (by first | (with_reducible assumption) | assumption)
                  obtain ⟨ad169, e169, hx169_0⟩ := Kd.at_string HR0.out x6_2 p169 q169
                  cases e169
                  replace hx169_0 := (HB.out.cell (World.block_lt_of_cell? w _ hx169_0)).trans hx169_0
                  replace p169 := eq_true p169
                  replace q169 := eq_true q169
                  obtain ⟨Ao17, co17, eo17⟩ := Kd.R_slice HO_3.out
                  subst eo17
                  go_wp2_with (first | ((with_reducible refine gate_callee (f := 17) rfl ?_); refine goesL_ (some 18) rfl rfl Tryd.func17 (by kernel_rfl) rfl #[.slice Ao17 x3_1.length co17, .string (rdOf ByteArray.empty l0 x6_2)] rfl (by (try simp only [List.map_toArray, List.map_cons, List.map_nil]); first | done | rfl | (simp only [List.length_drop, List.length_take]; rfl)) ?_; (with_reducible refine (aquiferref06_Has.calls k2 _ _ x3_1 (rdOf ByteArray.empty l0 x6_2) false _ ?side1 ?side2 A4.out).mono ?_); (case side1 => exact CU (Kd.R_reads' HO_3.out).2.2); (case side2 => exact (Kd.R_reads' HO_3.out).2.1); rintro e w18 ⟨rfl, hb⟩; refine ⟨_, rfl, ?_⟩; have n0_ := Aside0.mk (Kd.R_below (RU HO_3.out) hb); have n1_ := Aside0.mk (below_step (belU HB.out) hb); clear HO_3; clear HB; have HO_3 := n0_; have HB := n1_; clear n0_ n1_; (try clear hb); (try clear hb2); (try clear hk); (try clear hi); have p174 : 0 ≤ (x6_2 : Int) := of_decide_eq_true (by first | (with_reducible assumption) | assumption); have q174 : x6_2 < (l0.length : Int) := of_decide_eq_true (by first | (with_reducible assumption) | assumption); obtain ⟨ad174, e174, hx174_0⟩ := Kd.at_string HR0.out x6_2 p174 q174; obtain rfl : ad169 = ad174 := (by injection e174); replace hx174_0 := (HB.out.cell (World.block_lt_of_cell? w _ hx174_0)).trans hx174_0; replace p174 := eq_true p174; replace q174 := eq_true q174))
                  go_roundg k2
                  case measure => have := HK1.out; have := HK2.out; omega
                  case rel => exact ⟨(true), (rdOf ByteArray.empty l0 x6_2), (wrap64 (x6_2 + 1)), (by first | rfl | (simp; done) | (simp [*]; done)), (by first | rfl | (simp; done) | (simp [*]; done)), (by first | rfl | (simp; done) | (simp [*]; done)), H', ⟨by have := HK1.out; have := HK2.out; omega⟩, ⟨RU HO_3.out⟩, ⟨belU HB.out⟩⟩
            · rw [if_neg c3] at H
              exact absurd H (by simp)
          · rw [if_neg c2] at H
            have c2b0 : decide (x6_2 < (l0.length : Int)) = false := decide_eq_false c2
            clear c2
            by_cases c19 : x4_2 = true
            · subst c19
              have H1 : (if x3_1.length < 8796093022208 then (aquiferref06_reduce.l0 k2 l0 (x3_1 ++ [x5_2])) else (none)) = some r := by rw [if_pos rfl] at H; exact H
              clear H
              have H := H1
              clear H1
              by_cases c20 : x3_1.length < 8796093022208
              · rw [if_pos c20] at H
                have LMc20 := Aside0.mk c20
                clear c20
                obtain ⟨y166, hy166⟩ : ∃ y_ : List ByteArray, y_ = (x3_1 ++ [x5_2]) := ⟨_, rfl⟩
                replace H : (aquiferref06_reduce.l0 k2 l0 y166) = some r := by first | (rw [hy166]; with_reducible exact H) | (have H2_ := (Option.bind_some _ _).symm.trans H; rw [hy166]; with_reducible exact H2_) | (have H2_ := (Option.bind_some _ _).symm.trans H; with_reducible exact H2_) | with_reducible exact H | (rw [hy166]; exact H) | exact H
                have Ny166 := Aside0.mk hy166
                clear hy166
                have H' := Aside0.mk H
                clear H
                go_wp2_with (first | ((with_reducible refine gate_builtin (b := .append) (xs := #[.tmp 40, .tmp 42]) rfl ?_); at_builtin; refine Kd.R_append Kd.string (w0 := w) w.heap.size rfl (.tmp 40) (.tmp 42) 22 9 (.string ⟨#[]⟩) 16 rfl Tryd.underlying22 info9 rfl (by decide) (by omega) u3 x3_1 x5_2 [.string x5_2] (fun _ => True) (fun _ => False) rfl rfl ?aP (fun _ hk => hk.elim) ?aF ?aO ?aB ?aS ?aL ?_; (case aP => exact rfl); (case aB => exact (belU HB.out)); (case aF => exact (fun _ _ => trivial)); (case aO => exact (RU HO_3.out)); (case aS => exact (sizU HB.out)); (case aL => have := LMc20.out; omega); intro v167 w21 ho hb hg hat; rw [← Ny166.out] at ho; have n0_ := Aside0.mk (hb); have n1_ := Aside0.mk (ho); clear HB; clear HO_3; have HB := n0_; have HO168 := n1_; clear n0_ n1_; clear ho hb hg hat))
                go_roundg k2
                case measure => have := HK1.out; have := HK2.out; omega
                case rel => exact ⟨(y166), H', ⟨by have := HK1.out; have := HK2.out; omega⟩, ⟨RU HO168.out⟩, ⟨belU HB.out⟩⟩
              · rw [if_neg c20] at H
                exact absurd H (by simp)
            · replace c19 := Bool.eq_false_iff.mpr c19
              subst c19
              have H1 : (some x3_1) = some r := by rw [if_neg (show ¬ (false = true) by decide)] at H; exact H
              clear H
              have H := H1
              clear H1
              obtain rfl := Option.some.inj H
              go_wp2
              go_ret
              exact ⟨_, by first | rfl | (simp [errW_none, errW_some] <;> rfl) | (simp [*, errW_none, errW_some] <;> rfl), by (with_reducible repeat (first | apply Kd.R_alloc | apply Kd.R_drewN | apply Kd.R_drew)); exact HO_3.out, belU HB.out⟩

end Go.Proofs.YtkflalaocnghcaaDoor.Q

namespace Go.Proofs.YtkflalaocnghcaaDoor.Q
open Go.RowKit Go.Proofs.YtkflalaocnghcaaDoorW.PrintWords Go.Proofs.YtkflalaocnghcaaDoorW.PrintLast Go.Proofs.YtkflalaocnghcaaDoorW.PrintMore Go.Proofs.YtkflalaocnghcaaDoorK
attribute [local go_sem] max2_int min2_int max_two min_two max_three min_three max_four min_four   -- for this text's walks alone
attribute [local go_sem ↓] Go.Proofs.YtkflalaocnghcaaDoorK.isSome_setCell
set_option linter.unusedVariables false
set_option linter.unusedSimpArgs false

/-! ### aquiferref06_Make: function 11 -/
def aquiferref06_Make.l0 : Nat → List ByteArray → Int → Option (List ByteArray × Int)
  | 0, _, _ => none
  | k + 1, x0, x4 => if x4 < (x0.length : Int) then (if 0 ≤ x4 then ((aquiferref06_dir.f k (rdOf ByteArray.empty x0 x4)).bind fun t176 => (if t176 = 0 then (aquiferref06_Make.l0 k x0 (wrap64 (x4 + 1))) else (some (([] : List ByteArray), t176)))) else (none)) else ((aquiferref06_reduce.f k x0).bind fun t177 => (if (t177.length : Int) > 16 then (some (([] : List ByteArray), 7)) else (some (t177, 0))))
def aquiferref06_Make.f (k : Nat) (l0 : List ByteArray) : Option (List ByteArray × Int) := aquiferref06_Make.l0 k l0 0
theorem aquiferref06_Make.mono_l : ∀ k, (∀ y0 y1, LeO (aquiferref06_Make.l0 k y0 y1) (aquiferref06_Make.l0 (k + 1) y0 y1))
  | 0 => fun _ _ r h => by simp [aquiferref06_Make.l0] at h
  | k + 1 => by
    have ih0 := aquiferref06_Make.mono_l k
    · intro y0 y1
      unfold aquiferref06_Make.l0
      repeat' first
      | (with_reducible exact ih0 _ _)
      | (with_reducible exact aquiferref06_dir.mono _ _)
      | (with_reducible exact aquiferref06_reduce.mono _ _)
      | (with_reducible exact LeO.refl _)
      | (with_reducible exact LeO.none _)
      | (with_reducible refine LeO.ite ?_ ?_)
      | (with_reducible refine LeO.bind ?_ (fun _ => ?_))
      | exact ih0 _ _
      | exact aquiferref06_dir.mono _ _
      | exact aquiferref06_reduce.mono _ _
      | exact LeO.none _
      | refine LeO.ite ?_ ?_
      | refine LeO.bind ?_ (fun _ => ?_)
theorem aquiferref06_Make.mono : ∀ a0 k, LeO (aquiferref06_Make.f k a0) (aquiferref06_Make.f (k + 1) a0) := by
  intro a0 k
  have ih0 := aquiferref06_Make.mono_l k
  unfold aquiferref06_Make.f
  repeat' first
      | (with_reducible exact ih0 _ _)
      | (with_reducible exact aquiferref06_dir.mono _ _)
      | (with_reducible exact aquiferref06_reduce.mono _ _)
      | (with_reducible exact LeO.refl _)
      | (with_reducible exact LeO.none _)
      | (with_reducible refine LeO.ite ?_ ?_)
      | (with_reducible refine LeO.bind ?_ (fun _ => ?_))
      | exact ih0 _ _
      | exact aquiferref06_dir.mono _ _
      | exact aquiferref06_reduce.mono _ _
      | exact LeO.none _
      | refine LeO.ite ?_ ?_
      | refine LeO.bind ?_ (fun _ => ?_)
set_option maxHeartbeats 8000000 in
set_option maxRecDepth 100000 in
theorem aquiferref06_Make.calls (k : Nat) (A0 : Option Addr) (c0 : Nat) (l0 : List ByteArray) (r1 : List ByteArray) (r2 : Int) (w : World) (hr0 : Kd.C Kd.string w A0 l0.length l0) (hc0 : l0.length ≤ c0) (h : aquiferref06_Make.f k l0 = some (r1, r2)) :
    Calls Tryd.prog 11 #[.slice A0 l0.length c0] w fun e w' => ∃ v0_ : Value, e = .returned (.tuple #[v0_, .int .i64 r2]) ∧ Kd.R Kd.string 9 w' w.heap.size (fun _ => True) v0_ r1 ∧ Below w.heap.size w w' := by
  have HR0 := Aside0.mk hr0
  have HC0 := Aside0.mk hc0
  clear hr0 hc0
  have HB := Aside0.mk (Below.refl w.heap.size w)
  have H : (aquiferref06_Make.l0 k l0 0) = some (r1, r2) := h
  clear h
  have H' := Aside0.mk H
  clear H
  go_enter Tryd.func11, Tryd.ntmps11
  go_wp2
  go_loopg [4] k (fun kq v4 w' => ∃ (x4_1 : Int), v4 = .int .i64 x4_1 ∧ Aside0 (aquiferref06_Make.l0 kq l0 x4_1 = some (r1, r2)) ∧ Aside0 (kq ≤ k) ∧ Aside0 (Below w.heap.size w w'))
  case atStart => exact ⟨(0), (by first | rfl | (simp; done) | (simp [*]; done)), H', ⟨Nat.le_refl _⟩, ⟨belU HB.out⟩⟩
  case round =>
    clear H'
    try clear c1
    obtain ⟨x4_1, rfl, HA, HK1, HB⟩ := hrel
    cases gk with
    | zero => exact absurd HA.out (by simp [aquiferref06_Make.l0])
    | succ k1 =>
      have H := HA.out
      clear HA
      simp only [aquiferref06_Make.l0] at H
      by_cases c2 : x4_1 < (l0.length : Int)
      · rw [if_pos c2] at H
        have c2b0 : decide (x4_1 < (l0.length : Int)) = true := decide_eq_true c2
        clear c2
        by_cases c3 : 0 ≤ x4_1
        · rw [if_pos c3] at H
          have c3b0 : decide (0 ≤ x4_1) = true := decide_eq_true c3
          clear c3
          replace H := Option.bind_eq_some_iff.mp H
          obtain ⟨t176, A40, H⟩ := H
          replace H : (if t176 = 0 then (aquiferref06_Make.l0 k1 l0 (wrap64 (x4_1 + 1))) else (some (([] : List ByteArray), t176))) = some (r1, r2) := H
          have A4 := Aside0.mk A40
          clear A40
          by_cases c5 : t176 = 0
          · rw [if_pos c5] at H
            have c5b0 : (t176 == 0) = true := beq_iff_eq.mpr c5
            have c5b1 : (t176 != 0) = false := bne_eq_false_iff_eq.mpr c5
            clear c5
            have H' := Aside0.mk H
            clear H
            have p175 : 0 ≤ (x4_1 : Int) := of_decide_eq_true (by first | (with_reducible assumption) | assumption)
            have q175 : x4_1 < (l0.length : Int) := of_decide_eq_true (by first | (with_reducible assumption) | assumption)
            obtain ⟨ad175, e175, hx175_0⟩ := Kd.at_string HR0.out x4_1 p175 q175
            cases e175
            replace hx175_0 := (HB.out.cell (World.block_lt_of_cell? w _ hx175_0)).trans hx175_0
            replace p175 := eq_true p175
            replace q175 := eq_true q175
            go_wp2_with (first | ((with_reducible refine gate_callee (f := 30) rfl ?_); refine goesL_ (some 17) rfl rfl Tryd.func30 (by kernel_rfl) rfl #[.string (rdOf ByteArray.empty l0 x4_1)] rfl (by (try simp only [List.map_toArray, List.map_cons, List.map_nil]); first | done | rfl | (simp only [List.length_drop, List.length_take]; rfl)) ?_; (with_reducible refine (aquiferref06_dir.calls k1 (rdOf ByteArray.empty l0 x4_1) t176 _ A4.out).mono ?_); rintro e w6 ⟨rfl, hb⟩; refine ⟨_, rfl, ?_⟩; have n0_ := Aside0.mk (below_step (belU HB.out) hb); clear HB; have HB := n0_; clear n0_; (try clear hb); (try clear hb2); (try clear hk); (try clear hi)))
            go_roundg k1
            case measure => have := HK1.out; omega
            case rel => exact ⟨(wrap64 (x4_1 + 1)), (by first | rfl | (simp; done) | (simp [*]; done)), H', ⟨by have := HK1.out; omega⟩, ⟨belU HB.out⟩⟩
          · rw [if_neg c5] at H
            have c5b0 : (t176 == 0) = false := beq_eq_false_iff_ne.mpr c5
            have c5b1 : (t176 != 0) = true := bne_iff_ne.mpr c5
            simp only [Option.some.injEq, Prod.mk.injEq] at H
            obtain ⟨rfl, rfl⟩ := H
            have p175 : 0 ≤ (x4_1 : Int) := of_decide_eq_true (by first | (with_reducible assumption) | assumption)
            have q175 : x4_1 < (l0.length : Int) := of_decide_eq_true (by first | (with_reducible assumption) | assumption)
            obtain ⟨ad175, e175, hx175_0⟩ := Kd.at_string HR0.out x4_1 p175 q175
            cases e175
            replace hx175_0 := (HB.out.cell (World.block_lt_of_cell? w _ hx175_0)).trans hx175_0
            replace p175 := eq_true p175
            replace q175 := eq_true q175
            go_wp2_with (first | ((with_reducible refine gate_callee (f := 30) rfl ?_); refine goesL_ (some 17) rfl rfl Tryd.func30 (by kernel_rfl) rfl #[.string (rdOf ByteArray.empty l0 x4_1)] rfl (by (try simp only [List.map_toArray, List.map_cons, List.map_nil]); first | done | rfl | (simp only [List.length_drop, List.length_take]; rfl)) ?_; (with_reducible refine (aquiferref06_dir.calls k1 (rdOf ByteArray.empty l0 x4_1) t176 _ A4.out).mono ?_); rintro e w7 ⟨rfl, hb⟩; refine ⟨_, rfl, ?_⟩; have n0_ := Aside0.mk (below_step (belU HB.out) hb); clear HB; have HB := n0_; clear n0_; (try clear hb); (try clear hb2); (try clear hk); (try clear hi)))
            go_ret2
            exact ⟨_, by first | rfl | (simp [errW_none, errW_some] <;> rfl) | (simp [*, errW_none, errW_some] <;> rfl), by first | exact Kd.R_nil _ _ _ _ _ | exact Kd.N_nil _ _ _ _ _ | exact Kd.V_nil _ _ _ _ _ | exact Kd.Q_nil _ _ _ _ _ | exact Kd.S_nil _ _ _ _ _, belU HB.out⟩
        · rw [if_neg c3] at H
          exact absurd H (by simp)
      · rw [if_neg c2] at H
        have c2b0 : decide (x4_1 < (l0.length : Int)) = false := decide_eq_false c2
        clear c2
        replace H := Option.bind_eq_some_iff.mp H
        obtain ⟨t177, A80, H⟩ := H
        replace H : (if (t177.length : Int) > 16 then (some (([] : List ByteArray), 7)) else (some (t177, 0))) = some (r1, r2) := H
        have A8 := Aside0.mk A80
        clear A80
        by_cases c9 : (t177.length : Int) > 16
        · rw [if_pos c9] at H
          have c9b0 : decide (16 < (t177.length : Int)) = true := decide_eq_true c9
          have c9b1 : decide (16 < t177.length) = true := decide_eq_true (by omega)
          clear c9
          simp only [Option.some.injEq, Prod.mk.injEq] at H
          obtain ⟨rfl, rfl⟩ := H
          go_wp2_with (first | ((with_reducible refine gate_callee (f := 31) rfl ?_); refine goesL_ (some 22) rfl rfl Tryd.func31 (by kernel_rfl) rfl #[.slice A0 l0.length c0] rfl (by (try simp only [List.map_toArray, List.map_cons, List.map_nil]); first | done | rfl | (simp only [List.length_drop, List.length_take]; rfl)) ?_; (with_reducible refine (aquiferref06_reduce.calls k1 _ _ l0 t177 _ ?side1 ?side2 A8.out).mono ?_); (case side1 => exact CU (Kd.C_below HR0.out HB.out)); (case side2 => exact HC0.out); rintro e w10 ⟨v178, rfl, ho0, hb⟩; refine ⟨_, rfl, ?_⟩; have n0_ := Aside0.mk (Kd.R_lower ho0 (sizU HB.out)); have n1_ := Aside0.mk (below_step (belU HB.out) hb); clear HB; have HO179 := n0_; have HB := n1_; clear n0_ n1_; (try clear hb); (try clear hb2); (try clear hk); (try clear hi); (try clear ho0); obtain ⟨Ao11, co11, eo11⟩ := Kd.R_slice HO179.out; subst eo11))
          go_ret2
          exact ⟨_, by first | rfl | (simp [errW_none, errW_some] <;> rfl) | (simp [*, errW_none, errW_some] <;> rfl), by first | exact Kd.R_nil _ _ _ _ _ | exact Kd.N_nil _ _ _ _ _ | exact Kd.V_nil _ _ _ _ _ | exact Kd.Q_nil _ _ _ _ _ | exact Kd.S_nil _ _ _ _ _, belU HB.out⟩
        · rw [if_neg c9] at H
          have c9b0 : decide (16 < (t177.length : Int)) = false := decide_eq_false c9
          have c9b1 : decide (16 < t177.length) = false := decide_eq_false (by omega)
          clear c9
          simp only [Option.some.injEq, Prod.mk.injEq] at H
          obtain ⟨rfl, rfl⟩ := H
          go_wp2_with (first | ((with_reducible refine gate_callee (f := 31) rfl ?_); refine goesL_ (some 22) rfl rfl Tryd.func31 (by kernel_rfl) rfl #[.slice A0 l0.length c0] rfl (by (try simp only [List.map_toArray, List.map_cons, List.map_nil]); first | done | rfl | (simp only [List.length_drop, List.length_take]; rfl)) ?_; (with_reducible refine (aquiferref06_reduce.calls k1 _ _ l0 t177 _ ?side1 ?side2 A8.out).mono ?_); (case side1 => exact CU (Kd.C_below HR0.out HB.out)); (case side2 => exact HC0.out); rintro e w12 ⟨v178, rfl, ho0, hb⟩; refine ⟨_, rfl, ?_⟩; have n0_ := Aside0.mk (Kd.R_lower ho0 (sizU HB.out)); have n1_ := Aside0.mk (below_step (belU HB.out) hb); clear HB; have HO179 := n0_; have HB := n1_; clear n0_ n1_; (try clear hb); (try clear hb2); (try clear hk); (try clear hi); (try clear ho0); obtain ⟨Ao13, co13, eo13⟩ := Kd.R_slice HO179.out; subst eo13))
          go_ret2
          exact ⟨_, by first | rfl | (simp [errW_none, errW_some] <;> rfl) | (simp [*, errW_none, errW_some] <;> rfl), by (with_reducible repeat (first | apply Kd.R_alloc | apply Kd.R_drewN | apply Kd.R_drew)); exact HO179.out, belU HB.out⟩

end Go.Proofs.YtkflalaocnghcaaDoor.Q

namespace Go.Proofs.YtkflalaocnghcaaDoor.Q
open Go.RowKit Go.Proofs.YtkflalaocnghcaaDoorW.PrintWords Go.Proofs.YtkflalaocnghcaaDoorW.PrintLast Go.Proofs.YtkflalaocnghcaaDoorW.PrintMore Go.Proofs.YtkflalaocnghcaaDoorK
attribute [local go_sem] max2_int min2_int max_two min_two max_three min_three max_four min_four   -- for this text's walks alone
attribute [local go_sem ↓] Go.Proofs.YtkflalaocnghcaaDoorK.isSome_setCell
set_option linter.unusedVariables false
set_option linter.unusedSimpArgs false

/-! ### aquiferref06_May: function 14 -/
def aquiferref06_May.f (k : Nat) (l0 : List ByteArray) : Option (Bool) := (aquiferref06_Make.f k l0).bind fun bt188 => (if bt188.2 = 0 then ((aquiferref05_SameTexts.f k bt188.1 l0).bind fun t192 => (some t192)) else (some false))
theorem aquiferref06_May.mono : ∀ a0 k, LeO (aquiferref06_May.f k a0) (aquiferref06_May.f (k + 1) a0) := by
  intro a0 k
  unfold aquiferref06_May.f
  repeat' first
      | (with_reducible exact aquiferref05_SameTexts.mono _ _ _)
      | (with_reducible exact aquiferref06_Make.mono _ _)
      | (with_reducible exact LeO.refl _)
      | (with_reducible exact LeO.none _)
      | (with_reducible refine LeO.ite ?_ ?_)
      | (with_reducible refine LeO.bind ?_ (fun _ => ?_))
      | exact aquiferref05_SameTexts.mono _ _ _
      | exact aquiferref06_Make.mono _ _
      | exact LeO.none _
      | refine LeO.ite ?_ ?_
      | refine LeO.bind ?_ (fun _ => ?_)
set_option maxHeartbeats 8000000 in
set_option maxRecDepth 100000 in
theorem aquiferref06_May.calls (k : Nat) (A0 : Option Addr) (c0 : Nat) (l0 : List ByteArray) (r : Bool) (w : World) (hr0 : Kd.C Kd.string w A0 l0.length l0) (hc0 : l0.length ≤ c0) (h : aquiferref06_May.f k l0 = some r) :
    Calls Tryd.prog 14 #[.slice A0 l0.length c0] w fun e w' => e = .returned (.bool r) ∧ Below w.heap.size w w' := by
  have HR0 := Aside0.mk hr0
  have HC0 := Aside0.mk hc0
  clear hr0 hc0
  have HB := Aside0.mk (Below.refl w.heap.size w)
  have H : ((aquiferref06_Make.f k l0).bind fun bt188 => (if bt188.2 = 0 then ((aquiferref05_SameTexts.f k bt188.1 l0).bind fun t192 => (some t192)) else (some false))) = some r := h
  clear h
  replace H := Option.bind_eq_some_iff.mp H
  obtain ⟨⟨t188, t189⟩, A20, H⟩ := H
  replace H : (if t189 = 0 then ((aquiferref05_SameTexts.f k t188 l0).bind fun t192 => (some t192)) else (some false)) = some r := H
  have A2 := Aside0.mk A20
  clear A20
  by_cases c3 : t189 = 0
  · rw [if_pos c3] at H
    have c3b0 : (t189 == 0) = true := beq_iff_eq.mpr c3
    have c3b1 : (t189 != 0) = false := bne_eq_false_iff_eq.mpr c3
    clear c3
    replace H := Option.bind_eq_some_iff.mp H
    obtain ⟨t192, A40, H⟩ := H
    replace H : (some t192) = some r := H
    have A4 := Aside0.mk A40
    clear A40
    obtain rfl := Option.some.inj H
    go_enter Tryd.func14, Tryd.ntmps14
    go_wp2_with (first | ((with_reducible refine gate_callee (f := 11) rfl ?_); refine goesL_ (some 7) rfl rfl Tryd.func11 (by kernel_rfl) rfl #[.slice A0 l0.length c0] rfl (by (try simp only [List.map_toArray, List.map_cons, List.map_nil]); first | done | rfl | (simp only [List.length_drop, List.length_take]; rfl)) ?_; (with_reducible refine (aquiferref06_Make.calls k _ _ l0 t188 t189 _ ?side1 ?side2 A2.out).mono ?_); (case side1 => exact CU HR0.out); (case side2 => exact HC0.out); rintro e w5 ⟨v190, rfl, ho0, hb⟩; refine ⟨_, rfl, ?_⟩; have n0_ := Aside0.mk (Kd.R_lower ho0 (sizU HB.out)); have n1_ := Aside0.mk (below_step (belU HB.out) hb); clear HB; have HO191 := n0_; have HB := n1_; clear n0_ n1_; (try clear hb); (try clear hb2); (try clear hk); (try clear hi); (try clear ho0); obtain ⟨Ao6, co6, eo6⟩ := Kd.R_slice HO191.out; subst eo6) | (go_at_call 12; (with_reducible refine (aquiferref05_SameTexts.calls k _ _ t188 _ _ l0 t192 _ ?side1 ?side2 ?side3 ?side4 A4.out).mono ?_); (case side1 => exact CU (Kd.R_reads' HO191.out).2.2); (case side2 => exact (Kd.R_reads' HO191.out).2.1); (case side3 => exact CU (Kd.C_below HR0.out HB.out)); (case side4 => exact HC0.out); rintro e w' ⟨rfl, ⟨nd, rfl⟩⟩))
    go_ret
    exact ⟨by first | rfl | (simp [errW_none, errW_some] <;> rfl) | (simp [*, errW_none, errW_some] <;> rfl), belU HB.out⟩
  · rw [if_neg c3] at H
    have c3b0 : (t189 == 0) = false := beq_eq_false_iff_ne.mpr c3
    have c3b1 : (t189 != 0) = true := bne_iff_ne.mpr c3
    obtain rfl := Option.some.inj H
    go_enter Tryd.func14, Tryd.ntmps14
    go_wp2_with (first | ((with_reducible refine gate_callee (f := 11) rfl ?_); refine goesL_ (some 7) rfl rfl Tryd.func11 (by kernel_rfl) rfl #[.slice A0 l0.length c0] rfl (by (try simp only [List.map_toArray, List.map_cons, List.map_nil]); first | done | rfl | (simp only [List.length_drop, List.length_take]; rfl)) ?_; (with_reducible refine (aquiferref06_Make.calls k _ _ l0 t188 t189 _ ?side1 ?side2 A2.out).mono ?_); (case side1 => exact CU HR0.out); (case side2 => exact HC0.out); rintro e w7 ⟨v190, rfl, ho0, hb⟩; refine ⟨_, rfl, ?_⟩; have n0_ := Aside0.mk (Kd.R_lower ho0 (sizU HB.out)); have n1_ := Aside0.mk (below_step (belU HB.out) hb); clear HB; have HO191 := n0_; have HB := n1_; clear n0_ n1_; (try clear hb); (try clear hb2); (try clear hk); (try clear hi); (try clear ho0)))
    go_ret
    exact ⟨by first | rfl | (simp [errW_none, errW_some] <;> rfl) | (simp [*, errW_none, errW_some] <;> rfl), belU HB.out⟩

end Go.Proofs.YtkflalaocnghcaaDoor.Q

namespace Go.Proofs.YtkflalaocnghcaaDoor.Q
open Go Go.Proofs Go.Shelf Go.RowKit Go.Lib Go.Sort Go.Proofs.YtkflalaocnghcaaDoorP Go.Proofs.YtkflalaocnghcaaDoorK Go.Proofs.YtkflalaocnghcaaDoorW.PrintWords Go.Proofs.YtkflalaocnghcaaDoorW.PrintLast Go.Proofs.YtkflalaocnghcaaDoorW.PrintMore
set_option linter.unusedSimpArgs false
set_option linter.unusedVariables false
/-! ### Directories of which none lies in another one -/
theorem lex_between {α : Type} {f : α → α → Int} (g : Go.Proofs.YtkflalaocnghcaaDoorP.Good f) : ∀ a b c : List α, a <+: c → ¬ 0 < lexC f a b → ¬ 0 < lexC f b c → a <+: b := by
  intro a
  induction a with
  | nil => intro b c _ _ _; exact List.nil_prefix
  | cons x a ih =>
    intro b c h h1 h2
    cases c with
    | nil => simp at h
    | cons z c =>
      obtain ⟨rfl, hac⟩ := List.cons_prefix_cons.1 h
      cases b with
      | nil => exact absurd (show 0 < lexC f (x :: a) [] by simp [lexC]) h1
      | cons y b =>
        simp only [lexC] at h1 h2
        by_cases e : f x y = 0
        · have ex := g.eq _ _ e
          subst ex
          rw [if_pos e] at h1
          rw [if_pos e] at h2
          exact List.cons_prefix_cons.2 ⟨rfl, ih b c hac h1 h2⟩
        · rw [if_neg e] at h1
          have hlt := g.lt x y
          have hlt2 := g.lt y x
          by_cases e2 : f y x = 0
          · have := g.eq _ _ e2
            subst this
            exact absurd (g.refl y) e
          · rw [if_neg e2] at h2
            omega
theorem lex_prefix {α : Type} {f : α → α → Int} (g : Go.Proofs.YtkflalaocnghcaaDoorP.Good f) : ∀ a c : List α, a <+: c → ¬ 0 < lexC f a c := by
  intro a
  induction a with
  | nil => intro c _; cases c <;> simp [lexC]
  | cons x a ih =>
    intro c h
    cases c with
    | nil => simp at h
    | cons z c =>
      obtain ⟨rfl, hac⟩ := List.cons_prefix_cons.1 h
      simp only [lexC]
      rw [if_pos (g.refl x)]
      exact ih c hac
theorem names_first {p : ByteArray} (h : isP p = true) (h0 : p.size ≠ 0) : ∃ c l ns, names p.data.toList = (c :: l) :: ns := by
  rcases (isP_open h).2 with ⟨e, _⟩ | ⟨_, _, hk⟩
  · exact absurd e h0
  · obtain ⟨_, hne, _⟩ := kindsL_some _ _ _ (names_ne _) hk
    cases hn : names p.data.toList with
    | nil => exact absurd hn (names_ne _)
    | cons n ns =>
      cases n with
      | nil => exact absurd rfl (hne [] (by rw [hn]; exact List.mem_cons_self))
      | cons c l => exact ⟨c, l, ns, rfl⟩
theorem names_root {p : ByteArray} (h0 : p.size = 0) : names p.data.toList = [[]] := by
  have e : p.data.toList = [] := List.eq_nil_of_length_eq_zero (by rw [dlen]; exact h0)
  rw [e]
  rfl
theorem pcmp_parts {x y : ByteArray} (hx : isP x = true) (hy : isP y = true) : pcmp x y = cmpN (parts x) (parts y) := by
  unfold pcmp parts
  by_cases h1 : x.size = 0
  · rw [if_pos h1, names_root h1]
    by_cases h2 : y.size = 0
    · rw [if_pos h2, names_root h2]; rfl
    · rw [if_neg h2]
      obtain ⟨c, l, ns, e⟩ := names_first hy h2
      rw [e]
      rfl
  · rw [if_neg h1]
    by_cases h2 : y.size = 0
    · rw [if_pos h2, names_root h2]
      obtain ⟨c, l, ns, e⟩ := names_first hx h1
      rw [e]
      rfl
    · rw [if_neg h2]
theorem leP_iff (x y : ByteArray) : leP x y ↔ ¬ 0 < pcmp x y := by
  unfold leP
  rw [good_path.lt]
theorem within_between {d y p : ByteArray} (hd : isD d) (hy : isP y = true) (hp : isP p = true) (h : withinS d p = true) (h1 : leP d y) (h2 : leP y p) : withinS d y = true := by
  rw [within_parts hd hp] at h
  rw [within_parts hd hy]
  rw [leP_iff, pcmp_parts hd.1 hy] at h1
  rw [leP_iff, pcmp_parts hy hp] at h2
  exact lex_between good_bytes _ _ _ h h1 h2
theorem within_le {d p : ByteArray} (hd : isD d) (hp : isP p = true) (h : withinS d p = true) : leP d p := by
  rw [within_parts hd hp] at h
  rw [leP_iff, pcmp_parts hd.1 hp]
  exact lex_prefix good_bytes _ _ h
theorem within_refl (d : ByteArray) : withinS d d = true := (within_iff d d).2 (.inl rfl)
theorem within_trans {a b c : ByteArray} (ha : isD a) (hb : isD b) (hc : isP c = true) (h1 : withinS a b = true) (h2 : withinS b c = true) : withinS a c = true := by
  rw [within_parts ha hb.1] at h1
  rw [within_parts hb hc] at h2
  rw [within_parts ha hc]
  exact h1.trans h2
theorem within_anti {a b : ByteArray} (ha : isD a) (hb : isD b) (h1 : withinS a b = true) (h2 : withinS b a = true) : a = b :=
  leP_anti (within_le ha hb.1 h1) (within_le hb ha.1 h2)
def cov (out : List ByteArray) (x : ByteArray) : Bool := out.any fun d => withinS d x
theorem cov_iff (out : List ByteArray) (x : ByteArray) : cov out x = true ↔ ∃ y ∈ out, withinS y x = true := List.any_eq_true
theorem cov_app (out : List ByteArray) (y x : ByteArray) : cov (out ++ [y]) x = (cov out x || withinS y x) := by
  unfold cov
  rw [List.any_append]
  simp
/-- One by one: what lies in none that is kept is kept. -/
def redC : List ByteArray → List ByteArray → List ByteArray
  | out, [] => out
  | out, x :: t => if cov out x = true then redC out t else redC (out ++ [x]) t
def Chain (m : List ByteArray) : Prop := m.Pairwise fun y q => leP y q ∧ ¬ withinS y q = true
structure Inv (pre out t : List ByteArray) : Prop where
  dirs : ∀ x ∈ pre ++ t, isD x
  sorted : (pre ++ t).Pairwise leP
  sub : ∀ y ∈ out, y ∈ pre
  covs : ∀ x ∈ pre, cov out x = true
  chain : Chain out
theorem Inv.skip {pre out t : List ByteArray} {x : ByteArray} (h : Inv pre out (x :: t)) (hc : cov out x = true) : Inv (pre ++ [x]) out t := by
  refine ⟨fun y hy => h.dirs y (by simpa using hy), by simpa using h.sorted, fun y hy => List.mem_append_left _ (h.sub y hy), fun y hy => ?_, h.chain⟩
  rcases List.mem_append.1 hy with hy | hy
  · exact h.covs y hy
  · rw [List.mem_singleton.1 hy]; exact hc
theorem Inv.le {pre out t : List ByteArray} {x : ByteArray} (h : Inv pre out (x :: t)) (y : ByteArray) (hy : y ∈ pre) : leP y x :=
  (List.pairwise_append.1 h.sorted).2.2 y hy x List.mem_cons_self
theorem Inv.add {pre out t : List ByteArray} {x : ByteArray} (h : Inv pre out (x :: t)) (hc : ¬ cov out x = true) : Inv (pre ++ [x]) (out ++ [x]) t := by
  refine ⟨fun y hy => h.dirs y (by simpa using hy), by simpa using h.sorted, fun y hy => ?_, fun y hy => ?_, ?_⟩
  · rcases List.mem_append.1 hy with hy | hy
    · exact List.mem_append_left _ (h.sub y hy)
    · exact List.mem_append_right _ hy
  · rw [cov_app]
    rcases List.mem_append.1 hy with hy | hy
    · rw [h.covs y hy]; rfl
    · rw [List.mem_singleton.1 hy, within_refl]; simp
  · refine List.pairwise_append.2 ⟨h.chain, List.pairwise_singleton _ _, fun y hy q hq => ?_⟩
    rw [List.mem_singleton.1 hq]
    exact ⟨h.le y (h.sub y hy), fun hw => hc ((cov_iff out x).2 ⟨y, hy, hw⟩)⟩
theorem Inv.addP {pre out t : List ByteArray} {x : ByteArray} (h : Inv pre out (x :: t)) : addP out x = if cov out x = true then out else out ++ [x] := by
  have hx : isD x := h.dirs x (by simp)
  rcases List.eq_nil_or_concat out with h0 | ⟨o, q, h0⟩
  · subst h0
    rfl
  · have hl : out.getLast? = some q := by rw [h0]; simp
    unfold Q.addP
    rw [hl]
    dsimp only
    by_cases hw : withinS q x = true
    · rw [if_pos hw, if_pos ((cov_iff out x).2 ⟨q, by rw [h0]; simp, hw⟩)]
    · rw [if_neg hw, if_neg]
      intro hc
      obtain ⟨y, hy, hyx⟩ := (cov_iff out x).1 hc
      have hq : q ∈ out := by rw [h0]; simp
      have hyo : y ∈ o ∨ y = q := by rw [h0] at hy; simpa using hy
      rcases hyo with hyo | e
      · have hch := h.chain
        unfold Chain at hch
        rw [h0, List.concat_eq_append] at hch
        have := (List.pairwise_append.1 hch).2.2 y hyo q (by simp)
        have dy : isD y := h.dirs y (List.mem_append_left _ (h.sub y hy))
        have dq : isD q := h.dirs q (List.mem_append_left _ (h.sub q hq))
        exact this.2 (within_between dy dq.1 hx.1 hyx this.1 (h.le q (h.sub q hq)))
      · exact hw (by rw [← e]; exact hyx)
theorem redA_redC (t : List ByteArray) : ∀ pre out, Inv pre out t → redA out t = redC out t := by
  induction t with
  | nil => intro pre out h; rfl
  | cons x t ih =>
    intro pre out h
    rw [redA, redC, h.addP]
    by_cases hc : cov out x = true
    · rw [if_pos hc, if_pos hc]; exact ih _ _ (h.skip hc)
    · rw [if_neg hc, if_neg hc]; exact ih _ _ (h.add hc)
def Dirs (l : List ByteArray) : Prop := ∀ x ∈ l, isD x
theorem inv_start {l : List ByteArray} (h : Dirs l) : Inv [] [] (sortP l) :=
  ⟨fun x hx => h x ((sortP_perm l).mem_iff.1 hx), sortP_sorted l, fun y hy => by simp at hy, fun x hx => by simp at hx, List.Pairwise.nil⟩
theorem reduce_redC {l : List ByteArray} (h : Dirs l) : reduceS l = redC [] (sortP l) := redA_redC _ _ _ (inv_start h)
theorem redC_inv (t : List ByteArray) : ∀ pre out, Inv pre out t → Inv (pre ++ t) (redC out t) [] := by
  induction t with
  | nil => intro pre out h; simpa [redC] using h
  | cons x t ih =>
    intro pre out h
    rw [redC]
    by_cases hc : cov out x = true
    · rw [if_pos hc]; have := ih _ _ (h.skip hc); simpa using this
    · rw [if_neg hc]; have := ih _ _ (h.add hc); simpa using this
/-- What a scope is made of. -/
theorem reduce_spec {l : List ByteArray} (h : Dirs l) : (∀ y ∈ reduceS l, y ∈ l) ∧ (∀ x ∈ l, cov (reduceS l) x = true) ∧ Chain (reduceS l) := by
  have hi := redC_inv _ _ _ (inv_start h)
  rw [← reduce_redC h, List.nil_append] at hi
  exact ⟨fun y hy => (sortP_perm l).mem_iff.1 (hi.sub y hy), fun x hx => hi.covs x ((sortP_perm l).mem_iff.2 hx), hi.chain⟩
theorem chain_one {m : List ByteArray} (hd : Dirs m) (h : Chain m) : ∀ y ∈ m, ∀ q ∈ m, withinS y q = true → y = q := by
  have hp : m.Pairwise fun y q => ¬ withinS y q = true ∧ ¬ withinS q y = true := by
    induction m with
    | nil => exact List.Pairwise.nil
    | cons a m ih =>
      unfold Chain at h
      rw [List.pairwise_cons] at h ⊢
      refine ⟨fun q hq => ⟨(h.1 q hq).2, fun hw => ?_⟩, ih (fun x hx => hd x (List.mem_cons_of_mem _ hx)) h.2⟩
      have dq := hd q (List.mem_cons_of_mem _ hq)
      have da := hd a List.mem_cons_self
      have := leP_anti (within_le dq da.1 hw) (h.1 q hq).1
      exact (h.1 q hq).2 (by rw [this]; exact within_refl _)
  intro y hy q hq hw
  by_cases e : y = q
  · exact e
  · exact absurd hw (List.Pairwise.forall_of_forall_of_flip (R := fun y q => y ≠ q → ¬ withinS y q = true) (fun x _ hx => absurd rfl hx) (hp.imp fun h _ => h.1) (hp.imp fun h _ => h.2) hy hq e)
theorem chain_nodup {m : List ByteArray} (h : Chain m) : m.Nodup := h.imp fun h e => h.2 (by rw [e]; exact within_refl _)
theorem chain_sorted {m : List ByteArray} (h : Chain m) : m.Pairwise leP := h.imp fun h => h.1
theorem chain_ext {m n : List ByteArray} (hm : Chain m) (hn : Chain n) (h : ∀ x, x ∈ m ↔ x ∈ n) : m = n :=
  perm_sorted leP (fun a b h1 h2 => leP_anti h1 h2) m n ((List.perm_ext_iff_of_nodup (chain_nodup hm) (chain_nodup hn)).2 h) (chain_sorted hm) (chain_sorted hn) (fun a _ => leP_refl a)
/-- There is one such list. -/
theorem reduce_one {l m : List ByteArray} (hl : Dirs l) (hm : Chain m) (h1 : ∀ y ∈ m, y ∈ l) (h2 : ∀ x ∈ l, cov m x = true) : reduceS l = m := by
  obtain ⟨s1, s2, s3⟩ := reduce_spec hl
  have dm : Dirs m := fun x hx => hl x (h1 x hx)
  have dr : Dirs (reduceS l) := fun x hx => hl x (s1 x hx)
  refine chain_ext s3 hm (fun x => ⟨fun hx => ?_, fun hx => ?_⟩)
  · obtain ⟨y, hy, hyx⟩ := (cov_iff _ _).1 (h2 x (s1 x hx))
    obtain ⟨z, hz, hzy⟩ := (cov_iff _ _).1 (s2 y (h1 y hy))
    have hzx := chain_one dr s3 z hz x hx (within_trans (dr z hz) (dm y hy) (dr x hx).1 hzy hyx)
    subst hzx
    rw [within_anti (dr z hx) (dm y hy) hzy hyx]
    exact hy
  · obtain ⟨y, hy, hyx⟩ := (cov_iff _ _).1 (s2 x (h1 x hx))
    obtain ⟨z, hz, hzy⟩ := (cov_iff _ _).1 (h2 y (s1 y hy))
    have hzx := chain_one dm hm z hz x hx (within_trans (dm z hz) (dr y hy) (dm x hx).1 hzy hyx)
    subst hzx
    rw [within_anti (dm z hx) (dr y hy) hzy hyx]
    exact hy
theorem reduce_set {l m : List ByteArray} (hl : Dirs l) (h : ∀ x, x ∈ l ↔ x ∈ m) : reduceS l = reduceS m := by
  have hm : Dirs m := fun x hx => hl x ((h x).2 hx)
  obtain ⟨s1, s2, s3⟩ := reduce_spec hm
  exact reduce_one hl s3 (fun y hy => (h y).2 (s1 y hy)) (fun x hx => s2 x ((h x).1 hx))
theorem dir_iff (p : ByteArray) : dirS p = 0 ↔ isD p := by
  unfold dirS isD
  constructor
  · intro h
    by_cases hc : (kindS p).2 = 0 ∧ (kindS p).1 = 2
    · rw [if_pos hc] at h; exact absurd h (by decide)
    · rw [if_neg hc] at h
      have hp : isP p = true := by unfold isP; rw [h]; rfl
      exact ⟨hp, (isP_kind hp).resolve_right (fun h2 => hc ⟨h, h2⟩)⟩
  · rintro ⟨hp, h1⟩
    have h2 : (kindS p).2 = 0 := by unfold isP at hp; exact beq_iff_eq.1 hp
    rw [if_neg (fun hc => by rw [h1] at hc; exact absurd hc.2 (by decide)), h2]
theorem find_dirs (l : List ByteArray) : l.find? (fun p => dirS p != 0) = none ↔ Dirs l := by
  rw [List.find?_eq_none]
  constructor
  · intro h x hx
    have := h x hx
    exact (dir_iff x).1 (by simpa using this)
  · intro h x hx
    have := (dir_iff x).2 (h x hx)
    simp [this]
/-! ### The document's reduce -/
def bestU (out : List ByteArray) : Option ByteArray → List ByteArray → Option ByteArray
  | b, [] => b
  | b, x :: l => if cov out x = true then bestU out b l else match b with
    | none => bestU out (some x) l
    | some m => if pcmp x m < 0 then bestU out (some x) l else bestU out (some m) l
theorem bestU_cons (out : List ByteArray) (b : Option ByteArray) (x : ByteArray) (l : List ByteArray) : bestU out b (x :: l) = if cov out x = true then bestU out b l else match b with | none => bestU out (some x) l | some m => if pcmp x m < 0 then bestU out (some x) l else bestU out (some m) l := by cases b <;> rfl
theorem hasS_cov {out : List ByteArray} {x : ByteArray} (h : isP x = true) : hasS out x = cov out x := by unfold hasS cov; rw [h]; rfl
theorem best_loop (l out : List ByteArray) (hl : shortP l = true) (ho : shortP out = true) (hd : Dirs l) (ho2 : out.length < 100000) (d : Nat) : ∀ (i k : Nat) (b : Option ByteArray), i + d = l.length → 1000 + out.length < k → (∀ m, b = some m → isP m = true) →
    aquiferref06_reduce.l1 (k + d + 1) l out b.isSome (b.getD ⟨#[]⟩) (i : Int) = match bestU out b (l.drop i) with
      | none => some out
      | some m => aquiferref06_reduce.l0 k l (out ++ [m]) := by
  obtain ⟨hll, hm⟩ := shortP_mem hl
  induction d with
  | zero =>
    intro i k b h hk hb
    unfold aquiferref06_reduce.l1
    rw [if_neg (by omega), List.drop_of_length_le (by omega)]
    cases b with
    | none => rfl
    | some m =>
      simp only [bestU, Option.isSome_some, Option.getD_some, if_true]
      rw [if_pos (by omega)]
  | succ d ih =>
    intro i k b h hk hb
    have hi : i < l.length := by omega
    have hx := hd _ (List.getElem_mem hi)
    have hxs := (isP_open hx.1).1
    rw [show k + (d + 1) + 1 = (k + d + 1) + 1 by omega]
    unfold aquiferref06_reduce.l1
    rw [if_pos (by omega), if_pos (by omega), rdB l i hi, refhas out _ ho (by omega) _ (by omega), Option.bind_some, wr1 i (by omega), List.drop_eq_getElem_cons hi, hasS_cov hx.1]
    rw [bestU_cons]
    by_cases hc : cov out l[i] = true
    · rw [if_pos hc, if_pos hc]
      exact ih (i + 1) k b (by omega) hk hb
    · rw [if_neg hc, if_neg hc]
      have i1 := ih (i + 1) k (some l[i]) (by omega) hk (fun m hm => by cases hm; exact hx.1)
      cases b with
      | none =>
        simp only [Option.isSome_none]
        rw [if_neg (by decide)]
        exact i1
      | some m =>
        have hms := (isP_open (hb m rfl)).1
        simp only [Option.isSome_some, Option.getD_some, if_true]
        rw [refcompare _ m (by omega) (by omega) _ (by omega) (by omega), Option.bind_some]
        by_cases hlt : pcmp l[i] m < 0
        · rw [if_pos hlt, if_pos hlt]
          exact i1
        · rw [if_neg hlt, if_neg hlt]
          exact ih (i + 1) k (some m) (by omega) hk hb
theorem bestU_spec (out : List ByteArray) (l : List ByteArray) : ∀ b, (∀ m, b = some m → ¬ cov out m = true) → match bestU out b l with
    | none => b = none ∧ ∀ x ∈ l, cov out x = true
    | some m => ¬ cov out m = true ∧ (m ∈ l ∨ b = some m) ∧ (∀ x ∈ l, ¬ cov out x = true → leP m x) ∧ (∀ y, b = some y → leP m y) := by
  induction l with
  | nil =>
    intro b hb
    cases b with
    | none => exact ⟨rfl, fun x hx => by simp at hx⟩
    | some m => exact ⟨hb m rfl, .inr rfl, fun x hx => by simp at hx, fun y hy => by cases hy; exact leP_refl _⟩
  | cons x l ih =>
    intro b hb
    rw [bestU_cons]
    by_cases hc : cov out x = true
    · rw [if_pos hc]
      have := ih b hb
      cases hbu : bestU out b l with
      | none =>
        rw [hbu] at this
        exact ⟨this.1, fun y hy => (List.mem_cons.1 hy).elim (fun e => by rw [e]; exact hc) (this.2 y)⟩
      | some m =>
        rw [hbu] at this
        exact ⟨this.1, this.2.1.imp_left (List.mem_cons_of_mem _), fun y hy hn => (List.mem_cons.1 hy).elim (fun e => absurd (by rw [e]; exact hc) hn) (fun h => this.2.2.1 y h hn), this.2.2.2⟩
    · rw [if_neg hc]
      have hx1 := ih (some x) (fun m hm => by cases hm; exact hc)
      have hfin : ∀ b', (∀ y, b' = some y → leP x y) → match bestU out (some x) l with
          | none => b' = none ∧ ∀ x_1 ∈ x :: l, cov out x_1 = true
          | some m => ¬ cov out m = true ∧ (m ∈ x :: l ∨ b' = some m) ∧ (∀ x_1 ∈ x :: l, ¬ cov out x_1 = true → leP m x_1) ∧ (∀ y, b' = some y → leP m y) := by
        intro b' hb'
        cases hbu : bestU out (some x) l with
        | none => rw [hbu] at hx1; exact absurd hx1.1 (by simp)
        | some m =>
          rw [hbu] at hx1
          have hmx := hx1.2.2.2 x rfl
          refine ⟨hx1.1, .inl (hx1.2.1.elim (List.mem_cons_of_mem _) (fun e => by cases e; exact List.mem_cons_self)), fun y hy hn => (List.mem_cons.1 hy).elim (fun e => by rw [e]; exact hmx) (fun h => hx1.2.2.1 y h hn), fun y hy => leP_trans hmx (hb' y hy)⟩
      cases b with
      | none => exact hfin none (fun y hy => by cases hy)
      | some z =>
        dsimp only
        by_cases hlt : pcmp x z < 0
        · rw [if_pos hlt]
          exact hfin (some z) (fun y hy => by
            cases hy
            unfold leP
            have := good_path.lt x z
            have h2 := good_path.lt z x
            omega)
        · rw [if_neg hlt]
          have := ih (some z) hb
          cases hbu : bestU out (some z) l with
          | none => rw [hbu] at this; exact absurd this.1 (by simp)
          | some m =>
            rw [hbu] at this
            have hmz := this.2.2.2 z rfl
            exact ⟨this.1, this.2.1.imp_left (List.mem_cons_of_mem _), fun y hy hn => (List.mem_cons.1 hy).elim (fun e => by rw [e]; exact leP_trans hmz hlt) (fun h => this.2.2.1 y h hn), this.2.2.2⟩
theorem red_loop (l : List ByteArray) (hl : shortP l = true) (hd : Dirs l) (hln : l.length ≤ 2000) (t : List ByteArray) : ∀ (pre out : List ByteArray) (k : Nat), Inv pre out t → (∀ x, x ∈ l ↔ x ∈ pre ++ t) → out.length + t.length ≤ 2000 → shortP out = true → (l.length + 3) * (t.length + 1) + 5000 ≤ k → aquiferref06_reduce.l0 k l out = some (redC out t) := by
  induction t with
  | nil =>
    intro pre out k hi hmem hlen ho hk
    obtain ⟨k, rfl⟩ : ∃ q, k = q + l.length + 1 + 1 := ⟨k - l.length - 2, by simp at hk; omega⟩
    unfold aquiferref06_reduce.l0
    have hb := best_loop l out hl ho hd (by omega) l.length 0 k none (by omega) (by simp at hk hlen; omega) (fun m hm => by cases hm)
    have hs := bestU_spec out l none (fun m hm => by cases hm)
    simp only [Option.isSome_none, Option.getD_none, Int.natCast_zero, List.drop_zero] at hb
    rw [hb]
    cases hbu : bestU out none l with
    | none => rfl
    | some m =>
      rw [hbu] at hs
      have hm : m ∈ l := hs.2.1.resolve_right (by simp)
      exact absurd (hi.covs m (by simpa using (hmem m).1 hm)) hs.1
  | cons x t ih =>
    intro pre out k hi hmem hlen ho hk
    rw [redC]
    by_cases hc : cov out x = true
    · rw [if_pos hc]
      exact ih (pre ++ [x]) out k (hi.skip hc) (fun y => by rw [hmem y]; simp) (by simp at hlen ⊢; omega) ho (by rw [List.length_cons, Nat.mul_succ] at hk; omega)
    · rw [if_neg hc]
      rw [List.length_cons, Nat.mul_succ] at hk
      obtain ⟨k, rfl⟩ : ∃ q, k = q + l.length + 1 + 1 := ⟨k - l.length - 2, by omega⟩
      unfold aquiferref06_reduce.l0
      have hb := best_loop l out hl ho hd (by omega) l.length 0 k none (by omega) (by simp at hlen; omega) (fun m hm => by cases hm)
      have hs := bestU_spec out l none (fun m hm => by cases hm)
      simp only [Option.isSome_none, Option.getD_none, Int.natCast_zero, List.drop_zero] at hb
      rw [hb]
      have hxl : x ∈ l := (hmem x).2 (by simp)
      cases hbu : bestU out none l with
      | none => rw [hbu] at hs; exact absurd (hs.2 x hxl) hc
      | some m =>
        rw [hbu] at hs
        have hml : m ∈ l := hs.2.1.resolve_right (by simp)
        have hmt : m ∈ x :: t := by
          rcases List.mem_append.1 ((hmem m).1 hml) with h | h
          · exact absurd (hi.covs m h) hs.1
          · exact h
        have hxm : leP x m := by
          rcases List.mem_cons.1 hmt with e | h
          · rw [e]; exact leP_refl _
          · exact (List.pairwise_cons.1 (List.pairwise_append.1 hi.sorted).2.1).1 m h
        have : m = x := leP_anti (hs.2.2.1 x hxl hc) hxm
        subst this
        dsimp only
        refine ih (pre ++ [m]) (out ++ [m]) k (hi.add hc) (fun y => by rw [hmem y]; simp) (by simp at hlen ⊢; omega) (shortP_app ho (shortP_mk (by simp) (fun p hp => by rw [List.mem_singleton.1 hp]; exact (shortP_mem hl).2 m hxl)) (by simp at hlen ⊢; omega)) (by omega)
theorem refreduce {l : List ByteArray} (hl : shortP l = true) (hd : Dirs l) (hln : l.length ≤ 2000) (k : Nat) (hk : (l.length + 3) * (l.length + 1) + 5000 ≤ k) : aquiferref06_reduce.f k l = some (reduceS l) := by
  unfold aquiferref06_reduce.f
  rw [reduce_redC hd]
  exact red_loop l hl hd hln (sortP l) [] [] k (inv_start hd) (fun x => by rw [List.nil_append]; exact (sortP_perm l).mem_iff.symm) (by rw [(sortP_perm l).length_eq]; simp; omega) rfl (by rw [(sortP_perm l).length_eq]; exact hk)
end Go.Proofs.YtkflalaocnghcaaDoor.Q

namespace Go.Proofs.YtkflalaocnghcaaDoor.Q
open Go Go.Proofs Go.Shelf Go.RowKit Go.Lib Go.Sort Go.Proofs.YtkflalaocnghcaaDoorP Go.Proofs.YtkflalaocnghcaaDoorK Go.Proofs.YtkflalaocnghcaaDoorW.PrintWords Go.Proofs.YtkflalaocnghcaaDoorW.PrintLast Go.Proofs.YtkflalaocnghcaaDoorW.PrintMore
set_option linter.unusedSimpArgs false
set_option linter.unusedVariables false
/-! ### slices.Concat at texts; scope.Union -/
set_option maxRecDepth 100000 in
theorem grow_nil (w : World) (n : Nat) (hn : n ≤ 3145728) :
    Calls Tryd.prog 54 #[.slice none 0 0, .int .i64 (n : Int)] w fun e w' => ∃ v : Value, e = .returned v ∧ Kd.R Kd.string 9 w' w.heap.size (fun _ => True) v [] ∧ Below w.heap.size w w' := by
  have HB0 := Aside0.mk (Below.refl w.heap.size w)
  by_cases h0 : n = 0
  · subst h0
    go_enter Tryd.func54, Tryd.ntmps54
    go_wp2_with fail
    go_ret
    exact ⟨_, rfl, Kd.R_nil _ _ _ _ _, HB0.out⟩
  · go_enter Tryd.func54, Tryd.ntmps54
    go_wp2_with ((with_reducible refine gate_builtin (b := .append) (xs := #[.tmp 20, .tmp 21]) rfl ?_); go_loud (at_builtin; refine Kd.R_append_zeros Kd.string (w0 := w) w.heap.size rfl (.tmp 20) (.tmp 21) 22 3 9 (.string ⟨#[]⟩) 16 rfl Tryd.underlying22 Tryd.underlying3 info9 rfl (by decide) (by decide) (.slice none 0 0) [] (⟨#[]⟩ : ByteArray) (kx := .i64) (n : Int) (fun _ => True) rfl rfl ?hz (fun _ _ => trivial) (Kd.R_nil _ _ _ _ _) (by omega) HB0.out (Nat.le_refl _) (by simp; omega) ?_; (case hz => rfl); intro v1 w1 h1 hb1 hg1 hat1; obtain ⟨ad, c, rfl⟩ := Kd.R_slice1 h1 (by simp; omega); have H1 := Aside0.mk h1; have HB1 := Aside0.mk hb1; clear h1 hb1 hg1 hat1))
    go_ret
    exact ⟨_, rfl, by have := Kd.R_take H1.out (Nat.zero_le _); simpa using this, HB1.out⟩
theorem flat_take (ls : List (List ByteArray)) (k : Nat) (h : k < ls.length) : (ls.take (k + 1)).flatten = (ls.take k).flatten ++ ls[k] := by
  rw [List.take_succ_eq_append_getElem h, List.flatten_append]
  simp
theorem flat_le (ls : List (List ByteArray)) (k : Nat) : (ls.take k).flatten.length ≤ ls.flatten.length := by
  conv => rhs; rw [← List.take_append_drop k ls, List.flatten_append, List.length_append]
  omega
set_option maxRecDepth 100000 in
theorem concat_any (w : World) (b c : Nat) (ls : List (List ByteArray)) (hl : ls.flatten.length ≤ 3145728) (hll : ls.length ≤ 1048576)
    (hc : ∀ j (h : j < ls.length), ∃ A' c', w.cell? ⟨b, j, none⟩ = some (.slice A' ls[j].length c') ∧ Kd.C Kd.string w A' ls[j].length ls[j]) :
    Calls Tryd.prog 39 #[.slice (some ⟨b, 0, none⟩) ls.length c] w fun e w' => ∃ v : Value, e = .returned v ∧ Kd.R Kd.string 9 w' w.heap.size (fun _ => True) v ls.flatten ∧ Below w.heap.size w w' := by
  have HC := Aside0.mk hc
  clear hc
  have HB0 := Aside0.mk (Below.refl w.heap.size w)
  have hG := fun W n hn => grow_nil W n hn
  have HG := Aside0.mk hG
  clear hG
  go_enter Tryd.func39, Tryd.ntmps39
  go_wp2_with fail
  go_loopw [3, 11] (fun s i wr => ∃ j : Nat, j ≤ ls.length ∧ i = .int .i64 (j : Int) ∧ s = .int .i64 (((ls.take j).flatten.length : Nat) : Int) ∧ wr = w) (fun s i _ => ls.length - (intOf i).toNat)
  case atStart => exact ⟨0, Nat.zero_le _, rfl, rfl, rfl⟩
  case round =>
    obtain ⟨j, hj, rfl, rfl, hw⟩ := hrel
    obtain rfl : w = wr := hw.symm
    by_cases hlt : j < ls.length
    · obtain ⟨A', c', x0, hr⟩ := HC.out j hlt
      have h1 := flat_take ls j hlt
      have h2 := flat_le ls (j + 1)
      rw [h1, List.length_append] at h2
      have H1 := Aside0.mk h1
      clear h1
      generalize hq : (ls.take j).flatten.length = q at h2
      have h3 : ((ls.take (j + 1)).flatten.length : Nat) = q + ls[j].length := by rw [H1.out, List.length_append, hq]
      have H3 := Aside0.mk h3
      clear h3 hq H1
      generalize ls[j].length = m at x0 h2 H3
      go_wp2_with fail
      go_roundw
      case rel => exact ⟨j + 1, by omega, by go_num, by rw [H3.out]; go_num, trivial⟩
      case measure => simp [intOf]; omega
    · obtain rfl : j = ls.length := by omega
      have h2 := flat_le ls ls.length
      generalize hq : (ls.take ls.length).flatten.length = q at h2
      clear hq
      go_wp2_with fail
      refine (HG.out _ q (by omega)).mono ?_
      rintro e w2 ⟨v, rfl, hv, hb⟩
      have HV := Aside0.mk hv
      have HB := Aside0.mk hb
      clear hv hb
      go_wp2_with fail
      go_loopw [6, 27] (fun u i w3 => ∃ j : Nat, j ≤ ls.length ∧ i = .int .i64 (j : Int) ∧ Aside0 (Kd.R Kd.string 9 w3 w.heap.size (fun _ => True) u (ls.take j).flatten) ∧ Aside0 (Below w.heap.size w w3)) (fun u i _ => ls.length - (intOf i).toNat)
      case atStart => exact ⟨0, Nat.zero_le _, rfl, HV, HB⟩
      case round =>
        obtain ⟨j, hj, rfl, HU, HB3⟩ := hrel
        by_cases hlt : j < ls.length
        · obtain ⟨A', c', x0, hr⟩ := HC.out j hlt
          replace x0 := (HB3.out.cell (World.block_lt_of_cell? w _ x0)).trans x0
          have hr := Kd.C_below hr HB3.out
          have h1 := flat_take ls j hlt
          have h2 := flat_le ls (j + 1)
          rw [h1, List.length_append] at h2
          have H1 := Aside0.mk h1
          clear h1
          have HR := Aside0.mk hr
          clear hr
          generalize ls[j] = y at x0 h2 H1 HR
          generalize (ls.take j).flatten = xs at HU h2 H1
          obtain ⟨A3, c3, rfl⟩ := Kd.R_slice HU.out
          go_wp2_with ((with_reducible refine gate_builtin (b := .append) (xs := #[.tmp 31, .tmp 32]) rfl ?_); at_builtin; refine Kd.R_append_rows Kd.string (w0 := w) w.heap.size rfl (.tmp 31) (.tmp 32) 22 9 (.string ⟨#[]⟩) 16 rfl Tryd.underlying22 info9 rfl (by decide) (by decide) _ _ y _ _ _ (fun _ => True) (fun _ => False) rfl rfl HU.out HR.out (fun x cs h => h) (fun _ h => h.elim) (fun _ _ => trivial) HB3.out (by have := HB3.out.size; omega) (by omega) ?_; intro v1 w4 h4 hb4 hg4 hat4; obtain ⟨A4, c4, rfl⟩ := Kd.R_slice h4; have H4 := Aside0.mk h4; have HB4 := Aside0.mk hb4; clear h4 hb4 hg4 hat4)
          go_roundw
          case rel => exact ⟨j + 1, by omega, by go_num, ⟨by rw [H1.out]; have h4 := H4.out; rw [List.length_append] at h4; exact h4⟩, HB4⟩
          case measure => simp [intOf]; omega
        · obtain rfl : j = ls.length := by omega
          have hu := HU.out
          rw [List.take_length] at hu
          have HU' := Aside0.mk hu
          clear hu HU
          go_wp2_with fail
          go_ret
          exact ⟨_, rfl, HU'.out, HB3.out⟩
theorem May_any (w : World) (A : Option Addr) (c : Nat) (l : List ByteArray) (hC : Kd.C Kd.string w A l.length l) (hc : l.length ≤ c) (hs : shortP l = true) :
    Calls Tryd.prog 13 #[.slice A l.length c] w fun e w' => e = .returned (.bool (mayS l)) ∧ Below w.heap.size w w' :=
  scope_May.calls (l.length + 1) A c l (mayS l) w hC hc (may_fn hs _ (Nat.lt_succ_self _))
theorem Make_any (w : World) (A : Option Addr) (c : Nat) (l : List ByteArray) (hC : Kd.C Kd.string w A l.length l) (hc : l.length ≤ c) (hs : shortP l = true) :
    Calls Tryd.prog 10 #[.slice A l.length c] w fun e w' => ∃ v, e = .returned (.tuple #[v, .int .i64 (makeS l).2]) ∧ SR Kd.string 9 w' w.heap.size (fun _ => True) v (makeS l).1 ∧ Below w.heap.size w w' :=
  scope_Make.calls (l.length + 1) A c l (makeS l).1 (makeS l).2 w hC hc (make_fn hs _ (Nat.lt_succ_self _))
def unionS (a b : List ByteArray) : List ByteArray × Int := if mayS a = true ∧ mayS b = true then makeS (a ++ b) else ([], 2)
set_option maxRecDepth 100000 in
set_option maxHeartbeats 2000000 in
theorem Union_any (w : World) (A : Option Addr) (c : Nat) (a : List ByteArray) (B : Option Addr) (d : Nat) (b : List ByteArray) (hC : Kd.C Kd.string w A a.length a) (hc : a.length ≤ c) (ha : shortP a = true) (hD : Kd.C Kd.string w B b.length b) (hd : b.length ≤ d) (hb : shortP b = true) :
    Calls Tryd.prog 20 #[.slice A a.length c, .slice B b.length d] w fun e w' => ∃ v, e = .returned (.tuple #[v, .int .i64 (unionS a b).2]) ∧ SR Kd.string 9 w' w.heap.size (fun _ => True) v (unionS a b).1 ∧ Below w.heap.size w w' := by
  have HA := Aside0.mk (May_any w A c a hC hc ha)
  have HBM := Aside0.mk (fun W (hw : Below w.heap.size w W) => May_any W B d b (Kd.C_below hD hw) hd hb)
  have HC := Aside0.mk hC
  have HD := Aside0.mk hD
  have HSA := Aside0.mk ha
  have HSB := Aside0.mk hb
  unfold unionS
  cases h1 : mayS a with
  | false =>
    rw [if_neg (fun h => absurd h.1 (by decide))]
    have HA := HA.out
    rw [h1] at HA
    have HA := Aside0.mk HA
    clear h1 hC hD ha hb
    go_enter Tryd.func20, Tryd.ntmps20
    go_wp2_with fail
    refine HA.out.mono ?_
    rintro e w1 ⟨rfl, hb1⟩
    go_wp2_with fail
    go_ret2
    exact ⟨_, rfl, SR_nil _ _ _ _ _, hb1⟩
  | true =>
    cases h2 : mayS b with
    | false =>
      rw [if_neg (fun h => absurd h.2 (by decide))]
      have HA := HA.out
      rw [h1] at HA
      have HA := Aside0.mk HA
      have HBM := HBM.out
      rw [h2] at HBM
      have HBM := Aside0.mk HBM
      clear h1 h2 hC hD ha hb
      go_enter Tryd.func20, Tryd.ntmps20
      go_wp2_with fail
      refine HA.out.mono ?_
      rintro e w1 ⟨rfl, hb1⟩
      have p1 := prev_call hb1
      go_wp2_with fail
      refine (HBM.out _ (bel _ _)).mono ?_
      rintro e w2 ⟨rfl, hb2⟩
      have p2 := prev_call hb2
      go_wp2_with fail
      go_ret2
      exact ⟨_, rfl, SR_nil _ _ _ _ _, bel _ _⟩
    | true =>
      rw [if_pos ⟨rfl, rfl⟩]
      have la := may_len h1
      have lb := may_len h2
      have HA := HA.out
      rw [h1] at HA
      have HA := Aside0.mk HA
      have HBM := HBM.out
      rw [h2] at HBM
      have HBM := Aside0.mk HBM
      have hsab := shortP_app ha hb (by omega)
      obtain ⟨ab, hab⟩ : ∃ ab, a ++ b = ab := ⟨_, rfl⟩
      rw [hab] at hsab ⊢
      have HAB := Aside0.mk hab
      clear hab
      have HSAB := Aside0.mk hsab
      obtain ⟨R, hR⟩ : ∃ R, makeS ab = R := ⟨_, rfl⟩
      rw [hR]
      have HR := Aside0.mk hR
      have HLA := Aside0.mk la
      have HLB := Aside0.mk lb
      clear h1 h2 hC hD ha hb hsab hR
      go_enter Tryd.func20, Tryd.ntmps20
      go_wp2_with fail
      refine HA.out.mono ?_
      rintro e w1 ⟨rfl, hb1⟩
      have p1 := prev_call hb1
      go_wp2_with fail
      refine (HBM.out _ (bel _ _)).mono ?_
      rintro e w2 ⟨rfl, hb2⟩
      have p2 := prev_call hb2
      go_wp2_with fail
      refine (concat_any (w2.alloc (.cells #[.slice A a.length c, .slice B b.length d] 22)) w2.heap.size 2 [a, b] (by simp; omega) (by simp) (fun j hj => ?_)).mono ?_
      · rcases j with _ | _ | j
        · exact ⟨A, c, cell_held.trans rfl, Kd.C_below HC.out (bel _ _)⟩
        · exact ⟨B, d, cell_held.trans rfl, Kd.C_below HD.out (bel _ _)⟩
        · exact absurd hj (by simp)
      rintro e w3 ⟨v, rfl, hv, hb3⟩
      have p3 := prev_call hb3
      rw [show [a, b].flatten = ab by simp [HAB.out]] at hv
      obtain ⟨A3, c3, rfl, h3, hC3⟩ := Kd.R_reads hv
      have HC3 := Aside0.mk hC3
      have HL3 := Aside0.mk h3
      clear hC3 hv h3
      go_wp2_with fail
      refine (Make_any w3 A3 c3 ab HC3.out HL3.out HSAB.out).mono ?_
      rintro e w4 ⟨v, rfl, hv, hb4⟩
      rw [HR.out] at hv ⊢
      have p4 := prev_call hb4
      have HV := Aside0.mk (S_lower hv (siz w w3))
      clear hv
      go_wp2_with fail
      go_ret2
      exact ⟨_, rfl, HV.out, bel _ _⟩
def scope_Union.f (a b : List ByteArray) : Option (List ByteArray × Int) := if shortP a = true ∧ shortP b = true then some (unionS a b) else none
theorem scope_Union.calls (A0 : Option Addr) (c0 : Nat) (l0 : List ByteArray) (A1 : Option Addr) (c1 : Nat) (l1 : List ByteArray) (r1 : List ByteArray) (r2 : Int) (w : World) (hr0 : Kd.C Kd.string w A0 l0.length l0) (hc0 : l0.length ≤ c0) (hr1 : Kd.C Kd.string w A1 l1.length l1) (hc1 : l1.length ≤ c1) (h : scope_Union.f l0 l1 = some (r1, r2)) :
    Calls Tryd.prog 20 #[.slice A0 l0.length c0, .slice A1 l1.length c1] w fun e w' => ∃ v0_ : Value, e = .returned (.tuple #[v0_, .int .i64 r2]) ∧ SR Kd.string 9 w' w.heap.size (fun _ => True) v0_ r1 ∧ Below w.heap.size w w' := by
  unfold scope_Union.f at h
  split at h
  · rename_i hs
    injection h with h
    have k := Union_any w A0 c0 l0 A1 c1 l1 hr0 hc0 hs.1 hr1 hc1 hs.2
    rw [h] at k
    exact k
  · simp at h
end Go.Proofs.YtkflalaocnghcaaDoor.Q

namespace Go.Proofs.YtkflalaocnghcaaDoor.Q
open Go Go.Proofs Go.Shelf Go.RowKit Go.Lib Go.Sort Go.Proofs.YtkflalaocnghcaaDoorP Go.Proofs.YtkflalaocnghcaaDoorK Go.Proofs.YtkflalaocnghcaaDoorW.PrintWords Go.Proofs.YtkflalaocnghcaaDoorW.PrintLast Go.Proofs.YtkflalaocnghcaaDoorW.PrintMore
set_option linter.unusedSimpArgs false
set_option linter.unusedVariables false
/-! ### scope.Text, scope.Parse -/
def textL (l : List ByteArray) : List UInt8 := (l.map fun p => p.data.toList ++ [10]).flatten
def textS (l : List ByteArray) : ByteArray × Int := if mayS l = true then (⟨(textL l).toArray⟩, 0) else (⟨#[]⟩, 2)
theorem textL_len (l : List ByteArray) (h : ∀ p ∈ l, p.size ≤ 65536) : (textL l).length ≤ l.length * 65537 := by
  induction l with
  | nil => simp [textL]
  | cons p l ih =>
    unfold textL at ih ⊢
    have h1 := ih (fun q hq => h q (List.mem_cons_of_mem _ hq))
    have h2 := h p List.mem_cons_self
    have h3 : p.data.toList.length = p.size := by simp
    simp only [List.map_cons, List.flatten_cons, List.length_append, List.length_cons, List.length_nil]
    omega
theorem textL_take (l : List ByteArray) (k : Nat) (h : k < l.length) : textL (l.take (k + 1)) = textL (l.take k) ++ (l[k].data.toList ++ [10]) := by
  unfold textL
  rw [List.take_succ_eq_append_getElem h, List.map_append, List.flatten_append]
  simp
theorem ws_c (b : Nat) (l : List UInt8) (s : ByteArray) (W : World) (h : Lib.IsBuilderF 55 5 b b (Lib.byteCells l) W) (hlen : l.length + s.size ≤ 140737488355328) (hb : b ≤ W.heap.size) :
    Calls Tryd.prog 40 #[.pointer (some ⟨b, 0, none⟩), .string s] W fun e w' => e = .returned (.tuple #[.int .i64 s.size, .nilIface]) ∧ Lib.IsBuilderF 55 5 b b (Lib.byteCells (l ++ s.data.toList)) w' ∧ Below b W w' := by
  refine Calls.mono (Any.Builder_WriteString_k layWriteString layWriteStringX b b (Lib.byteCells l) s W h (by rw [Lib.byteCells_length]; exact hlen) hb) ?_
  rintro e w' ⟨he, h1, h2, _⟩
  refine ⟨he, ?_, h2⟩
  have e1 : Lib.byteCells (l ++ s.data.toList) = Lib.byteCells l ++ Lib.strCells s := by rw [Lib.byteCells_append]; rfl
  rw [e1]
  exact .inr h1
theorem bs_c (b : Nat) (l : List UInt8) (W : World) (h : Lib.IsBuilderF 55 5 b b (Lib.byteCells l) W) (hb : b ≤ W.heap.size) :
    Calls Tryd.prog 41 #[.pointer (some ⟨b, 0, none⟩)] W fun e w' => e = .returned (.string ⟨l.toArray⟩) ∧ Below b W w' := by
  refine Calls.mono (Any.Builder_String_any_k layBString layBStringX b b l W h hb) ?_
  rintro e w' ⟨he, _, h2, _⟩
  exact ⟨he, h2⟩
set_option maxRecDepth 100000 in
set_option maxHeartbeats 2000000 in
theorem Text_any (w : World) (A : Option Addr) (c : Nat) (l : List ByteArray) (hC : Kd.C Kd.string w A l.length l) (hc : l.length ≤ c) (hs : shortP l = true) :
    Calls Tryd.prog 24 #[.slice A l.length c] w fun e w' => e = .returned (.tuple #[.string (textS l).1, .int .i64 (textS l).2]) ∧ Below w.heap.size w w' := by
  have HM := Aside0.mk (May_any w A c l hC hc hs)
  have HC := Aside0.mk hC
  have HSM := Aside0.mk (shortP_mem hs).2
  unfold textS
  cases h1 : mayS l with
  | false =>
    rw [if_neg (by decide)]
    have HM := HM.out
    rw [h1] at HM
    have HM := Aside0.mk HM
    clear h1 hC hs
    go_enter Tryd.func24, Tryd.ntmps24
    go_wp2_with fail
    refine HM.out.mono ?_
    rintro e w1 ⟨rfl, hb1⟩
    go_wp2_with fail
    go_ret2
    exact ⟨rfl, hb1⟩
  | true =>
    rw [if_pos rfl]
    have HM := HM.out
    rw [h1] at HM
    have HM := Aside0.mk HM
    have hll := may_len h1
    have htl := textL_len l HSM.out
    have HTL := Aside0.mk (show (textL l).length ≤ 1048592 by omega)
    clear h1 hC hs htl
    go_enter Tryd.func24, Tryd.ntmps24
    go_wp2_with fail
    refine HM.out.mono ?_
    rintro e w1 ⟨rfl, hb1⟩
    have HB1 := Aside0.mk hb1
    clear hb1
    go_wp2_with fail
    have hfresh : Aside0 (Lib.IsBuilderF 55 5 w1.heap.size w1.heap.size (Lib.byteCells (textL (l.take 0))) (w1.alloc (.cells #[.pointer none, .slice none 0 0] 55))) := ⟨Lib.IsBuilderF.of (Lib.fresh_isBuilder 55 5 w1)⟩
    have HB2 : Aside0 (Below w1.heap.size w1 (w1.alloc (.cells #[.pointer none, .slice none 0 0] 55))) := ⟨bel _ _⟩
    go_loopw [12] (fun i wr => ∃ k : Nat, k ≤ l.length ∧ i = .int .i64 (k : Int) ∧ Aside0 (Lib.IsBuilderF 55 5 w1.heap.size w1.heap.size (Lib.byteCells (textL (l.take k))) wr) ∧ Aside0 (Below w1.heap.size w1 wr)) (fun i _ => l.length - (intOf i).toNat)
    case atStart => exact ⟨0, Nat.zero_le _, rfl, hfresh, HB2⟩
    case round =>
      clear hfresh HB2
      obtain ⟨k, hk, rfl, HBD, HB⟩ := hrel
      by_cases hlt : k < l.length
      · obtain ⟨ad, e, x0⟩ := C_str HC.out k hlt
        subst e
        replace x0 := (HB1.out.cell (World.block_lt_of_cell? w _ x0)).trans x0
        replace x0 := (HB.out.cell (World.block_lt_of_cell? w1 _ x0)).trans x0
        have htk := textL_take l k hlt
        have hpk := HSM.out _ (List.getElem_mem hlt)
        have htlk : (textL (l.take (k + 1))).length ≤ 1048592 := by
          have h2 := textL_len (l.take (k + 1)) (fun p hp => HSM.out p (List.mem_of_mem_take hp))
          have h3 := List.length_take_le (k + 1) l
          have h4 : (l.take (k + 1)).length ≤ 16 := by rw [List.length_take]; omega
          omega
        generalize l[k] = p at x0 htk hpk
        rw [htk, List.length_append] at htlk
        have HTK := Aside0.mk htk
        have HTL2 := Aside0.mk htlk
        have hpm : p.size + 1 ≤ maxLen := by unfold maxLen; omega
        clear htk htlk
        have hsz1 := HB.out.size
        go_wp2_with fail
        have hsz3 : (textL (l.take k)).length + (p ++ (⟨#[10]⟩ : ByteArray)).size ≤ 140737488355328 := by
          have := HTL2.out
          have h1 : (⟨#[10]⟩ : ByteArray).size = 1 := rfl
          simp at this ⊢
          omega
        refine (ws_c w1.heap.size (textL (l.take k)) (p ++ (⟨#[10]⟩ : ByteArray)) wr HBD.out hsz3 hsz1).mono ?_
        rintro e w3 ⟨rfl, hBD, hb3⟩
        have HB3 := Aside0.mk (HB.out.trans hb3)
        have HBD3 : Aside0 (Lib.IsBuilderF 55 5 w1.heap.size w1.heap.size (Lib.byteCells (textL (l.take (k + 1)))) w3) := ⟨by
          rw [HTK.out]
          simpa using hBD⟩
        clear hBD hb3
        go_wp2_with fail
        go_roundw
        case rel => exact ⟨k + 1, by omega, by go_num, HBD3, HB3⟩
        case measure => simp [intOf]; omega
      · have hsz1 := HB.out.size
        have hbd := HBD.out
        rw [List.take_of_length_le (by omega)] at hbd
        have HBD := Aside0.mk hbd
        clear hbd
        go_wp2_with fail
        refine (bs_c w1.heap.size _ _ HBD.out hsz1).mono ?_
        rintro e w3 ⟨rfl, hb3⟩
        go_wp2_with fail
        go_ret2
        exact ⟨rfl, HB1.out.trans ((HB.out.trans hb3).mono HB1.out.size)⟩
def linesB (t : ByteArray) : List ByteArray := (sepC 10 t.data.toList).map fun x => ⟨x.toArray⟩
theorem split10_c (W : World) (s : ByteArray) (hs : s.size < 4294967281) : Calls Tryd.prog 42 #[.string s, .string ⟨#[10]⟩] W fun e w' => e = .returned (.slice (some ⟨W.heap.size, 0, none⟩) (linesB s).length (linesB s).length) ∧ w' = W.alloc (.cells ((linesB s).map Value.string).toArray 9) := by
  have h := split_one laySplit (by kernel_rfl) s 10 W hs
  have hl := Lib.splitB_all ⟨#[10]⟩ (Nat.le_refl 1) 0 _ s rfl
  have hn : (Lib.splitB ⟨#[10]⟩ 0 (Lib.countB s ⟨#[10]⟩) s).map (·.data.toList) = sepC 10 s.data.toList := by
    rw [Lib.splitB_data]
    exact split_sepC 10 s.data.toList
  have hb : Lib.splitB ⟨#[10]⟩ 0 (Lib.countB s ⟨#[10]⟩) s = linesB s := by
    unfold linesB
    rw [← hn, List.map_map]
    have : ((fun x : List UInt8 => (⟨x.toArray⟩ : ByteArray)) ∘ fun x : ByteArray => x.data.toList) = id := by funext x; simp
    rw [this, List.map_id]
  refine Calls.mono h ?_
  rintro e w' ⟨rfl, rfl⟩
  rw [hb] at hl ⊢
  exact ⟨by rw [hl], rfl⟩
def parseS (t : ByteArray) : List ByteArray × Int := if t.size = 0 then ([], 0) else if (linesB t).getLast? = some ⟨#[]⟩ ∧ mayS (linesB t).dropLast = true then ((linesB t).dropLast, 0) else ([], 5)
theorem linesB_size (t : ByteArray) : ∀ p ∈ linesB t, p.size ≤ t.size := by
  intro p hp
  unfold linesB at hp
  obtain ⟨x, hx, rfl⟩ := List.mem_map.1 hp
  have h1 := sepC_size 10 _ x hx
  have h2 : t.data.toList.length = t.size := by simp
  rw [bsize]
  omega
theorem linesB_len (t : ByteArray) : 0 < (linesB t).length ∧ (linesB t).length ≤ t.size + 1 := by
  unfold linesB
  rw [List.length_map]
  have h1 := sepC_len 10 t.data.toList
  have h2 : t.data.toList.length = t.size := by simp
  exact ⟨List.length_pos_iff.2 (sepC_ne 10 _), by omega⟩
attribute [local go_sem] cell_held frozen_held
theorem C_row (W : World) (l : List ByteArray) (m : Nat) (hm : m ≤ l.length) (hl : l.length ≤ 1048576) : Kd.C Kd.string (W.alloc (.cells (l.map Value.string).toArray 9)) (some ⟨W.heap.size, 0, none⟩) (l.take m).length (l.take m) := by
  have hg : (W.alloc (.cells (l.map Value.string).toArray 9)).heap[W.heap.size]? = some (.cells (l.map Value.string).toArray 9 (0, 0)) := World.alloc_heap_new W _
  refine ⟨rfl, by rw [List.length_take]; omega, fun _ => ⟨_, rfl, fun j p hj => ⟨[.string p], rfl, rfl, fun i u hi => ?_⟩⟩⟩
  cases i with
  | zero =>
    simp at hi
    subst hi
    rw [Addr.add_lit, blk_cell hg]
    rw [List.getElem?_take] at hj
    split at hj
    · show (l.map Value.string).toArray[0 + (j * 1 + 0)]? = _
      simp [hj]
    · cases hj
  | succ i => simp at hi
set_option maxRecDepth 100000 in
set_option maxHeartbeats 2000000 in
theorem Parse_any (w : World) (t : ByteArray) (ht : t.size ≤ 65536) :
    Calls Tryd.prog 26 #[.string t] w fun e w' => ∃ v, e = .returned (.tuple #[v, .int .i64 (parseS t).2]) ∧ SR Kd.string 9 w' w.heap.size (fun _ => True) v (parseS t).1 ∧ Below w.heap.size w w' := by
  obtain ⟨R, hR⟩ : ∃ R, parseS t = R := ⟨_, rfl⟩
  rw [hR]
  unfold parseS at hR
  by_cases h0 : t.size = 0
  · rw [if_pos h0] at hR
    subst hR
    have hz := (size_zero_list t).2 h0
    have hz1 : (t.toList == []) = true := by rw [hz]; rfl
    clear h0 hz
    go_enter Tryd.func26, Tryd.ntmps26
    go_wp2_with fail
    go_ret2
    exact ⟨_, rfl, SR_nil _ _ _ _ _, bel _ _⟩
  · rw [if_neg h0] at hR
    have hz1 : (t.toList == []) = false := beq_eq_false_iff_ne.mpr (fun e => h0 ((size_zero_list t).1 e))
    have hsp := fun W => split10_c W t (by omega)
    have hls := linesB_size t
    have hln := linesB_len t
    generalize linesB t = l at hR hsp hls hln
    rw [List.dropLast_eq_take, List.getLast?_eq_getElem?] at hR
    obtain ⟨m, hm⟩ : ∃ m, l.length - 1 = m := ⟨_, rfl⟩
    have hlen : l.length = m + 1 := by omega
    rw [hm] at hR
    obtain ⟨q, hq⟩ : ∃ q, l[m]? = some q := ⟨l[m]'(by omega), List.getElem?_eq_getElem (by omega)⟩
    rw [hq] at hR
    have hsh : shortP (l.take m) = true := shortP_mk (by rw [List.length_take]; omega) (fun p hp => by have := hls p (List.mem_of_mem_take hp); omega)
    have htl : (l.take m).length = m := by rw [List.length_take]; omega
    have hmy := fun W A c hC hc => May_any W A c (l.take m) hC hc hsh
    have hcr := fun W => C_row W l m (by omega) (by omega)
    rw [htl] at hmy hcr
    rw [hlen] at hsp
    have x0 : (l.map Value.string).toArray[m]? = some (.string q) := by simp [hq]
    have hmb : m ≤ 65536 := by omega
    have hrow : ∀ (j : Nat) (p : ByteArray), (l.take m)[j]? = some p → (l.map Value.string).toArray[j]? = some (Value.string p) := by
      intro j p hj
      rw [List.getElem?_take] at hj
      split at hj
      · simp [hj]
      · cases hj
    generalize (l.map Value.string).toArray = cells at x0 hsp hcr hrow
    generalize l.take m = lm at hR hmy hcr hrow htl hsh
    have HSP := Aside0.mk hsp
    have HMY := Aside0.mk hmy
    have HCR := Aside0.mk hcr
    have HROW := Aside0.mk hrow
    have HTL := Aside0.mk htl
    clear hsp hls hln hm hlen hq hmy hcr hrow htl hsh h0
    by_cases hq0 : q = ⟨#[]⟩
    · subst hq0
      cases hmay : mayS lm with
      | true =>
        rw [if_pos ⟨rfl, hmay⟩] at hR
        subst hR
        have HMY := HMY.out
        rw [hmay] at HMY
        have HMY := Aside0.mk HMY
        clear hmay
        go_enter Tryd.func26, Tryd.ntmps26
        go_wp2_with fail
        refine (HSP.out _).mono ?_
        rintro e w1 ⟨rfl, rfl⟩
        go_wp2_with fail
        refine (HMY.out _ _ _ (HCR.out _) (by omega)).mono ?_
        rintro e w2 ⟨rfl, hb2⟩
        have p2 := prev_call hb2
        have hg2 : w2.heap[w.heap.size]? = some (.cells cells 9 (0, 0)) := held
        have HG2 := Aside0.mk hg2
        clear hg2
        go_wp2_with fail
        go_ret2
        exact ⟨_, rfl, sr_mk (Nat.le_refl _) HG2.out HTL.out.symm (Nat.le_refl _) (by rw [HTL.out]; omega) HROW.out, bel _ _⟩
      | false =>
        rw [if_neg (by rw [hmay]; simp)] at hR
        subst hR
        have HMY := HMY.out
        rw [hmay] at HMY
        have HMY := Aside0.mk HMY
        clear hmay
        go_enter Tryd.func26, Tryd.ntmps26
        go_wp2_with fail
        refine (HSP.out _).mono ?_
        rintro e w1 ⟨rfl, rfl⟩
        go_wp2_with fail
        refine (HMY.out _ _ _ (HCR.out _) (by omega)).mono ?_
        rintro e w2 ⟨rfl, hb2⟩
        have p2 := prev_call hb2
        go_wp2_with fail
        go_ret2
        exact ⟨_, rfl, SR_nil _ _ _ _ _, bel _ _⟩
    · rw [if_neg (fun h => hq0 (Option.some.inj h.1))] at hR
      subst hR
      have hq1 : (q.toList == []) = false := beq_eq_false_iff_ne.mpr (fun e => hq0 ((tlB q ⟨#[]⟩).1 (by rw [e, ByteArray.toList_eq])))
      have hq2 : (q.toList != []) = true := bne_iff_ne.mpr (fun e => hq0 ((tlB q ⟨#[]⟩).1 (by rw [e, ByteArray.toList_eq])))
      clear hq0
      go_enter Tryd.func26, Tryd.ntmps26
      go_wp2_with fail
      refine (HSP.out _).mono ?_
      rintro e w1 ⟨rfl, rfl⟩
      go_wp2_with fail
      go_ret2
      exact ⟨_, rfl, SR_nil _ _ _ _ _, bel _ _⟩
def scope_Text.f (l : List ByteArray) : Option (ByteArray × Int) := if shortP l = true then some (textS l) else none
theorem scope_Text.calls (A0 : Option Addr) (c0 : Nat) (l0 : List ByteArray) (r1 : ByteArray) (r2 : Int) (w : World) (hr0 : Kd.C Kd.string w A0 l0.length l0) (hc0 : l0.length ≤ c0) (h : scope_Text.f l0 = some (r1, r2)) :
    Calls Tryd.prog 24 #[.slice A0 l0.length c0] w fun e w' => e = .returned (.tuple #[.string r1, .int .i64 r2]) ∧ Below w.heap.size w w' := by
  unfold scope_Text.f at h
  split at h
  · rename_i hs
    injection h with h
    have k := Text_any w A0 c0 l0 hr0 hc0 hs
    rw [h] at k
    exact k
  · simp at h
def scope_Parse.f (t : ByteArray) : Option (List ByteArray × Int) := if t.size ≤ 65536 then some (parseS t) else none
theorem scope_Parse.calls (a0 : ByteArray) (r1 : List ByteArray) (r2 : Int) (w : World) (h : scope_Parse.f a0 = some (r1, r2)) :
    Calls Tryd.prog 26 #[.string a0] w fun e w' => ∃ v0_ : Value, e = .returned (.tuple #[v0_, .int .i64 r2]) ∧ SR Kd.string 9 w' w.heap.size (fun _ => True) v0_ r1 ∧ Below w.heap.size w w' := by
  unfold scope_Parse.f at h
  split at h
  · rename_i hs
    injection h with h
    have k := Parse_any w a0 hs
    rw [h] at k
    exact k
  · simp at h
end Go.Proofs.YtkflalaocnghcaaDoor.Q

namespace Go.Proofs.YtkflalaocnghcaaDoor.Q
open Go.RowKit Go.Proofs.YtkflalaocnghcaaDoorW.PrintWords Go.Proofs.YtkflalaocnghcaaDoorW.PrintLast Go.Proofs.YtkflalaocnghcaaDoorW.PrintMore Go.Proofs.YtkflalaocnghcaaDoorK
attribute [local go_sem] max2_int min2_int max_two min_two max_three min_three max_four min_four   -- for this text's walks alone
attribute [local go_sem ↓] Go.Proofs.YtkflalaocnghcaaDoorK.isSome_setCell
set_option linter.unusedVariables false
set_option linter.unusedSimpArgs false

/-! ### aquiferlaw06_few: function 9 -/
def aquiferlaw06_few.l0 : Nat → List ByteArray → List ByteArray → Int → Option (List ByteArray)
  | 0, _, _, _ => none
  | k + 1, x0, x3, x4 => if x4 < (x0.length : Int) then (if x4 < 20 then (if 0 ≤ x4 then (if 0 ≤ (mn ((rdOf ByteArray.empty x0 x4).size : Int) 150) then (if (mn ((rdOf ByteArray.empty x0 x4).size : Int) 150) ≤ ((rdOf ByteArray.empty x0 x4).size : Int) then (if x3.length < 8796093022208 then (aquiferlaw06_few.l0 k x0 (x3 ++ [(rdOf ByteArray.empty x0 x4).extract 0 ((mn ((rdOf ByteArray.empty x0 x4).size : Int) 150) : Int).toNat]) (wrap64 (x4 + 1))) else (none)) else (none)) else (none)) else (none)) else (some x3)) else (some x3)
def aquiferlaw06_few.f (k : Nat) (l0 : List ByteArray) : Option (List ByteArray) := aquiferlaw06_few.l0 k l0 ([] : List ByteArray) 0
theorem aquiferlaw06_few.mono_l : ∀ k, (∀ y0 y1 y2, LeO (aquiferlaw06_few.l0 k y0 y1 y2) (aquiferlaw06_few.l0 (k + 1) y0 y1 y2))
  | 0 => fun _ _ _ r h => by simp [aquiferlaw06_few.l0] at h
  | k + 1 => by
    have ih0 := aquiferlaw06_few.mono_l k
    · intro y0 y1 y2
      unfold aquiferlaw06_few.l0
      repeat' first
      | (with_reducible exact ih0 _ _ _)
      | (with_reducible exact LeO.refl _)
      | (with_reducible exact LeO.none _)
      | (with_reducible refine LeO.ite ?_ ?_)
      | (with_reducible refine LeO.bind ?_ (fun _ => ?_))
      | exact ih0 _ _ _
      | exact LeO.none _
      | refine LeO.ite ?_ ?_
      | refine LeO.bind ?_ (fun _ => ?_)
theorem aquiferlaw06_few.mono : ∀ a0 k, LeO (aquiferlaw06_few.f k a0) (aquiferlaw06_few.f (k + 1) a0) := by
  intro a0 k
  have ih0 := aquiferlaw06_few.mono_l k
  unfold aquiferlaw06_few.f
  repeat' first
      | (with_reducible exact ih0 _ _ _)
      | (with_reducible exact LeO.refl _)
      | (with_reducible exact LeO.none _)
      | (with_reducible refine LeO.ite ?_ ?_)
      | (with_reducible refine LeO.bind ?_ (fun _ => ?_))
      | exact ih0 _ _ _
      | exact LeO.none _
      | refine LeO.ite ?_ ?_
      | refine LeO.bind ?_ (fun _ => ?_)
def aquiferlaw06_few.T5 : Bool × List (List Nat × List Nat) := (true, [([], []), ([], []), ([], []), ([1, 2], [1, 2]), ([3], [3]), ([], []), ([], []), ([5, 6], [5, 6]), ([7], [7]), ([8], [8]), ([9], [9]), ([4, 10], [4, 10]), ([11], [11]), ([0, 12], [0, 12]), ([13, 13, 0, 1, 2, 3, 4, 5, 6, 7, 8, 9, 10, 11, 12, 13], [0, 13])])
def aquiferlaw06_few.B5 : List Nat := [0, 0, 0, 6, 14, 0, 0, 96, 224, 480, 992, 2046, 4094, 8191, 16383]
theorem aquiferlaw06_few.tab5 : rtab .any (opsOf Tryd.f9 5) = aquiferlaw06_few.T5 := by kernel_rfl
theorem aquiferlaw06_few.bits5 : waitsOk aquiferlaw06_few.T5.2 aquiferlaw06_few.B5 = true := by kernel_rfl
set_option maxHeartbeats 8000000 in
set_option maxRecDepth 100000 in
theorem aquiferlaw06_few.calls (k : Nat) (A0 : Option Addr) (c0 : Nat) (l0 : List ByteArray) (r : List ByteArray) (w : World) (hr0 : Kd.C Kd.string w A0 l0.length l0) (hc0 : l0.length ≤ c0) (h : aquiferlaw06_few.f k l0 = some r) :
    Calls Tryd.prog 9 #[.slice A0 l0.length c0] w fun e w' => ∃ v0_ : Value, e = .returned (v0_) ∧ Kd.R Kd.string 9 w' w.heap.size (fun _ => True) v0_ r ∧ Below w.heap.size w w' := by
  have HR0 := Aside0.mk hr0
  have HC0 := Aside0.mk hc0
  clear hr0 hc0
  have HB := Aside0.mk (Below.refl w.heap.size w)
  have H : (aquiferlaw06_few.l0 k l0 ([] : List ByteArray) 0) = some r := h
  clear h
  have H' := Aside0.mk H
  clear H
  go_enter Tryd.func9, Tryd.ntmps9
  go_wp2
  go_loopg [3, 4] k (fun kq v3 v4 w' => ∃ (x3_1 : List ByteArray) (x4_1 : Int), v4 = .int .i64 x4_1 ∧ Aside0 (aquiferlaw06_few.l0 kq l0 x3_1 x4_1 = some r) ∧ Aside0 (kq ≤ k) ∧ Aside0 (Kd.R Kd.string 9 w' w.heap.size (fun _ => True) v3 x3_1) ∧ Aside0 (Below w.heap.size w w'))
  case atStart => exact ⟨(([] : List ByteArray)), (0), (by first | rfl | (simp; done) | (simp [*]; done)), H', ⟨Nat.le_refl _⟩, ⟨by first | exact Kd.R_nil _ _ _ _ _ | exact Kd.N_nil _ _ _ _ _ | exact Kd.V_nil _ _ _ _ _ | exact Kd.Q_nil _ _ _ _ _ | exact Kd.S_nil _ _ _ _ _⟩, ⟨belU HB.out⟩⟩
  case round =>
    clear H'
    obtain ⟨x3_1, x4_1, rfl, HA, HK1, HO_3, HB⟩ := hrel
    cases gk with
    | zero => exact absurd HA.out (by simp [aquiferlaw06_few.l0])
    | succ k1 =>
      have H := HA.out
      clear HA
      simp only [aquiferlaw06_few.l0] at H
      by_cases c2 : x4_1 < (l0.length : Int)
      · rw [if_pos c2] at H
        have c2b0 : decide (x4_1 < (l0.length : Int)) = true := decide_eq_true c2
        clear c2
        by_cases c3 : x4_1 < 20
        · rw [if_pos c3] at H
          have c3b0 : decide (x4_1 < 20) = true := decide_eq_true c3
          clear c3
          by_cases c4 : 0 ≤ x4_1
          · rw [if_pos c4] at H
            have c4b0 : decide (0 ≤ x4_1) = true := decide_eq_true c4
            clear c4
            obtain ⟨ji5, hji5⟩ : ∃ j_ : Int, (mn ((rdOf ByteArray.empty l0 x4_1).size : Int) 150) = j_ := ⟨_, rfl⟩
            replace H : (if 0 ≤ (ji5) then (if (ji5) ≤ ((rdOf ByteArray.empty l0 x4_1).size : Int) then (if x3_1.length < 8796093022208 then (aquiferlaw06_few.l0 k1 l0 (x3_1 ++ [(rdOf ByteArray.empty l0 x4_1).extract 0 ((ji5) : Int).toNat]) (wrap64 (x4_1 + 1))) else (none)) else (none)) else (none)) = some r := by first | (rw [hji5] at H; exact H) | (simp only [hji5] at H ⊢; exact H)
            have hji5_ : (if 150 < ((rdOf ByteArray.empty l0 x4_1).size : Int) then 150 else ((rdOf ByteArray.empty l0 x4_1).size : Int)) = ji5 := hji5
            by_cases c6 : 0 ≤ (ji5)
            · rw [if_pos c6] at H
              have c6b0 := eq_true c6
              have c6b1 : decide (0 ≤ (ji5)) = true := decide_eq_true c6
              clear c6
              by_cases c7 : (ji5) ≤ ((rdOf ByteArray.empty l0 x4_1).size : Int)
              · rw [if_pos c7] at H
                have c7b0 := eq_true c7
                have c7b1 : decide ((ji5) ≤ ((rdOf ByteArray.empty l0 x4_1).size : Int)) = true := decide_eq_true c7
                clear c7
                by_cases c8 : x3_1.length < 8796093022208
                · rw [if_pos c8] at H
                  have LMc8 := Aside0.mk c8
                  clear c8
                  obtain ⟨y103, hy103⟩ : ∃ y_ : List ByteArray, y_ = (x3_1 ++ [(rdOf ByteArray.empty l0 x4_1).extract 0 ((ji5) : Int).toNat]) := ⟨_, rfl⟩
                  replace H : (aquiferlaw06_few.l0 k1 l0 y103 (wrap64 (x4_1 + 1))) = some r := by first | (rw [hy103]; with_reducible exact H) | (have H2_ := (Option.bind_some _ _).symm.trans H; rw [hy103]; with_reducible exact H2_) | (have H2_ := (Option.bind_some _ _).symm.trans H; with_reducible exact H2_) | with_reducible exact H | (rw [hy103]; exact H) | exact H
                  have Ny103 := Aside0.mk hy103
                  clear hy103
                  have H' := Aside0.mk H
                  clear H
                  try go_wp2
                  have n0_ := Aside0.mk (Kd.R_drew HO_3.out)
                  have n1_ := Aside0.mk (below_drew1 HB.out)
                  clear HO_3
                  clear HB
                  have HO_3 := n0_
                  have HB := n1_
                  clear n0_ n1_
                  have p101 : 0 ≤ (x4_1 : Int) := of_decide_eq_true (by first | (with_reducible assumption) | assumption)
                  have q101 : x4_1 < (l0.length : Int) := of_decide_eq_true (by first | (with_reducible assumption) | assumption)
                  obtain ⟨ad101, e101, hx101_0⟩ := Kd.at_string HR0.out x4_1 p101 q101
                  have hw101_0 := hx101_0
                  cases e101
                  replace hx101_0 := (HB.out.cell (World.block_lt_of_cell? w _ hx101_0)).trans hx101_0
                  replace p101 := eq_true p101
                  replace q101 := eq_true q101
                  have p102 : 0 ≤ (x4_1 : Int) := of_decide_eq_true (by first | (with_reducible assumption) | assumption)
                  have q102 : x4_1 < (l0.length : Int) := of_decide_eq_true (by first | (with_reducible assumption) | assumption)
                  obtain ⟨ad102, e102, hx102_0⟩ := Kd.at_string HR0.out x4_1 p102 q102
                  have hw102_0 := hx102_0
                  obtain rfl : ad101 = ad102 := (by injection e102)
                  replace hx102_0 := (HB.out.cell (World.block_lt_of_cell? w _ hx102_0)).trans hx102_0
                  replace p102 := eq_true p102
                  replace q102 := eq_true q102
                  refine start_ (n := 15) (S := fun w' => w'.cell? (ad101.add (x4_1).toNat) = some (.string (rdOf ByteArray.empty l0 x4_1)) ∧ w'.cell? (ad101.add (x4_1).toNat) = some (.string (rdOf ByteArray.empty l0 x4_1))) (ds := []) #[false, false, false, false, false, false, false, false, false, false, false, false, false, false, false] (by kernel_rfl) rfl rfl ⟨((HB.out.cell (World.block_lt_of_cell? w _ hw101_0)).trans hw101_0), ((HB.out.cell (World.block_lt_of_cell? w _ hw102_0)).trans hw102_0)⟩ (fun hHeld => ?_); refine with_tabW aquiferlaw06_few.tab5 aquiferlaw06_few.bits5 (fun HT_ HW_ => ?_)
                  generalize wr.drew = w9 at HO_3 HB hx101_0 hx102_0 hHeld ⊢
                  refine pure_ (i := 0) (N := some 15) (v := ?_) (a' := ?_) #[true, false, false, false, false, false, false, false, false, false, false, false, false, false, false] rfl rfl (any_of HT_.out (by kernel_rfl)) (fun _ _ _ h => h) (Or.inl ⟨by rfl, ?_⟩) ?_ ?_
                  rotate_left
                  · intro w'
                    go_simp
                    with_reducible rfl
                  rotate_left
                  · simp only [Act.put, List.setIfInBounds_toArray, List.set_cons_zero, List.set_cons_succ, i64_w, i32_w]
                    rfl
                  refine pure_ (i := 1) (N := some 16) (v := ?_) (a' := ?_) #[true, true, false, false, false, false, false, false, false, false, false, false, false, false, false] rfl rfl (any_of HT_.out (by kernel_rfl)) (fun _ _ _ h => h) (Or.inl ⟨by rfl, ?_⟩) ?_ ?_
                  rotate_left
                  · intro w'
                    go_simp
                    with_reducible rfl
                  rotate_left
                  · simp only [Act.put, List.setIfInBounds_toArray, List.set_cons_zero, List.set_cons_succ, i64_w, i32_w]
                    rfl
                  refine pure_ (i := 2) (N := some 17) (v := ?_) (a' := ?_) #[true, true, true, false, false, false, false, false, false, false, false, false, false, false, false] rfl rfl (any_of HT_.out (by kernel_rfl)) (fun _ _ _ h => h) (Or.inl ⟨by rfl, ?_⟩) ?_ ?_
                  rotate_left
                  · intro w'
                    go_simp
                    with_reducible rfl
                  rotate_left
                  · simp only [Act.put, List.setIfInBounds_toArray, List.set_cons_zero, List.set_cons_succ, i64_w, i32_w]
                    rfl
                  refine pure_ (i := 3) (N := some 18) (v := ?_) (a' := ?_) #[true, true, true, true, false, false, false, false, false, false, false, false, false, false, false] rfl rfl (any_of HT_.out (by kernel_rfl)) (fun _ _ _ h => h) (Or.inl ⟨by rfl, ?_⟩) ?_ ?_
                  rotate_left
                  · intro w'
                    go_simp
                    with_reducible rfl
                  rotate_left
                  · simp only [Act.put, List.setIfInBounds_toArray, List.set_cons_zero, List.set_cons_succ, i64_w, i32_w]
                    rfl
                  refine pure_ (i := 5) (N := some 20) (v := ?_) (a' := ?_) #[true, true, true, true, false, true, false, false, false, false, false, false, false, false, false] rfl rfl (any_of HT_.out (by kernel_rfl)) (fun _ _ _ h => h) (Or.inl ⟨by rfl, ?_⟩) ?_ ?_
                  rotate_left
                  · intro w'
                    go_simp
                    with_reducible rfl
                  rotate_left
                  · simp only [Act.put, List.setIfInBounds_toArray, List.set_cons_zero, List.set_cons_succ, i64_w, i32_w]
                    rfl
                  refine pure_ (i := 6) (N := some 21) (v := ?_) (a' := ?_) #[true, true, true, true, false, true, true, false, false, false, false, false, false, false, false] rfl rfl (any_of HT_.out (by kernel_rfl)) (fun _ _ _ h => h) (Or.inl ⟨by rfl, ?_⟩) ?_ ?_
                  rotate_left
                  · intro w'
                    go_simp
                    with_reducible rfl
                  rotate_left
                  · simp only [Act.put, List.setIfInBounds_toArray, List.set_cons_zero, List.set_cons_succ, i64_w, i32_w]
                    rfl
                  refine pure_ (i := 7) (N := some 22) (v := ?_) (a' := ?_) #[true, true, true, true, false, true, true, true, false, false, false, false, false, false, false] rfl rfl (any_of HT_.out (by kernel_rfl)) (fun _ _ _ h => h) (Or.inl ⟨by rfl, ?_⟩) ?_ ?_
                  rotate_left
                  · intro w'
                    go_simp
                    with_reducible rfl
                  rotate_left
                  · simp only [Act.put, List.setIfInBounds_toArray, List.set_cons_zero, List.set_cons_succ, i64_w, i32_w]
                    rfl
                  refine take_ (i := 4) (N := some 19) (v := ?_) (a' := ?_) #[true, true, true, true, true, true, true, true, false, false, false, false, false, false, false] rfl rfl (take_ofW HT_.out HW_.out (by kernel_rfl)) (fun _ _ _ h => h) (Or.inl ⟨by rfl, ?_⟩) hHeld ?_ ?_
                  rotate_left
                  · rintro w' ⟨s0, s1⟩
                    go_simp
                    with_reducible rfl
                  rotate_left
                  · simp only [Act.put, List.setIfInBounds_toArray, List.set_cons_zero, List.set_cons_succ, i64_w, i32_w]
                    rfl
                  refine take_ (i := 8) (N := some 23) (v := ?_) (a' := ?_) #[true, true, true, true, true, true, true, true, true, false, false, false, false, false, false] rfl rfl (take_ofW HT_.out HW_.out (by kernel_rfl)) (fun _ _ _ h => h) (Or.inl ⟨by rfl, ?_⟩) hHeld ?_ ?_
                  rotate_left
                  · rintro w' ⟨s0, s1⟩
                    go_simp
                    with_reducible rfl
                  rotate_left
                  · simp only [Act.put, List.setIfInBounds_toArray, List.set_cons_zero, List.set_cons_succ, i64_w, i32_w]
                    rfl
                  refine pure_ (i := 9) (N := some 24) (v := ?_) (a' := ?_) #[true, true, true, true, true, true, true, true, true, true, false, false, false, false, false] rfl rfl (any_of HT_.out (by kernel_rfl)) (fun _ _ _ h => h) (Or.inl ⟨by rfl, ?_⟩) ?_ ?_
                  rotate_left
                  · intro w'
                    go_simp
                    with_reducible rfl
                  rotate_left
                  · simp only [Act.put, List.setIfInBounds_toArray, List.set_cons_zero, List.set_cons_succ, i64_w, i32_w]
                    rfl
                  refine pure_ (i := 10) (N := some 25) (v := ?_) (a' := ?_) #[true, true, true, true, true, true, true, true, true, true, true, false, false, false, false] rfl rfl (any_of HT_.out (by kernel_rfl)) (fun _ _ _ h => h) (Or.inl ⟨by rfl, ?_⟩) ?_ ?_
                  rotate_left
                  · intro w'
                    go_simp
                    with_reducible rfl
                  rotate_left
                  · simp only [Act.put, List.setIfInBounds_toArray, List.set_cons_zero, List.set_cons_succ, i64_w, i32_w]
                    rfl
                  refine pure_ (i := 11) (N := some 26) (v := ?_) (a' := ?_) #[true, true, true, true, true, true, true, true, true, true, true, true, false, false, false] rfl rfl (any_of HT_.out (by kernel_rfl)) (fun _ _ _ h => h) (Or.inl ⟨by rfl, ?_⟩) ?_ ?_
                  rotate_left
                  · intro w'
                    go_simp
                    with_reducible rfl
                  rotate_left
                  · simp only [Act.put, List.setIfInBounds_toArray, List.set_cons_zero, List.set_cons_succ, i64_w, i32_w]
                    rfl
                  refine one_ (i := 12) (N := some 27) #[true, true, true, true, true, true, true, true, true, true, true, true, true, false, false] rfl rfl (one_of HT_.out (by kernel_rfl)) (by decide) (fun K hK => ?_)
                  refine value_ (w1 := ?_) (v := ?_) (by rfl) rfl ?_ ?_
                  rotate_left 2
                  · go_simp
                    constructor
                    · rfl
                    · rfl
                  refine hK.out _ _ ⟨(World.cell?_alloc_lt _ _ _ (World.block_lt_of_cell? _ _ (((HB.out.cell (World.block_lt_of_cell? w _ hw101_0)).trans hw101_0)))).trans (((HB.out.cell (World.block_lt_of_cell? w _ hw101_0)).trans hw101_0)), (World.cell?_alloc_lt _ _ _ (World.block_lt_of_cell? _ _ (((HB.out.cell (World.block_lt_of_cell? w _ hw102_0)).trans hw102_0)))).trans (((HB.out.cell (World.block_lt_of_cell? w _ hw102_0)).trans hw102_0))⟩ (fun hHeld => ?_)
                  clear hK K
                  refine norm_ (a' := ?_) ?_ ?_
                  rotate_left
                  · show Act.put _ (some 27) _ = _
                    simp only [Act.put, List.setIfInBounds_toArray, List.set_cons_zero, List.set_cons_succ, i64_w, i32_w]
                    rfl
                  refine one_ (i := 13) (N := some 28) #[true, true, true, true, true, true, true, true, true, true, true, true, true, true, false] rfl rfl (one_of HT_.out (by kernel_rfl)) (by decide) (fun K hK => ?_)
                  refine Kd.R_append_step Kd.string (w0 := w) w.heap.size (by rfl) (.tmp 15) (.tmp 27) 22 9 (.string ⟨#[]⟩) 16 rfl Tryd.underlying22 info9 rfl (by decide) (by omega) u3 x3_1 ((rdOf ByteArray.empty l0 x4_1).extract 0 ((ji5) : Int).toNat) [.string ((rdOf ByteArray.empty l0 x4_1).extract 0 ((ji5) : Int).toNat)] (fun _ => True) (fun _ => False) rfl rfl ?aP (fun _ hk => hk.elim) ?aF ?aO ?aB ?aS ?aL ?_
                  (case aP => exact rfl)
                  (case aB => exact (belU HB.out))
                  (case aF => exact (fun _ _ => trivial))
                  (case aO => exact (RU HO_3.out))
                  (case aS => exact (sizU HB.out))
                  (case aL => have := LMc8.out; omega)
                  intro v104 w10 ho hb hg hat
                  rw [← Ny103.out] at ho
                  have n0_ := Aside0.mk (hb)
                  have n1_ := Aside0.mk (ho)
                  clear HB
                  clear HO_3
                  have HB := n0_
                  have HO105 := n1_
                  clear n0_ n1_
                  clear ho hb hg hat
                  refine hK.out _ _ ⟨((HB.out.cell (World.block_lt_of_cell? w _ hw101_0)).trans hw101_0), ((HB.out.cell (World.block_lt_of_cell? w _ hw102_0)).trans hw102_0)⟩ (fun hHeld => ?_)
                  clear hK K
                  refine norm_ (a' := ?_) ?_ ?_
                  rotate_left
                  · show Act.put _ (some 28) _ = _
                    simp only [Act.put, List.setIfInBounds_toArray, List.set_cons_zero, List.set_cons_succ, i64_w, i32_w]
                    rfl
                  refine pure_ (i := 14) (N := some 3) (v := ?_) (a' := ?_) #[true, true, true, true, true, true, true, true, true, true, true, true, true, true, true] rfl rfl (any_of HT_.out (by kernel_rfl)) (fun _ _ _ h => h) (Or.inl ⟨by rfl, ?_⟩) ?_ ?_
                  rotate_left
                  · intro w'
                    go_simp
                    with_reducible rfl
                  rotate_left
                  · simp only [Act.put, List.setIfInBounds_toArray, List.set_cons_zero, List.set_cons_succ, i64_w, i32_w]
                    rfl
                  refine done_ (done_of HT_.out (by kernel_rfl)) ?_
                  try go_wp2
                  go_roundg k1
                  case measure => have := HK1.out; omega
                  case rel => exact ⟨(y103), (wrap64 (x4_1 + 1)), (by first | rfl | (simp; done) | (simp [*]; done)), H', ⟨by have := HK1.out; omega⟩, ⟨RU HO105.out⟩, ⟨belU HB.out⟩⟩
                · rw [if_neg c8] at H
                  exact absurd H (by simp)
              · rw [if_neg c7] at H
                exact absurd H (by simp)
            · rw [if_neg c6] at H
              exact absurd H (by simp)
          · rw [if_neg c4] at H
            exact absurd H (by simp)
        · rw [if_neg c3] at H
          have c3b0 : decide (x4_1 < 20) = false := decide_eq_false c3
          clear c3
          obtain rfl := Option.some.inj H
          go_wp2
          go_ret
          exact ⟨_, by first | rfl | (simp [errW_none, errW_some] <;> rfl) | (simp [*, errW_none, errW_some] <;> rfl), by (with_reducible repeat (first | apply Kd.R_alloc | apply Kd.R_drewN | apply Kd.R_drew)); exact HO_3.out, belU HB.out⟩
      · rw [if_neg c2] at H
        have c2b0 : decide (x4_1 < (l0.length : Int)) = false := decide_eq_false c2
        clear c2
        obtain rfl := Option.some.inj H
        go_wp2
        go_ret
        exact ⟨_, by first | rfl | (simp [errW_none, errW_some] <;> rfl) | (simp [*, errW_none, errW_some] <;> rfl), by (with_reducible repeat (first | apply Kd.R_alloc | apply Kd.R_drewN | apply Kd.R_drew)); exact HO_3.out, belU HB.out⟩

end Go.Proofs.YtkflalaocnghcaaDoor.Q

namespace Go.Proofs.YtkflalaocnghcaaDoor.Q
open Go.RowKit Go.Proofs.YtkflalaocnghcaaDoorW.PrintWords Go.Proofs.YtkflalaocnghcaaDoorW.PrintLast Go.Proofs.YtkflalaocnghcaaDoorW.PrintMore Go.Proofs.YtkflalaocnghcaaDoorK
attribute [local go_sem] max2_int min2_int max_two min_two max_three min_three max_four min_four   -- for this text's walks alone
attribute [local go_sem ↓] Go.Proofs.YtkflalaocnghcaaDoorK.isSome_setCell
set_option linter.unusedVariables false
set_option linter.unusedSimpArgs false

/-! ### aquiferlaw06_works: function 15 -/
def aquiferlaw06_works.f (k : Nat)  : Option (Bool) := (scope_Make.f k (([(⟨#[98]⟩ : ByteArray), (⟨#[97, 47, 99]⟩ : ByteArray), (⟨#[97]⟩ : ByteArray)] : List ByteArray))).bind fun bt211 => ((aquiferref05_SameTexts.f k bt211.1 (([(⟨#[97]⟩ : ByteArray), (⟨#[98]⟩ : ByteArray)] : List ByteArray))).bind fun t218 => (if t218 = true then (if bt211.2 = 0 then ((scope_Has.f bt211.1 (⟨#[97, 47, 99, 47, 100, 46, 116, 120, 116]⟩ : ByteArray)).bind fun t219 => (if t219 = true then ((scope_Meet.f k bt211.1 (([(⟨#[97, 47, 120]⟩ : ByteArray), (⟨#[99]⟩ : ByteArray)] : List ByteArray))).bind fun t223 => ((aquiferref05_SameTexts.f k t223 (([(⟨#[97, 47, 120]⟩ : ByteArray)] : List ByteArray))).bind fun t229 => (some t229))) else (some false))) else (some false)) else (some false)))
theorem aquiferlaw06_works.mono : ∀ k, LeO (aquiferlaw06_works.f k ) (aquiferlaw06_works.f (k + 1) ) := by
  intro  k
  unfold aquiferlaw06_works.f
  repeat' first
      | (with_reducible exact aquiferref05_SameTexts.mono _ _ _)
      | (with_reducible exact scope_Make.mono _ _)
      | (with_reducible exact scope_Meet.mono _ _ _)
      | (with_reducible exact LeO.refl _)
      | (with_reducible exact LeO.none _)
      | (with_reducible refine LeO.ite ?_ ?_)
      | (with_reducible refine LeO.bind ?_ (fun _ => ?_))
      | exact aquiferref05_SameTexts.mono _ _ _
      | exact scope_Make.mono _ _
      | exact scope_Meet.mono _ _ _
      | exact LeO.none _
      | refine LeO.ite ?_ ?_
      | refine LeO.bind ?_ (fun _ => ?_)
set_option maxHeartbeats 8000000 in
set_option maxRecDepth 100000 in
theorem aquiferlaw06_works.calls (k : Nat)  (r : Bool) (w : World) (h : aquiferlaw06_works.f k  = some r) :
    Calls Tryd.prog 15 #[] w fun e w' => e = .returned (.bool r) ∧ Below w.heap.size w w' := by
  have HB := Aside0.mk (Below.refl w.heap.size w)
  have H : ((scope_Make.f k (([(⟨#[98]⟩ : ByteArray), (⟨#[97, 47, 99]⟩ : ByteArray), (⟨#[97]⟩ : ByteArray)] : List ByteArray))).bind fun bt211 => ((aquiferref05_SameTexts.f k bt211.1 (([(⟨#[97]⟩ : ByteArray), (⟨#[98]⟩ : ByteArray)] : List ByteArray))).bind fun t218 => (if t218 = true then (if bt211.2 = 0 then ((scope_Has.f bt211.1 (⟨#[97, 47, 99, 47, 100, 46, 116, 120, 116]⟩ : ByteArray)).bind fun t219 => (if t219 = true then ((scope_Meet.f k bt211.1 (([(⟨#[97, 47, 120]⟩ : ByteArray), (⟨#[99]⟩ : ByteArray)] : List ByteArray))).bind fun t223 => ((aquiferref05_SameTexts.f k t223 (([(⟨#[97, 47, 120]⟩ : ByteArray)] : List ByteArray))).bind fun t229 => (some t229))) else (some false))) else (some false)) else (some false)))) = some r := h
  clear h
  obtain ⟨y208, hy208⟩ : ∃ y_ : List ByteArray, y_ = (([(⟨#[98]⟩ : ByteArray), (⟨#[97, 47, 99]⟩ : ByteArray), (⟨#[97]⟩ : ByteArray)] : List ByteArray)) := ⟨_, rfl⟩
  replace H : ((scope_Make.f k y208).bind fun bt211 => ((aquiferref05_SameTexts.f k bt211.1 (([(⟨#[97]⟩ : ByteArray), (⟨#[98]⟩ : ByteArray)] : List ByteArray))).bind fun t218 => (if t218 = true then (if bt211.2 = 0 then ((scope_Has.f bt211.1 (⟨#[97, 47, 99, 47, 100, 46, 116, 120, 116]⟩ : ByteArray)).bind fun t219 => (if t219 = true then ((scope_Meet.f k bt211.1 (([(⟨#[97, 47, 120]⟩ : ByteArray), (⟨#[99]⟩ : ByteArray)] : List ByteArray))).bind fun t223 => ((aquiferref05_SameTexts.f k t223 (([(⟨#[97, 47, 120]⟩ : ByteArray)] : List ByteArray))).bind fun t229 => (some t229))) else (some false))) else (some false)) else (some false)))) = some r := by first | (rw [hy208]; with_reducible exact H) | (have H2_ := (Option.bind_some _ _).symm.trans H; rw [hy208]; with_reducible exact H2_) | (have H2_ := (Option.bind_some _ _).symm.trans H; with_reducible exact H2_) | with_reducible exact H | (rw [hy208]; exact H) | exact H
  have Ny208 := Aside0.mk hy208
  clear hy208
  replace H := Option.bind_eq_some_iff.mp H
  obtain ⟨⟨t211, t212⟩, A10, H⟩ := H
  replace H : ((aquiferref05_SameTexts.f k t211 (([(⟨#[97]⟩ : ByteArray), (⟨#[98]⟩ : ByteArray)] : List ByteArray))).bind fun t218 => (if t218 = true then (if t212 = 0 then ((scope_Has.f t211 (⟨#[97, 47, 99, 47, 100, 46, 116, 120, 116]⟩ : ByteArray)).bind fun t219 => (if t219 = true then ((scope_Meet.f k t211 (([(⟨#[97, 47, 120]⟩ : ByteArray), (⟨#[99]⟩ : ByteArray)] : List ByteArray))).bind fun t223 => ((aquiferref05_SameTexts.f k t223 (([(⟨#[97, 47, 120]⟩ : ByteArray)] : List ByteArray))).bind fun t229 => (some t229))) else (some false))) else (some false)) else (some false))) = some r := H
  have A1 := Aside0.mk A10
  clear A10
  obtain ⟨y215, hy215⟩ : ∃ y_ : List ByteArray, y_ = (([(⟨#[97]⟩ : ByteArray), (⟨#[98]⟩ : ByteArray)] : List ByteArray)) := ⟨_, rfl⟩
  replace H : ((aquiferref05_SameTexts.f k t211 y215).bind fun t218 => (if t218 = true then (if t212 = 0 then ((scope_Has.f t211 (⟨#[97, 47, 99, 47, 100, 46, 116, 120, 116]⟩ : ByteArray)).bind fun t219 => (if t219 = true then ((scope_Meet.f k t211 (([(⟨#[97, 47, 120]⟩ : ByteArray), (⟨#[99]⟩ : ByteArray)] : List ByteArray))).bind fun t223 => ((aquiferref05_SameTexts.f k t223 (([(⟨#[97, 47, 120]⟩ : ByteArray)] : List ByteArray))).bind fun t229 => (some t229))) else (some false))) else (some false)) else (some false))) = some r := by first | (rw [hy215]; with_reducible exact H) | (have H2_ := (Option.bind_some _ _).symm.trans H; rw [hy215]; with_reducible exact H2_) | (have H2_ := (Option.bind_some _ _).symm.trans H; with_reducible exact H2_) | with_reducible exact H | (rw [hy215]; exact H) | exact H
  have Ny215 := Aside0.mk hy215
  clear hy215
  replace H := Option.bind_eq_some_iff.mp H
  obtain ⟨t218, A20, H⟩ := H
  replace H : (if t218 = true then (if t212 = 0 then ((scope_Has.f t211 (⟨#[97, 47, 99, 47, 100, 46, 116, 120, 116]⟩ : ByteArray)).bind fun t219 => (if t219 = true then ((scope_Meet.f k t211 (([(⟨#[97, 47, 120]⟩ : ByteArray), (⟨#[99]⟩ : ByteArray)] : List ByteArray))).bind fun t223 => ((aquiferref05_SameTexts.f k t223 (([(⟨#[97, 47, 120]⟩ : ByteArray)] : List ByteArray))).bind fun t229 => (some t229))) else (some false))) else (some false)) else (some false)) = some r := H
  have A2 := Aside0.mk A20
  clear A20
  by_cases c3 : t218 = true
  · subst c3
    have H1 : (if t212 = 0 then ((scope_Has.f t211 (⟨#[97, 47, 99, 47, 100, 46, 116, 120, 116]⟩ : ByteArray)).bind fun t219 => (if t219 = true then ((scope_Meet.f k t211 (([(⟨#[97, 47, 120]⟩ : ByteArray), (⟨#[99]⟩ : ByteArray)] : List ByteArray))).bind fun t223 => ((aquiferref05_SameTexts.f k t223 (([(⟨#[97, 47, 120]⟩ : ByteArray)] : List ByteArray))).bind fun t229 => (some t229))) else (some false))) else (some false)) = some r := by rw [if_pos rfl] at H; exact H
    clear H
    have H := H1
    clear H1
    by_cases c4 : t212 = 0
    · rw [if_pos c4] at H
      have c4b0 : (t212 == 0) = true := beq_iff_eq.mpr c4
      have c4b1 : (t212 != 0) = false := bne_eq_false_iff_eq.mpr c4
      clear c4
      replace H := Option.bind_eq_some_iff.mp H
      obtain ⟨t219, A50, H⟩ := H
      replace H : (if t219 = true then ((scope_Meet.f k t211 (([(⟨#[97, 47, 120]⟩ : ByteArray), (⟨#[99]⟩ : ByteArray)] : List ByteArray))).bind fun t223 => ((aquiferref05_SameTexts.f k t223 (([(⟨#[97, 47, 120]⟩ : ByteArray)] : List ByteArray))).bind fun t229 => (some t229))) else (some false)) = some r := H
      have A5 := Aside0.mk A50
      clear A50
      by_cases c6 : t219 = true
      · subst c6
        have H1 : ((scope_Meet.f k t211 (([(⟨#[97, 47, 120]⟩ : ByteArray), (⟨#[99]⟩ : ByteArray)] : List ByteArray))).bind fun t223 => ((aquiferref05_SameTexts.f k t223 (([(⟨#[97, 47, 120]⟩ : ByteArray)] : List ByteArray))).bind fun t229 => (some t229))) = some r := by rw [if_pos rfl] at H; exact H
        clear H
        have H := H1
        clear H1
        obtain ⟨y220, hy220⟩ : ∃ y_ : List ByteArray, y_ = (([(⟨#[97, 47, 120]⟩ : ByteArray), (⟨#[99]⟩ : ByteArray)] : List ByteArray)) := ⟨_, rfl⟩
        replace H : ((scope_Meet.f k t211 y220).bind fun t223 => ((aquiferref05_SameTexts.f k t223 (([(⟨#[97, 47, 120]⟩ : ByteArray)] : List ByteArray))).bind fun t229 => (some t229))) = some r := by first | (rw [hy220]; with_reducible exact H) | (have H2_ := (Option.bind_some _ _).symm.trans H; rw [hy220]; with_reducible exact H2_) | (have H2_ := (Option.bind_some _ _).symm.trans H; with_reducible exact H2_) | with_reducible exact H | (rw [hy220]; exact H) | exact H
        have Ny220 := Aside0.mk hy220
        clear hy220
        replace H := Option.bind_eq_some_iff.mp H
        obtain ⟨t223, A70, H⟩ := H
        replace H : ((aquiferref05_SameTexts.f k t223 (([(⟨#[97, 47, 120]⟩ : ByteArray)] : List ByteArray))).bind fun t229 => (some t229)) = some r := H
        have A7 := Aside0.mk A70
        clear A70
        obtain ⟨y226, hy226⟩ : ∃ y_ : List ByteArray, y_ = (([(⟨#[97, 47, 120]⟩ : ByteArray)] : List ByteArray)) := ⟨_, rfl⟩
        replace H : ((aquiferref05_SameTexts.f k t223 y226).bind fun t229 => (some t229)) = some r := by first | (rw [hy226]; with_reducible exact H) | (have H2_ := (Option.bind_some _ _).symm.trans H; rw [hy226]; with_reducible exact H2_) | (have H2_ := (Option.bind_some _ _).symm.trans H; with_reducible exact H2_) | with_reducible exact H | (rw [hy226]; exact H) | exact H
        have Ny226 := Aside0.mk hy226
        clear hy226
        replace H := Option.bind_eq_some_iff.mp H
        obtain ⟨t229, A80, H⟩ := H
        replace H : (some t229) = some r := H
        have A8 := Aside0.mk A80
        clear A80
        obtain rfl := Option.some.inj H
        go_enter Tryd.func15, Tryd.ntmps15
        go_wp2_with (first | ((with_reducible refine gate_dst (N := 4) rfl ?_); (try (refine gate_guard (by rfl) ?_; dsimp only)); refine Kd.R_lit Kd.string _ 9 ?hg (N := 4) ?hd (xs := ([(⟨#[98]⟩ : ByteArray), (⟨#[97, 47, 99]⟩ : ByteArray), (⟨#[97]⟩ : ByteArray)] : List ByteArray)) (inner := [.string (⟨#[98]⟩ : ByteArray), .string (⟨#[97, 47, 99]⟩ : ByteArray), .string (⟨#[97]⟩ : ByteArray)]) (ok := fun _ => True) (okp := fun _ => True) ?hr ?hp (fun _ hk => hk) trivial (Below.refl _ _) (Nat.le_refl _) (by simp) ?_; (case hd => rfl); (case hg => rfl); (case hr => first | (go_simp; done) | (go_simp; rfl)); (case hp => exact (Reps.one (show Kd.M Kd.string _ _ _ (⟨#[98]⟩ : ByteArray) [.string (⟨#[98]⟩ : ByteArray)] from rfl) (Reps.one (show Kd.M Kd.string _ _ _ (⟨#[97, 47, 99]⟩ : ByteArray) [.string (⟨#[97, 47, 99]⟩ : ByteArray)] from rfl) (Reps.one (show Kd.M Kd.string _ _ _ (⟨#[97]⟩ : ByteArray) [.string (⟨#[97]⟩ : ByteArray)] from rfl) (Reps.none _ _))))); intro v209 w9 ho10 hb hg_ hnew_; clear hg_ hnew_; (first | rw [← Ny208.out] at ho10 | (simp only [Int.reduceToNat] at ho10; rw [← Ny208.out] at ho10)); have n0_ := Aside0.mk (S_lower ho10 (sizU HB.out)); have n1_ := Aside0.mk (below_step (belU HB.out) hb); clear HB; have HO210 := n0_; have HB := n1_; clear n0_ n1_; clear hb ho10; obtain ⟨Ao11, co11, eo11⟩ := S_slice HO210.out; subst eo11) | ((with_reducible refine gate_callee (f := 10) rfl ?_); refine goesL_ (some 5) rfl rfl Tryd.func10 (by kernel_rfl) rfl #[.slice Ao11 y208.length co11] rfl (by (try simp only [List.map_toArray, List.map_cons, List.map_nil]); first | done | rfl | (simp only [List.length_drop, List.length_take]; rfl)) ?_; (with_reducible refine (scope_Make.calls k _ _ y208 t211 t212 _ ?side1 ?side2 A1.out).mono ?_); (case side1 => exact CU (S_reads' HO210.out).2.2); (case side2 => exact (S_reads' HO210.out).2.1); rintro e w12 ⟨v213, rfl, ho0, hb⟩; refine ⟨_, rfl, ?_⟩; have n0_ := Aside0.mk (S_elder' (SU HO210.out) (S_base ho0) hb); have n1_ := Aside0.mk (S_lower (S_new' ho0 (S_lt (SU HO210.out))) (sizU HB.out)); have n2_ := Aside0.mk (below_step (belU HB.out) hb); clear HO210; clear HB; have HO210 := n0_; have HO214 := n1_; have HB := n2_; clear n0_ n1_ n2_; (try clear hb); (try clear hb2); (try clear hk); (try clear hi); (try clear ho0)) | ((with_reducible refine gate_dst (N := 9) rfl ?_); (try (refine gate_guard (by rfl) ?_; dsimp only)); refine Kd.R_lit Kd.string _ 9 ?hg (N := 9) ?hd (xs := ([(⟨#[97]⟩ : ByteArray), (⟨#[98]⟩ : ByteArray)] : List ByteArray)) (inner := [.string (⟨#[97]⟩ : ByteArray), .string (⟨#[98]⟩ : ByteArray)]) (ok := fun _ => True) (okp := fun _ => True) ?hr ?hp (fun _ hk => hk) trivial (Below.refl _ _) (Nat.le_refl _) (by simp) ?_; (case hd => rfl); (case hg => rfl); (case hr => first | (go_simp; done) | (go_simp; rfl)); (case hp => exact (Reps.one (show Kd.M Kd.string _ _ _ (⟨#[97]⟩ : ByteArray) [.string (⟨#[97]⟩ : ByteArray)] from rfl) (Reps.one (show Kd.M Kd.string _ _ _ (⟨#[98]⟩ : ByteArray) [.string (⟨#[98]⟩ : ByteArray)] from rfl) (Reps.none _ _)))); intro v216 w13 ho14 hb hg_ hnew_; clear hg_ hnew_; (first | rw [← Ny215.out] at ho14 | (simp only [Int.reduceToNat] at ho14; rw [← Ny215.out] at ho14)); have n0_ := Aside0.mk (S_elder' (SU HO210.out) (S_base ho14) hb); have n1_ := Aside0.mk (S_elder' (SU HO214.out) (S_base ho14) hb); have n2_ := Aside0.mk (S_lower (S_new' (S_new' ho14 (S_lt (SU HO210.out))) (S_lt (SU HO214.out))) (sizU HB.out)); have n3_ := Aside0.mk (below_step (belU HB.out) hb); clear HO210; clear HO214; clear HB; have HO210 := n0_; have HO214 := n1_; have HO217 := n2_; have HB := n3_; clear n0_ n1_ n2_ n3_; clear hb ho14; obtain ⟨Ao15, co15, eo15⟩ := S_slice HO214.out; subst eo15; obtain ⟨Ao16, co16, eo16⟩ := S_slice HO217.out; subst eo16) | ((with_reducible refine gate_callee (f := 12) rfl ?_); refine goesL_ (some 10) rfl rfl Tryd.func12 (by kernel_rfl) rfl #[.slice Ao15 t211.length co15, .slice Ao16 y215.length co16] rfl (by (try simp only [List.map_toArray, List.map_cons, List.map_nil]); first | done | rfl | (simp only [List.length_drop, List.length_take]; rfl)) ?_; (with_reducible refine (aquiferref05_SameTexts.calls k _ _ t211 _ _ y215 true _ ?side1 ?side2 ?side3 ?side4 A2.out).mono ?_); (case side1 => exact CU (S_reads' HO214.out).2.2); (case side2 => exact (S_reads' HO214.out).2.1); (case side3 => exact CU (S_reads' HO217.out).2.2); (case side4 => exact (S_reads' HO217.out).2.1); rintro e w' ⟨rfl, ⟨nd, rfl⟩⟩; refine ⟨_, rfl, ?_⟩) | (go_at_call 16; (with_reducible refine (scope_Has.calls _ _ t211 (⟨#[97, 47, 99, 47, 100, 46, 116, 120, 116]⟩ : ByteArray) true _ ?side1 ?side2 A5.out).mono ?_); (case side1 => exact CU (S_reads' HO214.out).2.2); (case side2 => exact (S_reads' HO214.out).2.1); rintro e w17 ⟨rfl, hb⟩; have n0_ := Aside0.mk (S_below (SU HO210.out) hb); have n1_ := Aside0.mk (S_below (SU HO214.out) hb); have n2_ := Aside0.mk (S_below (SU HO217.out) hb); have n3_ := Aside0.mk (below_step (belU HB.out) hb); clear HO210; clear HO214; clear HO217; clear HB; have HO210 := n0_; have HO214 := n1_; have HO217 := n2_; have HB := n3_; clear n0_ n1_ n2_ n3_; (try clear hb); (try clear hb2); (try clear hk); (try clear hi)) | ((with_reducible refine gate_dst (N := 21) rfl ?_); (try (refine gate_guard (by rfl) ?_; dsimp only)); refine Kd.R_lit Kd.string _ 9 ?hg (N := 21) ?hd (xs := ([(⟨#[97, 47, 120]⟩ : ByteArray), (⟨#[99]⟩ : ByteArray)] : List ByteArray)) (inner := [.string (⟨#[97, 47, 120]⟩ : ByteArray), .string (⟨#[99]⟩ : ByteArray)]) (ok := fun _ => True) (okp := fun _ => True) ?hr ?hp (fun _ hk => hk) trivial (Below.refl _ _) (Nat.le_refl _) (by simp) ?_; (case hd => rfl); (case hg => rfl); (case hr => first | (go_simp; done) | (go_simp; rfl)); (case hp => exact (Reps.one (show Kd.M Kd.string _ _ _ (⟨#[97, 47, 120]⟩ : ByteArray) [.string (⟨#[97, 47, 120]⟩ : ByteArray)] from rfl) (Reps.one (show Kd.M Kd.string _ _ _ (⟨#[99]⟩ : ByteArray) [.string (⟨#[99]⟩ : ByteArray)] from rfl) (Reps.none _ _)))); intro v221 w18 ho19 hb hg_ hnew_; clear hg_ hnew_; (first | rw [← Ny220.out] at ho19 | (simp only [Int.reduceToNat] at ho19; rw [← Ny220.out] at ho19)); have n0_ := Aside0.mk (S_elder' (SU HO210.out) (S_base ho19) hb); have n1_ := Aside0.mk (S_elder' (SU HO214.out) (S_base ho19) hb); have n2_ := Aside0.mk (S_elder' (SU HO217.out) (S_base ho19) hb); have n3_ := Aside0.mk (S_lower (S_new' (S_new' (S_new' ho19 (S_lt (SU HO210.out))) (S_lt (SU HO214.out))) (S_lt (SU HO217.out))) (sizU HB.out)); have n4_ := Aside0.mk (below_step (belU HB.out) hb); clear HO210; clear HO214; clear HO217; clear HB; have HO210 := n0_; have HO214 := n1_; have HO217 := n2_; have HO222 := n3_; have HB := n4_; clear n0_ n1_ n2_ n3_ n4_; clear hb ho19; obtain ⟨Ao20, co20, eo20⟩ := S_slice HO222.out; subst eo20) | (go_at_call 22; (with_reducible refine (scope_Meet.calls k _ _ t211 _ _ y220 t223 _ ?side1 ?side2 ?side3 ?side4 A7.out).mono ?_); (case side1 => exact CU (S_reads' HO214.out).2.2); (case side2 => exact (S_reads' HO214.out).2.1); (case side3 => exact CU (S_reads' HO222.out).2.2); (case side4 => exact (S_reads' HO222.out).2.1); rintro e w21 ⟨v224, rfl, ho0, hb⟩; have n0_ := Aside0.mk (S_elder' (SU HO210.out) (S_base ho0) hb); have n1_ := Aside0.mk (S_elder' (SU HO214.out) (S_base ho0) hb); have n2_ := Aside0.mk (S_elder' (SU HO217.out) (S_base ho0) hb); have n3_ := Aside0.mk (S_elder' (SU HO222.out) (S_base ho0) hb); have n4_ := Aside0.mk (S_lower (S_new' (S_new' (S_new' (S_new' ho0 (S_lt (SU HO210.out))) (S_lt (SU HO214.out))) (S_lt (SU HO217.out))) (S_lt (SU HO222.out))) (sizU HB.out)); have n5_ := Aside0.mk (below_step (belU HB.out) hb); clear HO210; clear HO214; clear HO217; clear HO222; clear HB; have HO210 := n0_; have HO214 := n1_; have HO217 := n2_; have HO222 := n3_; have HO225 := n4_; have HB := n5_; clear n0_ n1_ n2_ n3_ n4_ n5_; (try clear hb); (try clear hb2); (try clear hk); (try clear hi); (try clear ho0)) | ((with_reducible refine gate_dst (N := 23) rfl ?_); (try (refine gate_guard (by rfl) ?_; dsimp only)); refine Kd.R_lit Kd.string _ 9 ?hg (N := 23) ?hd (xs := ([(⟨#[97, 47, 120]⟩ : ByteArray)] : List ByteArray)) (inner := [.string (⟨#[97, 47, 120]⟩ : ByteArray)]) (ok := fun _ => True) (okp := fun _ => True) ?hr ?hp (fun _ hk => hk) trivial (Below.refl _ _) (Nat.le_refl _) (by simp) ?_; (case hd => rfl); (case hg => rfl); (case hr => first | (go_simp; done) | (go_simp; rfl)); (case hp => exact (Reps.one (show Kd.M Kd.string _ _ _ (⟨#[97, 47, 120]⟩ : ByteArray) [.string (⟨#[97, 47, 120]⟩ : ByteArray)] from rfl) (Reps.none _ _))); intro v227 w22 ho23 hb hg_ hnew_; clear hg_ hnew_; (first | rw [← Ny226.out] at ho23 | (simp only [Int.reduceToNat] at ho23; rw [← Ny226.out] at ho23)); have n0_ := Aside0.mk (S_elder' (SU HO210.out) (S_base ho23) hb); have n1_ := Aside0.mk (S_elder' (SU HO214.out) (S_base ho23) hb); have n2_ := Aside0.mk (S_elder' (SU HO217.out) (S_base ho23) hb); have n3_ := Aside0.mk (S_elder' (SU HO222.out) (S_base ho23) hb); have n4_ := Aside0.mk (S_elder' (SU HO225.out) (S_base ho23) hb); have n5_ := Aside0.mk (S_lower (S_new' (S_new' (S_new' (S_new' (S_new' ho23 (S_lt (SU HO210.out))) (S_lt (SU HO214.out))) (S_lt (SU HO217.out))) (S_lt (SU HO222.out))) (S_lt (SU HO225.out))) (sizU HB.out)); have n6_ := Aside0.mk (below_step (belU HB.out) hb); clear HO210; clear HO214; clear HO217; clear HO222; clear HO225; clear HB; have HO210 := n0_; have HO214 := n1_; have HO217 := n2_; have HO222 := n3_; have HO225 := n4_; have HO228 := n5_; have HB := n6_; clear n0_ n1_ n2_ n3_ n4_ n5_ n6_; clear hb ho23; obtain ⟨Ao24, co24, eo24⟩ := S_slice HO225.out; subst eo24; obtain ⟨Ao25, co25, eo25⟩ := S_slice HO228.out; subst eo25) | (go_at_call 12; (with_reducible refine (aquiferref05_SameTexts.calls k _ _ t223 _ _ y226 t229 _ ?side1 ?side2 ?side3 ?side4 A8.out).mono ?_); (case side1 => exact CU (S_reads' HO225.out).2.2); (case side2 => exact (S_reads' HO225.out).2.1); (case side3 => exact CU (S_reads' HO228.out).2.2); (case side4 => exact (S_reads' HO228.out).2.1); rintro e w' ⟨rfl, ⟨nd, rfl⟩⟩))
        go_ret
        exact ⟨by first | rfl | (simp [errW_none, errW_some] <;> rfl) | (simp [*, errW_none, errW_some] <;> rfl), belU HB.out⟩
      · replace c6 := Bool.eq_false_iff.mpr c6
        subst c6
        have H1 : (some false) = some r := by rw [if_neg (show ¬ (false = true) by decide)] at H; exact H
        clear H
        have H := H1
        clear H1
        obtain rfl := Option.some.inj H
        go_enter Tryd.func15, Tryd.ntmps15
        go_wp2_with (first | ((with_reducible refine gate_dst (N := 4) rfl ?_); (try (refine gate_guard (by rfl) ?_; dsimp only)); refine Kd.R_lit Kd.string _ 9 ?hg (N := 4) ?hd (xs := ([(⟨#[98]⟩ : ByteArray), (⟨#[97, 47, 99]⟩ : ByteArray), (⟨#[97]⟩ : ByteArray)] : List ByteArray)) (inner := [.string (⟨#[98]⟩ : ByteArray), .string (⟨#[97, 47, 99]⟩ : ByteArray), .string (⟨#[97]⟩ : ByteArray)]) (ok := fun _ => True) (okp := fun _ => True) ?hr ?hp (fun _ hk => hk) trivial (Below.refl _ _) (Nat.le_refl _) (by simp) ?_; (case hd => rfl); (case hg => rfl); (case hr => first | (go_simp; done) | (go_simp; rfl)); (case hp => exact (Reps.one (show Kd.M Kd.string _ _ _ (⟨#[98]⟩ : ByteArray) [.string (⟨#[98]⟩ : ByteArray)] from rfl) (Reps.one (show Kd.M Kd.string _ _ _ (⟨#[97, 47, 99]⟩ : ByteArray) [.string (⟨#[97, 47, 99]⟩ : ByteArray)] from rfl) (Reps.one (show Kd.M Kd.string _ _ _ (⟨#[97]⟩ : ByteArray) [.string (⟨#[97]⟩ : ByteArray)] from rfl) (Reps.none _ _))))); intro v209 w26 ho27 hb hg_ hnew_; clear hg_ hnew_; (first | rw [← Ny208.out] at ho27 | (simp only [Int.reduceToNat] at ho27; rw [← Ny208.out] at ho27)); have n0_ := Aside0.mk (S_lower ho27 (sizU HB.out)); have n1_ := Aside0.mk (below_step (belU HB.out) hb); clear HB; have HO210 := n0_; have HB := n1_; clear n0_ n1_; clear hb ho27; obtain ⟨Ao28, co28, eo28⟩ := S_slice HO210.out; subst eo28) | ((with_reducible refine gate_callee (f := 10) rfl ?_); refine goesL_ (some 5) rfl rfl Tryd.func10 (by kernel_rfl) rfl #[.slice Ao28 y208.length co28] rfl (by (try simp only [List.map_toArray, List.map_cons, List.map_nil]); first | done | rfl | (simp only [List.length_drop, List.length_take]; rfl)) ?_; (with_reducible refine (scope_Make.calls k _ _ y208 t211 t212 _ ?side1 ?side2 A1.out).mono ?_); (case side1 => exact CU (S_reads' HO210.out).2.2); (case side2 => exact (S_reads' HO210.out).2.1); rintro e w29 ⟨v213, rfl, ho0, hb⟩; refine ⟨_, rfl, ?_⟩; have n0_ := Aside0.mk (S_elder' (SU HO210.out) (S_base ho0) hb); have n1_ := Aside0.mk (S_lower (S_new' ho0 (S_lt (SU HO210.out))) (sizU HB.out)); have n2_ := Aside0.mk (below_step (belU HB.out) hb); clear HO210; clear HB; have HO210 := n0_; have HO214 := n1_; have HB := n2_; clear n0_ n1_ n2_; (try clear hb); (try clear hb2); (try clear hk); (try clear hi); (try clear ho0)) | ((with_reducible refine gate_dst (N := 9) rfl ?_); (try (refine gate_guard (by rfl) ?_; dsimp only)); refine Kd.R_lit Kd.string _ 9 ?hg (N := 9) ?hd (xs := ([(⟨#[97]⟩ : ByteArray), (⟨#[98]⟩ : ByteArray)] : List ByteArray)) (inner := [.string (⟨#[97]⟩ : ByteArray), .string (⟨#[98]⟩ : ByteArray)]) (ok := fun _ => True) (okp := fun _ => True) ?hr ?hp (fun _ hk => hk) trivial (Below.refl _ _) (Nat.le_refl _) (by simp) ?_; (case hd => rfl); (case hg => rfl); (case hr => first | (go_simp; done) | (go_simp; rfl)); (case hp => exact (Reps.one (show Kd.M Kd.string _ _ _ (⟨#[97]⟩ : ByteArray) [.string (⟨#[97]⟩ : ByteArray)] from rfl) (Reps.one (show Kd.M Kd.string _ _ _ (⟨#[98]⟩ : ByteArray) [.string (⟨#[98]⟩ : ByteArray)] from rfl) (Reps.none _ _)))); intro v216 w30 ho31 hb hg_ hnew_; clear hg_ hnew_; (first | rw [← Ny215.out] at ho31 | (simp only [Int.reduceToNat] at ho31; rw [← Ny215.out] at ho31)); have n0_ := Aside0.mk (S_elder' (SU HO210.out) (S_base ho31) hb); have n1_ := Aside0.mk (S_elder' (SU HO214.out) (S_base ho31) hb); have n2_ := Aside0.mk (S_lower (S_new' (S_new' ho31 (S_lt (SU HO210.out))) (S_lt (SU HO214.out))) (sizU HB.out)); have n3_ := Aside0.mk (below_step (belU HB.out) hb); clear HO210; clear HO214; clear HB; have HO210 := n0_; have HO214 := n1_; have HO217 := n2_; have HB := n3_; clear n0_ n1_ n2_ n3_; clear hb ho31; obtain ⟨Ao32, co32, eo32⟩ := S_slice HO214.out; subst eo32; obtain ⟨Ao33, co33, eo33⟩ := S_slice HO217.out; subst eo33) | ((with_reducible refine gate_callee (f := 12) rfl ?_); refine goesL_ (some 10) rfl rfl Tryd.func12 (by kernel_rfl) rfl #[.slice Ao32 t211.length co32, .slice Ao33 y215.length co33] rfl (by (try simp only [List.map_toArray, List.map_cons, List.map_nil]); first | done | rfl | (simp only [List.length_drop, List.length_take]; rfl)) ?_; (with_reducible refine (aquiferref05_SameTexts.calls k _ _ t211 _ _ y215 true _ ?side1 ?side2 ?side3 ?side4 A2.out).mono ?_); (case side1 => exact CU (S_reads' HO214.out).2.2); (case side2 => exact (S_reads' HO214.out).2.1); (case side3 => exact CU (S_reads' HO217.out).2.2); (case side4 => exact (S_reads' HO217.out).2.1); rintro e w' ⟨rfl, ⟨nd, rfl⟩⟩; refine ⟨_, rfl, ?_⟩) | (go_at_call 16; (with_reducible refine (scope_Has.calls _ _ t211 (⟨#[97, 47, 99, 47, 100, 46, 116, 120, 116]⟩ : ByteArray) false _ ?side1 ?side2 A5.out).mono ?_); (case side1 => exact CU (S_reads' HO214.out).2.2); (case side2 => exact (S_reads' HO214.out).2.1); rintro e w34 ⟨rfl, hb⟩; have n0_ := Aside0.mk (S_below (SU HO210.out) hb); have n1_ := Aside0.mk (S_below (SU HO214.out) hb); have n2_ := Aside0.mk (S_below (SU HO217.out) hb); have n3_ := Aside0.mk (below_step (belU HB.out) hb); clear HO210; clear HO214; clear HO217; clear HB; have HO210 := n0_; have HO214 := n1_; have HO217 := n2_; have HB := n3_; clear n0_ n1_ n2_ n3_; (try clear hb); (try clear hb2); (try clear hk); (try clear hi)))
        go_ret
        exact ⟨by first | rfl | (simp [errW_none, errW_some] <;> rfl) | (simp [*, errW_none, errW_some] <;> rfl), belU HB.out⟩
    · rw [if_neg c4] at H
      have c4b0 : (t212 == 0) = false := beq_eq_false_iff_ne.mpr c4
      have c4b1 : (t212 != 0) = true := bne_iff_ne.mpr c4
      obtain rfl := Option.some.inj H
      go_enter Tryd.func15, Tryd.ntmps15
      go_wp2_with (first | ((with_reducible refine gate_dst (N := 4) rfl ?_); (try (refine gate_guard (by rfl) ?_; dsimp only)); refine Kd.R_lit Kd.string _ 9 ?hg (N := 4) ?hd (xs := ([(⟨#[98]⟩ : ByteArray), (⟨#[97, 47, 99]⟩ : ByteArray), (⟨#[97]⟩ : ByteArray)] : List ByteArray)) (inner := [.string (⟨#[98]⟩ : ByteArray), .string (⟨#[97, 47, 99]⟩ : ByteArray), .string (⟨#[97]⟩ : ByteArray)]) (ok := fun _ => True) (okp := fun _ => True) ?hr ?hp (fun _ hk => hk) trivial (Below.refl _ _) (Nat.le_refl _) (by simp) ?_; (case hd => rfl); (case hg => rfl); (case hr => first | (go_simp; done) | (go_simp; rfl)); (case hp => exact (Reps.one (show Kd.M Kd.string _ _ _ (⟨#[98]⟩ : ByteArray) [.string (⟨#[98]⟩ : ByteArray)] from rfl) (Reps.one (show Kd.M Kd.string _ _ _ (⟨#[97, 47, 99]⟩ : ByteArray) [.string (⟨#[97, 47, 99]⟩ : ByteArray)] from rfl) (Reps.one (show Kd.M Kd.string _ _ _ (⟨#[97]⟩ : ByteArray) [.string (⟨#[97]⟩ : ByteArray)] from rfl) (Reps.none _ _))))); intro v209 w35 ho36 hb hg_ hnew_; clear hg_ hnew_; (first | rw [← Ny208.out] at ho36 | (simp only [Int.reduceToNat] at ho36; rw [← Ny208.out] at ho36)); have n0_ := Aside0.mk (S_lower ho36 (sizU HB.out)); have n1_ := Aside0.mk (below_step (belU HB.out) hb); clear HB; have HO210 := n0_; have HB := n1_; clear n0_ n1_; clear hb ho36; obtain ⟨Ao37, co37, eo37⟩ := S_slice HO210.out; subst eo37) | ((with_reducible refine gate_callee (f := 10) rfl ?_); refine goesL_ (some 5) rfl rfl Tryd.func10 (by kernel_rfl) rfl #[.slice Ao37 y208.length co37] rfl (by (try simp only [List.map_toArray, List.map_cons, List.map_nil]); first | done | rfl | (simp only [List.length_drop, List.length_take]; rfl)) ?_; (with_reducible refine (scope_Make.calls k _ _ y208 t211 t212 _ ?side1 ?side2 A1.out).mono ?_); (case side1 => exact CU (S_reads' HO210.out).2.2); (case side2 => exact (S_reads' HO210.out).2.1); rintro e w38 ⟨v213, rfl, ho0, hb⟩; refine ⟨_, rfl, ?_⟩; have n0_ := Aside0.mk (S_elder' (SU HO210.out) (S_base ho0) hb); have n1_ := Aside0.mk (S_lower (S_new' ho0 (S_lt (SU HO210.out))) (sizU HB.out)); have n2_ := Aside0.mk (below_step (belU HB.out) hb); clear HO210; clear HB; have HO210 := n0_; have HO214 := n1_; have HB := n2_; clear n0_ n1_ n2_; (try clear hb); (try clear hb2); (try clear hk); (try clear hi); (try clear ho0)) | ((with_reducible refine gate_dst (N := 9) rfl ?_); (try (refine gate_guard (by rfl) ?_; dsimp only)); refine Kd.R_lit Kd.string _ 9 ?hg (N := 9) ?hd (xs := ([(⟨#[97]⟩ : ByteArray), (⟨#[98]⟩ : ByteArray)] : List ByteArray)) (inner := [.string (⟨#[97]⟩ : ByteArray), .string (⟨#[98]⟩ : ByteArray)]) (ok := fun _ => True) (okp := fun _ => True) ?hr ?hp (fun _ hk => hk) trivial (Below.refl _ _) (Nat.le_refl _) (by simp) ?_; (case hd => rfl); (case hg => rfl); (case hr => first | (go_simp; done) | (go_simp; rfl)); (case hp => exact (Reps.one (show Kd.M Kd.string _ _ _ (⟨#[97]⟩ : ByteArray) [.string (⟨#[97]⟩ : ByteArray)] from rfl) (Reps.one (show Kd.M Kd.string _ _ _ (⟨#[98]⟩ : ByteArray) [.string (⟨#[98]⟩ : ByteArray)] from rfl) (Reps.none _ _)))); intro v216 w39 ho40 hb hg_ hnew_; clear hg_ hnew_; (first | rw [← Ny215.out] at ho40 | (simp only [Int.reduceToNat] at ho40; rw [← Ny215.out] at ho40)); have n0_ := Aside0.mk (S_elder' (SU HO210.out) (S_base ho40) hb); have n1_ := Aside0.mk (S_elder' (SU HO214.out) (S_base ho40) hb); have n2_ := Aside0.mk (S_lower (S_new' (S_new' ho40 (S_lt (SU HO210.out))) (S_lt (SU HO214.out))) (sizU HB.out)); have n3_ := Aside0.mk (below_step (belU HB.out) hb); clear HO210; clear HO214; clear HB; have HO210 := n0_; have HO214 := n1_; have HO217 := n2_; have HB := n3_; clear n0_ n1_ n2_ n3_; clear hb ho40; obtain ⟨Ao41, co41, eo41⟩ := S_slice HO214.out; subst eo41; obtain ⟨Ao42, co42, eo42⟩ := S_slice HO217.out; subst eo42) | ((with_reducible refine gate_callee (f := 12) rfl ?_); refine goesL_ (some 10) rfl rfl Tryd.func12 (by kernel_rfl) rfl #[.slice Ao41 t211.length co41, .slice Ao42 y215.length co42] rfl (by (try simp only [List.map_toArray, List.map_cons, List.map_nil]); first | done | rfl | (simp only [List.length_drop, List.length_take]; rfl)) ?_; (with_reducible refine (aquiferref05_SameTexts.calls k _ _ t211 _ _ y215 true _ ?side1 ?side2 ?side3 ?side4 A2.out).mono ?_); (case side1 => exact CU (S_reads' HO214.out).2.2); (case side2 => exact (S_reads' HO214.out).2.1); (case side3 => exact CU (S_reads' HO217.out).2.2); (case side4 => exact (S_reads' HO217.out).2.1); rintro e w' ⟨rfl, ⟨nd, rfl⟩⟩; refine ⟨_, rfl, ?_⟩))
      go_ret
      exact ⟨by first | rfl | (simp [errW_none, errW_some] <;> rfl) | (simp [*, errW_none, errW_some] <;> rfl), belU HB.out⟩
  · replace c3 := Bool.eq_false_iff.mpr c3
    subst c3
    have H1 : (some false) = some r := by rw [if_neg (show ¬ (false = true) by decide)] at H; exact H
    clear H
    have H := H1
    clear H1
    obtain rfl := Option.some.inj H
    go_enter Tryd.func15, Tryd.ntmps15
    go_wp2_with (first | ((with_reducible refine gate_dst (N := 4) rfl ?_); (try (refine gate_guard (by rfl) ?_; dsimp only)); refine Kd.R_lit Kd.string _ 9 ?hg (N := 4) ?hd (xs := ([(⟨#[98]⟩ : ByteArray), (⟨#[97, 47, 99]⟩ : ByteArray), (⟨#[97]⟩ : ByteArray)] : List ByteArray)) (inner := [.string (⟨#[98]⟩ : ByteArray), .string (⟨#[97, 47, 99]⟩ : ByteArray), .string (⟨#[97]⟩ : ByteArray)]) (ok := fun _ => True) (okp := fun _ => True) ?hr ?hp (fun _ hk => hk) trivial (Below.refl _ _) (Nat.le_refl _) (by simp) ?_; (case hd => rfl); (case hg => rfl); (case hr => first | (go_simp; done) | (go_simp; rfl)); (case hp => exact (Reps.one (show Kd.M Kd.string _ _ _ (⟨#[98]⟩ : ByteArray) [.string (⟨#[98]⟩ : ByteArray)] from rfl) (Reps.one (show Kd.M Kd.string _ _ _ (⟨#[97, 47, 99]⟩ : ByteArray) [.string (⟨#[97, 47, 99]⟩ : ByteArray)] from rfl) (Reps.one (show Kd.M Kd.string _ _ _ (⟨#[97]⟩ : ByteArray) [.string (⟨#[97]⟩ : ByteArray)] from rfl) (Reps.none _ _))))); intro v209 w43 ho44 hb hg_ hnew_; clear hg_ hnew_; (first | rw [← Ny208.out] at ho44 | (simp only [Int.reduceToNat] at ho44; rw [← Ny208.out] at ho44)); have n0_ := Aside0.mk (S_lower ho44 (sizU HB.out)); have n1_ := Aside0.mk (below_step (belU HB.out) hb); clear HB; have HO210 := n0_; have HB := n1_; clear n0_ n1_; clear hb ho44; obtain ⟨Ao45, co45, eo45⟩ := S_slice HO210.out; subst eo45) | ((with_reducible refine gate_callee (f := 10) rfl ?_); refine goesL_ (some 5) rfl rfl Tryd.func10 (by kernel_rfl) rfl #[.slice Ao45 y208.length co45] rfl (by (try simp only [List.map_toArray, List.map_cons, List.map_nil]); first | done | rfl | (simp only [List.length_drop, List.length_take]; rfl)) ?_; (with_reducible refine (scope_Make.calls k _ _ y208 t211 t212 _ ?side1 ?side2 A1.out).mono ?_); (case side1 => exact CU (S_reads' HO210.out).2.2); (case side2 => exact (S_reads' HO210.out).2.1); rintro e w46 ⟨v213, rfl, ho0, hb⟩; refine ⟨_, rfl, ?_⟩; have n0_ := Aside0.mk (S_elder' (SU HO210.out) (S_base ho0) hb); have n1_ := Aside0.mk (S_lower (S_new' ho0 (S_lt (SU HO210.out))) (sizU HB.out)); have n2_ := Aside0.mk (below_step (belU HB.out) hb); clear HO210; clear HB; have HO210 := n0_; have HO214 := n1_; have HB := n2_; clear n0_ n1_ n2_; (try clear hb); (try clear hb2); (try clear hk); (try clear hi); (try clear ho0)) | ((with_reducible refine gate_dst (N := 9) rfl ?_); (try (refine gate_guard (by rfl) ?_; dsimp only)); refine Kd.R_lit Kd.string _ 9 ?hg (N := 9) ?hd (xs := ([(⟨#[97]⟩ : ByteArray), (⟨#[98]⟩ : ByteArray)] : List ByteArray)) (inner := [.string (⟨#[97]⟩ : ByteArray), .string (⟨#[98]⟩ : ByteArray)]) (ok := fun _ => True) (okp := fun _ => True) ?hr ?hp (fun _ hk => hk) trivial (Below.refl _ _) (Nat.le_refl _) (by simp) ?_; (case hd => rfl); (case hg => rfl); (case hr => first | (go_simp; done) | (go_simp; rfl)); (case hp => exact (Reps.one (show Kd.M Kd.string _ _ _ (⟨#[97]⟩ : ByteArray) [.string (⟨#[97]⟩ : ByteArray)] from rfl) (Reps.one (show Kd.M Kd.string _ _ _ (⟨#[98]⟩ : ByteArray) [.string (⟨#[98]⟩ : ByteArray)] from rfl) (Reps.none _ _)))); intro v216 w47 ho48 hb hg_ hnew_; clear hg_ hnew_; (first | rw [← Ny215.out] at ho48 | (simp only [Int.reduceToNat] at ho48; rw [← Ny215.out] at ho48)); have n0_ := Aside0.mk (S_elder' (SU HO210.out) (S_base ho48) hb); have n1_ := Aside0.mk (S_elder' (SU HO214.out) (S_base ho48) hb); have n2_ := Aside0.mk (S_lower (S_new' (S_new' ho48 (S_lt (SU HO210.out))) (S_lt (SU HO214.out))) (sizU HB.out)); have n3_ := Aside0.mk (below_step (belU HB.out) hb); clear HO210; clear HO214; clear HB; have HO210 := n0_; have HO214 := n1_; have HO217 := n2_; have HB := n3_; clear n0_ n1_ n2_ n3_; clear hb ho48; obtain ⟨Ao49, co49, eo49⟩ := S_slice HO214.out; subst eo49; obtain ⟨Ao50, co50, eo50⟩ := S_slice HO217.out; subst eo50) | ((with_reducible refine gate_callee (f := 12) rfl ?_); refine goesL_ (some 10) rfl rfl Tryd.func12 (by kernel_rfl) rfl #[.slice Ao49 t211.length co49, .slice Ao50 y215.length co50] rfl (by (try simp only [List.map_toArray, List.map_cons, List.map_nil]); first | done | rfl | (simp only [List.length_drop, List.length_take]; rfl)) ?_; (with_reducible refine (aquiferref05_SameTexts.calls k _ _ t211 _ _ y215 false _ ?side1 ?side2 ?side3 ?side4 A2.out).mono ?_); (case side1 => exact CU (S_reads' HO214.out).2.2); (case side2 => exact (S_reads' HO214.out).2.1); (case side3 => exact CU (S_reads' HO217.out).2.2); (case side4 => exact (S_reads' HO217.out).2.1); rintro e w' ⟨rfl, ⟨nd, rfl⟩⟩; refine ⟨_, rfl, ?_⟩))
    go_ret
    exact ⟨by first | rfl | (simp [errW_none, errW_some] <;> rfl) | (simp [*, errW_none, errW_some] <;> rfl), belU HB.out⟩

end Go.Proofs.YtkflalaocnghcaaDoor.Q

namespace Go.Proofs.YtkflalaocnghcaaDoor.Q
open Go Go.Proofs Go.Shelf Go.RowKit Go.Lib Go.Sort Go.Proofs.YtkflalaocnghcaaDoorP Go.Proofs.YtkflalaocnghcaaDoorK Go.Proofs.YtkflalaocnghcaaDoorW.PrintWords Go.Proofs.YtkflalaocnghcaaDoorW.PrintLast Go.Proofs.YtkflalaocnghcaaDoorW.PrintMore
set_option linter.unusedSimpArgs false
set_option linter.unusedVariables false
/-! ### The document's Make, May; the law's own words -/
theorem make_ref_loop (l : List ByteArray) (hs : shortP l = true) (hln : l.length ≤ 2000) (d : Nat) : ∀ (i k : Nat), i + d = l.length → (∀ x ∈ l.take i, isD x) → (l.length + 3) * (l.length + 1) + 5000 + d < k → aquiferref06_Make.l0 k l (i : Int) = some (match (l.drop i).find? (fun p => dirS p != 0) with
  | some p => ([], dirS p)
  | none => if 16 < (reduceS l).length then ([], 7) else (reduceS l, 0)) := by
  obtain ⟨hl, hm⟩ := shortP_mem hs
  induction d with
  | zero =>
    intro i k h hd hk
    obtain ⟨k, rfl⟩ : ∃ q, k = q + 1 := ⟨k - 1, by omega⟩
    have hdl : Dirs l := by rw [List.take_of_length_le (by omega)] at hd; exact hd
    unfold aquiferref06_Make.l0
    rw [if_neg (by omega), List.drop_of_length_le (by omega), refreduce hs hdl hln k (by omega), Option.bind_some, List.find?_nil]
    dsimp only
    by_cases h16 : 16 < (reduceS l).length
    · rw [if_pos (by omega), if_pos h16]
    · rw [if_neg (by omega), if_neg h16]
  | succ d ih =>
    intro i k h hd hk
    obtain ⟨k, rfl⟩ : ∃ q, k = q + 1 := ⟨k - 1, by omega⟩
    have hi : i < l.length := by omega
    unfold aquiferref06_Make.l0
    rw [if_pos (by omega), if_pos (by omega), rdB l i hi, refdir _ (hm _ (List.getElem_mem hi)) k (by omega), Option.bind_some, List.drop_eq_getElem_cons hi, List.find?_cons, wr1 i (by omega)]
    by_cases h0 : dirS l[i] = 0
    · rw [if_pos h0, ih (i + 1) k (by omega) (fun x hx => by
        rw [List.take_succ_eq_append_getElem hi] at hx
        rcases List.mem_append.1 hx with hx | hx
        · exact hd x hx
        · rw [List.mem_singleton.1 hx]; exact (dir_iff _).1 h0) (by omega)]
      simp [h0]
    · rw [if_neg h0]
      have : (dirS l[i] != 0) = true := bne_iff_ne.mpr h0
      rw [this]
theorem refmake {l : List ByteArray} (hs : shortP l = true) (hln : l.length ≤ 2000) (k : Nat) (hk : (l.length + 3) * (l.length + 1) + 8000 ≤ k) : aquiferref06_Make.f k l = some (makeS l) := by
  have h := make_ref_loop l hs hln l.length 0 k (by omega) (by simp) (by omega)
  rw [List.drop_zero] at h
  unfold aquiferref06_Make.f makeS
  exact h
theorem same_loop (a b : List ByteArray) (hl : a.length = b.length) (hb : a.length ≤ 100000) (d : Nat) : ∀ (i k : Nat), i + d = a.length → d < k → ∃ r, aquiferref05_SameTexts.l0 k a b (i : Int) = some r ∧ (r = true ↔ a.drop i = b.drop i) := by
  induction d with
  | zero =>
    intro i k h hk
    obtain ⟨k, rfl⟩ : ∃ q, k = q + 1 := ⟨k - 1, by omega⟩
    unfold aquiferref05_SameTexts.l0
    rw [if_neg (by omega), List.drop_of_length_le (by omega), List.drop_of_length_le (by omega)]
    exact ⟨true, rfl, by simp⟩
  | succ d ih =>
    intro i k h hk
    obtain ⟨k, rfl⟩ : ∃ q, k = q + 1 := ⟨k - 1, by omega⟩
    have hi : i < a.length := by omega
    have hj : i < b.length := by omega
    unfold aquiferref05_SameTexts.l0
    rw [if_pos (by omega), if_pos (by omega), if_pos (by omega), rdB a i hi, rdB b i hj, wr1 i (by omega), List.drop_eq_getElem_cons hi, List.drop_eq_getElem_cons hj]
    by_cases he : a[i].toList = b[i].toList
    · rw [if_pos he]
      obtain ⟨r, h1, h2⟩ := ih (i + 1) k (by omega) (by omega)
      exact ⟨r, h1, h2.trans ⟨fun h => by rw [(tlB _ _).1 he, h], fun h => (List.cons.inj h).2⟩⟩
    · rw [if_neg he]
      exact ⟨false, rfl, by
        constructor
        · intro h; cases h
        · intro h; exact absurd ((tlB _ _).2 (List.cons.inj h).1) he⟩
theorem refsame (a b : List ByteArray) (hb : a.length ≤ 100000) (k : Nat) (hk : a.length < k) : ∃ r, aquiferref05_SameTexts.f k a b = some r ∧ (r = true ↔ a = b) := by
  unfold aquiferref05_SameTexts.f
  by_cases hl : a.length = b.length
  · rw [if_pos (by omega)]
    have := same_loop a b hl hb a.length 0 k (by omega) hk
    simpa using this
  · rw [if_neg (by omega)]
    exact ⟨false, rfl, by
      constructor
      · intro h; cases h
      · intro h; exact absurd (by rw [h]) hl⟩
theorem same_refl (a : List ByteArray) (hb : a.length ≤ 100000) (k : Nat) (hk : a.length < k) : aquiferref05_SameTexts.f k a a = some true := by
  obtain ⟨r, h1, h2⟩ := refsame a a hb k hk
  rw [h1, h2.2 rfl]
/-! ### May: what it says of a list -/
theorem may_chain (l : List ByteArray) : ∀ q, isD q → mayA (some q) l = true → Dirs l ∧ Chain l ∧ ∀ x ∈ l, leP q x ∧ ¬ withinS q x = true := by
  induction l with
  | nil => intro q _ _; exact ⟨fun x hx => by simp at hx, List.Pairwise.nil, fun x hx => by simp at hx⟩
  | cons p l ih =>
    intro q hq h
    simp only [mayA, Bool.and_eq_true, beq_iff_eq, decide_eq_true_eq, Bool.not_eq_true'] at h
    obtain ⟨h0, h1, h2, h3⟩ := h
    have dp := (dir_iff p).1 h0
    obtain ⟨i1, i2, i3⟩ := ih p dp h3
    have hqp : leP q p := by rw [leP_iff]; omega
    have hnp : ¬ withinS q p = true := by rw [h2]; decide
    refine ⟨fun x hx => (List.mem_cons.1 hx).elim (fun e => by rw [e]; exact dp) (i1 x), List.pairwise_cons.2 ⟨i3, i2⟩, fun x hx => ?_⟩
    rcases List.mem_cons.1 hx with e | hx
    · rw [e]; exact ⟨hqp, hnp⟩
    · exact ⟨leP_trans hqp (i3 x hx).1, fun hw => hnp (within_between hq dp.1 (i1 x hx).1 hw hqp (i3 x hx).1)⟩
theorem mayA_chain (l : List ByteArray) (h : mayA none l = true) : Dirs l ∧ Chain l := by
  cases l with
  | nil => exact ⟨fun x hx => by simp at hx, List.Pairwise.nil⟩
  | cons p l =>
    simp only [mayA, Bool.and_eq_true, beq_iff_eq] at h
    have dp := (dir_iff p).1 h.1
    obtain ⟨i1, i2, i3⟩ := may_chain l p dp h.2
    exact ⟨fun x hx => (List.mem_cons.1 hx).elim (fun e => by rw [e]; exact dp) (i1 x), List.pairwise_cons.2 ⟨i3, i2⟩⟩
theorem chain_mayA (l : List ByteArray) : ∀ q : Option ByteArray, Dirs l → Chain l → (∀ y, q = some y → ∀ x ∈ l, leP y x ∧ ¬ withinS y x = true) → mayA q l = true := by
  induction l with
  | nil => intro q _ _ _; cases q <;> rfl
  | cons p l ih =>
    intro q hd hc hq
    unfold Chain at hc
    rw [List.pairwise_cons] at hc
    have h0 := (dir_iff p).2 (hd p List.mem_cons_self)
    have hr := ih (some p) (fun x hx => hd x (List.mem_cons_of_mem _ hx)) hc.2 (fun y hy x hx => by cases hy; exact hc.1 x hx)
    cases q with
    | none => simp only [mayA, h0, hr]; rfl
    | some y =>
      have h1 := hq y rfl p List.mem_cons_self
      have h2 : pcmp y p < 0 := by
        have a := (leP_iff y p).1 h1.1
        have b : pcmp y p ≠ 0 := fun e => h1.2 (by rw [good_path.eq _ _ e]; exact within_refl _)
        omega
      simp only [mayA, h0, hr, decide_eq_true h2, Bool.eq_false_iff.2 h1.2]
      rfl
theorem may_open {l : List ByteArray} (h : mayS l = true) : Dirs l ∧ Chain l ∧ l.length ≤ 16 := by
  have hl := may_len h
  unfold mayS at h
  rw [Bool.and_eq_true] at h
  exact ⟨(mayA_chain l h.1).1, (mayA_chain l h.1).2, hl⟩
theorem may_mk {l : List ByteArray} (hd : Dirs l) (hc : Chain l) (hl : l.length ≤ 16) : mayS l = true := by
  unfold mayS
  rw [chain_mayA l none hd hc (fun y hy => by cases hy), decide_eq_true hl]
  rfl
theorem chain_cov (l : List ByteArray) : ∀ x ∈ l, cov l x = true := fun x hx => (cov_iff l x).2 ⟨x, hx, within_refl x⟩
theorem reduce_self {l : List ByteArray} (hd : Dirs l) (hc : Chain l) : reduceS l = l := reduce_one hd hc (fun _ h => h) (chain_cov l)
theorem make_dirs {l : List ByteArray} (hd : Dirs l) : makeS l = if 16 < (reduceS l).length then ([], 7) else (reduceS l, 0) := by
  unfold makeS
  rw [(find_dirs l).2 hd]
theorem make_may {l : List ByteArray} (h : mayS l = true) : makeS l = (l, 0) := by
  obtain ⟨hd, hc, hl⟩ := may_open h
  rw [make_dirs hd, reduce_self hd hc, if_neg (by omega)]
/-- What Make made. -/
theorem make_ok {l : List ByteArray} (h : (makeS l).2 = 0) : Dirs l ∧ (makeS l).1 = reduceS l ∧ mayS (reduceS l) = true := by
  have hd : Dirs l := by
    rw [← find_dirs]
    cases hf : l.find? (fun p => dirS p != 0) with
    | none => rfl
    | some p =>
      have := List.find?_some hf
      unfold makeS at h
      rw [hf] at h
      simp only [bne_iff_ne] at this
      exact absurd h this
  rw [make_dirs hd] at h ⊢
  by_cases h16 : 16 < (reduceS l).length
  · rw [if_pos h16] at h; exact absurd h (by decide)
  · rw [if_neg h16]
    obtain ⟨s1, _, s3⟩ := reduce_spec hd
    exact ⟨hd, rfl, may_mk (fun x hx => hd x (s1 x hx)) s3 (by omega)⟩
theorem makeS_len (l : List ByteArray) : (makeS l).1.length ≤ l.length := by
  unfold makeS
  have := reduceS_len l
  split
  · exact Nat.zero_le _
  · split
    · exact Nat.zero_le _
    · exact this
theorem refmay {l : List ByteArray} (hs : shortP l = true) (hln : l.length ≤ 2000) (k : Nat) (hk : (l.length + 3) * (l.length + 1) + 8000 ≤ k) : aquiferref06_May.f k l = some (mayS l) := by
  unfold aquiferref06_May.f
  rw [refmake hs hln k hk, Option.bind_some]
  obtain ⟨r, h1, h2⟩ := refsame (makeS l).1 l (by have := makeS_len l; omega) k (by have := makeS_len l; omega)
  by_cases h0 : (makeS l).2 = 0
  · rw [if_pos h0, h1, Option.bind_some]
    congr 1
    rw [Bool.eq_iff_iff, h2]
    constructor
    · intro e
      obtain ⟨_, m1, m2⟩ := make_ok h0
      rw [m1] at e
      rw [e] at m2
      exact m2
    · intro hm; rw [make_may hm]
  · rw [if_neg h0]
    congr 1
    symm
    exact Bool.eq_false_iff.2 (fun hm => h0 (by rw [make_may hm]))
/-! ### few, works -/
def fewP (l : List ByteArray) : List ByteArray := (l.take 20).map fun p => p.extract 0 (mn (p.size : Int) 150).toNat
theorem mn_150 (n : Nat) (m : Int) (hm : 0 ≤ m) : 0 ≤ mn (n : Int) m ∧ mn (n : Int) m ≤ (n : Int) ∧ mn (n : Int) m ≤ m := by unfold mn; split <;> omega
theorem cut_size (p : ByteArray) (m : Int) (hm : 0 ≤ m) : ((p.extract 0 (mn (p.size : Int) m).toNat).size : Int) ≤ m := by
  rw [ByteArray.size_extract]
  have := mn_150 p.size m hm
  omega
theorem cut_same (p : ByteArray) (h : p.size ≤ 150) : p.extract 0 (mn (p.size : Int) 150).toNat = p := by
  have h1 : mn (p.size : Int) 150 = (p.size : Int) := by unfold mn; rw [if_neg (by omega)]
  rw [h1, Int.toNat_natCast]
  apply ByteArray.ext
  simp
theorem few_loop (l : List ByteArray) (d : Nat) : ∀ (i k : Nat) (out : List ByteArray), i + d = min l.length 20 → d < k → out.length ≤ i → aquiferlaw06_few.l0 k l out (i : Int) = some (out ++ fewP (l.drop i |>.take (20 - i))) := by
  induction d with
  | zero =>
    intro i k out h hk ho
    obtain ⟨k, rfl⟩ : ∃ q, k = q + 1 := ⟨k - 1, by omega⟩
    unfold aquiferlaw06_few.l0
    by_cases hl : i < l.length
    · rw [if_pos (by omega), if_neg (by omega)]
      have : 20 - i = 0 := by omega
      rw [this, List.take_zero]
      simp [fewP]
    · rw [if_neg (by omega), List.drop_of_length_le (by omega)]
      simp [fewP]
  | succ d ih =>
    intro i k out h hk ho
    obtain ⟨k, rfl⟩ : ∃ q, k = q + 1 := ⟨k - 1, by omega⟩
    have hi : i < l.length := by omega
    have hm := mn_150 l[i].size 150 (by decide)
    unfold aquiferlaw06_few.l0
    rw [if_pos (by omega), if_pos (by omega), if_pos (by omega), rdB l i hi, if_pos hm.1, if_pos hm.2.1, if_pos (by omega), wr1 i (by omega), ih (i + 1) k _ (by omega) (by omega) (by simp; omega), List.drop_eq_getElem_cons hi, show 20 - i = (20 - (i + 1)) + 1 by omega, List.take_succ_cons]
    have e : ∀ (x : ByteArray) (m : List ByteArray), m.length < 20 → fewP (x :: m) = x.extract 0 (mn (x.size : Int) 150).toNat :: fewP m := by
      intro x m hm
      unfold fewP
      rw [List.take_of_length_le (by simp; omega), List.take_of_length_le (by omega), List.map_cons]
    rw [e _ _ (by rw [List.length_take]; omega), List.append_assoc]
    rfl
theorem few_fn (l : List ByteArray) (k : Nat) (hk : 21 ≤ k) : aquiferlaw06_few.f k l = some (fewP l) := by
  have h := few_loop l (min l.length 20) 0 k [] (by omega) (by omega) (Nat.le_refl _)
  unfold aquiferlaw06_few.f
  have e : fewP (l.take 20) = fewP l := by unfold fewP; rw [List.take_take, Nat.min_self]
  rw [List.drop_zero, List.nil_append, Nat.sub_zero, e] at h
  exact h
theorem few_len (l : List ByteArray) : (fewP l).length ≤ 20 := by
  unfold fewP
  rw [List.length_map, List.length_take]
  omega
theorem few_size (l : List ByteArray) : ∀ p ∈ fewP l, p.size ≤ 150 := by
  intro p hp
  unfold fewP at hp
  obtain ⟨x, _, rfl⟩ := List.mem_map.1 hp
  have := cut_size x 150 (by decide)
  omega
theorem few_short (l : List ByteArray) : shortP (fewP l) = true := shortP_mk (by have := few_len l; omega) (fun p hp => by have := few_size l p hp; omega)
theorem few_few (l : List ByteArray) : fewP (fewP l) = fewP l := by
  have h1 := few_len l
  have h2 := few_size l
  generalize fewP l = m at h1 h2
  unfold fewP
  rw [List.take_of_length_le h1]
  have : m.map (fun p => p.extract 0 (mn (p.size : Int) 150).toNat) = m.map id := List.map_congr_left (fun p hp => cut_same p (h2 p hp))
  rw [this, List.map_id]
theorem works_60 : aquiferlaw06_works.f 60 = some true := by decide +kernel
theorem works_fn (k : Nat) (hk : 60 ≤ k) : aquiferlaw06_works.f k = some true := at_rounds (aquiferlaw06_works.mono) hk works_60
end Go.Proofs.YtkflalaocnghcaaDoor.Q

namespace Go.Proofs.YtkflalaocnghcaaDoor.Q
open Go.RowKit Go.Proofs.YtkflalaocnghcaaDoorW.PrintWords Go.Proofs.YtkflalaocnghcaaDoorW.PrintLast Go.Proofs.YtkflalaocnghcaaDoorW.PrintMore Go.Proofs.YtkflalaocnghcaaDoorK
attribute [local go_sem] max2_int min2_int max_two min_two max_three min_three max_four min_four   -- for this text's walks alone
attribute [local go_sem ↓] Go.Proofs.YtkflalaocnghcaaDoorK.isSome_setCell
set_option linter.unusedVariables false
set_option linter.unusedSimpArgs false

/-! ### aquiferref06_Union: function 21 -/
def aquiferref06_Union.f (k : Nat) (l0 : List ByteArray) (l1 : List ByteArray) : Option (List ByteArray × Int) := (aquiferref06_May.f k l0).bind fun t262 => (if t262 = true then ((aquiferref06_May.f k l1).bind fun t263 => (if t263 = true then ((some (([] : List ByteArray) : List ByteArray)).bind fun y264 => (if y264.length + l0.length < 8796093022208 then ((some (y264 ++ l0 : List ByteArray)).bind fun y267 => (if y267.length + l1.length < 8796093022208 then ((aquiferref06_Make.f k (y267 ++ l1)).bind fun bt273 => (some (bt273.1, bt273.2))) else (none))) else (none))) else (some (([] : List ByteArray), 2)))) else (some (([] : List ByteArray), 2)))
theorem aquiferref06_Union.mono : ∀ a0 a1 k, LeO (aquiferref06_Union.f k a0 a1) (aquiferref06_Union.f (k + 1) a0 a1) := by
  intro a0 a1 k
  unfold aquiferref06_Union.f
  repeat' first
      | (with_reducible exact aquiferref06_Make.mono _ _)
      | (with_reducible exact aquiferref06_May.mono _ _)
      | (with_reducible exact LeO.refl _)
      | (with_reducible exact LeO.none _)
      | (with_reducible refine LeO.ite ?_ ?_)
      | (with_reducible refine LeO.bind ?_ (fun _ => ?_))
      | exact aquiferref06_Make.mono _ _
      | exact aquiferref06_May.mono _ _
      | exact LeO.none _
      | refine LeO.ite ?_ ?_
      | refine LeO.bind ?_ (fun _ => ?_)
set_option maxHeartbeats 8000000 in
set_option maxRecDepth 100000 in
theorem aquiferref06_Union.calls (k : Nat) (A0 : Option Addr) (c0 : Nat) (l0 : List ByteArray) (A1 : Option Addr) (c1 : Nat) (l1 : List ByteArray) (r1 : List ByteArray) (r2 : Int) (w : World) (hr0 : Kd.C Kd.string w A0 l0.length l0) (hc0 : l0.length ≤ c0) (hr1 : Kd.C Kd.string w A1 l1.length l1) (hc1 : l1.length ≤ c1) (h : aquiferref06_Union.f k l0 l1 = some (r1, r2)) :
    Calls Tryd.prog 21 #[.slice A0 l0.length c0, .slice A1 l1.length c1] w fun e w' => ∃ v0_ : Value, e = .returned (.tuple #[v0_, .int .i64 r2]) ∧ Kd.R Kd.string 9 w' w.heap.size (fun _ => True) v0_ r1 ∧ Below w.heap.size w w' := by
  have HR0 := Aside0.mk hr0
  have HC0 := Aside0.mk hc0
  clear hr0 hc0
  have HR1 := Aside0.mk hr1
  have HC1 := Aside0.mk hc1
  clear hr1 hc1
  have HB := Aside0.mk (Below.refl w.heap.size w)
  have H : ((aquiferref06_May.f k l0).bind fun t262 => (if t262 = true then ((aquiferref06_May.f k l1).bind fun t263 => (if t263 = true then ((some (([] : List ByteArray) : List ByteArray)).bind fun y264 => (if y264.length + l0.length < 8796093022208 then ((some (y264 ++ l0 : List ByteArray)).bind fun y267 => (if y267.length + l1.length < 8796093022208 then ((aquiferref06_Make.f k (y267 ++ l1)).bind fun bt273 => (some (bt273.1, bt273.2))) else (none))) else (none))) else (some (([] : List ByteArray), 2)))) else (some (([] : List ByteArray), 2)))) = some (r1, r2) := h
  clear h
  replace H := Option.bind_eq_some_iff.mp H
  obtain ⟨t262, A30, H⟩ := H
  replace H : (if t262 = true then ((aquiferref06_May.f k l1).bind fun t263 => (if t263 = true then ((some (([] : List ByteArray) : List ByteArray)).bind fun y264 => (if y264.length + l0.length < 8796093022208 then ((some (y264 ++ l0 : List ByteArray)).bind fun y267 => (if y267.length + l1.length < 8796093022208 then ((aquiferref06_Make.f k (y267 ++ l1)).bind fun bt273 => (some (bt273.1, bt273.2))) else (none))) else (none))) else (some (([] : List ByteArray), 2)))) else (some (([] : List ByteArray), 2))) = some (r1, r2) := H
  have A3 := Aside0.mk A30
  clear A30
  by_cases c4 : t262 = true
  · subst c4
    have H1 : ((aquiferref06_May.f k l1).bind fun t263 => (if t263 = true then ((some (([] : List ByteArray) : List ByteArray)).bind fun y264 => (if y264.length + l0.length < 8796093022208 then ((some (y264 ++ l0 : List ByteArray)).bind fun y267 => (if y267.length + l1.length < 8796093022208 then ((aquiferref06_Make.f k (y267 ++ l1)).bind fun bt273 => (some (bt273.1, bt273.2))) else (none))) else (none))) else (some (([] : List ByteArray), 2)))) = some (r1, r2) := by rw [if_pos rfl] at H; exact H
    clear H
    have H := H1
    clear H1
    replace H := Option.bind_eq_some_iff.mp H
    obtain ⟨t263, A50, H⟩ := H
    replace H : (if t263 = true then ((some (([] : List ByteArray) : List ByteArray)).bind fun y264 => (if y264.length + l0.length < 8796093022208 then ((some (y264 ++ l0 : List ByteArray)).bind fun y267 => (if y267.length + l1.length < 8796093022208 then ((aquiferref06_Make.f k (y267 ++ l1)).bind fun bt273 => (some (bt273.1, bt273.2))) else (none))) else (none))) else (some (([] : List ByteArray), 2))) = some (r1, r2) := H
    have A5 := Aside0.mk A50
    clear A50
    by_cases c6 : t263 = true
    · subst c6
      have H1 : ((some (([] : List ByteArray) : List ByteArray)).bind fun y264 => (if y264.length + l0.length < 8796093022208 then ((some (y264 ++ l0 : List ByteArray)).bind fun y267 => (if y267.length + l1.length < 8796093022208 then ((aquiferref06_Make.f k (y267 ++ l1)).bind fun bt273 => (some (bt273.1, bt273.2))) else (none))) else (none))) = some (r1, r2) := by rw [if_pos rfl] at H; exact H
      clear H
      have H := H1
      clear H1
      obtain ⟨y264, hy264⟩ : ∃ y_ : List ByteArray, y_ = (([] : List ByteArray)) := ⟨_, rfl⟩
      replace H : (if y264.length + l0.length < 8796093022208 then ((some (y264 ++ l0 : List ByteArray)).bind fun y267 => (if y267.length + l1.length < 8796093022208 then ((aquiferref06_Make.f k (y267 ++ l1)).bind fun bt273 => (some (bt273.1, bt273.2))) else (none))) else (none)) = some (r1, r2) := by first | (rw [hy264]; with_reducible exact H) | (have H2_ := (Option.bind_some _ _).symm.trans H; rw [hy264]; with_reducible exact H2_) | (have H2_ := (Option.bind_some _ _).symm.trans H; with_reducible exact H2_) | with_reducible exact H | (rw [hy264]; exact H) | exact H
      have Ny264 := Aside0.mk hy264
      clear hy264
      by_cases c7 : y264.length + l0.length < 8796093022208
      · rw [if_pos c7] at H
        have LMc7 := Aside0.mk c7
        clear c7
        obtain ⟨y267, hy267⟩ : ∃ y_ : List ByteArray, y_ = (y264 ++ l0) := ⟨_, rfl⟩
        replace H : (if y267.length + l1.length < 8796093022208 then ((aquiferref06_Make.f k (y267 ++ l1)).bind fun bt273 => (some (bt273.1, bt273.2))) else (none)) = some (r1, r2) := by first | (rw [hy267]; with_reducible exact H) | (have H2_ := (Option.bind_some _ _).symm.trans H; rw [hy267]; with_reducible exact H2_) | (have H2_ := (Option.bind_some _ _).symm.trans H; with_reducible exact H2_) | with_reducible exact H | (rw [hy267]; exact H) | exact H
        have Ny267 := Aside0.mk hy267
        clear hy267
        by_cases c8 : y267.length + l1.length < 8796093022208
        · rw [if_pos c8] at H
          have LMc8 := Aside0.mk c8
          clear c8
          obtain ⟨y270, hy270⟩ : ∃ y_ : List ByteArray, y_ = (y267 ++ l1) := ⟨_, rfl⟩
          replace H : ((aquiferref06_Make.f k y270).bind fun bt273 => (some (bt273.1, bt273.2))) = some (r1, r2) := by first | (rw [hy270]; with_reducible exact H) | (have H2_ := (Option.bind_some _ _).symm.trans H; rw [hy270]; with_reducible exact H2_) | (have H2_ := (Option.bind_some _ _).symm.trans H; with_reducible exact H2_) | with_reducible exact H | (rw [hy270]; exact H) | exact H
          have Ny270 := Aside0.mk hy270
          clear hy270
          replace H := Option.bind_eq_some_iff.mp H
          obtain ⟨⟨t273, t274⟩, A90, H⟩ := H
          replace H : (some (t273, t274)) = some (r1, r2) := H
          have A9 := Aside0.mk A90
          clear A90
          simp only [Option.some.injEq, Prod.mk.injEq] at H
          obtain ⟨rfl, rfl⟩ := H
          go_enter Tryd.func21, Tryd.ntmps21
          go_wp2_with (first | ((with_reducible refine gate_callee (f := 14) rfl ?_); refine goesL_ (some 7) rfl rfl Tryd.func14 (by kernel_rfl) rfl #[.slice A0 l0.length c0] rfl (by (try simp only [List.map_toArray, List.map_cons, List.map_nil]); first | done | rfl | (simp only [List.length_drop, List.length_take]; rfl)) ?_; (with_reducible refine (aquiferref06_May.calls k _ _ l0 true _ ?side1 ?side2 A3.out).mono ?_); (case side1 => exact CU HR0.out); (case side2 => exact HC0.out); rintro e w10 ⟨rfl, hb⟩; refine ⟨_, rfl, ?_⟩; have n0_ := Aside0.mk (below_step (belU HB.out) hb); clear HB; have HB := n0_; clear n0_; (try clear hb); (try clear hb2); (try clear hk); (try clear hi)) | (go_at_call 14; (with_reducible refine (aquiferref06_May.calls k _ _ l1 true _ ?side1 ?side2 A5.out).mono ?_); (case side1 => exact CU (Kd.C_below HR1.out HB.out)); (case side2 => exact HC1.out); rintro e w11 ⟨rfl, hb⟩; have n0_ := Aside0.mk (below_step (belU HB.out) hb); clear HB; have HB := n0_; clear n0_; (try clear hb); (try clear hb2); (try clear hk); (try clear hi)) | ((with_reducible refine gate_dst (N := 14) rfl ?_); refine Kd.R_lit Kd.string _ 9 ?hg (N := 14) ?hd (xs := ([] : List ByteArray)) (inner := []) (ok := fun _ => True) (okp := fun _ => True) ?hr ?hp (fun _ hk => hk) trivial (Below.refl _ _) (Nat.le_refl _) (by simp) ?_; (case hd => rfl); (case hg => rfl); (case hr => first | (go_simp; done) | (go_simp; rfl)); (case hp => exact (Reps.none _ _)); intro v265 w12 ho13 hb hg_ hnew_; clear hg_ hnew_; (first | rw [← Ny264.out] at ho13 | (simp only [Int.reduceToNat] at ho13; rw [← Ny264.out] at ho13)); have n0_ := Aside0.mk (Kd.R_lower ho13 (sizU HB.out)); have n1_ := Aside0.mk (below_step (belU HB.out) hb); clear HB; have HO266 := n0_; have HB := n1_; clear n0_ n1_; clear hb ho13) | ((with_reducible refine gate_builtin (b := .append) (xs := #[.tmp 14, .tmp 15]) rfl ?_); at_builtin; refine Kd.R_append_rows Kd.string (w0 := w) w.heap.size rfl (.tmp 14) (.tmp 15) 22 9 (.string ⟨#[]⟩) 16 rfl Tryd.underlying22 info9 rfl (by decide) (by omega) v265 y264 l0 _ _ _ (fun _ => True) (fun _ => False) rfl rfl ?aO ?aR (fun _ _ h => h) (fun _ h => h.elim) ?aF ?aB ?aS ?aL ?_; (case aR => exact CU (Kd.C_below HR0.out HB.out)); (case aB => exact (belU HB.out)); (case aF => exact (fun _ _ => trivial)); (case aO => exact (RU HO266.out)); (case aS => exact (sizU HB.out)); (case aL => have := LMc7.out; omega); intro v268 w14 ho hb hg hat; rw [← Ny267.out] at ho; have n0_ := Aside0.mk (hb); have n1_ := Aside0.mk (ho); clear HB; clear HO266; have HB := n0_; have HO269 := n1_; clear n0_ n1_; clear ho hb hg hat) | ((with_reducible refine gate_builtin (b := .append) (xs := #[.tmp 16, .tmp 17]) rfl ?_); at_builtin; refine Kd.R_append_rows Kd.string (w0 := w) w.heap.size rfl (.tmp 16) (.tmp 17) 22 9 (.string ⟨#[]⟩) 16 rfl Tryd.underlying22 info9 rfl (by decide) (by omega) v268 y267 l1 _ _ _ (fun _ => True) (fun _ => False) rfl rfl ?aO ?aR (fun _ _ h => h) (fun _ h => h.elim) ?aF ?aB ?aS ?aL ?_; (case aR => exact CU (Kd.C_below HR1.out HB.out)); (case aB => exact (belU HB.out)); (case aF => exact (fun _ _ => trivial)); (case aO => exact (RU HO269.out)); (case aS => exact (sizU HB.out)); (case aL => have := LMc8.out; omega); intro v271 w15 ho hb hg hat; rw [← Ny270.out] at ho; have n0_ := Aside0.mk (hb); have n1_ := Aside0.mk (ho); clear HB; clear HO269; have HB := n0_; have HO272 := n1_; clear n0_ n1_; clear ho hb hg hat; obtain ⟨Ao16, co16, eo16⟩ := Kd.R_slice HO272.out; subst eo16) | ((with_reducible refine gate_callee (f := 11) rfl ?_); refine goesL_ (some 19) rfl rfl Tryd.func11 (by kernel_rfl) rfl #[.slice Ao16 y270.length co16] rfl (by (try simp only [List.map_toArray, List.map_cons, List.map_nil]); first | done | rfl | (simp only [List.length_drop, List.length_take]; rfl)) ?_; (with_reducible refine (aquiferref06_Make.calls k _ _ y270 t273 t274 _ ?side1 ?side2 A9.out).mono ?_); (case side1 => exact CU (Kd.R_reads' HO272.out).2.2); (case side2 => exact (Kd.R_reads' HO272.out).2.1); rintro e w17 ⟨v275, rfl, ho0, hb⟩; refine ⟨_, rfl, ?_⟩; have n0_ := Aside0.mk (Kd.R_elder' (RU HO272.out) (Kd.R_base ho0) hb); have n1_ := Aside0.mk (Kd.R_lower (Kd.R_new' ho0 (Kd.R_lt (RU HO272.out))) (sizU HB.out)); have n2_ := Aside0.mk (below_step (belU HB.out) hb); clear HO272; clear HB; have HO272 := n0_; have HO276 := n1_; have HB := n2_; clear n0_ n1_ n2_; (try clear hb); (try clear hb2); (try clear hk); (try clear hi); (try clear ho0)))
          go_ret2
          exact ⟨_, by first | rfl | (simp [errW_none, errW_some] <;> rfl) | (simp [*, errW_none, errW_some] <;> rfl), by (with_reducible repeat (first | apply Kd.R_alloc | apply Kd.R_drewN | apply Kd.R_drew)); exact Kd.R_mono HO276.out (fun _ hk => trivial), belU HB.out⟩
        · rw [if_neg c8] at H
          exact absurd H (by simp)
      · rw [if_neg c7] at H
        exact absurd H (by simp)
    · replace c6 := Bool.eq_false_iff.mpr c6
      subst c6
      have H1 : (some (([] : List ByteArray), 2)) = some (r1, r2) := by rw [if_neg (show ¬ (false = true) by decide)] at H; exact H
      clear H
      have H := H1
      clear H1
      simp only [Option.some.injEq, Prod.mk.injEq] at H
      obtain ⟨rfl, rfl⟩ := H
      go_enter Tryd.func21, Tryd.ntmps21
      go_wp2_with (first | ((with_reducible refine gate_callee (f := 14) rfl ?_); refine goesL_ (some 7) rfl rfl Tryd.func14 (by kernel_rfl) rfl #[.slice A0 l0.length c0] rfl (by (try simp only [List.map_toArray, List.map_cons, List.map_nil]); first | done | rfl | (simp only [List.length_drop, List.length_take]; rfl)) ?_; (with_reducible refine (aquiferref06_May.calls k _ _ l0 true _ ?side1 ?side2 A3.out).mono ?_); (case side1 => exact CU HR0.out); (case side2 => exact HC0.out); rintro e w18 ⟨rfl, hb⟩; refine ⟨_, rfl, ?_⟩; have n0_ := Aside0.mk (below_step (belU HB.out) hb); clear HB; have HB := n0_; clear n0_; (try clear hb); (try clear hb2); (try clear hk); (try clear hi)) | (go_at_call 14; (with_reducible refine (aquiferref06_May.calls k _ _ l1 false _ ?side1 ?side2 A5.out).mono ?_); (case side1 => exact CU (Kd.C_below HR1.out HB.out)); (case side2 => exact HC1.out); rintro e w19 ⟨rfl, hb⟩; have n0_ := Aside0.mk (below_step (belU HB.out) hb); clear HB; have HB := n0_; clear n0_; (try clear hb); (try clear hb2); (try clear hk); (try clear hi)))
      go_ret2
      exact ⟨_, by first | rfl | (simp [errW_none, errW_some] <;> rfl) | (simp [*, errW_none, errW_some] <;> rfl), by first | exact Kd.R_nil _ _ _ _ _ | exact Kd.N_nil _ _ _ _ _ | exact Kd.V_nil _ _ _ _ _ | exact Kd.Q_nil _ _ _ _ _ | exact Kd.S_nil _ _ _ _ _, belU HB.out⟩
  · replace c4 := Bool.eq_false_iff.mpr c4
    subst c4
    have H1 : (some (([] : List ByteArray), 2)) = some (r1, r2) := by rw [if_neg (show ¬ (false = true) by decide)] at H; exact H
    clear H
    have H := H1
    clear H1
    simp only [Option.some.injEq, Prod.mk.injEq] at H
    obtain ⟨rfl, rfl⟩ := H
    go_enter Tryd.func21, Tryd.ntmps21
    go_wp2_with (first | ((with_reducible refine gate_callee (f := 14) rfl ?_); refine goesL_ (some 7) rfl rfl Tryd.func14 (by kernel_rfl) rfl #[.slice A0 l0.length c0] rfl (by (try simp only [List.map_toArray, List.map_cons, List.map_nil]); first | done | rfl | (simp only [List.length_drop, List.length_take]; rfl)) ?_; (with_reducible refine (aquiferref06_May.calls k _ _ l0 false _ ?side1 ?side2 A3.out).mono ?_); (case side1 => exact CU HR0.out); (case side2 => exact HC0.out); rintro e w20 ⟨rfl, hb⟩; refine ⟨_, rfl, ?_⟩; have n0_ := Aside0.mk (below_step (belU HB.out) hb); clear HB; have HB := n0_; clear n0_; (try clear hb); (try clear hb2); (try clear hk); (try clear hi)))
    go_ret2
    exact ⟨_, by first | rfl | (simp [errW_none, errW_some] <;> rfl) | (simp [*, errW_none, errW_some] <;> rfl), by first | exact Kd.R_nil _ _ _ _ _ | exact Kd.N_nil _ _ _ _ _ | exact Kd.V_nil _ _ _ _ _ | exact Kd.Q_nil _ _ _ _ _ | exact Kd.S_nil _ _ _ _ _, belU HB.out⟩

end Go.Proofs.YtkflalaocnghcaaDoor.Q
