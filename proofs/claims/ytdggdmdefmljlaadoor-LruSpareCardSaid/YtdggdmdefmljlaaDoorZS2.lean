/-
What is proved: aquifer/aquiferlaw26.LruSpare answers true for every input, and leaves its arguments as they were.
-/
import Derived.Test.YtdggdmdefmljlaaDoorZS1
import Derived.Test.YtdggdmdefmljlaaDoorRows
import Derived.Test.YtdggdmdefmljlaaDoorCards
import Derived.Test.YtdggdmdefmljlaaDoorTie
import Derived.WalkKit
import Derived.ProofKit
import Derived.OpenShut
import Derived.ShutString
import Derived.ChangeOld
import Derived.Below
import Derived.SizedLaws
import Derived.LaidLaws
import Derived.LaidMore
import Derived.Lay
import Derived.SevenTiedAt
import Derived.Stop.Joined
namespace Go.Proofs.YtdggdmdefmljlaaDoor.Q
open Go.RowKit Go.Proofs.YtdggdmdefmljlaaDoorW.PrintWords Go.Proofs.YtdggdmdefmljlaaDoorW.PrintLast Go.Proofs.YtdggdmdefmljlaaDoorW.PrintMore Go.Proofs.YtdggdmdefmljlaaDoorK
attribute [local go_sem] max2_int min2_int max_two min_two max_three min_three max_four min_four   -- for this text's walks alone
attribute [local go_sem ↓] Go.Proofs.YtdggdmdefmljlaaDoorK.isSome_setCell
set_option linter.unusedVariables false
set_option linter.unusedSimpArgs false

/-! ### aquiferlaw26_LruSpare: function 7 -/
mutual
def aquiferlaw26_LruSpare.j0 : Nat → List (S35) → Int → Int → Bool → Option (Bool)
  | 0, _, _, _, _ => none
  | k + 1, x0, x1, x2, x28 => if x28 = true then ((lru_Spare.f x0 x1).bind fun t239 => (if t239 = 0 then ((aquiferlaw26_works.f).bind fun t240 => (some t240)) else (none))) else ((lru_Spare.f x0 x1).bind fun t241 => ((lru_Victims.f x0 x1 t241).bind fun bt242 => ((lru_Fixed.f x0).bind fun t246 => (if ((bt242.2 == 0) != (decide (t246 ≤ x1))) = true then (none) else (if t241 < 4096 then ((lru_Victims.f x0 x1 (wrap64 (t241 + 1))).bind fun bt247 => (if bt247.2 = 17 then (aquiferlaw26_LruSpare.j1 k x0 x1 x2 t241 bt242.2) else (none))) else (aquiferlaw26_LruSpare.j1 k x0 x1 x2 t241 bt242.2))))))
def aquiferlaw26_LruSpare.j1 : Nat → List (S35) → Int → Int → Int → Int → Option (Bool)
  | 0, _, _, _, _, _ => none
  | k + 1, x0, x1, x2, x7, x9 => if (Int.tmod (wrap64 ((Int.tmod x2 5000) + 5000)) 5000) > (wrap64 (4611686018427387904 - x1)) then (aquiferlaw26_LruSpare.j2 k x0 x1 (Int.tmod (wrap64 ((Int.tmod x2 5000) + 5000)) 5000) x7 true) else (aquiferlaw26_LruSpare.j2 k x0 x1 (Int.tmod (wrap64 ((Int.tmod x2 5000) + 5000)) 5000) x7 (x9 != 0))
def aquiferlaw26_LruSpare.j2 : Nat → List (S35) → Int → Int → Int → Bool → Option (Bool)
  | 0, _, _, _, _, _ => none
  | k + 1, x0, x1, x2, x7, x76 => if x76 = true then ((aquiferlaw26_works.f).bind fun t251 => (some t251)) else ((lru_Victims.f x0 x1 x7).bind fun bt252 => ((lru_Victims.f x0 (wrap64 (x1 + x2)) x7).bind fun bt256 => (if bt256.2 = 0 then (if (bt256.1.length : Int) ≤ (bt252.1.length : Int) then ((aquiferlaw26_works.f).bind fun t260 => (some t260)) else (none)) else (none))))
end
def aquiferlaw26_LruSpare.f (k : Nat) (l0 : List (S35)) (a1 : Int) (a2 : Int) : Option (Bool) := (aquiferlaw26_few.f k l0).bind fun t235 => ((lru_Check.f t235).bind fun t238 => (if t238 = 0 then (if a1 < 0 then (aquiferlaw26_LruSpare.j0 k t235 a1 a2 true) else (aquiferlaw26_LruSpare.j0 k t235 a1 a2 (decide (a1 > 4611686018427387904)))) else (aquiferlaw26_LruSpare.j0 k t235 a1 a2 true)))
theorem aquiferlaw26_LruSpare.mono_l : ∀ k, (∀ y0 y1 y2 y3, LeO (aquiferlaw26_LruSpare.j0 k y0 y1 y2 y3) (aquiferlaw26_LruSpare.j0 (k + 1) y0 y1 y2 y3)) ∧ (∀ y0 y1 y2 y3 y4, LeO (aquiferlaw26_LruSpare.j1 k y0 y1 y2 y3 y4) (aquiferlaw26_LruSpare.j1 (k + 1) y0 y1 y2 y3 y4)) ∧ (∀ y0 y1 y2 y3 y4, LeO (aquiferlaw26_LruSpare.j2 k y0 y1 y2 y3 y4) (aquiferlaw26_LruSpare.j2 (k + 1) y0 y1 y2 y3 y4))
  | 0 => ⟨fun _ _ _ _ r h => by simp [aquiferlaw26_LruSpare.j0] at h, fun _ _ _ _ _ r h => by simp [aquiferlaw26_LruSpare.j1] at h, fun _ _ _ _ _ r h => by simp [aquiferlaw26_LruSpare.j2] at h⟩
  | k + 1 => by
    obtain ⟨ih0, ih1, ih2⟩ := aquiferlaw26_LruSpare.mono_l k
    refine ⟨?_, ?_, ?_⟩
    · intro y0 y1 y2 y3
      unfold aquiferlaw26_LruSpare.j0
      repeat' first
      | (with_reducible exact ih0 _ _ _ _)
      | (with_reducible exact ih1 _ _ _ _ _)
      | (with_reducible exact ih2 _ _ _ _ _)
      | (with_reducible exact aquiferlaw26_few.mono _ _)
      | (with_reducible exact LeO.refl _)
      | (with_reducible exact LeO.none _)
      | (with_reducible refine LeO.ite ?_ ?_)
      | (with_reducible refine LeO.bind ?_ (fun _ => ?_))
      | exact ih0 _ _ _ _
      | exact ih1 _ _ _ _ _
      | exact ih2 _ _ _ _ _
      | exact aquiferlaw26_few.mono _ _
      | exact LeO.none _
      | refine LeO.ite ?_ ?_
      | refine LeO.bind ?_ (fun _ => ?_)
    · intro y0 y1 y2 y3 y4
      unfold aquiferlaw26_LruSpare.j1
      repeat' first
      | (with_reducible exact ih0 _ _ _ _)
      | (with_reducible exact ih1 _ _ _ _ _)
      | (with_reducible exact ih2 _ _ _ _ _)
      | (with_reducible exact aquiferlaw26_few.mono _ _)
      | (with_reducible exact LeO.refl _)
      | (with_reducible exact LeO.none _)
      | (with_reducible refine LeO.ite ?_ ?_)
      | (with_reducible refine LeO.bind ?_ (fun _ => ?_))
      | exact ih0 _ _ _ _
      | exact ih1 _ _ _ _ _
      | exact ih2 _ _ _ _ _
      | exact aquiferlaw26_few.mono _ _
      | exact LeO.none _
      | refine LeO.ite ?_ ?_
      | refine LeO.bind ?_ (fun _ => ?_)
    · intro y0 y1 y2 y3 y4
      unfold aquiferlaw26_LruSpare.j2
      repeat' first
      | (with_reducible exact ih0 _ _ _ _)
      | (with_reducible exact ih1 _ _ _ _ _)
      | (with_reducible exact ih2 _ _ _ _ _)
      | (with_reducible exact aquiferlaw26_few.mono _ _)
      | (with_reducible exact LeO.refl _)
      | (with_reducible exact LeO.none _)
      | (with_reducible refine LeO.ite ?_ ?_)
      | (with_reducible refine LeO.bind ?_ (fun _ => ?_))
      | exact ih0 _ _ _ _
      | exact ih1 _ _ _ _ _
      | exact ih2 _ _ _ _ _
      | exact aquiferlaw26_few.mono _ _
      | exact LeO.none _
      | refine LeO.ite ?_ ?_
      | refine LeO.bind ?_ (fun _ => ?_)
theorem aquiferlaw26_LruSpare.mono : ∀ a0 a1 a2 k, LeO (aquiferlaw26_LruSpare.f k a0 a1 a2) (aquiferlaw26_LruSpare.f (k + 1) a0 a1 a2) := by
  intro a0 a1 a2 k
  obtain ⟨ih0, ih1, ih2⟩ := aquiferlaw26_LruSpare.mono_l k
  unfold aquiferlaw26_LruSpare.f
  repeat' first
      | (with_reducible exact ih0 _ _ _ _)
      | (with_reducible exact ih1 _ _ _ _ _)
      | (with_reducible exact ih2 _ _ _ _ _)
      | (with_reducible exact aquiferlaw26_few.mono _ _)
      | (with_reducible exact LeO.refl _)
      | (with_reducible exact LeO.none _)
      | (with_reducible refine LeO.ite ?_ ?_)
      | (with_reducible refine LeO.bind ?_ (fun _ => ?_))
      | exact ih0 _ _ _ _
      | exact ih1 _ _ _ _ _
      | exact ih2 _ _ _ _ _
      | exact aquiferlaw26_few.mono _ _
      | exact LeO.none _
      | refine LeO.ite ?_ ?_
      | refine LeO.bind ?_ (fun _ => ?_)
set_option maxHeartbeats 8000000 in
set_option maxRecDepth 100000 in
theorem aquiferlaw26_LruSpare.calls (k : Nat) (A0 : Option Addr) (c0 : Nat) (l0 : List (S35)) (a1 : Int) (a2 : Int) (r : Bool) (w : World) (hr0 : Kd.C k35 w A0 l0.length l0) (hc0 : l0.length ≤ c0) (h : aquiferlaw26_LruSpare.f k l0 a1 a2 = some r) :
    Calls Tryd.prog 7 #[.slice A0 l0.length c0, .int .i64 a1, .int .i64 a2] w fun e w' => e = .returned (.bool r) ∧ Below w.heap.size w w' := by
  have HR0 := Aside0.mk hr0
  have HC0 := Aside0.mk hc0
  clear hr0 hc0
  have HB := Aside0.mk (Below.refl w.heap.size w)
  have H : ((aquiferlaw26_few.f k l0).bind fun t235 => ((lru_Check.f t235).bind fun t238 => (if t238 = 0 then (if a1 < 0 then (aquiferlaw26_LruSpare.j0 k t235 a1 a2 true) else (aquiferlaw26_LruSpare.j0 k t235 a1 a2 (decide (a1 > 4611686018427387904)))) else (aquiferlaw26_LruSpare.j0 k t235 a1 a2 true)))) = some r := h
  clear h
  replace H := Option.bind_eq_some_iff.mp H
  obtain ⟨t235, A40, H⟩ := H
  replace H : ((lru_Check.f t235).bind fun t238 => (if t238 = 0 then (if a1 < 0 then (aquiferlaw26_LruSpare.j0 k t235 a1 a2 true) else (aquiferlaw26_LruSpare.j0 k t235 a1 a2 (decide (a1 > 4611686018427387904)))) else (aquiferlaw26_LruSpare.j0 k t235 a1 a2 true))) = some r := H
  have A4 := Aside0.mk A40
  clear A40
  have HC5 := Aside0.mk H
  clear H
  go_enter Tryd.func7, Tryd.ntmps7
  go_upto_region 2 with (first | ((with_reducible refine gate_callee (f := 8) rfl ?_); refine goesL_ (some 17) rfl rfl Tryd.func8 (by kernel_rfl) rfl #[.slice A0 l0.length c0] rfl (by (try simp only [List.map_toArray, List.map_cons, List.map_nil]); first | done | rfl | (simp only [List.length_drop, List.length_take]; rfl)) ?_; (with_reducible refine (aquiferlaw26_few.calls k _ _ l0 t235 _ ?side1 ?side2 A4.out).mono ?_); (case side1 => exact CU HR0.out); (case side2 => exact HC0.out); rintro e w6 ⟨v236, rfl, ho0, hb⟩; refine ⟨_, rfl, ?_⟩; have n0_ := Aside0.mk (Kd.R_lower ho0 (sizU HB.out)); have n1_ := Aside0.mk (below_step (belU HB.out) hb); clear HB; have HO237 := n0_; have HB := n1_; clear n0_ n1_; (try clear hb); (try clear hb2); (try clear hk); (try clear hi); (try clear ho0)))
  (try simp only [Act.put, List.setIfInBounds_toArray, List.set_cons_zero, List.set_cons_succ])
  go_cut [28] (fun v28 wc => ∃ (kq : Nat) (x28_4 : Bool), v28 = .bool x28_4 ∧ Aside0 (aquiferlaw26_LruSpare.j0 kq t235 a1 a2 x28_4 = some r) ∧ Aside0 (kq ≤ k) ∧ Aside0 (Kd.R k35 35 wc w.heap.size (fun _ => True) v236 t235) ∧ Aside0 (Below w.heap.size w wc))
  case first =>
    have H := HC5.out
    clear HC5
    replace H := Option.bind_eq_some_iff.mp H
    obtain ⟨t238, A70, H⟩ := H
    replace H : (if t238 = 0 then (if a1 < 0 then (aquiferlaw26_LruSpare.j0 k t235 a1 a2 true) else (aquiferlaw26_LruSpare.j0 k t235 a1 a2 (decide (a1 > 4611686018427387904)))) else (aquiferlaw26_LruSpare.j0 k t235 a1 a2 true)) = some r := H
    have A7 := Aside0.mk A70
    clear A70
    by_cases c8 : t238 = 0
    · rw [if_pos c8] at H
      have c8b0 : (t238 == 0) = true := beq_iff_eq.mpr c8
      have c8b1 : (t238 != 0) = false := bne_eq_false_iff_eq.mpr c8
      clear c8
      (first | rw [c8b0] | (simp only [i64_w, i32_w]; rw [c8b0]) | skip)
      by_cases c9 : a1 < 0
      · rw [if_pos c9] at H
        have c9b0 : decide (a1 < 0) = true := decide_eq_true c9
        clear c9
        have H' := Aside0.mk H
        clear H
        obtain ⟨Ao10, co10, eo10⟩ := Kd.R_slice HO237.out
        subst eo10
        go_wp2_with (first | ((with_reducible refine gate_callee (f := 9) rfl ?_); refine goesL_ (some 19) rfl rfl Tryd.func9 (by kernel_rfl) rfl #[.slice Ao10 t235.length co10] rfl (by (try simp only [List.map_toArray, List.map_cons, List.map_nil]); first | done | rfl | (simp only [List.length_drop, List.length_take]; rfl)) ?_; (with_reducible refine (lru_Check.calls _ _ t235 t238 _ ?side1 ?side2 A7.out).mono ?_); (case side1 => exact CU (Kd.R_reads' HO237.out).2.2); (case side2 => exact (Kd.R_reads' HO237.out).2.1); rintro e w11 ⟨rfl, hb⟩; refine ⟨_, rfl, ?_⟩; have n0_ := Aside0.mk (Kd.R_below (RU HO237.out) hb); have n1_ := Aside0.mk (below_step (belU HB.out) hb); clear HO237; clear HB; have HO237 := n0_; have HB := n1_; clear n0_ n1_; (try clear hb); (try clear hb2); (try clear hk); (try clear hi)))
        go_meet
        case rel => exact ⟨_, (true), (by first | rfl | (simp; done) | (simp [*]; done)), H', ⟨by first | omega | exact Nat.le_refl _⟩, ⟨RU HO237.out⟩, ⟨belU HB.out⟩⟩
      · rw [if_neg c9] at H
        have c9b0 : decide (a1 < 0) = false := decide_eq_false c9
        clear c9
        have H' := Aside0.mk H
        clear H
        obtain ⟨Ao12, co12, eo12⟩ := Kd.R_slice HO237.out
        subst eo12
        go_wp2_with (first | ((with_reducible refine gate_callee (f := 9) rfl ?_); refine goesL_ (some 19) rfl rfl Tryd.func9 (by kernel_rfl) rfl #[.slice Ao12 t235.length co12] rfl (by (try simp only [List.map_toArray, List.map_cons, List.map_nil]); first | done | rfl | (simp only [List.length_drop, List.length_take]; rfl)) ?_; (with_reducible refine (lru_Check.calls _ _ t235 t238 _ ?side1 ?side2 A7.out).mono ?_); (case side1 => exact CU (Kd.R_reads' HO237.out).2.2); (case side2 => exact (Kd.R_reads' HO237.out).2.1); rintro e w13 ⟨rfl, hb⟩; refine ⟨_, rfl, ?_⟩; have n0_ := Aside0.mk (Kd.R_below (RU HO237.out) hb); have n1_ := Aside0.mk (below_step (belU HB.out) hb); clear HO237; clear HB; have HO237 := n0_; have HB := n1_; clear n0_ n1_; (try clear hb); (try clear hb2); (try clear hk); (try clear hi)))
        go_meet
        case rel => exact ⟨_, (decide (a1 > 4611686018427387904)), (by first | rfl | (simp; done) | (simp [*]; done)), H', ⟨by first | omega | exact Nat.le_refl _⟩, ⟨RU HO237.out⟩, ⟨belU HB.out⟩⟩
    · rw [if_neg c8] at H
      have c8b0 : (t238 == 0) = false := beq_eq_false_iff_ne.mpr c8
      have c8b1 : (t238 != 0) = true := bne_iff_ne.mpr c8
      (first | rw [c8b0] | (simp only [i64_w, i32_w]; rw [c8b0]) | skip)
      have H' := Aside0.mk H
      clear H
      obtain ⟨Ao14, co14, eo14⟩ := Kd.R_slice HO237.out
      subst eo14
      go_wp2_with (first | ((with_reducible refine gate_callee (f := 9) rfl ?_); refine goesL_ (some 19) rfl rfl Tryd.func9 (by kernel_rfl) rfl #[.slice Ao14 t235.length co14] rfl (by (try simp only [List.map_toArray, List.map_cons, List.map_nil]); first | done | rfl | (simp only [List.length_drop, List.length_take]; rfl)) ?_; (with_reducible refine (lru_Check.calls _ _ t235 t238 _ ?side1 ?side2 A7.out).mono ?_); (case side1 => exact CU (Kd.R_reads' HO237.out).2.2); (case side2 => exact (Kd.R_reads' HO237.out).2.1); rintro e w15 ⟨rfl, hb⟩; refine ⟨_, rfl, ?_⟩; have n0_ := Aside0.mk (Kd.R_below (RU HO237.out) hb); have n1_ := Aside0.mk (below_step (belU HB.out) hb); clear HO237; clear HB; have HO237 := n0_; have HB := n1_; clear n0_ n1_; (try clear hb); (try clear hb2); (try clear hk); (try clear hi)))
      go_meet
      case rel => exact ⟨_, (true), (by first | rfl | (simp; done) | (simp [*]; done)), H', ⟨by first | omega | exact Nat.le_refl _⟩, ⟨RU HO237.out⟩, ⟨belU HB.out⟩⟩
  case rest =>
    clear HC5
    try clear p2
    try clear c7
    try clear c8
    try clear c8b0
    try clear c8b1
    try clear c9
    try clear c9b0
    obtain ⟨kq, x28_4, rfl, HA, HJ4, HO_0, HB⟩ := hcut
    cases kq with
    | zero => exact absurd HA.out (by simp [aquiferlaw26_LruSpare.j0])
    | succ kj4 =>
      have H := HA.out
      clear HA
      simp only [aquiferlaw26_LruSpare.j0] at H
      by_cases c16 : x28_4 = true
      · subst c16
        have H1 : ((lru_Spare.f t235 a1).bind fun t239 => (if t239 = 0 then ((aquiferlaw26_works.f).bind fun t240 => (some t240)) else (none))) = some r := by rw [if_pos rfl] at H; exact H
        clear H
        have H := H1
        clear H1
        replace H := Option.bind_eq_some_iff.mp H
        obtain ⟨t239, A170, H⟩ := H
        replace H : (if t239 = 0 then ((aquiferlaw26_works.f).bind fun t240 => (some t240)) else (none)) = some r := H
        have A17 := Aside0.mk A170
        clear A170
        by_cases c18 : t239 = 0
        · rw [if_pos c18] at H
          have c18b0 : (t239 == 0) = true := beq_iff_eq.mpr c18
          have c18b1 : (t239 != 0) = false := bne_eq_false_iff_eq.mpr c18
          clear c18
          replace H := Option.bind_eq_some_iff.mp H
          obtain ⟨t240, A190, H⟩ := H
          replace H : (some t240) = some r := H
          have A19 := Aside0.mk A190
          clear A190
          obtain rfl := Option.some.inj H
          obtain ⟨Ao20, co20, eo20⟩ := Kd.R_slice HO_0.out
          subst eo20
          go_wp2_with (first | ((with_reducible refine gate_callee (f := 23) rfl ?_); refine goesL_ (some 31) rfl rfl Tryd.func23 (by kernel_rfl) rfl #[.slice Ao20 t235.length co20, .int .i64 a1] rfl (by (try simp only [List.map_toArray, List.map_cons, List.map_nil]); first | done | rfl | (simp only [List.length_drop, List.length_take]; rfl)) ?_; (with_reducible refine (lru_Spare.calls _ _ t235 a1 t239 _ ?side1 ?side2 A17.out).mono ?_); (case side1 => exact CU (Kd.R_reads' HO_0.out).2.2); (case side2 => exact (Kd.R_reads' HO_0.out).2.1); rintro e w21 ⟨rfl, hb⟩; refine ⟨_, rfl, ?_⟩; have n0_ := Aside0.mk (Kd.R_below (RU HO_0.out) hb); have n1_ := Aside0.mk (below_step (belU HB.out) hb); clear HO_0; clear HB; have HO_0 := n0_; have HB := n1_; clear n0_ n1_; (try clear hb); (try clear hb2); (try clear hk); (try clear hi)) | (go_at_call 18; (with_reducible refine (aquiferlaw26_works.calls  t240 _ A19.out).mono ?_); rintro e w22 ⟨rfl, hb⟩; have n0_ := Aside0.mk (Kd.R_below (RU HO_0.out) hb); have n1_ := Aside0.mk (below_step (belU HB.out) hb); clear HO_0; clear HB; have HO_0 := n0_; have HB := n1_; clear n0_ n1_; (try clear hb); (try clear hb2); (try clear hk); (try clear hi)))
          go_ret
          exact ⟨by first | rfl | (simp [errW_none, errW_some] <;> rfl) | (simp [*, errW_none, errW_some] <;> rfl), belU HB.out⟩
        · rw [if_neg c18] at H
          exact absurd H (by simp)
      · replace c16 := Bool.eq_false_iff.mpr c16
        subst c16
        have H1 : ((lru_Spare.f t235 a1).bind fun t241 => ((lru_Victims.f t235 a1 t241).bind fun bt242 => ((lru_Fixed.f t235).bind fun t246 => (if ((bt242.2 == 0) != (decide (t246 ≤ a1))) = true then (none) else (if t241 < 4096 then ((lru_Victims.f t235 a1 (wrap64 (t241 + 1))).bind fun bt247 => (if bt247.2 = 17 then (aquiferlaw26_LruSpare.j1 kj4 t235 a1 a2 t241 bt242.2) else (none))) else (aquiferlaw26_LruSpare.j1 kj4 t235 a1 a2 t241 bt242.2)))))) = some r := by rw [if_neg (show ¬ (false = true) by decide)] at H; exact H
        clear H
        have H := H1
        clear H1
        replace H := Option.bind_eq_some_iff.mp H
        obtain ⟨t241, A230, H⟩ := H
        replace H : ((lru_Victims.f t235 a1 t241).bind fun bt242 => ((lru_Fixed.f t235).bind fun t246 => (if ((bt242.2 == 0) != (decide (t246 ≤ a1))) = true then (none) else (if t241 < 4096 then ((lru_Victims.f t235 a1 (wrap64 (t241 + 1))).bind fun bt247 => (if bt247.2 = 17 then (aquiferlaw26_LruSpare.j1 kj4 t235 a1 a2 t241 bt242.2) else (none))) else (aquiferlaw26_LruSpare.j1 kj4 t235 a1 a2 t241 bt242.2))))) = some r := H
        have A23 := Aside0.mk A230
        clear A230
        replace H := Option.bind_eq_some_iff.mp H
        obtain ⟨⟨t242, t243⟩, A240, H⟩ := H
        replace H : ((lru_Fixed.f t235).bind fun t246 => (if ((t243 == 0) != (decide (t246 ≤ a1))) = true then (none) else (if t241 < 4096 then ((lru_Victims.f t235 a1 (wrap64 (t241 + 1))).bind fun bt247 => (if bt247.2 = 17 then (aquiferlaw26_LruSpare.j1 kj4 t235 a1 a2 t241 t243) else (none))) else (aquiferlaw26_LruSpare.j1 kj4 t235 a1 a2 t241 t243)))) = some r := H
        have A24 := Aside0.mk A240
        clear A240
        replace H := Option.bind_eq_some_iff.mp H
        obtain ⟨t246, A250, H⟩ := H
        replace H : (if ((t243 == 0) != (decide (t246 ≤ a1))) = true then (none) else (if t241 < 4096 then ((lru_Victims.f t235 a1 (wrap64 (t241 + 1))).bind fun bt247 => (if bt247.2 = 17 then (aquiferlaw26_LruSpare.j1 kj4 t235 a1 a2 t241 t243) else (none))) else (aquiferlaw26_LruSpare.j1 kj4 t235 a1 a2 t241 t243))) = some r := H
        have A25 := Aside0.mk A250
        clear A250
        by_cases c26 : ((t243 == 0) != (decide (t246 ≤ a1))) = true
        · rw [if_pos c26] at H
          exact absurd H (by simp)
        · rw [if_neg c26] at H
          have c26b0 : ((t243 == 0) != (decide (t246 ≤ a1))) = false := by simpa using c26
          (try (have c26b1 : decide ((t243 == 0) = (decide (t246 ≤ a1))) = true := by simpa using c26))
          (try (have c26b2 : ((t243 == 0) == (decide (t246 ≤ a1))) = true := by simpa using c26))
          clear c26
          have HC27 := Aside0.mk H
          clear H
          obtain ⟨Ao28, co28, eo28⟩ := Kd.R_slice HO_0.out
          subst eo28
          go_upto_if 54 with (first | ((with_reducible refine gate_callee (f := 23) rfl ?_); refine goesL_ (some 38) rfl rfl Tryd.func23 (by kernel_rfl) rfl #[.slice Ao28 t235.length co28, .int .i64 a1] rfl (by (try simp only [List.map_toArray, List.map_cons, List.map_nil]); first | done | rfl | (simp only [List.length_drop, List.length_take]; rfl)) ?_; (with_reducible refine (lru_Spare.calls _ _ t235 a1 t241 _ ?side1 ?side2 A23.out).mono ?_); (case side1 => exact CU (Kd.R_reads' HO_0.out).2.2); (case side2 => exact (Kd.R_reads' HO_0.out).2.1); rintro e w29 ⟨rfl, hb⟩; refine ⟨_, rfl, ?_⟩; have n0_ := Aside0.mk (Kd.R_below (RU HO_0.out) hb); have n1_ := Aside0.mk (below_step (belU HB.out) hb); clear HO_0; clear HB; have HO_0 := n0_; have HB := n1_; clear n0_ n1_; (try clear hb); (try clear hb2); (try clear hk); (try clear hi)) | ((with_reducible refine gate_callee (f := 19) rfl ?_); refine goesL_ (some 43) rfl rfl Tryd.func19 (by kernel_rfl) rfl #[.slice Ao28 t235.length co28, .int .i64 a1, .int .i64 t241] rfl (by (try simp only [List.map_toArray, List.map_cons, List.map_nil]); first | done | rfl | (simp only [List.length_drop, List.length_take]; rfl)) ?_; (with_reducible refine (lru_Victims.calls _ _ t235 a1 t241 t242 t243 _ ?side1 ?side2 A24.out).mono ?_); (case side1 => exact CU (Kd.R_reads' HO_0.out).2.2); (case side2 => exact (Kd.R_reads' HO_0.out).2.1); rintro e w30 ⟨v244, rfl, ho0, hb⟩; refine ⟨_, rfl, ?_⟩; have n0_ := Aside0.mk (Kd.R_below (RU HO_0.out) hb); have n1_ := Aside0.mk (Kd.R_lower ho0 (sizU HB.out)); have n2_ := Aside0.mk (below_step (belU HB.out) hb); clear HO_0; clear HB; have HO_0 := n0_; have HO245 := n1_; have HB := n2_; clear n0_ n1_ n2_; (try clear hb); (try clear hb2); (try clear hk); (try clear hi); (try clear ho0)) | ((with_reducible refine gate_callee (f := 13) rfl ?_); refine goesL_ (some 49) rfl rfl Tryd.func13 (by kernel_rfl) rfl #[.slice Ao28 t235.length co28] rfl (by (try simp only [List.map_toArray, List.map_cons, List.map_nil]); first | done | rfl | (simp only [List.length_drop, List.length_take]; rfl)) ?_; (with_reducible refine (lru_Fixed.calls _ _ t235 t246 _ ?side1 ?side2 A25.out).mono ?_); (case side1 => exact CU (Kd.R_reads' HO_0.out).2.2); (case side2 => exact (Kd.R_reads' HO_0.out).2.1); rintro e w31 ⟨rfl, hb⟩; refine ⟨_, rfl, ?_⟩; have n0_ := Aside0.mk (Kd.R_below (RU HO_0.out) hb); have n1_ := Aside0.mk (Kd.R_below (RU HO245.out) hb); have n2_ := Aside0.mk (below_step (belU HB.out) hb); clear HO_0; clear HO245; clear HB; have HO_0 := n0_; have HO245 := n1_; have HB := n2_; clear n0_ n1_ n2_; (try clear hb); (try clear hb2); (try clear hk); (try clear hi)))
          (try simp only [Act.put, List.setIfInBounds_toArray, List.set_cons_zero, List.set_cons_succ])
          go_cut [] (fun wc => ∃ (kq : Nat), Aside0 (aquiferlaw26_LruSpare.j1 kq t235 a1 a2 t241 t243 = some r) ∧ Aside0 (kq ≤ kj4) ∧ Aside0 (Kd.R k35 35 wc w.heap.size (fun _ => True) (.slice Ao28 t235.length co28) t235) ∧ Aside0 (Below w.heap.size w wc))
          case first =>
            have H := HC27.out
            clear HC27
            by_cases c32 : t241 < 4096
            · rw [if_pos c32] at H
              have c32b0 : decide (t241 < 4096) = true := decide_eq_true c32
              clear c32
              (first | rw [c32b0] | (simp only [i64_w, i32_w]; rw [c32b0]) | skip)
              replace H := Option.bind_eq_some_iff.mp H
              obtain ⟨⟨t247, t248⟩, A330, H⟩ := H
              replace H : (if t248 = 17 then (aquiferlaw26_LruSpare.j1 kj4 t235 a1 a2 t241 t243) else (none)) = some r := H
              have A33 := Aside0.mk A330
              clear A330
              by_cases c34 : t248 = 17
              · rw [if_pos c34] at H
                have c34b0 : (t248 == 17) = true := beq_iff_eq.mpr c34
                have c34b1 : (t248 != 17) = false := bne_eq_false_iff_eq.mpr c34
                clear c34
                have H' := Aside0.mk H
                clear H
                go_wp2_with (first | ((with_reducible refine gate_callee (f := 19) rfl ?_); refine goesL_ (some 60) rfl rfl Tryd.func19 (by kernel_rfl) rfl #[.slice Ao28 t235.length co28, .int .i64 a1, .int .i64 (wrap64 (t241 + 1))] rfl (by (try simp only [List.map_toArray, List.map_cons, List.map_nil]); first | done | rfl | (simp only [List.length_drop, List.length_take]; rfl)) ?_; (with_reducible refine (lru_Victims.calls _ _ t235 a1 (wrap64 (t241 + 1)) t247 t248 _ ?side1 ?side2 A33.out).mono ?_); (case side1 => exact CU (Kd.R_reads' HO_0.out).2.2); (case side2 => exact (Kd.R_reads' HO_0.out).2.1); rintro e w35 ⟨v249, rfl, ho0, hb⟩; refine ⟨_, rfl, ?_⟩; have n0_ := Aside0.mk (Kd.R_below (RU HO_0.out) hb); have n1_ := Aside0.mk (Kd.R_elder' (RU HO245.out) (Kd.R_base ho0) hb); have n2_ := Aside0.mk (Kd.R_lower (Kd.R_new' ho0 (Kd.R_lt (RU HO245.out))) (sizU HB.out)); have n3_ := Aside0.mk (below_step (belU HB.out) hb); clear HO_0; clear HO245; clear HB; have HO_0 := n0_; have HO245 := n1_; have HO250 := n2_; have HB := n3_; clear n0_ n1_ n2_ n3_; (try clear hb); (try clear hb2); (try clear hk); (try clear hi); (try clear ho0)))
                go_meet
                case rel => exact ⟨_, H', ⟨by have := HJ4.out; first | omega | exact Nat.le_refl _⟩, ⟨RU HO_0.out⟩, ⟨belU HB.out⟩⟩
              · rw [if_neg c34] at H
                exact absurd H (by simp)
            · rw [if_neg c32] at H
              have c32b0 : decide (t241 < 4096) = false := decide_eq_false c32
              clear c32
              (first | rw [c32b0] | (simp only [i64_w, i32_w]; rw [c32b0]) | skip)
              have H' := Aside0.mk H
              clear H
              go_wp2
              go_meet
              case rel => exact ⟨_, H', ⟨by have := HJ4.out; first | omega | exact Nat.le_refl _⟩, ⟨RU HO_0.out⟩, ⟨belU HB.out⟩⟩
          case rest =>
            clear HC27
            try clear c1
            try clear c2
            try clear p2
            try clear c3
            try clear p6
            try clear c7
            try clear c8
            try clear c8b0
            try clear c8b1
            try clear c9
            try clear c9b0
            try clear c13
            try clear c16
            try clear c18
            try clear c18b0
            try clear c18b1
            try clear c19
            try clear c23
            try clear c26
            try clear c26b0
            try clear c26b1
            try clear c26b2
            try clear c32
            try clear c32b0
            try clear c34
            try clear c34b0
            try clear c34b1
            try clear p2
            obtain ⟨kq, HA, HJ26, HO_0, HB⟩ := hcut
            cases kq with
            | zero => exact absurd HA.out (by simp [aquiferlaw26_LruSpare.j1])
            | succ kj26 =>
              have H := HA.out
              clear HA
              simp only [aquiferlaw26_LruSpare.j1] at H
              have HC36 := Aside0.mk H
              clear H
              go_upto_region 13 with (fail)
              go_cut [76] (fun v76 wc => ∃ (kq : Nat) (x76_35 : Bool), v76 = .bool x76_35 ∧ Aside0 (aquiferlaw26_LruSpare.j2 kq t235 a1 (Int.tmod (wrap64 ((Int.tmod a2 5000) + 5000)) 5000) t241 x76_35 = some r) ∧ Aside0 (kq ≤ kj26) ∧ Aside0 (Kd.R k35 35 wc w.heap.size (fun _ => True) (.slice Ao28 t235.length co28) t235) ∧ Aside0 (Below w.heap.size w wc))
              case first =>
                have H := HC36.out
                clear HC36
                by_cases c37 : (Int.tmod (wrap64 ((Int.tmod a2 5000) + 5000)) 5000) > (wrap64 (4611686018427387904 - a1))
                · rw [if_pos c37] at H
                  have c37b0 : decide ((wrap64 (4611686018427387904 - a1)) < (Int.tmod (wrap64 ((Int.tmod a2 5000) + 5000)) 5000)) = true := decide_eq_true c37
                  clear c37
                  (first | rw [c37b0] | (simp only [i64_w, i32_w]; rw [c37b0]) | skip)
                  have H' := Aside0.mk H
                  clear H
                  go_wp2
                  go_meet
                  case rel => exact ⟨_, (true), (by first | rfl | (simp; done) | (simp [*]; done)), H', ⟨by have := HJ4.out; have := HJ26.out; first | omega | exact Nat.le_refl _⟩, ⟨RU HO_0.out⟩, ⟨belU HB.out⟩⟩
                · rw [if_neg c37] at H
                  have c37b0 : decide ((wrap64 (4611686018427387904 - a1)) < (Int.tmod (wrap64 ((Int.tmod a2 5000) + 5000)) 5000)) = false := decide_eq_false c37
                  clear c37
                  (first | rw [c37b0] | (simp only [i64_w, i32_w]; rw [c37b0]) | skip)
                  have H' := Aside0.mk H
                  clear H
                  go_wp2
                  go_meet
                  case rel => exact ⟨_, ((t243 != 0)), (by first | rfl | (simp; done) | (simp [*]; done)), H', ⟨by have := HJ4.out; have := HJ26.out; first | omega | exact Nat.le_refl _⟩, ⟨RU HO_0.out⟩, ⟨belU HB.out⟩⟩
              case rest =>
                clear HC36
                try clear c1
                try clear c2
                try clear p2
                try clear c3
                try clear p6
                try clear c7
                try clear c8
                try clear c8b0
                try clear c8b1
                try clear c9
                try clear c9b0
                try clear c13
                try clear c16
                try clear c18
                try clear c18b0
                try clear c18b1
                try clear c19
                try clear c23
                try clear c26
                try clear c26b0
                try clear c26b1
                try clear c26b2
                try clear c32
                try clear c32b0
                try clear c34
                try clear c34b0
                try clear c34b1
                try clear c37
                try clear c37b0
                try clear p2
                try clear p6
                obtain ⟨kq, x76_35, rfl, HA, HJ35, HO_0, HB⟩ := hcut
                cases kq with
                | zero => exact absurd HA.out (by simp [aquiferlaw26_LruSpare.j2])
                | succ kj35 =>
                  have H := HA.out
                  clear HA
                  simp only [aquiferlaw26_LruSpare.j2] at H
                  by_cases c38 : x76_35 = true
                  · subst c38
                    have H1 : ((aquiferlaw26_works.f).bind fun t251 => (some t251)) = some r := by rw [if_pos rfl] at H; exact H
                    clear H
                    have H := H1
                    clear H1
                    replace H := Option.bind_eq_some_iff.mp H
                    obtain ⟨t251, A390, H⟩ := H
                    replace H : (some t251) = some r := H
                    have A39 := Aside0.mk A390
                    clear A390
                    obtain rfl := Option.some.inj H
                    go_wp2_with (first | ((with_reducible refine gate_callee (f := 18) rfl ?_); refine goesL_ (some 77) rfl rfl Tryd.func18 (by kernel_rfl) rfl #[] rfl (by (try simp only [List.map_toArray, List.map_cons, List.map_nil]); first | done | rfl | (simp only [List.length_drop, List.length_take]; rfl)) ?_; (with_reducible refine (aquiferlaw26_works.calls  t251 _ A39.out).mono ?_); rintro e w40 ⟨rfl, hb⟩; refine ⟨_, rfl, ?_⟩; have n0_ := Aside0.mk (Kd.R_below (RU HO_0.out) hb); have n1_ := Aside0.mk (below_step (belU HB.out) hb); clear HO_0; clear HB; have HO_0 := n0_; have HB := n1_; clear n0_ n1_; (try clear hb); (try clear hb2); (try clear hk); (try clear hi)))
                    go_ret
                    exact ⟨by first | rfl | (simp [errW_none, errW_some] <;> rfl) | (simp [*, errW_none, errW_some] <;> rfl), belU HB.out⟩
                  · replace c38 := Bool.eq_false_iff.mpr c38
                    subst c38
                    have H1 : ((lru_Victims.f t235 a1 t241).bind fun bt252 => ((lru_Victims.f t235 (wrap64 (a1 + (Int.tmod (wrap64 ((Int.tmod a2 5000) + 5000)) 5000))) t241).bind fun bt256 => (if bt256.2 = 0 then (if (bt256.1.length : Int) ≤ (bt252.1.length : Int) then ((aquiferlaw26_works.f).bind fun t260 => (some t260)) else (none)) else (none)))) = some r := by rw [if_neg (show ¬ (false = true) by decide)] at H; exact H
                    clear H
                    have H := H1
                    clear H1
                    replace H := Option.bind_eq_some_iff.mp H
                    obtain ⟨⟨t252, t253⟩, A410, H⟩ := H
                    replace H : ((lru_Victims.f t235 (wrap64 (a1 + (Int.tmod (wrap64 ((Int.tmod a2 5000) + 5000)) 5000))) t241).bind fun bt256 => (if bt256.2 = 0 then (if (bt256.1.length : Int) ≤ (t252.length : Int) then ((aquiferlaw26_works.f).bind fun t260 => (some t260)) else (none)) else (none))) = some r := H
                    have A41 := Aside0.mk A410
                    clear A410
                    replace H := Option.bind_eq_some_iff.mp H
                    obtain ⟨⟨t256, t257⟩, A420, H⟩ := H
                    replace H : (if t257 = 0 then (if (t256.length : Int) ≤ (t252.length : Int) then ((aquiferlaw26_works.f).bind fun t260 => (some t260)) else (none)) else (none)) = some r := H
                    have A42 := Aside0.mk A420
                    clear A420
                    by_cases c43 : t257 = 0
                    · rw [if_pos c43] at H
                      have c43b0 : (t257 == 0) = true := beq_iff_eq.mpr c43
                      have c43b1 : (t257 != 0) = false := bne_eq_false_iff_eq.mpr c43
                      clear c43
                      by_cases c44 : (t256.length : Int) ≤ (t252.length : Int)
                      · rw [if_pos c44] at H
                        have c44b0 : decide ((t256.length : Int) ≤ (t252.length : Int)) = true := decide_eq_true c44
                        have c44b1 : decide (t256.length ≤ t252.length) = true := decide_eq_true (Int.ofNat_le.mp c44)
                        clear c44
                        replace H := Option.bind_eq_some_iff.mp H
                        obtain ⟨t260, A450, H⟩ := H
                        replace H : (some t260) = some r := H
                        have A45 := Aside0.mk A450
                        clear A450
                        obtain rfl := Option.some.inj H
                        go_wp2_with (first | ((with_reducible refine gate_callee (f := 19) rfl ?_); refine goesL_ (some 82) rfl rfl Tryd.func19 (by kernel_rfl) rfl #[.slice Ao28 t235.length co28, .int .i64 a1, .int .i64 t241] rfl (by (try simp only [List.map_toArray, List.map_cons, List.map_nil]); first | done | rfl | (simp only [List.length_drop, List.length_take]; rfl)) ?_; (with_reducible refine (lru_Victims.calls _ _ t235 a1 t241 t252 t253 _ ?side1 ?side2 A41.out).mono ?_); (case side1 => exact CU (Kd.R_reads' HO_0.out).2.2); (case side2 => exact (Kd.R_reads' HO_0.out).2.1); rintro e w46 ⟨v254, rfl, ho0, hb⟩; refine ⟨_, rfl, ?_⟩; have n0_ := Aside0.mk (Kd.R_below (RU HO_0.out) hb); have n1_ := Aside0.mk (Kd.R_lower ho0 (sizU HB.out)); have n2_ := Aside0.mk (below_step (belU HB.out) hb); clear HO_0; clear HB; have HO_0 := n0_; have HO255 := n1_; have HB := n2_; clear n0_ n1_ n2_; (try clear hb); (try clear hb2); (try clear hk); (try clear hi); (try clear ho0)) | ((with_reducible refine gate_callee (f := 19) rfl ?_); refine goesL_ (some 91) rfl rfl Tryd.func19 (by kernel_rfl) rfl #[.slice Ao28 t235.length co28, .int .i64 (wrap64 (a1 + (Int.tmod (wrap64 ((Int.tmod a2 5000) + 5000)) 5000))), .int .i64 t241] rfl (by (try simp only [List.map_toArray, List.map_cons, List.map_nil]); first | done | rfl | (simp only [List.length_drop, List.length_take]; rfl)) ?_; (with_reducible refine (lru_Victims.calls _ _ t235 (wrap64 (a1 + (Int.tmod (wrap64 ((Int.tmod a2 5000) + 5000)) 5000))) t241 t256 t257 _ ?side1 ?side2 A42.out).mono ?_); (case side1 => exact CU (Kd.R_reads' HO_0.out).2.2); (case side2 => exact (Kd.R_reads' HO_0.out).2.1); rintro e w47 ⟨v258, rfl, ho0, hb⟩; refine ⟨_, rfl, ?_⟩; have n0_ := Aside0.mk (Kd.R_below (RU HO_0.out) hb); have n1_ := Aside0.mk (Kd.R_elder' (RU HO255.out) (Kd.R_base ho0) hb); have n2_ := Aside0.mk (Kd.R_lower (Kd.R_new' ho0 (Kd.R_lt (RU HO255.out))) (sizU HB.out)); have n3_ := Aside0.mk (below_step (belU HB.out) hb); clear HO_0; clear HO255; clear HB; have HO_0 := n0_; have HO255 := n1_; have HO259 := n2_; have HB := n3_; clear n0_ n1_ n2_ n3_; (try clear hb); (try clear hb2); (try clear hk); (try clear hi); (try clear ho0); obtain ⟨Ao48, co48, eo48⟩ := Kd.R_slice HO259.out; subst eo48; obtain ⟨Ao49, co49, eo49⟩ := Kd.R_slice HO255.out; subst eo49) | (go_at_call 18; (with_reducible refine (aquiferlaw26_works.calls  t260 _ A45.out).mono ?_); rintro e w50 ⟨rfl, hb⟩; have n0_ := Aside0.mk (Kd.R_below (RU HO_0.out) hb); have n1_ := Aside0.mk (Kd.R_below (RU HO255.out) hb); have n2_ := Aside0.mk (Kd.R_below (RU HO259.out) hb); have n3_ := Aside0.mk (below_step (belU HB.out) hb); clear HO_0; clear HO255; clear HO259; clear HB; have HO_0 := n0_; have HO255 := n1_; have HO259 := n2_; have HB := n3_; clear n0_ n1_ n2_ n3_; (try clear hb); (try clear hb2); (try clear hk); (try clear hi)))
                        go_ret
                        exact ⟨by first | rfl | (simp [errW_none, errW_some] <;> rfl) | (simp [*, errW_none, errW_some] <;> rfl), belU HB.out⟩
                      · rw [if_neg c44] at H
                        exact absurd H (by simp)
                    · rw [if_neg c43] at H
                      exact absurd H (by simp)

end Go.Proofs.YtdggdmdefmljlaaDoor.Q

namespace Go.Proofs.YtdggdmdefmljlaaDoor.Q
open Go Go.Proofs Go.Shelf Go.RowKit Go.Lib Go.Sort Go.Proofs.YtdggdmdefmljlaaDoorP Go.Proofs.YtdggdmdefmljlaaDoorK Go.Proofs.YtdggdmdefmljlaaDoorW.PrintWords Go.Proofs.YtdggdmdefmljlaaDoorW.PrintLast Go.Proofs.YtdggdmdefmljlaaDoorW.PrintMore
set_option linter.unusedSimpArgs false
set_option linter.unusedVariables false
/-! ### What the laws make of their input, plain -/
def cutP (x : S35) : S35 := ⟨x.f0.extract 0 (mn (x.f0.size : Int) 110).toNat, x.f1, x.f2, x.f3, x.f4⟩
def fewL (l : List S35) : List S35 := (l.take 40).map cutP
theorem few_loop (l : List S35) (d : Nat) : ∀ (k i : Nat), i + d = min l.length 40 → d < k → aquiferlaw26_few.l0 k l ((l.take i).map cutP) (i : Int) = some (fewL l) := by
  induction d with
  | zero =>
    intro k i h hk
    obtain ⟨k, rfl⟩ : ∃ q, k = q + 1 := ⟨k - 1, by omega⟩
    unfold aquiferlaw26_few.l0
    have he : (l.take i).map cutP = fewL l := by
      unfold fewL
      rcases Nat.le_total l.length 40 with h1 | h1
      · rw [List.take_of_length_le (show l.length ≤ i by omega), List.take_of_length_le h1]
      · have : i = 40 := by omega
        rw [this]
    by_cases h1 : (i : Int) < (l.length : Int)
    · rw [if_pos h1, if_neg (by omega), he]
    · rw [if_neg h1, he]
  | succ d ih =>
    intro k i h hk
    obtain ⟨k, rfl⟩ : ∃ q, k = q + 1 := ⟨k - 1, by omega⟩
    unfold aquiferlaw26_few.l0
    have hi : i < l.length := by omega
    have hr : rd_T35 l (i : Int) = l[i] := by
      unfold rd_T35
      simp [hi]
    have hm : 0 ≤ mn ((l[i].f0).size : Int) 110 ∧ mn ((l[i].f0).size : Int) 110 ≤ ((l[i].f0).size : Int) := by
      unfold mn
      split <;> omega
    have hl : ((l.take i).map cutP).length < 3518437208883 := by
      rw [List.length_map, List.length_take]
      omega
    rw [if_pos (by omega), if_pos (by omega), if_pos (by omega), hr, if_pos hm.1, if_pos hm.2, if_pos hl]
    have hw : wrap64 ((i : Int) + 1) = ((i + 1 : Nat) : Int) := by unfold wrap64; omega
    have e : (l.take i).map cutP ++ [(⟨(l[i].f0).extract 0 (mn ((l[i].f0).size : Int) 110).toNat, l[i].f1, l[i].f2, l[i].f3, l[i].f4⟩ : S35)] = (l.take (i + 1)).map cutP := by
      rw [List.take_succ_eq_append_getElem hi, List.map_append]
      rfl
    rw [hw, e]
    exact ih k (i + 1) (by omega) (by omega)
theorem few_fn (l : List S35) (k : Nat) (hk : 41 ≤ k) : aquiferlaw26_few.f k l = some (fewL l) := by
  have := few_loop l (min l.length 40) k 0 (by omega) (by omega)
  simpa [aquiferlaw26_few.f] using this
theorem few_short (l : List S35) : short (fewL l) = true := by
  unfold short fewL
  simp only [Bool.and_eq_true, decide_eq_true_eq, List.all_eq_true, List.length_map, List.length_take]
  refine ⟨by omega, fun c hc => ?_⟩
  obtain ⟨x, _, rfl⟩ := List.mem_map.1 hc
  show (x.f0.extract 0 (mn (x.f0.size : Int) 110).toNat).size ≤ 65536
  rw [ByteArray.size_extract]
  unfold mn
  split <;> omega
theorem check_fn {l : List S35} (h : short l = true) : lru_Check.f l = some (checkS l) := by unfold lru_Check.f; rw [if_pos h]
theorem bytes_fn {l : List S35} (h : short l = true) : lru_Bytes.f l = some (totalS (fun _ => true) l) := by unfold lru_Bytes.f; rw [if_pos h]
theorem fixed_fn {l : List S35} (h : short l = true) : lru_Fixed.f l = some (totalS fixedC l) := by unfold lru_Fixed.f; rw [if_pos h]
theorem order_fn {l : List S35} (h : short l = true) : lru_Order.f l = some (orderS l) := by unfold lru_Order.f; rw [if_pos h]
theorem victims_fn {l : List S35} (h : short l = true) (q n : Int) : lru_Victims.f l q n = some (victimsS l q n) := by unfold lru_Victims.f; rw [if_pos h]
theorem spare_fn {l : List S35} (h : short l = true) (q : Int) : lru_Spare.f l q = some (spareS l q) := by unfold lru_Spare.f; rw [if_pos h]
theorem works_fn : aquiferlaw26_works.f = some true := by decide +kernel
/-- With more room no more go. -/
theorem vicGo_mono (l : List S35) : ∀ (q b m : Int), 0 ≤ m → (vicGo (q + m) b l).length ≤ (vicGo q b l).length := by
  induction l with
  | nil => intro q b m _; exact Nat.le_refl _
  | cons c l ih =>
    intro q b m hm
    simp only [vicGo]
    by_cases h1 : b ≤ q
    · rw [if_pos h1, if_pos (by omega)]
      exact Nat.le_refl _
    · rw [if_neg h1]
      by_cases h2 : b ≤ q + m
      · rw [if_pos h2]
        exact Nat.zero_le _
      · rw [if_neg h2, List.length_cons, List.length_cons]
        have := ih q (b - c.f1) m hm
        omega
theorem boundB_iff (q : Int) : boundB q = true ↔ 0 ≤ q ∧ q ≤ 4611686018427387904 := by
  unfold boundB
  simp
end Go.Proofs.YtdggdmdefmljlaaDoor.Q

namespace Go.Proofs.YtdggdmdefmljlaaDoor.Q
open Go Go.Proofs Go.Shelf Go.RowKit Go.Lib Go.Sort Go.Proofs.YtdggdmdefmljlaaDoorP Go.Proofs.YtdggdmdefmljlaaDoorK Go.Proofs.YtdggdmdefmljlaaDoorW.PrintWords Go.Proofs.YtdggdmdefmljlaaDoorW.PrintLast Go.Proofs.YtdggdmdefmljlaaDoorW.PrintMore
set_option linter.unusedSimpArgs false
set_option linter.unusedVariables false
theorem spare_no_fn (l : List S35) (hs : short l = true) (q a2 : Int) (h : checkS l ≠ 0 ∨ boundB q = false) (k : Nat) : aquiferlaw26_LruSpare.j0 (k + 1) l q a2 true = some true := by
  unfold aquiferlaw26_LruSpare.j0
  dsimp only
  have e : spareS l q = 0 := by unfold spareS; rw [if_pos h]
  rw [if_pos rfl, spare_fn hs, Option.bind_some, e, if_pos rfl, works_fn]
  rfl
theorem vic_ok (l : List S35) (q n : Int) (h0 : checkS l = 0) (hb : boundB q = true) (h1 : 0 ≤ n) (h2 : n ≤ 4096) (h3 : ¬ q < totalS fixedC l + n) : victimsS l q n = (vicGo q (totalS (fun _ => true) l + n) (orderS l), 0) := by
  unfold victimsS
  rw [if_neg (by simp [h0]), if_neg (by rintro (h | h | h); · rw [hb] at h; exact absurd h (by decide)
                                        · omega
                                        · omega), if_neg h3]
theorem vic_full (l : List S35) (q n : Int) (h0 : checkS l = 0) (hb : boundB q = true) (h1 : 0 ≤ n) (h2 : n ≤ 4096) (h3 : q < totalS fixedC l + n) : victimsS l q n = ([], 17) := by
  unfold victimsS
  rw [if_neg (by simp [h0]), if_neg (by rintro (h | h | h); · rw [hb] at h; exact absurd h (by decide)
                                        · omega
                                        · omega), if_pos h3]
theorem spare_j1 (l : List S35) (hs : short l = true) (q a2 n e : Int) (h0 : checkS l = 0) (hb : boundB q = true) (hn0 : 0 ≤ n) (hn1 : n ≤ 4096) (he : e = 0 → ¬ q < totalS fixedC l + n) (k : Nat) : aquiferlaw26_LruSpare.j1 (k + 2) l q a2 n e = some true := by
  have hq := (boundB_iff q).1 hb
  have hm := Int.tmod_lt_of_pos a2 (show (0 : Int) < 5000 by decide)
  have hm' : -5000 < Int.tmod a2 5000 := by
    have h1 := Int.tmod_lt_of_pos (-a2) (show (0 : Int) < 5000 by decide)
    rw [Int.neg_tmod] at h1
    omega
  have hw : wrap64 (Int.tmod a2 5000 + 5000) = Int.tmod a2 5000 + 5000 := by unfold wrap64; omega
  have hw2 : wrap64 (4611686018427387904 - q) = 4611686018427387904 - q := by unfold wrap64; omega
  have hr0 : 0 ≤ Int.tmod (Int.tmod a2 5000 + 5000) 5000 := Int.tmod_nonneg _ (by omega)
  have hr1 := Int.tmod_lt_of_pos (Int.tmod a2 5000 + 5000) (show (0 : Int) < 5000 by decide)
  unfold aquiferlaw26_LruSpare.j1
  dsimp only
  rw [hw, hw2]
  generalize Int.tmod (Int.tmod a2 5000 + 5000) 5000 = r at hr0 hr1
  have ht : aquiferlaw26_LruSpare.j2 (k + 1) l q r n true = some true := by
    unfold aquiferlaw26_LruSpare.j2
    dsimp only
    rw [if_pos rfl, works_fn]
    rfl
  by_cases h1 : r > 4611686018427387904 - q
  · rw [if_pos h1]
    exact ht
  · rw [if_neg h1]
    by_cases h2 : e = 0
    · have h3 := he h2
      have hb2 : boundB (q + r) = true := (boundB_iff _).2 (by omega)
      rw [h2]
      show aquiferlaw26_LruSpare.j2 (k + 1) l q r n false = some true
      unfold aquiferlaw26_LruSpare.j2
      dsimp only
      have hw3 : wrap64 (q + r) = q + r := by unfold wrap64; omega
      rw [if_neg (by decide), victims_fn hs, Option.bind_some, hw3, victims_fn hs, Option.bind_some, vic_ok l q n h0 hb hn0 hn1 h3, vic_ok l (q + r) n h0 hb2 hn0 hn1 (by omega)]
      have hv := vicGo_mono (orderS l) q (totalS (fun _ => true) l + n) r hr0
      dsimp only
      rw [if_pos rfl, if_pos (by omega), works_fn]
      rfl
    · have : (e != 0) = true := bne_iff_ne.mpr h2
      rw [this]
      exact ht
theorem LruSpare_pure (l0 : List S35) (a1 a2 : Int) (_h0 : l0.length * 40 ≤ 140737488351232) (_g0 : ∀ a ∈ l0, good35 a) (_h1 : (Lit.int .i64 a1).wf = true) (_h2 : (Lit.int .i64 a2).wf = true) : ∃ k, aquiferlaw26_LruSpare.f k l0 a1 a2 = some true := by
  refine ⟨100, ?_⟩
  have hs := few_short l0
  unfold aquiferlaw26_LruSpare.f
  rw [few_fn l0 100 (by decide), Option.bind_some, check_fn hs, Option.bind_some]
  generalize fewL l0 = l at hs
  by_cases h0 : checkS l = 0
  · rw [if_pos h0]
    by_cases h1 : a1 < 0
    · rw [if_pos h1]
      refine spare_no_fn l hs a1 a2 (.inr ?_) 99
      unfold boundB
      rw [decide_eq_false (by omega)]
      rfl
    · rw [if_neg h1]
      by_cases h2 : a1 > 4611686018427387904
      · rw [decide_eq_true h2]
        refine spare_no_fn l hs a1 a2 (.inr ?_) 99
        unfold boundB
        rw [decide_eq_false (show ¬ a1 ≤ 4611686018427387904 by omega), Bool.and_false]
      · rw [decide_eq_false h2]
        have hb : boundB a1 = true := (boundB_iff _).2 (by omega)
        obtain ⟨t1, t2⟩ := total_range fixedC l h0
        have hsp : 0 ≤ spareS l a1 ∧ spareS l a1 ≤ 4096 ∧ (spareS l a1 < 4096 → a1 < totalS fixedC l + spareS l a1 + 1) ∧ (totalS fixedC l ≤ a1 → totalS fixedC l + spareS l a1 ≤ a1) := by
          unfold spareS
          rw [if_neg (by rintro (h | h); · exact h h0
                         · rw [hb] at h; exact absurd h (by decide))]
          split
          · omega
          · split <;> omega
        unfold aquiferlaw26_LruSpare.j0
        dsimp only
        rw [if_neg (by decide), spare_fn hs, Option.bind_some]
        generalize spareS l a1 = n at hsp
        obtain ⟨n0, n1, n2, n3⟩ := hsp
        rw [victims_fn hs, Option.bind_some, fixed_fn hs, Option.bind_some]
        have hrest : ∀ e : Int, (e = 0 → ¬ a1 < totalS fixedC l + n) → (if n < 4096 then (lru_Victims.f l a1 (wrap64 (n + 1))).bind fun bt => if bt.2 = 17 then aquiferlaw26_LruSpare.j1 99 l a1 a2 n e else none else aquiferlaw26_LruSpare.j1 99 l a1 a2 n e) = some true := by
          intro e he
          have hj := spare_j1 l hs a1 a2 n e h0 hb n0 n1 he 97
          by_cases h4 : n < 4096
          · have hw : wrap64 (n + 1) = n + 1 := by unfold wrap64; omega
            rw [if_pos h4, hw, victims_fn hs, Option.bind_some, vic_full l a1 (n + 1) h0 hb (by omega) (by omega) (by have := n2 h4; omega), if_pos rfl]
            exact hj
          · rw [if_neg h4]
            exact hj
        by_cases h3 : totalS fixedC l ≤ a1
        · have h5 := n3 h3
          rw [vic_ok l a1 n h0 hb n0 n1 (by omega), if_neg (by simp [h3])]
          exact hrest 0 (fun _ => by omega)
        · rw [vic_full l a1 n h0 hb n0 n1 (by omega), if_neg (by simp [h3])]
          exact hrest 17 (fun h => by omega)
  · rw [if_neg h0]
    exact spare_no_fn l hs a1 a2 (.inl h0) 99
end Go.Proofs.YtdggdmdefmljlaaDoor.Q

namespace Go.Proofs.YtdggdmdefmljlaaDoor.lruSpare
open Go.ChangeShapes Go.WideShapes Go.ChangeAt Go.RowKit Go.Proofs.YtdggdmdefmljlaaDoorK Go.Proofs.YtdggdmdefmljlaaDoorW.PrintWords Go.Proofs.YtdggdmdefmljlaaDoor.Q
open Go.ChangeMaps (open_string shut_string)
set_option linter.unusedVariables false
theorem own : ownKnob Tryd.prog.godebug = none := by kernel_rfl
theorem laidOut : laidOutB Tryd.prog = true := by kernel_rfl
set_option maxRecDepth 100000 in
theorem lifted (os : Os) (started : os.Started) (H : Type) (enc : TypeId × Value → H) :
    ReturnsInHanded {} Tryd.checked os 7 .any (fun w args => (Rows.lruSpareSpec.pre enc Tryd.prog Tryd.f7 Rows.lruSpareRow.domain false w args ∧ laidMetH Tryd.prog Rows.lruSpareRow.laid w) ∧ sizedMet enc Tryd.prog Tryd.f7 (OpenSpec.ofChange Rows.lruSpareSpec) false w args) (Rows.lruSpareSpec.post enc Tryd.prog Tryd.f7 false true false false) := by
  refine returnsInHanded_of_change_and (C := Tryd.checked) (X := fun w _ => laidMetH Tryd.prog Rows.lruSpareRow.laid w) (fun _ _ _ hh h => h.of_heap hh) own started (by kernel_rfl) Tryd.func7
    (ChangeSpec.witness_shaped (enc := enc) (C := Tryd.checked) (os := os) (X := fun w _ => laidMetH Tryd.prog Rows.lruSpareRow.laid w) false (World.laidAll Tryd.prog os Rows.lruSpareRow.laid) #[.slice none 0 0, .int .i64 0, .int .i64 0] 8 (World.laidAll_os _ _ _)
      (World.shaped_of_ZipB (by kernel_rfl) (by kernel_rfl)) (by kernel_rfl) (by kernel_rfl) (by kernel_rfl)
      (by rw [MakeChecks.laidMetH_plain _ _ _ (by kernel_rfl)]; exact laidMet_laidAll _ (by kernel_rfl) (by kernel_rfl))) ?_
  intro W base args ds gs before hval0 hW hcnd hsz0 _ _
  have hsz : (DataW.weightsEach Tryd.prog (Tryd.f7.params.toList ++ Rows.lruSpareSpec.plain.varTypes Tryd.prog) (ds ++ gs)).all (· ≤ reachBytes) = true := hsz0
  have hval : ∀ (j : Nat) t v, Tryd.f7.params[j]? = some t → args[j]? = some v → Value.okWide Tryd.prog W .any base t v := hval0
  have hW' := hW
  obtain ⟨p, q, hA0, hV, rfl, hfz, hnd⟩ := hW
  have hA : DataW.TrodAll enc Tryd.prog W 0 (fun _ => true) true Tryd.f7.params.toList args.toList ds p := hA0
  rw [Tryd.params7] at hA hval hsz
  obtain ⟨v0, vs0, d0, ds0, p0, q0, hargs, rfl, rfl, h0, r0⟩ := trodAll_cons hA
  obtain ⟨v1, vs1, d1, ds1, p1, q1, rfl, rfl, rfl, h1, r1⟩ := trodAll_cons r0
  obtain ⟨v2, vs2, d2, ds2, p2, q2, rfl, rfl, rfl, h2, r2⟩ := trodAll_cons r1
  obtain ⟨rfl, rfl, rfl⟩ := trodAll_nil r2
  obtain rfl : args = #[v0, v1, v2] := by cases args; simp_all
  obtain ⟨rfl, rfl⟩ := trodVars_none hV
  obtain ⟨a0, len0, cap0, rfl⟩ := okWide_slice Tryd.underlying22 (hval 0 22 v0 rfl rfl)
  have k0 := h0
  have lt0 : ∀ x ∈ p0, x.block < W.heap.size := by obtain ⟨m, hm⟩ := k0; exact DataW.trod_lt m _ _ _ hm
  have y0 : len0 * 40 ≤ 140737488351232 := sized_row hsz (j := 0) (t := 22) rfl rfl Tryd.underlying22 (by kernel_rfl) h0
  obtain ⟨l0, ⟨A0, c0, he0, hl0, hC0⟩, _, hG0⟩ : ∃ l, (Kd.slice 35 k35).K W l [.slice a0 len0 cap0] ∧ l.length ≤ 9223372036854775807 ∧ ∀ a ∈ l, good35 a := by
    obtain ⟨fuel, hf⟩ := h0
    exact (opens_slice (e := 35) Tryd.underlying22 (by kernel_rfl) opens35) _ _ _ _ _ _ _ _ _ hf
  simp only [List.cons.injEq, Value.slice.injEq, and_true] at he0
  obtain ⟨rfl, rfl, rfl⟩ := he0
  obtain ⟨a1, rfl, rfl, rfl, w1⟩ := open_int Tryd.underlying3 (hval 1 3 v1 rfl rfl) h1
  obtain ⟨a2, rfl, rfl, rfl, w2⟩ := open_int Tryd.underlying3 (hval 2 3 v2 rfl rfl) h2
  clear hA0 hval0 hsz0 hsz
  obtain ⟨k, hP⟩ := LruSpare_pure l0 a1 a2 y0 hG0 w1 w2
  refine (aquiferlaw26_LruSpare.calls k _ _ l0 a1 a2 true W hC0 hl0 hP).mono fun e W' he0 => ?_
  obtain ⟨rfl, bel0⟩ := he0
  have bel : Below W.heap.size W W' := bel0
  exact ⟨_, rfl, _, _, _, [], _, [], hW', trodAll_mk1 (shut_bool Tryd.underlying4 _), (trodAll_cons_mk (Below.trod laidOut (by kernel_rfl) (of_decide_eq_true (by kernel_rfl)) k0 bel lt0) (trodAll_cons_mk (shut_int Tryd.underlying3 w1) (trodAll_cons_mk (shut_int Tryd.underlying3 w2) trodAll_mk0))), rfl, bel.frame _, fun h => by cases h⟩
theorem over : Rows.lruSpareRow.holds Tryd.pinned (OpenSpec.ofChange Rows.lruSpareSpec) :=
  OpenClaim.holds_of_wide 7 Tryd.f7 rfl rfl rfl rfl rfl rfl rfl ⟨rfl, rfl, rfl, rfl, rfl⟩ rfl rfl rfl rfl rfl (by kernel_rfl) Tryd.func7 (by kernel_rfl)
    (of_decide_eq_true (by kernel_rfl)) (by unfold Func.isWrapper; first | (rw [if_pos (by decide +kernel)]; kernel_rfl) | (rw [if_neg (by decide +kernel)]; exact ⟨rfl, rfl⟩))
    (fun os started H enc _ => lifted os started H enc)
theorem card : Rows.LruSpareCardSaid :=
  Claim7.holds_tied_plain_at .later [] [.data, .pinned] true (true, "ed3517321f6b201d801f28c50cabd34698d0c30173b98f1f6a6ddb8340a2a237") false over (fun _ h => by cases h) (by kernel_rfl) (fun _ h => by cases h) lruSpare_row_tie rfl ⟨rfl, rfl⟩ (by kernel_rfl) rfl
    (fun f fn hf hfn => by
      obtain rfl : f = 7 := Option.some.inj ((show Tryd.prog.funcNamed "aquifer/aquiferlaw26.LruSpare" = some 7 by kernel_rfl).symm.trans hf) |>.symm
      obtain rfl : fn = Tryd.f7 := (Option.some.inj (Tryd.func7.symm.trans hfn)).symm
      exact ⟨by kernel_rfl, fun j t ht => by
        rw [Tryd.params7] at ht
        have hm : t ∈ [22, 3, 3] := by simpa using Array.mem_of_getElem? ht
        have hall : ([22, 3, 3].all fun u => !Tryd.prog.wantsStandIn u) = true := by kernel_rfl
        exact (show Tryd.prog.wantsStandIn t = false by simpa using List.all_eq_true.1 hall t hm)⟩)
    (by kernel_rfl)
theorem proved : Rows.LruSpareCardSaid := card
#print axioms proved
end Go.Proofs.YtdggdmdefmljlaaDoor.lruSpare
namespace Go.Proofs.YtdggdmdefmljlaaDoor
/-- The card, under a short name, for the claim. -/
theorem lruSpare_holds : Rows.LruSpareCardSaid := lruSpare.proved
end Go.Proofs.YtdggdmdefmljlaaDoor
