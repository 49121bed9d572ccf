/-
What is proved: aquifer/aquiferlaw06.ScopeAlgebra answers true for every input, and leaves its arguments as they were.
-/
import Derived.Test.YtkflalaocnghcaaDoorZG1
import Derived.Test.YtkflalaocnghcaaDoorZG3
import Derived.Test.YtkflalaocnghcaaDoorRows
import Derived.Test.YtkflalaocnghcaaDoorCards
import Derived.Test.YtkflalaocnghcaaDoorTie
import Derived.WalkKit
import Derived.ProofKit
import Derived.OpenShut
import Derived.ShutString
import Derived.ChangeOld
import Derived.Below
import Derived.SizedLaws
import Derived.LaidLaws
import Derived.LaidMore
import Derived.Lay
import Derived.SevenTiedAt
import Derived.Stop.Joined
namespace Go.Proofs.YtkflalaocnghcaaDoor.Q
open Go.RowKit Go.Proofs.YtkflalaocnghcaaDoorW.PrintWords Go.Proofs.YtkflalaocnghcaaDoorW.PrintLast Go.Proofs.YtkflalaocnghcaaDoorW.PrintMore Go.Proofs.YtkflalaocnghcaaDoorK
attribute [local go_sem] max2_int min2_int max_two min_two max_three min_three max_four min_four   -- for this text's walks alone
attribute [local go_sem ↓] Go.Proofs.YtkflalaocnghcaaDoorK.isSome_setCell
set_option linter.unusedVariables false
set_option linter.unusedSimpArgs false

/-! ### aquiferref06_Meet: function 23 -/
mutual
def aquiferref06_Meet.j0 : Nat → List ByteArray → List ByteArray → Bool → Option (List ByteArray)
  | 0, _, _, _ => none
  | k + 1, x0, x1, x15 => if x15 = true then (some ([] : List ByteArray)) else (aquiferref06_Meet.l0 k x0 x1 ([] : List ByteArray) 0)
def aquiferref06_Meet.l0 : Nat → List ByteArray → List ByteArray → List ByteArray → Int → Option (List ByteArray)
  | 0, _, _, _, _ => none
  | k + 1, x0, x1, x5, x6 => if x6 < (x0.length : Int) then (if 0 ≤ x6 then ((aquiferref06_Has.f k x1 (rdOf ByteArray.empty x0 x6)).bind fun t280 => (if t280 = true then (if x5.length < 8796093022208 then (aquiferref06_Meet.l0 k x0 x1 (x5 ++ [rdOf ByteArray.empty x0 x6]) (wrap64 (x6 + 1))) else (none)) else (aquiferref06_Meet.l0 k x0 x1 x5 (wrap64 (x6 + 1))))) else (none)) else (aquiferref06_Meet.l1 k x0 x1 x5 0)
def aquiferref06_Meet.l1 : Nat → List ByteArray → List ByteArray → List ByteArray → Int → Option (List ByteArray)
  | 0, _, _, _, _ => none
  | k + 1, x0, x1, x5, x7 => if x7 < (x1.length : Int) then (if 0 ≤ x7 then ((aquiferref06_Has.f k x0 (rdOf ByteArray.empty x1 x7)).bind fun t286 => (if t286 = true then (if x5.length < 8796093022208 then (aquiferref06_Meet.l1 k x0 x1 (x5 ++ [rdOf ByteArray.empty x1 x7]) (wrap64 (x7 + 1))) else (none)) else (aquiferref06_Meet.l1 k x0 x1 x5 (wrap64 (x7 + 1))))) else (none)) else ((aquiferref06_reduce.f k x5).bind fun t291 => (some t291))
end
def aquiferref06_Meet.f (k : Nat) (l0 : List ByteArray) (l1 : List ByteArray) : Option (List ByteArray) := (aquiferref06_May.f k l0).bind fun t277 => (if t277 = true then ((aquiferref06_May.f k l1).bind fun t278 => (aquiferref06_Meet.j0 k l0 l1 (!t278))) else (aquiferref06_Meet.j0 k l0 l1 true))
theorem aquiferref06_Meet.mono_l : ∀ k, (∀ y0 y1 y2, LeO (aquiferref06_Meet.j0 k y0 y1 y2) (aquiferref06_Meet.j0 (k + 1) y0 y1 y2)) ∧ (∀ y0 y1 y2 y3, LeO (aquiferref06_Meet.l0 k y0 y1 y2 y3) (aquiferref06_Meet.l0 (k + 1) y0 y1 y2 y3)) ∧ (∀ y0 y1 y2 y3, LeO (aquiferref06_Meet.l1 k y0 y1 y2 y3) (aquiferref06_Meet.l1 (k + 1) y0 y1 y2 y3))
  | 0 => ⟨fun _ _ _ r h => by simp [aquiferref06_Meet.j0] at h, fun _ _ _ _ r h => by simp [aquiferref06_Meet.l0] at h, fun _ _ _ _ r h => by simp [aquiferref06_Meet.l1] at h⟩
  | k + 1 => by
    obtain ⟨ih0, ih1, ih2⟩ := aquiferref06_Meet.mono_l k
    refine ⟨?_, ?_, ?_⟩
    · intro y0 y1 y2
      unfold aquiferref06_Meet.j0
      repeat' first
      | (with_reducible exact ih0 _ _ _)
      | (with_reducible exact ih1 _ _ _ _)
      | (with_reducible exact ih2 _ _ _ _)
      | (with_reducible exact aquiferref06_Has.mono _ _ _)
      | (with_reducible exact aquiferref06_May.mono _ _)
      | (with_reducible exact aquiferref06_reduce.mono _ _)
      | (with_reducible exact LeO.refl _)
      | (with_reducible exact LeO.none _)
      | (with_reducible refine LeO.ite ?_ ?_)
      | (with_reducible refine LeO.bind ?_ (fun _ => ?_))
      | exact ih0 _ _ _
      | exact ih1 _ _ _ _
      | exact ih2 _ _ _ _
      | exact aquiferref06_Has.mono _ _ _
      | exact aquiferref06_May.mono _ _
      | exact aquiferref06_reduce.mono _ _
      | exact LeO.none _
      | refine LeO.ite ?_ ?_
      | refine LeO.bind ?_ (fun _ => ?_)
    · intro y0 y1 y2 y3
      unfold aquiferref06_Meet.l0
      repeat' first
      | (with_reducible exact ih0 _ _ _)
      | (with_reducible exact ih1 _ _ _ _)
      | (with_reducible exact ih2 _ _ _ _)
      | (with_reducible exact aquiferref06_Has.mono _ _ _)
      | (with_reducible exact aquiferref06_May.mono _ _)
      | (with_reducible exact aquiferref06_reduce.mono _ _)
      | (with_reducible exact LeO.refl _)
      | (with_reducible exact LeO.none _)
      | (with_reducible refine LeO.ite ?_ ?_)
      | (with_reducible refine LeO.bind ?_ (fun _ => ?_))
      | exact ih0 _ _ _
      | exact ih1 _ _ _ _
      | exact ih2 _ _ _ _
      | exact aquiferref06_Has.mono _ _ _
      | exact aquiferref06_May.mono _ _
      | exact aquiferref06_reduce.mono _ _
      | exact LeO.none _
      | refine LeO.ite ?_ ?_
      | refine LeO.bind ?_ (fun _ => ?_)
    · intro y0 y1 y2 y3
      unfold aquiferref06_Meet.l1
      repeat' first
      | (with_reducible exact ih0 _ _ _)
      | (with_reducible exact ih1 _ _ _ _)
      | (with_reducible exact ih2 _ _ _ _)
      | (with_reducible exact aquiferref06_Has.mono _ _ _)
      | (with_reducible exact aquiferref06_May.mono _ _)
      | (with_reducible exact aquiferref06_reduce.mono _ _)
      | (with_reducible exact LeO.refl _)
      | (with_reducible exact LeO.none _)
      | (with_reducible refine LeO.ite ?_ ?_)
      | (with_reducible refine LeO.bind ?_ (fun _ => ?_))
      | exact ih0 _ _ _
      | exact ih1 _ _ _ _
      | exact ih2 _ _ _ _
      | exact aquiferref06_Has.mono _ _ _
      | exact aquiferref06_May.mono _ _
      | exact aquiferref06_reduce.mono _ _
      | exact LeO.none _
      | refine LeO.ite ?_ ?_
      | refine LeO.bind ?_ (fun _ => ?_)
theorem aquiferref06_Meet.mono : ∀ a0 a1 k, LeO (aquiferref06_Meet.f k a0 a1) (aquiferref06_Meet.f (k + 1) a0 a1) := by
  intro a0 a1 k
  obtain ⟨ih0, ih1, ih2⟩ := aquiferref06_Meet.mono_l k
  unfold aquiferref06_Meet.f
  repeat' first
      | (with_reducible exact ih0 _ _ _)
      | (with_reducible exact ih1 _ _ _ _)
      | (with_reducible exact ih2 _ _ _ _)
      | (with_reducible exact aquiferref06_Has.mono _ _ _)
      | (with_reducible exact aquiferref06_May.mono _ _)
      | (with_reducible exact aquiferref06_reduce.mono _ _)
      | (with_reducible exact LeO.refl _)
      | (with_reducible exact LeO.none _)
      | (with_reducible refine LeO.ite ?_ ?_)
      | (with_reducible refine LeO.bind ?_ (fun _ => ?_))
      | exact ih0 _ _ _
      | exact ih1 _ _ _ _
      | exact ih2 _ _ _ _
      | exact aquiferref06_Has.mono _ _ _
      | exact aquiferref06_May.mono _ _
      | exact aquiferref06_reduce.mono _ _
      | exact LeO.none _
      | refine LeO.ite ?_ ?_
      | refine LeO.bind ?_ (fun _ => ?_)
set_option maxHeartbeats 8000000 in
set_option maxRecDepth 100000 in
theorem aquiferref06_Meet.calls (k : Nat) (A0 : Option Addr) (c0 : Nat) (l0 : List ByteArray) (A1 : Option Addr) (c1 : Nat) (l1 : List ByteArray) (r : List ByteArray) (w : World) (hr0 : Kd.C Kd.string w A0 l0.length l0) (hc0 : l0.length ≤ c0) (hr1 : Kd.C Kd.string w A1 l1.length l1) (hc1 : l1.length ≤ c1) (h : aquiferref06_Meet.f k l0 l1 = some r) :
    Calls Tryd.prog 23 #[.slice A0 l0.length c0, .slice A1 l1.length c1] w fun e w' => ∃ v0_ : Value, e = .returned (v0_) ∧ Kd.R Kd.string 9 w' w.heap.size (fun _ => True) v0_ r ∧ Below w.heap.size w w' := by
  have HR0 := Aside0.mk hr0
  have HC0 := Aside0.mk hc0
  clear hr0 hc0
  have HR1 := Aside0.mk hr1
  have HC1 := Aside0.mk hc1
  clear hr1 hc1
  have HB := Aside0.mk (Below.refl w.heap.size w)
  have H : ((aquiferref06_May.f k l0).bind fun t277 => (if t277 = true then ((aquiferref06_May.f k l1).bind fun t278 => (aquiferref06_Meet.j0 k l0 l1 (!t278))) else (aquiferref06_Meet.j0 k l0 l1 true))) = some r := h
  clear h
  have HC3 := Aside0.mk H
  clear H
  go_enter Tryd.func23, Tryd.ntmps23
  go_upto_region 1 with (fail)
  go_cut [15] (fun v15 wc => ∃ (kq : Nat) (x15_2 : Bool), v15 = .bool x15_2 ∧ Aside0 (aquiferref06_Meet.j0 kq l0 l1 x15_2 = some r) ∧ Aside0 (kq ≤ k) ∧ Aside0 (Below w.heap.size w wc))
  case first =>
    have H := HC3.out
    clear HC3
    replace H := Option.bind_eq_some_iff.mp H
    obtain ⟨t277, A40, H⟩ := H
    replace H : (if t277 = true then ((aquiferref06_May.f k l1).bind fun t278 => (aquiferref06_Meet.j0 k l0 l1 (!t278))) else (aquiferref06_Meet.j0 k l0 l1 true)) = some r := H
    have A4 := Aside0.mk A40
    clear A40
    by_cases c5 : t277 = true
    · subst c5
      have H1 : ((aquiferref06_May.f k l1).bind fun t278 => (aquiferref06_Meet.j0 k l0 l1 (!t278))) = some r := by rw [if_pos rfl] at H; exact H
      clear H
      have H := H1
      clear H1
      replace H := Option.bind_eq_some_iff.mp H
      obtain ⟨t278, A60, H⟩ := H
      replace H : (aquiferref06_Meet.j0 k l0 l1 (!t278)) = some r := H
      have A6 := Aside0.mk A60
      clear A60
      have H' := Aside0.mk H
      clear H
      go_wp2_with (first | ((with_reducible refine gate_callee (f := 14) rfl ?_); refine goesL_ (some 9) rfl rfl Tryd.func14 (by kernel_rfl) rfl #[.slice A0 l0.length c0] rfl (by (try simp only [List.map_toArray, List.map_cons, List.map_nil]); first | done | rfl | (simp only [List.length_drop, List.length_take]; rfl)) ?_; (with_reducible refine (aquiferref06_May.calls k _ _ l0 true _ ?side1 ?side2 A4.out).mono ?_); (case side1 => exact CU (Kd.C_below HR0.out HB.out)); (case side2 => exact HC0.out); rintro e w7 ⟨rfl, hb⟩; refine ⟨_, rfl, ?_⟩; have n0_ := Aside0.mk (below_step (belU HB.out) hb); clear HB; have HB := n0_; clear n0_; (try clear hb); (try clear hb2); (try clear hk); (try clear hi)) | (go_at_call 14; (with_reducible refine (aquiferref06_May.calls k _ _ l1 t278 _ ?side1 ?side2 A6.out).mono ?_); (case side1 => exact CU (Kd.C_below HR1.out HB.out)); (case side2 => exact HC1.out); rintro e w8 ⟨rfl, hb⟩; have n0_ := Aside0.mk (below_step (belU HB.out) hb); clear HB; have HB := n0_; clear n0_; (try clear hb); (try clear hb2); (try clear hk); (try clear hi)))
      go_meet
      case rel => exact ⟨_, (!t278), (by first | rfl | (simp; done) | (simp [*]; done)), H', ⟨by first | omega | exact Nat.le_refl _⟩, ⟨belU HB.out⟩⟩
    · replace c5 := Bool.eq_false_iff.mpr c5
      subst c5
      have H1 : (aquiferref06_Meet.j0 k l0 l1 true) = some r := by rw [if_neg (show ¬ (false = true) by decide)] at H; exact H
      clear H
      have H := H1
      clear H1
      have H' := Aside0.mk H
      clear H
      go_wp2_with (first | ((with_reducible refine gate_callee (f := 14) rfl ?_); refine goesL_ (some 9) rfl rfl Tryd.func14 (by kernel_rfl) rfl #[.slice A0 l0.length c0] rfl (by (try simp only [List.map_toArray, List.map_cons, List.map_nil]); first | done | rfl | (simp only [List.length_drop, List.length_take]; rfl)) ?_; (with_reducible refine (aquiferref06_May.calls k _ _ l0 false _ ?side1 ?side2 A4.out).mono ?_); (case side1 => exact CU (Kd.C_below HR0.out HB.out)); (case side2 => exact HC0.out); rintro e w9 ⟨rfl, hb⟩; refine ⟨_, rfl, ?_⟩; have n0_ := Aside0.mk (below_step (belU HB.out) hb); clear HB; have HB := n0_; clear n0_; (try clear hb); (try clear hb2); (try clear hk); (try clear hi)))
      go_meet
      case rel => exact ⟨_, (true), (by first | rfl | (simp; done) | (simp [*]; done)), H', ⟨by first | omega | exact Nat.le_refl _⟩, ⟨belU HB.out⟩⟩
  case rest =>
    clear HC3
    try clear c1
    try clear c2
    try clear p2
    try clear c5
    obtain ⟨kq, x15_2, rfl, HA, HJ2, HB⟩ := hcut
    cases kq with
    | zero => exact absurd HA.out (by simp [aquiferref06_Meet.j0])
    | succ kj2 =>
      have H := HA.out
      clear HA
      simp only [aquiferref06_Meet.j0] at H
      by_cases c10 : x15_2 = true
      · subst c10
        have H1 : (some ([] : List ByteArray)) = some r := by rw [if_pos rfl] at H; exact H
        clear H
        have H := H1
        clear H1
        obtain rfl := Option.some.inj H
        go_wp2
        go_ret
        exact ⟨_, by first | rfl | (simp [errW_none, errW_some] <;> rfl) | (simp [*, errW_none, errW_some] <;> rfl), by first | exact Kd.R_nil _ _ _ _ _ | exact Kd.N_nil _ _ _ _ _ | exact Kd.V_nil _ _ _ _ _ | exact Kd.Q_nil _ _ _ _ _ | exact Kd.S_nil _ _ _ _ _, belU HB.out⟩
      · replace c10 := Bool.eq_false_iff.mpr c10
        subst c10
        have H1 : (aquiferref06_Meet.l0 kj2 l0 l1 ([] : List ByteArray) 0) = some r := by rw [if_neg (show ¬ (false = true) by decide)] at H; exact H
        clear H
        have H := H1
        clear H1
        have H' := Aside0.mk H
        clear H
        go_wp2
        go_loopg [5, 6] kj2 (fun kq v5 v6 w' => ∃ (x5_2 : List ByteArray) (x6_2 : Int), v6 = .int .i64 x6_2 ∧ Aside0 (aquiferref06_Meet.l0 kq l0 l1 x5_2 x6_2 = some r) ∧ Aside0 (kq ≤ kj2) ∧ Aside0 (Kd.R Kd.string 9 w' w.heap.size (fun _ => True) v5 x5_2) ∧ Aside0 (Below w.heap.size w w'))
        case atStart => exact ⟨(([] : List ByteArray)), (0), (by first | rfl | (simp; done) | (simp [*]; done)), H', ⟨Nat.le_refl _⟩, ⟨by first | exact Kd.R_nil _ _ _ _ _ | exact Kd.N_nil _ _ _ _ _ | exact Kd.V_nil _ _ _ _ _ | exact Kd.Q_nil _ _ _ _ _ | exact Kd.S_nil _ _ _ _ _⟩, ⟨belU HB.out⟩⟩
        case round =>
          clear H'
          try clear c1
          try clear c2
          try clear p2
          try clear c5
          try clear c10
          try clear p2
          obtain ⟨x5_2, x6_2, rfl, HA, HK2, HO_5, HB⟩ := hrel
          cases gk with
          | zero => exact absurd HA.out (by simp [aquiferref06_Meet.l0])
          | succ k2 =>
            have H := HA.out
            clear HA
            simp only [aquiferref06_Meet.l0] at H
            by_cases c11 : x6_2 < (l0.length : Int)
            · rw [if_pos c11] at H
              have c11b0 : decide (x6_2 < (l0.length : Int)) = true := decide_eq_true c11
              clear c11
              by_cases c12 : 0 ≤ x6_2
              · rw [if_pos c12] at H
                have c12b0 : decide (0 ≤ x6_2) = true := decide_eq_true c12
                clear c12
                replace H := Option.bind_eq_some_iff.mp H
                obtain ⟨t280, A130, H⟩ := H
                replace H : (if t280 = true then (if x5_2.length < 8796093022208 then (aquiferref06_Meet.l0 k2 l0 l1 (x5_2 ++ [rdOf ByteArray.empty l0 x6_2]) (wrap64 (x6_2 + 1))) else (none)) else (aquiferref06_Meet.l0 k2 l0 l1 x5_2 (wrap64 (x6_2 + 1)))) = some r := H
                have A13 := Aside0.mk A130
                clear A130
                by_cases c14 : t280 = true
                · subst c14
                  have H1 : (if x5_2.length < 8796093022208 then (aquiferref06_Meet.l0 k2 l0 l1 (x5_2 ++ [rdOf ByteArray.empty l0 x6_2]) (wrap64 (x6_2 + 1))) else (none)) = some r := by rw [if_pos rfl] at H; exact H
                  clear H
                  have H := H1
                  clear H1
                  by_cases c15 : x5_2.length < 8796093022208
                  · rw [if_pos c15] at H
                    have LMc15 := Aside0.mk c15
                    clear c15
                    obtain ⟨y282, hy282⟩ : ∃ y_ : List ByteArray, y_ = (x5_2 ++ [rdOf ByteArray.empty l0 x6_2]) := ⟨_, rfl⟩
                    replace H : (aquiferref06_Meet.l0 k2 l0 l1 y282 (wrap64 (x6_2 + 1))) = some r := by first | (rw [hy282]; with_reducible exact H) | (have H2_ := (Option.bind_some _ _).symm.trans H; rw [hy282]; with_reducible exact H2_) | (have H2_ := (Option.bind_some _ _).symm.trans H; with_reducible exact H2_) | with_reducible exact H | (rw [hy282]; exact H) | exact H
                    have Ny282 := Aside0.mk hy282
                    clear hy282
                    have H' := Aside0.mk H
                    clear H
                    have p279 : 0 ≤ (x6_2 : Int) := of_decide_eq_true (by first | (with_reducible assumption) | assumption)
                    have q279 : x6_2 < (l0.length : Int) := of_decide_eq_true (by first | (with_reducible assumption) | assumption)
                    obtain ⟨ad279, e279, hx279_0⟩ := Kd.at_string HR0.out x6_2 p279 q279
                    cases e279
                    replace hx279_0 := (HB.out.cell (World.block_lt_of_cell? w _ hx279_0)).trans hx279_0
                    replace p279 := eq_true p279
                    replace q279 := eq_true q279
                    go_wp2_with (first | ((with_reducible refine gate_callee (f := 17) rfl ?_); refine goesL_ (some 27) rfl rfl Tryd.func17 (by kernel_rfl) rfl #[.slice A1 l1.length c1, .string (rdOf ByteArray.empty l0 x6_2)] rfl (by (try simp only [List.map_toArray, List.map_cons, List.map_nil]); first | done | rfl | (simp only [List.length_drop, List.length_take]; rfl)) ?_; (with_reducible refine (aquiferref06_Has.calls k2 _ _ l1 (rdOf ByteArray.empty l0 x6_2) true _ ?side1 ?side2 A13.out).mono ?_); (case side1 => exact CU (Kd.C_below HR1.out HB.out)); (case side2 => exact HC1.out); rintro e w16 ⟨rfl, hb⟩; refine ⟨_, rfl, ?_⟩; have n0_ := Aside0.mk (Kd.R_below (RU HO_5.out) hb); have n1_ := Aside0.mk (below_step (belU HB.out) hb); clear HO_5; clear HB; have HO_5 := n0_; have HB := n1_; clear n0_ n1_; (try clear hb); (try clear hb2); (try clear hk); (try clear hi); have p281 : 0 ≤ (x6_2 : Int) := of_decide_eq_true (by first | (with_reducible assumption) | assumption); have q281 : x6_2 < (l0.length : Int) := of_decide_eq_true (by first | (with_reducible assumption) | assumption); obtain ⟨ad281, e281, hx281_0⟩ := Kd.at_string HR0.out x6_2 p281 q281; obtain rfl : ad279 = ad281 := (by injection e281); replace hx281_0 := (HB.out.cell (World.block_lt_of_cell? w _ hx281_0)).trans hx281_0; replace p281 := eq_true p281; replace q281 := eq_true q281) | ((with_reducible refine gate_builtin (b := .append) (xs := #[.tmp 28, .tmp 33]) rfl ?_); at_builtin; refine Kd.R_append Kd.string (w0 := w) w.heap.size rfl (.tmp 28) (.tmp 33) 22 9 (.string ⟨#[]⟩) 16 rfl Tryd.underlying22 info9 rfl (by decide) (by omega) u5 x5_2 (rdOf ByteArray.empty l0 x6_2) [.string (rdOf ByteArray.empty l0 x6_2)] (fun _ => True) (fun _ => False) rfl rfl ?aP (fun _ hk => hk.elim) ?aF ?aO ?aB ?aS ?aL ?_; (case aP => exact rfl); (case aB => exact (belU HB.out)); (case aF => exact (fun _ _ => trivial)); (case aO => exact (RU HO_5.out)); (case aS => exact (sizU HB.out)); (case aL => have := LMc15.out; omega); intro v283 w17 ho hb hg hat; rw [← Ny282.out] at ho; have n0_ := Aside0.mk (hb); have n1_ := Aside0.mk (ho); clear HB; clear HO_5; have HB := n0_; have HO284 := n1_; clear n0_ n1_; clear ho hb hg hat))
                    go_roundg k2
                    case measure => have := HJ2.out; have := HK2.out; omega
                    case rel => exact ⟨(y282), (wrap64 (x6_2 + 1)), (by first | rfl | (simp; done) | (simp [*]; done)), H', ⟨by have := HJ2.out; have := HK2.out; omega⟩, ⟨RU HO284.out⟩, ⟨belU HB.out⟩⟩
                  · rw [if_neg c15] at H
                    exact absurd H (by simp)
                · replace c14 := Bool.eq_false_iff.mpr c14
                  subst c14
                  have H1 : (aquiferref06_Meet.l0 k2 l0 l1 x5_2 (wrap64 (x6_2 + 1))) = some r := by rw [if_neg (show ¬ (false = true) by decide)] at H; exact H
                  clear H
                  have H := H1
                  clear H1
                  have H' := Aside0.mk H
                  clear H
                  have p279 : 0 ≤ (x6_2 : Int) := of_decide_eq_true (by first | (with_reducible assumption) | assumption)
                  have q279 : x6_2 < (l0.length : Int) := of_decide_eq_true (by first | (with_reducible assumption) | assumption)
                  obtain ⟨ad279, e279, hx279_0⟩ := Kd.at_string HR0.out x6_2 p279 q279
                  cases e279
                  replace hx279_0 := (HB.out.cell (World.block_lt_of_cell? w _ hx279_0)).trans hx279_0
                  replace p279 := eq_true p279
                  replace q279 := eq_true q279
                  go_wp2_with (first | ((with_reducible refine gate_callee (f := 17) rfl ?_); refine goesL_ (some 27) rfl rfl Tryd.func17 (by kernel_rfl) rfl #[.slice A1 l1.length c1, .string (rdOf ByteArray.empty l0 x6_2)] rfl (by (try simp only [List.map_toArray, List.map_cons, List.map_nil]); first | done | rfl | (simp only [List.length_drop, List.length_take]; rfl)) ?_; (with_reducible refine (aquiferref06_Has.calls k2 _ _ l1 (rdOf ByteArray.empty l0 x6_2) false _ ?side1 ?side2 A13.out).mono ?_); (case side1 => exact CU (Kd.C_below HR1.out HB.out)); (case side2 => exact HC1.out); rintro e w18 ⟨rfl, hb⟩; refine ⟨_, rfl, ?_⟩; have n0_ := Aside0.mk (Kd.R_below (RU HO_5.out) hb); have n1_ := Aside0.mk (below_step (belU HB.out) hb); clear HO_5; clear HB; have HO_5 := n0_; have HB := n1_; clear n0_ n1_; (try clear hb); (try clear hb2); (try clear hk); (try clear hi)))
                  go_roundg k2
                  case measure => have := HJ2.out; have := HK2.out; omega
                  case rel => exact ⟨(x5_2), (wrap64 (x6_2 + 1)), (by first | rfl | (simp; done) | (simp [*]; done)), H', ⟨by have := HJ2.out; have := HK2.out; omega⟩, ⟨RU HO_5.out⟩, ⟨belU HB.out⟩⟩
              · rw [if_neg c12] at H
                exact absurd H (by simp)
            · rw [if_neg c11] at H
              have c11b0 : decide (x6_2 < (l0.length : Int)) = false := decide_eq_false c11
              clear c11
              have H' := Aside0.mk H
              clear H
              go_wp2
              go_loopg [5, 7] k2 (fun kq v5 v7 w' => ∃ (x5_3 : List ByteArray) (x7_3 : Int), v7 = .int .i64 x7_3 ∧ Aside0 (aquiferref06_Meet.l1 kq l0 l1 x5_3 x7_3 = some r) ∧ Aside0 (kq ≤ k2) ∧ Aside0 (Kd.R Kd.string 9 w' w.heap.size (fun _ => True) v5 x5_3) ∧ Aside0 (Below w.heap.size w w'))
              case atStart => exact ⟨(x5_2), (0), (by first | rfl | (simp; done) | (simp [*]; done)), H', ⟨Nat.le_refl _⟩, ⟨RU HO_5.out⟩, ⟨belU HB.out⟩⟩
              case round =>
                clear H'
                try clear c1
                try clear c2
                try clear p2
                try clear q2
                try clear hx2
                try clear c5
                try clear p6
                try clear c10
                try clear c11
                try clear c11b0
                try clear c12
                try clear c12b0
                try clear c14
                try clear c15
                try clear c17
                try clear hx279_0
                try clear hx281_0
                try clear p2
                try clear p279
                try clear p281
                try clear q279
                try clear q281
                obtain ⟨x5_3, x7_3, rfl, HA, HK3, HO_5, HB⟩ := hrel
                cases gk with
                | zero => exact absurd HA.out (by simp [aquiferref06_Meet.l1])
                | succ k3 =>
                  have H := HA.out
                  clear HA
                  simp only [aquiferref06_Meet.l1] at H
                  by_cases c19 : x7_3 < (l1.length : Int)
                  · rw [if_pos c19] at H
                    have c19b0 : decide (x7_3 < (l1.length : Int)) = true := decide_eq_true c19
                    clear c19
                    by_cases c20 : 0 ≤ x7_3
                    · rw [if_pos c20] at H
                      have c20b0 : decide (0 ≤ x7_3) = true := decide_eq_true c20
                      clear c20
                      replace H := Option.bind_eq_some_iff.mp H
                      obtain ⟨t286, A210, H⟩ := H
                      replace H : (if t286 = true then (if x5_3.length < 8796093022208 then (aquiferref06_Meet.l1 k3 l0 l1 (x5_3 ++ [rdOf ByteArray.empty l1 x7_3]) (wrap64 (x7_3 + 1))) else (none)) else (aquiferref06_Meet.l1 k3 l0 l1 x5_3 (wrap64 (x7_3 + 1)))) = some r := H
                      have A21 := Aside0.mk A210
                      clear A210
                      by_cases c22 : t286 = true
                      · subst c22
                        have H1 : (if x5_3.length < 8796093022208 then (aquiferref06_Meet.l1 k3 l0 l1 (x5_3 ++ [rdOf ByteArray.empty l1 x7_3]) (wrap64 (x7_3 + 1))) else (none)) = some r := by rw [if_pos rfl] at H; exact H
                        clear H
                        have H := H1
                        clear H1
                        by_cases c23 : x5_3.length < 8796093022208
                        · rw [if_pos c23] at H
                          have LMc23 := Aside0.mk c23
                          clear c23
                          obtain ⟨y288, hy288⟩ : ∃ y_ : List ByteArray, y_ = (x5_3 ++ [rdOf ByteArray.empty l1 x7_3]) := ⟨_, rfl⟩
                          replace H : (aquiferref06_Meet.l1 k3 l0 l1 y288 (wrap64 (x7_3 + 1))) = some r := by first | (rw [hy288]; with_reducible exact H) | (have H2_ := (Option.bind_some _ _).symm.trans H; rw [hy288]; with_reducible exact H2_) | (have H2_ := (Option.bind_some _ _).symm.trans H; with_reducible exact H2_) | with_reducible exact H | (rw [hy288]; exact H) | exact H
                          have Ny288 := Aside0.mk hy288
                          clear hy288
                          have H' := Aside0.mk H
                          clear H
                          have p285 : 0 ≤ (x7_3 : Int) := of_decide_eq_true (by first | (with_reducible assumption) | assumption)
                          have q285 : x7_3 < (l1.length : Int) := of_decide_eq_true (by first | (with_reducible assumption) | assumption)
                          obtain ⟨ad285, e285, hx285_0⟩ := Kd.at_string HR1.out x7_3 p285 q285
                          cases e285
                          replace hx285_0 := (HB.out.cell (World.block_lt_of_cell? w _ hx285_0)).trans hx285_0
                          replace p285 := eq_true p285
                          replace q285 := eq_true q285
                          go_wp2_with (first | ((with_reducible refine gate_callee (f := 17) rfl ?_); refine goesL_ (some 46) rfl rfl Tryd.func17 (by kernel_rfl) rfl #[.slice A0 l0.length c0, .string (rdOf ByteArray.empty l1 x7_3)] rfl (by (try simp only [List.map_toArray, List.map_cons, List.map_nil]); first | done | rfl | (simp only [List.length_drop, List.length_take]; rfl)) ?_; (with_reducible refine (aquiferref06_Has.calls k3 _ _ l0 (rdOf ByteArray.empty l1 x7_3) true _ ?side1 ?side2 A21.out).mono ?_); (case side1 => exact CU (Kd.C_below HR0.out HB.out)); (case side2 => exact HC0.out); rintro e w24 ⟨rfl, hb⟩; refine ⟨_, rfl, ?_⟩; have n0_ := Aside0.mk (Kd.R_below (RU HO_5.out) hb); have n1_ := Aside0.mk (below_step (belU HB.out) hb); clear HO_5; clear HB; have HO_5 := n0_; have HB := n1_; clear n0_ n1_; (try clear hb); (try clear hb2); (try clear hk); (try clear hi); have p287 : 0 ≤ (x7_3 : Int) := of_decide_eq_true (by first | (with_reducible assumption) | assumption); have q287 : x7_3 < (l1.length : Int) := of_decide_eq_true (by first | (with_reducible assumption) | assumption); obtain ⟨ad287, e287, hx287_0⟩ := Kd.at_string HR1.out x7_3 p287 q287; obtain rfl : ad285 = ad287 := (by injection e287); replace hx287_0 := (HB.out.cell (World.block_lt_of_cell? w _ hx287_0)).trans hx287_0; replace p287 := eq_true p287; replace q287 := eq_true q287) | ((with_reducible refine gate_builtin (b := .append) (xs := #[.tmp 47, .tmp 52]) rfl ?_); at_builtin; refine Kd.R_append Kd.string (w0 := w) w.heap.size rfl (.tmp 47) (.tmp 52) 22 9 (.string ⟨#[]⟩) 16 rfl Tryd.underlying22 info9 rfl (by decide) (by omega) u5 x5_3 (rdOf ByteArray.empty l1 x7_3) [.string (rdOf ByteArray.empty l1 x7_3)] (fun _ => True) (fun _ => False) rfl rfl ?aP (fun _ hk => hk.elim) ?aF ?aO ?aB ?aS ?aL ?_; (case aP => exact rfl); (case aB => exact (belU HB.out)); (case aF => exact (fun _ _ => trivial)); (case aO => exact (RU HO_5.out)); (case aS => exact (sizU HB.out)); (case aL => have := LMc23.out; omega); intro v289 w25 ho hb hg hat; rw [← Ny288.out] at ho; have n0_ := Aside0.mk (hb); have n1_ := Aside0.mk (ho); clear HB; clear HO_5; have HB := n0_; have HO290 := n1_; clear n0_ n1_; clear ho hb hg hat))
                          go_roundg k3
                          case measure => have := HJ2.out; have := HK2.out; have := HK3.out; omega
                          case rel => exact ⟨(y288), (wrap64 (x7_3 + 1)), (by first | rfl | (simp; done) | (simp [*]; done)), H', ⟨by have := HJ2.out; have := HK2.out; have := HK3.out; omega⟩, ⟨RU HO290.out⟩, ⟨belU HB.out⟩⟩
                        · rw [if_neg c23] at H
                          exact absurd H (by simp)
                      · replace c22 := Bool.eq_false_iff.mpr c22
                        subst c22
                        have H1 : (aquiferref06_Meet.l1 k3 l0 l1 x5_3 (wrap64 (x7_3 + 1))) = some r := by rw [if_neg (show ¬ (false = true) by decide)] at H; exact H
                        clear H
                        have H := H1
                        clear H1
                        have H' := Aside0.mk H
                        clear H
                        have p285 : 0 ≤ (x7_3 : Int) := of_decide_eq_true (by first | (with_reducible assumption) | assumption)
                        have q285 : x7_3 < (l1.length : Int) := of_decide_eq_true (by first | (with_reducible assumption) | assumption)
                        obtain ⟨ad285, e285, hx285_0⟩ := Kd.at_string HR1.out x7_3 p285 q285
                        cases e285
                        replace hx285_0 := (HB.out.cell (World.block_lt_of_cell? w _ hx285_0)).trans hx285_0
                        replace p285 := eq_true p285
                        replace q285 := eq_true q285
                        go_wp2_with (first | ((with_reducible refine gate_callee (f := 17) rfl ?_); refine goesL_ (some 46) rfl rfl Tryd.func17 (by kernel_rfl) rfl #[.slice A0 l0.length c0, .string (rdOf ByteArray.empty l1 x7_3)] rfl (by (try simp only [List.map_toArray, List.map_cons, List.map_nil]); first | done | rfl | (simp only [List.length_drop, List.length_take]; rfl)) ?_; (with_reducible refine (aquiferref06_Has.calls k3 _ _ l0 (rdOf ByteArray.empty l1 x7_3) false _ ?side1 ?side2 A21.out).mono ?_); (case side1 => exact CU (Kd.C_below HR0.out HB.out)); (case side2 => exact HC0.out); rintro e w26 ⟨rfl, hb⟩; refine ⟨_, rfl, ?_⟩; have n0_ := Aside0.mk (Kd.R_below (RU HO_5.out) hb); have n1_ := Aside0.mk (below_step (belU HB.out) hb); clear HO_5; clear HB; have HO_5 := n0_; have HB := n1_; clear n0_ n1_; (try clear hb); (try clear hb2); (try clear hk); (try clear hi)))
                        go_roundg k3
                        case measure => have := HJ2.out; have := HK2.out; have := HK3.out; omega
                        case rel => exact ⟨(x5_3), (wrap64 (x7_3 + 1)), (by first | rfl | (simp; done) | (simp [*]; done)), H', ⟨by have := HJ2.out; have := HK2.out; have := HK3.out; omega⟩, ⟨RU HO_5.out⟩, ⟨belU HB.out⟩⟩
                    · rw [if_neg c20] at H
                      exact absurd H (by simp)
                  · rw [if_neg c19] at H
                    have c19b0 : decide (x7_3 < (l1.length : Int)) = false := decide_eq_false c19
                    clear c19
                    replace H := Option.bind_eq_some_iff.mp H
                    obtain ⟨t291, A270, H⟩ := H
                    replace H : (some t291) = some r := H
                    have A27 := Aside0.mk A270
                    clear A270
                    obtain rfl := Option.some.inj H
                    obtain ⟨Ao28, co28, eo28⟩ := Kd.R_slice HO_5.out
                    subst eo28
                    go_wp2_with (first | ((with_reducible refine gate_callee (f := 31) rfl ?_); refine goesL_ (some 55) rfl rfl Tryd.func31 (by kernel_rfl) rfl #[.slice Ao28 x5_3.length co28] rfl (by (try simp only [List.map_toArray, List.map_cons, List.map_nil]); first | done | rfl | (simp only [List.length_drop, List.length_take]; rfl)) ?_; (with_reducible refine (aquiferref06_reduce.calls k3 _ _ x5_3 t291 _ ?side1 ?side2 A27.out).mono ?_); (case side1 => exact CU (Kd.R_reads' HO_5.out).2.2); (case side2 => exact (Kd.R_reads' HO_5.out).2.1); rintro e w29 ⟨v292, rfl, ho0, hb⟩; refine ⟨_, rfl, ?_⟩; have n0_ := Aside0.mk (Kd.R_elder' (RU HO_5.out) (Kd.R_base ho0) hb); have n1_ := Aside0.mk (Kd.R_lower (Kd.R_new' ho0 (Kd.R_lt (RU HO_5.out))) (sizU HB.out)); have n2_ := Aside0.mk (below_step (belU HB.out) hb); clear HO_5; clear HB; have HO_5 := n0_; have HO293 := n1_; have HB := n2_; clear n0_ n1_ n2_; (try clear hb); (try clear hb2); (try clear hk); (try clear hi); (try clear ho0)))
                    go_ret
                    exact ⟨_, by first | rfl | (simp [errW_none, errW_some] <;> rfl) | (simp [*, errW_none, errW_some] <;> rfl), by (with_reducible repeat (first | apply Kd.R_alloc | apply Kd.R_drewN | apply Kd.R_drew)); exact Kd.R_mono HO293.out (fun _ hk => trivial), belU HB.out⟩

end Go.Proofs.YtkflalaocnghcaaDoor.Q

namespace Go.Proofs.YtkflalaocnghcaaDoor.Q
open Go.RowKit Go.Proofs.YtkflalaocnghcaaDoorW.PrintWords Go.Proofs.YtkflalaocnghcaaDoorW.PrintLast Go.Proofs.YtkflalaocnghcaaDoorW.PrintMore Go.Proofs.YtkflalaocnghcaaDoorK
attribute [local go_sem] max2_int min2_int max_two min_two max_three min_three max_four min_four   -- for this text's walks alone
attribute [local go_sem ↓] Go.Proofs.YtkflalaocnghcaaDoorK.isSome_setCell
set_option linter.unusedVariables false
set_option linter.unusedSimpArgs false

/-! ### aquiferref06_Text: function 25 -/
def aquiferref06_Text.l0 : Nat → List ByteArray → ByteArray → Int → Option (ByteArray × Int)
  | 0, _, _, _ => none
  | k + 1, x0, x4, x5 => if x5 < (x0.length : Int) then (if 0 ≤ x5 then (if x4.size + (rdOf ByteArray.empty x0 x5).size ≤ 9223372036854775807 then (if (x4 ++ (rdOf ByteArray.empty x0 x5)).size + 1 ≤ 9223372036854775807 then (aquiferref06_Text.l0 k x0 ((x4 ++ (rdOf ByteArray.empty x0 x5)) ++ (⟨#[10]⟩ : ByteArray)) (wrap64 (x5 + 1))) else (none)) else (none)) else (none)) else (some (x4, 0))
def aquiferref06_Text.f (k : Nat) (l0 : List ByteArray) : Option (ByteArray × Int) := (aquiferref06_May.f k l0).bind fun t351 => (if t351 = true then (aquiferref06_Text.l0 k l0 (⟨#[]⟩ : ByteArray) 0) else (some ((⟨#[]⟩ : ByteArray), 2)))
theorem aquiferref06_Text.mono_l : ∀ k, (∀ y0 y1 y2, LeO (aquiferref06_Text.l0 k y0 y1 y2) (aquiferref06_Text.l0 (k + 1) y0 y1 y2))
  | 0 => fun _ _ _ r h => by simp [aquiferref06_Text.l0] at h
  | k + 1 => by
    have ih0 := aquiferref06_Text.mono_l k
    · intro y0 y1 y2
      unfold aquiferref06_Text.l0
      repeat' first
      | (with_reducible exact ih0 _ _ _)
      | (with_reducible exact aquiferref06_May.mono _ _)
      | (with_reducible exact LeO.refl _)
      | (with_reducible exact LeO.none _)
      | (with_reducible refine LeO.ite ?_ ?_)
      | (with_reducible refine LeO.bind ?_ (fun _ => ?_))
      | exact ih0 _ _ _
      | exact aquiferref06_May.mono _ _
      | exact LeO.none _
      | refine LeO.ite ?_ ?_
      | refine LeO.bind ?_ (fun _ => ?_)
theorem aquiferref06_Text.mono : ∀ a0 k, LeO (aquiferref06_Text.f k a0) (aquiferref06_Text.f (k + 1) a0) := by
  intro a0 k
  have ih0 := aquiferref06_Text.mono_l k
  unfold aquiferref06_Text.f
  repeat' first
      | (with_reducible exact ih0 _ _ _)
      | (with_reducible exact aquiferref06_May.mono _ _)
      | (with_reducible exact LeO.refl _)
      | (with_reducible exact LeO.none _)
      | (with_reducible refine LeO.ite ?_ ?_)
      | (with_reducible refine LeO.bind ?_ (fun _ => ?_))
      | exact ih0 _ _ _
      | exact aquiferref06_May.mono _ _
      | exact LeO.none _
      | refine LeO.ite ?_ ?_
      | refine LeO.bind ?_ (fun _ => ?_)
set_option maxHeartbeats 8000000 in
set_option maxRecDepth 100000 in
theorem aquiferref06_Text.calls (k : Nat) (A0 : Option Addr) (c0 : Nat) (l0 : List ByteArray) (r1 : ByteArray) (r2 : Int) (w : World) (hr0 : Kd.C Kd.string w A0 l0.length l0) (hc0 : l0.length ≤ c0) (h : aquiferref06_Text.f k l0 = some (r1, r2)) :
    Calls Tryd.prog 25 #[.slice A0 l0.length c0] w fun e w' => e = .returned (.tuple #[.string r1, .int .i64 r2]) ∧ Below w.heap.size w w' := by
  have HR0 := Aside0.mk hr0
  have HC0 := Aside0.mk hc0
  clear hr0 hc0
  have HB := Aside0.mk (Below.refl w.heap.size w)
  have H : ((aquiferref06_May.f k l0).bind fun t351 => (if t351 = true then (aquiferref06_Text.l0 k l0 (⟨#[]⟩ : ByteArray) 0) else (some ((⟨#[]⟩ : ByteArray), 2)))) = some (r1, r2) := h
  clear h
  replace H := Option.bind_eq_some_iff.mp H
  obtain ⟨t351, A20, H⟩ := H
  replace H : (if t351 = true then (aquiferref06_Text.l0 k l0 (⟨#[]⟩ : ByteArray) 0) else (some ((⟨#[]⟩ : ByteArray), 2))) = some (r1, r2) := H
  have A2 := Aside0.mk A20
  clear A20
  by_cases c3 : t351 = true
  · subst c3
    have H1 : (aquiferref06_Text.l0 k l0 (⟨#[]⟩ : ByteArray) 0) = some (r1, r2) := by rw [if_pos rfl] at H; exact H
    clear H
    have H := H1
    clear H1
    have H' := Aside0.mk H
    clear H
    go_enter Tryd.func25, Tryd.ntmps25
    go_wp2_with (first | ((with_reducible refine gate_callee (f := 14) rfl ?_); refine goesL_ (some 7) rfl rfl Tryd.func14 (by kernel_rfl) rfl #[.slice A0 l0.length c0] rfl (by (try simp only [List.map_toArray, List.map_cons, List.map_nil]); first | done | rfl | (simp only [List.length_drop, List.length_take]; rfl)) ?_; (with_reducible refine (aquiferref06_May.calls k _ _ l0 true _ ?side1 ?side2 A2.out).mono ?_); (case side1 => exact CU HR0.out); (case side2 => exact HC0.out); rintro e w4 ⟨rfl, hb⟩; refine ⟨_, rfl, ?_⟩; have n0_ := Aside0.mk (below_step (belU HB.out) hb); clear HB; have HB := n0_; clear n0_; (try clear hb); (try clear hb2); (try clear hk); (try clear hi)))
    go_loopg [4, 5] k (fun kq v4 v5 w' => ∃ (x4_1 : ByteArray) (x5_1 : Int), v4 = .string x4_1 ∧ v5 = .int .i64 x5_1 ∧ Aside0 (aquiferref06_Text.l0 kq l0 x4_1 x5_1 = some (r1, r2)) ∧ Aside0 (kq ≤ k) ∧ Aside0 (Below w.heap.size w w'))
    case atStart => exact ⟨((⟨#[]⟩ : ByteArray)), (0), (by first | rfl | (simp; done) | (simp [*]; done)), (by first | rfl | (simp; done) | (simp [*]; done)), H', ⟨Nat.le_refl _⟩, ⟨belU HB.out⟩⟩
    case round =>
      clear H'
      try clear c1
      try clear c2
      try clear p2
      try clear c3
      obtain ⟨x4_1, x5_1, rfl, rfl, HA, HK1, HB⟩ := hrel
      cases gk with
      | zero => exact absurd HA.out (by simp [aquiferref06_Text.l0])
      | succ k1 =>
        have H := HA.out
        clear HA
        simp only [aquiferref06_Text.l0] at H
        by_cases c5 : x5_1 < (l0.length : Int)
        · rw [if_pos c5] at H
          have c5b0 : decide (x5_1 < (l0.length : Int)) = true := decide_eq_true c5
          clear c5
          by_cases c6 : 0 ≤ x5_1
          · rw [if_pos c6] at H
            have c6b0 : decide (0 ≤ x5_1) = true := decide_eq_true c6
            clear c6
            by_cases c7 : x4_1.size + (rdOf ByteArray.empty l0 x5_1).size ≤ 9223372036854775807
            · rw [if_pos c7] at H
              have c7b0 := eq_true c7
              have c7b1 : decide (x4_1.size + (rdOf ByteArray.empty l0 x5_1).size ≤ 9223372036854775807) = true := decide_eq_true c7
              try have c7b2 : (9223372036854775807 < x4_1.size + (rdOf ByteArray.empty l0 x5_1).size) = False := eq_false (Nat.not_lt.2 c7)
              by_cases c8 : (x4_1 ++ (rdOf ByteArray.empty l0 x5_1)).size + 1 ≤ 9223372036854775807
              · rw [if_pos c8] at H
                have c8b0 := eq_true c8
                have c8b1 : decide ((x4_1 ++ (rdOf ByteArray.empty l0 x5_1)).size + 1 ≤ 9223372036854775807) = true := decide_eq_true c8
                try have c8b2 : (9223372036854775807 < (x4_1 ++ (rdOf ByteArray.empty l0 x5_1)).size + 1) = False := eq_false (Nat.not_lt.2 c8)
                try have c8b3 : (9223372036854775807 < x4_1.size + ((rdOf ByteArray.empty l0 x5_1)).size + 1) = False := eq_false (by have h_ := c8; simp only [ByteArray.size_append] at h_; omega)
                have H' := Aside0.mk H
                clear H
                have p352 : 0 ≤ (x5_1 : Int) := of_decide_eq_true (by first | (with_reducible assumption) | assumption)
                have q352 : x5_1 < (l0.length : Int) := of_decide_eq_true (by first | (with_reducible assumption) | assumption)
                obtain ⟨ad352, e352, hx352_0⟩ := Kd.at_string HR0.out x5_1 p352 q352
                cases e352
                replace hx352_0 := (HB.out.cell (World.block_lt_of_cell? w _ hx352_0)).trans hx352_0
                replace p352 := eq_true p352
                replace q352 := eq_true q352
                go_wp2
                go_roundg k1
                case measure => have := HK1.out; omega
                case rel => exact ⟨((x4_1 ++ (rdOf ByteArray.empty l0 x5_1)) ++ (⟨#[10]⟩ : ByteArray)), (wrap64 (x5_1 + 1)), (by first | rfl | (simp; done) | (simp [*]; done)), (by first | rfl | (simp; done) | (simp [*]; done)), H', ⟨by have := HK1.out; omega⟩, ⟨belU HB.out⟩⟩
              · rw [if_neg c8] at H
                exact absurd H (by simp)
            · rw [if_neg c7] at H
              exact absurd H (by simp)
          · rw [if_neg c6] at H
            exact absurd H (by simp)
        · rw [if_neg c5] at H
          have c5b0 : decide (x5_1 < (l0.length : Int)) = false := decide_eq_false c5
          clear c5
          simp only [Option.some.injEq, Prod.mk.injEq] at H
          obtain ⟨rfl, rfl⟩ := H
          go_wp2
          go_ret2
          exact ⟨by first | rfl | (simp [errW_none, errW_some] <;> rfl) | (simp [*, errW_none, errW_some] <;> rfl), belU HB.out⟩
  · replace c3 := Bool.eq_false_iff.mpr c3
    subst c3
    have H1 : (some ((⟨#[]⟩ : ByteArray), 2)) = some (r1, r2) := by rw [if_neg (show ¬ (false = true) by decide)] at H; exact H
    clear H
    have H := H1
    clear H1
    simp only [Option.some.injEq, Prod.mk.injEq] at H
    obtain ⟨rfl, rfl⟩ := H
    go_enter Tryd.func25, Tryd.ntmps25
    go_wp2_with (first | ((with_reducible refine gate_callee (f := 14) rfl ?_); refine goesL_ (some 7) rfl rfl Tryd.func14 (by kernel_rfl) rfl #[.slice A0 l0.length c0] rfl (by (try simp only [List.map_toArray, List.map_cons, List.map_nil]); first | done | rfl | (simp only [List.length_drop, List.length_take]; rfl)) ?_; (with_reducible refine (aquiferref06_May.calls k _ _ l0 false _ ?side1 ?side2 A2.out).mono ?_); (case side1 => exact CU HR0.out); (case side2 => exact HC0.out); rintro e w9 ⟨rfl, hb⟩; refine ⟨_, rfl, ?_⟩; have n0_ := Aside0.mk (below_step (belU HB.out) hb); clear HB; have HB := n0_; clear n0_; (try clear hb); (try clear hb2); (try clear hk); (try clear hi)))
    go_ret2
    exact ⟨by first | rfl | (simp [errW_none, errW_some] <;> rfl) | (simp [*, errW_none, errW_some] <;> rfl), belU HB.out⟩

end Go.Proofs.YtkflalaocnghcaaDoor.Q

namespace Go.Proofs.YtkflalaocnghcaaDoor.Q
open Go.RowKit Go.Proofs.YtkflalaocnghcaaDoorW.PrintWords Go.Proofs.YtkflalaocnghcaaDoorW.PrintLast Go.Proofs.YtkflalaocnghcaaDoorW.PrintMore Go.Proofs.YtkflalaocnghcaaDoorK
attribute [local go_sem] max2_int min2_int max_two min_two max_three min_three max_four min_four   -- for this text's walks alone
attribute [local go_sem ↓] Go.Proofs.YtkflalaocnghcaaDoorK.isSome_setCell
set_option linter.unusedVariables false
set_option linter.unusedSimpArgs false

/-! ### aquiferref06_Parse: function 27 -/
def aquiferref06_Parse.l0 : Nat → ByteArray → List ByteArray → ByteArray → Int → Option (List ByteArray × Int)
  | 0, _, _, _, _ => none
  | k + 1, x0, x4, x5, x6 => if x6 < (x0.size : Int) then (if 0 ≤ x6 then (if (bt x0 x6) = 10 then (if x4.length < 8796093022208 then (aquiferref06_Parse.l0 k x0 (x4 ++ [x5]) (⟨#[]⟩ : ByteArray) (wrap64 (x6 + 1))) else (none)) else (if x6 ≤ (wrap64 (x6 + 1)) then (if (wrap64 (x6 + 1)) ≤ (x0.size : Int) then (if x5.size + (x0.extract (x6 : Int).toNat ((wrap64 (x6 + 1)) : Int).toNat).size ≤ 9223372036854775807 then (aquiferref06_Parse.l0 k x0 x4 (x5 ++ (x0.extract (x6 : Int).toNat ((wrap64 (x6 + 1)) : Int).toNat)) (wrap64 (x6 + 1))) else (none)) else (none)) else (none))) else (none)) else (if x5.toList = ([] : List UInt8) then ((aquiferref06_May.f k x4).bind fun t356 => (if t356 = true then (some (x4, 0)) else (some (([] : List ByteArray), 5)))) else (some (([] : List ByteArray), 5)))
def aquiferref06_Parse.f (k : Nat) (a0 : ByteArray) : Option (List ByteArray × Int) := aquiferref06_Parse.l0 k a0 ([] : List ByteArray) (⟨#[]⟩ : ByteArray) 0
theorem aquiferref06_Parse.mono_l : ∀ k, (∀ y0 y1 y2 y3, LeO (aquiferref06_Parse.l0 k y0 y1 y2 y3) (aquiferref06_Parse.l0 (k + 1) y0 y1 y2 y3))
  | 0 => fun _ _ _ _ r h => by simp [aquiferref06_Parse.l0] at h
  | k + 1 => by
    have ih0 := aquiferref06_Parse.mono_l k
    · intro y0 y1 y2 y3
      unfold aquiferref06_Parse.l0
      repeat' first
      | (with_reducible exact ih0 _ _ _ _)
      | (with_reducible exact aquiferref06_May.mono _ _)
      | (with_reducible exact LeO.refl _)
      | (with_reducible exact LeO.none _)
      | (with_reducible refine LeO.ite ?_ ?_)
      | (with_reducible refine LeO.bind ?_ (fun _ => ?_))
      | exact ih0 _ _ _ _
      | exact aquiferref06_May.mono _ _
      | exact LeO.none _
      | refine LeO.ite ?_ ?_
      | refine LeO.bind ?_ (fun _ => ?_)
theorem aquiferref06_Parse.mono : ∀ a0 k, LeO (aquiferref06_Parse.f k a0) (aquiferref06_Parse.f (k + 1) a0) := by
  intro a0 k
  have ih0 := aquiferref06_Parse.mono_l k
  unfold aquiferref06_Parse.f
  repeat' first
      | (with_reducible exact ih0 _ _ _ _)
      | (with_reducible exact aquiferref06_May.mono _ _)
      | (with_reducible exact LeO.refl _)
      | (with_reducible exact LeO.none _)
      | (with_reducible refine LeO.ite ?_ ?_)
      | (with_reducible refine LeO.bind ?_ (fun _ => ?_))
      | exact ih0 _ _ _ _
      | exact aquiferref06_May.mono _ _
      | exact LeO.none _
      | refine LeO.ite ?_ ?_
      | refine LeO.bind ?_ (fun _ => ?_)
set_option maxHeartbeats 8000000 in
set_option maxRecDepth 100000 in
theorem aquiferref06_Parse.calls (k : Nat) (a0 : ByteArray) (r1 : List ByteArray) (r2 : Int) (w : World) (h : aquiferref06_Parse.f k a0 = some (r1, r2)) :
    Calls Tryd.prog 27 #[.string a0] w fun e w' => ∃ v0_ : Value, e = .returned (.tuple #[v0_, .int .i64 r2]) ∧ Kd.R Kd.string 9 w' w.heap.size (fun _ => True) v0_ r1 ∧ Below w.heap.size w w' := by
  have HB := Aside0.mk (Below.refl w.heap.size w)
  have H : (aquiferref06_Parse.l0 k a0 ([] : List ByteArray) (⟨#[]⟩ : ByteArray) 0) = some (r1, r2) := h
  clear h
  have H' := Aside0.mk H
  clear H
  go_enter Tryd.func27, Tryd.ntmps27
  go_wp2
  go_loopg [4, 5, 6] k (fun kq v4 v5 v6 w' => ∃ (x4_1 : List ByteArray) (x5_1 : ByteArray) (x6_1 : Int), v5 = .string x5_1 ∧ v6 = .int .i64 x6_1 ∧ Aside0 (aquiferref06_Parse.l0 kq a0 x4_1 x5_1 x6_1 = some (r1, r2)) ∧ Aside0 (kq ≤ k) ∧ Aside0 (Kd.R Kd.string 9 w' w.heap.size (fun _ => True) v4 x4_1) ∧ Aside0 (Below w.heap.size w w'))
  case atStart => exact ⟨(([] : List ByteArray)), ((⟨#[]⟩ : ByteArray)), (0), (by first | rfl | (simp; done) | (simp [*]; done)), (by first | rfl | (simp; done) | (simp [*]; done)), H', ⟨Nat.le_refl _⟩, ⟨by first | exact Kd.R_nil _ _ _ _ _ | exact Kd.N_nil _ _ _ _ _ | exact Kd.V_nil _ _ _ _ _ | exact Kd.Q_nil _ _ _ _ _ | exact Kd.S_nil _ _ _ _ _⟩, ⟨belU HB.out⟩⟩
  case round =>
    clear H'
    obtain ⟨x4_1, x5_1, x6_1, rfl, rfl, HA, HK1, HO_4, HB⟩ := hrel
    cases gk with
    | zero => exact absurd HA.out (by simp [aquiferref06_Parse.l0])
    | succ k1 =>
      have H := HA.out
      clear HA
      simp only [aquiferref06_Parse.l0] at H
      by_cases c2 : x6_1 < (a0.size : Int)
      · rw [if_pos c2] at H
        have c2b0 : decide (x6_1 < (a0.size : Int)) = true := decide_eq_true c2
        clear c2
        by_cases c3 : 0 ≤ x6_1
        · rw [if_pos c3] at H
          have c3b0 : decide (0 ≤ x6_1) = true := decide_eq_true c3
          clear c3
          by_cases c5 : (bt a0 x6_1) = 10
          · rw [if_pos c5] at H
            have c5b0 : ((bt a0 x6_1) == 10) = true := beq_iff_eq.mpr c5
            have c5b1 : ((bt a0 x6_1) != 10) = false := bne_eq_false_iff_eq.mpr c5
            clear c5
            by_cases c6 : x4_1.length < 8796093022208
            · rw [if_pos c6] at H
              have LMc6 := Aside0.mk c6
              clear c6
              obtain ⟨y353, hy353⟩ : ∃ y_ : List ByteArray, y_ = (x4_1 ++ [x5_1]) := ⟨_, rfl⟩
              replace H : (aquiferref06_Parse.l0 k1 a0 y353 (⟨#[]⟩ : ByteArray) (wrap64 (x6_1 + 1))) = some (r1, r2) := by first | (rw [hy353]; with_reducible exact H) | (have H2_ := (Option.bind_some _ _).symm.trans H; rw [hy353]; with_reducible exact H2_) | (have H2_ := (Option.bind_some _ _).symm.trans H; with_reducible exact H2_) | with_reducible exact H | (rw [hy353]; exact H) | exact H
              have Ny353 := Aside0.mk hy353
              clear hy353
              have H' := Aside0.mk H
              clear H
              have p4 : 0 ≤ (x6_1 : Int) := of_decide_eq_true (by first | (with_reducible assumption) | assumption)
              have q4 : x6_1 < (a0.size : Int) := of_decide_eq_true (by first | (with_reducible assumption) | assumption)
              have hx4 := bt_at a0 x6_1
              replace p4 := eq_true p4
              replace q4 := eq_true q4
              go_wp2_with (first | ((with_reducible refine gate_builtin (b := .append) (xs := #[.tmp 17, .tmp 19]) rfl ?_); at_builtin; refine Kd.R_append Kd.string (w0 := w) w.heap.size rfl (.tmp 17) (.tmp 19) 22 9 (.string ⟨#[]⟩) 16 rfl Tryd.underlying22 info9 rfl (by decide) (by omega) u4 x4_1 x5_1 [.string x5_1] (fun _ => True) (fun _ => False) rfl rfl ?aP (fun _ hk => hk.elim) ?aF ?aO ?aB ?aS ?aL ?_; (case aP => exact rfl); (case aB => exact (belU HB.out)); (case aF => exact (fun _ _ => trivial)); (case aO => exact (RU HO_4.out)); (case aS => exact (sizU HB.out)); (case aL => have := LMc6.out; omega); intro v354 w7 ho hb hg hat; rw [← Ny353.out] at ho; have n0_ := Aside0.mk (hb); have n1_ := Aside0.mk (ho); clear HB; clear HO_4; have HB := n0_; have HO355 := n1_; clear n0_ n1_; clear ho hb hg hat))
              go_roundg k1
              case measure => have := HK1.out; omega
              case rel => exact ⟨(y353), ((⟨#[]⟩ : ByteArray)), (wrap64 (x6_1 + 1)), (by first | rfl | (simp; done) | (simp [*]; done)), (by first | rfl | (simp; done) | (simp [*]; done)), H', ⟨by have := HK1.out; omega⟩, ⟨RU HO355.out⟩, ⟨belU HB.out⟩⟩
            · rw [if_neg c6] at H
              exact absurd H (by simp)
          · rw [if_neg c5] at H
            have c5b0 : ((bt a0 x6_1) == 10) = false := beq_eq_false_iff_ne.mpr c5
            have c5b1 : ((bt a0 x6_1) != 10) = true := bne_iff_ne.mpr c5
            have c8b0 := eq_true (of_decide_eq_true (by first | (with_reducible assumption) | assumption) : 0 ≤ x6_1)
            by_cases c9 : x6_1 ≤ (wrap64 (x6_1 + 1))
            · rw [if_pos c9] at H
              have c9b0 := eq_true c9
              have c9b1 : decide (x6_1 ≤ (wrap64 (x6_1 + 1))) = true := decide_eq_true c9
              by_cases c10 : (wrap64 (x6_1 + 1)) ≤ (a0.size : Int)
              · rw [if_pos c10] at H
                have c10b0 := eq_true c10
                have c10b1 : decide ((wrap64 (x6_1 + 1)) ≤ (a0.size : Int)) = true := decide_eq_true c10
                by_cases c11 : x5_1.size + (a0.extract (x6_1 : Int).toNat ((wrap64 (x6_1 + 1)) : Int).toNat).size ≤ 9223372036854775807
                · rw [if_pos c11] at H
                  have c11b0 := eq_true c11
                  have c11b1 : decide (x5_1.size + (a0.extract (x6_1 : Int).toNat ((wrap64 (x6_1 + 1)) : Int).toNat).size ≤ 9223372036854775807) = true := decide_eq_true c11
                  try have c11b2 : (9223372036854775807 < x5_1.size + (a0.extract (x6_1 : Int).toNat ((wrap64 (x6_1 + 1)) : Int).toNat).size) = False := eq_false (Nat.not_lt.2 c11)
                  have H' := Aside0.mk H
                  clear H
                  have p4 : 0 ≤ (x6_1 : Int) := of_decide_eq_true (by first | (with_reducible assumption) | assumption)
                  have q4 : x6_1 < (a0.size : Int) := of_decide_eq_true (by first | (with_reducible assumption) | assumption)
                  have hx4 := bt_at a0 x6_1
                  replace p4 := eq_true p4
                  replace q4 := eq_true q4
                  go_wp2
                  go_roundg k1
                  case measure => have := HK1.out; omega
                  case rel => exact ⟨(x4_1), (x5_1 ++ (a0.extract (x6_1 : Int).toNat ((wrap64 (x6_1 + 1)) : Int).toNat)), (wrap64 (x6_1 + 1)), (by first | rfl | (simp; done) | (simp [*]; done)), (by first | rfl | (simp; done) | (simp [*]; done)), H', ⟨by have := HK1.out; omega⟩, ⟨RU HO_4.out⟩, ⟨belU HB.out⟩⟩
                · rw [if_neg c11] at H
                  exact absurd H (by simp)
              · rw [if_neg c10] at H
                exact absurd H (by simp)
            · rw [if_neg c9] at H
              exact absurd H (by simp)
        · rw [if_neg c3] at H
          exact absurd H (by simp)
      · rw [if_neg c2] at H
        have c2b0 : decide (x6_1 < (a0.size : Int)) = false := decide_eq_false c2
        clear c2
        by_cases c12 : x5_1.toList = ([] : List UInt8)
        · rw [if_pos c12] at H
          have c12b0 : (x5_1.toList == ([] : List UInt8)) = true := beq_iff_eq.mpr c12
          have c12b1 : (x5_1.toList != ([] : List UInt8)) = false := bne_eq_false_iff_eq.mpr c12
          clear c12
          replace H := Option.bind_eq_some_iff.mp H
          obtain ⟨t356, A130, H⟩ := H
          replace H : (if t356 = true then (some (x4_1, 0)) else (some (([] : List ByteArray), 5))) = some (r1, r2) := H
          have A13 := Aside0.mk A130
          clear A130
          by_cases c14 : t356 = true
          · subst c14
            have H1 : (some (x4_1, 0)) = some (r1, r2) := by rw [if_pos rfl] at H; exact H
            clear H
            have H := H1
            clear H1
            simp only [Option.some.injEq, Prod.mk.injEq] at H
            obtain ⟨rfl, rfl⟩ := H
            obtain ⟨Ao15, co15, eo15⟩ := Kd.R_slice HO_4.out
            subst eo15
            go_wp2_with (first | (go_at_call 14; (with_reducible refine (aquiferref06_May.calls k1 _ _ x4_1 true _ ?side1 ?side2 A13.out).mono ?_); (case side1 => exact CU (Kd.R_reads' HO_4.out).2.2); (case side2 => exact (Kd.R_reads' HO_4.out).2.1); rintro e w16 ⟨rfl, hb⟩; have n0_ := Aside0.mk (Kd.R_below (RU HO_4.out) hb); have n1_ := Aside0.mk (below_step (belU HB.out) hb); clear HO_4; clear HB; have HO_4 := n0_; have HB := n1_; clear n0_ n1_; (try clear hb); (try clear hb2); (try clear hk); (try clear hi)))
            go_ret2
            exact ⟨_, by first | rfl | (simp [errW_none, errW_some] <;> rfl) | (simp [*, errW_none, errW_some] <;> rfl), by (with_reducible repeat (first | apply Kd.R_alloc | apply Kd.R_drewN | apply Kd.R_drew)); exact HO_4.out, belU HB.out⟩
          · replace c14 := Bool.eq_false_iff.mpr c14
            subst c14
            have H1 : (some (([] : List ByteArray), 5)) = some (r1, r2) := by rw [if_neg (show ¬ (false = true) by decide)] at H; exact H
            clear H
            have H := H1
            clear H1
            simp only [Option.some.injEq, Prod.mk.injEq] at H
            obtain ⟨rfl, rfl⟩ := H
            obtain ⟨Ao17, co17, eo17⟩ := Kd.R_slice HO_4.out
            subst eo17
            go_wp2_with (first | (go_at_call 14; (with_reducible refine (aquiferref06_May.calls k1 _ _ x4_1 false _ ?side1 ?side2 A13.out).mono ?_); (case side1 => exact CU (Kd.R_reads' HO_4.out).2.2); (case side2 => exact (Kd.R_reads' HO_4.out).2.1); rintro e w18 ⟨rfl, hb⟩; have n0_ := Aside0.mk (Kd.R_below (RU HO_4.out) hb); have n1_ := Aside0.mk (below_step (belU HB.out) hb); clear HO_4; clear HB; have HO_4 := n0_; have HB := n1_; clear n0_ n1_; (try clear hb); (try clear hb2); (try clear hk); (try clear hi)))
            go_ret2
            exact ⟨_, by first | rfl | (simp [errW_none, errW_some] <;> rfl) | (simp [*, errW_none, errW_some] <;> rfl), by first | exact Kd.R_nil _ _ _ _ _ | exact Kd.N_nil _ _ _ _ _ | exact Kd.V_nil _ _ _ _ _ | exact Kd.Q_nil _ _ _ _ _ | exact Kd.S_nil _ _ _ _ _, belU HB.out⟩
        · rw [if_neg c12] at H
          have c12b0 : (x5_1.toList == ([] : List UInt8)) = false := beq_eq_false_iff_ne.mpr c12
          have c12b1 : (x5_1.toList != ([] : List UInt8)) = true := bne_iff_ne.mpr c12
          simp only [Option.some.injEq, Prod.mk.injEq] at H
          obtain ⟨rfl, rfl⟩ := H
          go_wp2
          go_ret2
          exact ⟨_, by first | rfl | (simp [errW_none, errW_some] <;> rfl) | (simp [*, errW_none, errW_some] <;> rfl), by first | exact Kd.R_nil _ _ _ _ _ | exact Kd.N_nil _ _ _ _ _ | exact Kd.V_nil _ _ _ _ _ | exact Kd.Q_nil _ _ _ _ _ | exact Kd.S_nil _ _ _ _ _, belU HB.out⟩

end Go.Proofs.YtkflalaocnghcaaDoor.Q

namespace Go.Proofs.YtkflalaocnghcaaDoor.Q
open Go Go.Proofs Go.Shelf Go.RowKit Go.Lib Go.Sort Go.Proofs.YtkflalaocnghcaaDoorP Go.Proofs.YtkflalaocnghcaaDoorK Go.Proofs.YtkflalaocnghcaaDoorW.PrintWords Go.Proofs.YtkflalaocnghcaaDoorW.PrintLast Go.Proofs.YtkflalaocnghcaaDoorW.PrintMore
set_option linter.unusedSimpArgs false
set_option linter.unusedVariables false
/-! ### The document's Union, Meet -/
theorem refunion {a b : List ByteArray} (ha : shortP a = true) (hb : shortP b = true) (la : a.length ≤ 20) (lb : b.length ≤ 20) (k : Nat) (hk : 20000 ≤ k) : aquiferref06_Union.f k a b = some (unionS a b) := by
  have fa : (a.length + 3) * (a.length + 1) ≤ 23 * 21 := Nat.mul_le_mul (by omega) (by omega)
  have fb : (b.length + 3) * (b.length + 1) ≤ 23 * 21 := Nat.mul_le_mul (by omega) (by omega)
  have fab : ((a ++ b).length + 3) * ((a ++ b).length + 1) ≤ 43 * 41 := by rw [List.length_append]; exact Nat.mul_le_mul (by omega) (by omega)
  unfold aquiferref06_Union.f unionS
  rw [refmay ha (by omega) k (by omega), Option.bind_some]
  by_cases h1 : mayS a = true
  · rw [if_pos h1, refmay hb (by omega) k (by omega), Option.bind_some]
    by_cases h2 : mayS b = true
    · rw [if_pos h2, if_pos ⟨h1, h2⟩, Option.bind_some, if_pos (by simp; omega), Option.bind_some, List.nil_append, if_pos (by omega), refmake (shortP_app ha hb (by omega)) (by rw [List.length_append]; omega) k (by omega), Option.bind_some]
    · rw [if_neg h2, if_neg (fun h => h2 h.2)]
  · rw [if_neg h1, if_neg (fun h => h1 h.1)]
def inB (a b : List ByteArray) : List ByteArray := a.filter fun p => hasS b p
theorem meet_l1 (a b : List ByteArray) (ha : shortP a = true) (hb : shortP b = true) (la : a.length ≤ 16) (d : Nat) : ∀ (i k : Nat) (out : List ByteArray), i + d = b.length → 10000 + d < k → out.length + d ≤ 32 → Dirs b → Dirs out → aquiferref06_Meet.l1 k a b out (i : Int) = some (reduceS (out ++ inB (b.drop i) a)) := by
  obtain ⟨hl, hm⟩ := shortP_mem hb
  induction d with
  | zero =>
    intro i k out h hk ho db dout
    obtain ⟨k, rfl⟩ : ∃ q, k = q + 1 := ⟨k - 1, by omega⟩
    have hsh : shortP out = true := shortP_mk (by omega) (fun p hp => by have := (isP_open (dout p hp).1).1; omega)
    have hf : (out.length + 3) * (out.length + 1) ≤ 35 * 33 := Nat.mul_le_mul (by omega) (by omega)
    unfold aquiferref06_Meet.l1
    rw [if_neg (by omega), List.drop_of_length_le (by omega), refreduce hsh dout (by omega) k (by omega), Option.bind_some]
    simp [inB]
  | succ d ih =>
    intro i k out h hk ho db dout
    obtain ⟨k, rfl⟩ : ∃ q, k = q + 1 := ⟨k - 1, by omega⟩
    have hi : i < b.length := by omega
    have hbi := List.getElem_mem hi
    unfold aquiferref06_Meet.l1
    rw [if_pos (by omega), if_pos (by omega), rdB b i hi, refhas a _ ha (hm _ hbi) k (by omega), Option.bind_some, wr1 i (by omega), List.drop_eq_getElem_cons hi]
    unfold inB
    rw [List.filter_cons]
    by_cases hh : hasS a b[i] = true
    · rw [if_pos hh, if_pos hh, if_pos (by omega), ih (i + 1) k _ (by omega) (by omega) (by simp; omega) db (fun x hx => (List.mem_append.1 hx).elim (dout x) (fun e => by rw [List.mem_singleton.1 e]; exact db _ hbi)), List.append_assoc]
      rfl
    · rw [if_neg hh, if_neg hh, ih (i + 1) k _ (by omega) (by omega) (by omega) db dout]
      rfl
theorem meet_l0 (a b : List ByteArray) (ha : shortP a = true) (hb : shortP b = true) (la : a.length ≤ 16) (lb : b.length ≤ 16) (d : Nat) : ∀ (i k : Nat) (out : List ByteArray), i + d = a.length → 11000 + d < k → out.length + d ≤ 16 → Dirs a → Dirs b → Dirs out → aquiferref06_Meet.l0 k a b out (i : Int) = some (reduceS (out ++ inB (a.drop i) b ++ inB b a)) := by
  obtain ⟨hl, hm⟩ := shortP_mem ha
  induction d with
  | zero =>
    intro i k out h hk ho da db dout
    obtain ⟨k, rfl⟩ : ∃ q, k = q + 1 := ⟨k - 1, by omega⟩
    unfold aquiferref06_Meet.l0
    rw [if_neg (by omega), List.drop_of_length_le (by omega)]
    have := meet_l1 a b ha hb la b.length 0 k out (by omega) (by omega) (by omega) db dout
    rw [List.drop_zero] at this
    rw [show inB [] b = [] from rfl, List.append_nil]
    exact this
  | succ d ih =>
    intro i k out h hk ho da db dout
    obtain ⟨k, rfl⟩ : ∃ q, k = q + 1 := ⟨k - 1, by omega⟩
    have hi : i < a.length := by omega
    have hai := List.getElem_mem hi
    have hcons : inB (a[i] :: a.drop (i + 1)) b = if hasS b a[i] = true then a[i] :: inB (a.drop (i + 1)) b else inB (a.drop (i + 1)) b := by
      unfold inB
      rw [List.filter_cons]
    unfold aquiferref06_Meet.l0
    rw [if_pos (by omega), if_pos (by omega), rdB a i hi, refhas b _ hb (hm _ hai) k (by omega), Option.bind_some, wr1 i (by omega), List.drop_eq_getElem_cons hi, hcons]
    by_cases hh : hasS b a[i] = true
    · rw [if_pos hh, if_pos hh, if_pos (by omega), ih (i + 1) k _ (by omega) (by omega) (by simp; omega) da db (fun x hx => (List.mem_append.1 hx).elim (dout x) (fun e => by rw [List.mem_singleton.1 e]; exact da _ hai))]
      simp
    · rw [if_neg hh, if_neg hh, ih (i + 1) k _ (by omega) (by omega) (by omega) da db dout]
theorem mem_meetL (a b : List ByteArray) (x : ByteArray) : x ∈ meetL a b ↔ ∃ p ∈ a, ∃ q ∈ b, (withinS p q = true ∧ x = q) ∨ (¬ withinS p q = true ∧ withinS q p = true ∧ x = p) := by
  unfold meetL meetP
  rw [List.mem_flatten]
  constructor
  · rintro ⟨m, hm, hx⟩
    obtain ⟨p, hp, rfl⟩ := List.mem_map.1 hm
    obtain ⟨q, hq, he⟩ := List.mem_filterMap.1 hx
    refine ⟨p, hp, q, hq, ?_⟩
    split at he
    · rename_i h1; cases he; exact .inl ⟨h1, rfl⟩
    · rename_i h1
      split at he
      · rename_i h2; cases he; exact .inr ⟨h1, h2, rfl⟩
      · cases he
  · rintro ⟨p, hp, q, hq, h⟩
    refine ⟨_, List.mem_map_of_mem hp, List.mem_filterMap.2 ⟨q, hq, ?_⟩⟩
    rcases h with ⟨h1, rfl⟩ | ⟨h1, h2, rfl⟩
    · rw [if_pos h1]
    · rw [if_neg h1, if_pos h2]
theorem meetL_dirs {a b : List ByteArray} (da : Dirs a) (db : Dirs b) : Dirs (meetL a b) := by
  intro x hx
  obtain ⟨p, hp, q, hq, h⟩ := (mem_meetL a b x).1 hx
  rcases h with ⟨_, rfl⟩ | ⟨_, _, rfl⟩
  · exact db _ hq
  · exact da _ hp
/-- Without the order of the two questions. -/
theorem mem_meet {a b : List ByteArray} (da : Dirs a) (db : Dirs b) (x : ByteArray) : x ∈ meetL a b ↔ (x ∈ b ∧ ∃ p ∈ a, withinS p x = true) ∨ (x ∈ a ∧ ∃ q ∈ b, withinS q x = true) := by
  rw [mem_meetL]
  constructor
  · rintro ⟨p, hp, q, hq, h⟩
    rcases h with ⟨h1, rfl⟩ | ⟨_, h2, rfl⟩
    · exact .inl ⟨hq, p, hp, h1⟩
    · exact .inr ⟨hp, q, hq, h2⟩
  · rintro (⟨hx, p, hp, h⟩ | ⟨hx, q, hq, h⟩)
    · exact ⟨p, hp, x, hx, .inl ⟨h, rfl⟩⟩
    · by_cases h1 : withinS x q = true
      · have := within_anti (da x hx) (db q hq) h1 h
        subst this
        exact ⟨x, hx, x, hq, .inl ⟨h1, rfl⟩⟩
      · exact ⟨x, hx, q, hq, .inr ⟨h1, h, rfl⟩⟩
theorem mem_inB {a b : List ByteArray} (da : Dirs a) (x : ByteArray) : x ∈ inB a b ↔ x ∈ a ∧ ∃ q ∈ b, withinS q x = true := by
  unfold inB
  rw [List.mem_filter]
  constructor
  · rintro ⟨h1, h2⟩
    rw [hasS_cov (da x h1).1, cov_iff] at h2
    exact ⟨h1, h2⟩
  · rintro ⟨h1, h2⟩
    exact ⟨h1, by rw [hasS_cov (da x h1).1, cov_iff]; exact h2⟩
theorem refmeet {a b : List ByteArray} (ha : shortP a = true) (hb : shortP b = true) (la : a.length ≤ 20) (lb : b.length ≤ 20) (k : Nat) (hk : 20000 ≤ k) : aquiferref06_Meet.f k a b = some (meetS a b) := by
  obtain ⟨k, rfl⟩ : ∃ q, k = q + 1 := ⟨k - 1, by omega⟩
  have hj : ∀ t, aquiferref06_Meet.j0 (k + 1) a b t = if t = true then some [] else aquiferref06_Meet.l0 k a b [] 0 := fun _ => rfl
  have fa : (a.length + 3) * (a.length + 1) ≤ 23 * 21 := Nat.mul_le_mul (by omega) (by omega)
  have fb : (b.length + 3) * (b.length + 1) ≤ 23 * 21 := Nat.mul_le_mul (by omega) (by omega)
  unfold aquiferref06_Meet.f meetS
  rw [refmay ha (by omega) _ (by omega), Option.bind_some]
  by_cases h1 : mayS a = true
  · rw [if_pos h1, refmay hb (by omega) _ (by omega), Option.bind_some, hj]
    by_cases h2 : mayS b = true
    · obtain ⟨da, _, l1⟩ := may_open h1
      obtain ⟨db, _, l2⟩ := may_open h2
      have := meet_l0 a b ha hb l1 l2 a.length 0 k [] (by omega) (by omega) (by simp; omega) da db (fun x hx => by simp at hx)
      rw [List.drop_zero, List.nil_append] at this
      rw [if_neg (by rw [h2]; decide), if_pos ⟨h1, h2⟩]
      refine this.trans ?_
      congr 1
      refine (reduce_set (meetL_dirs da db) (fun x => ?_)).symm
      rw [mem_meet da db, List.mem_append, mem_inB da, mem_inB db, or_comm]
    · rw [if_pos (by simp [h2]), if_neg (fun h => h2 h.2)]
  · rw [if_neg h1, if_neg (fun h => h1 h.1), hj, if_pos rfl]
/-! ### The document's Text, Parse -/
theorem text_loop (l : List ByteArray) (hs : shortP l = true) (hl : l.length ≤ 16) (d : Nat) : ∀ (i k : Nat) (out : ByteArray), i + d = l.length → d < k → out.data.toList = textL (l.take i) → ∃ r, aquiferref06_Text.l0 k l out (i : Int) = some (r, 0) ∧ r.data.toList = textL l := by
  obtain ⟨_, hm⟩ := shortP_mem hs
  induction d with
  | zero =>
    intro i k out h hk ho
    obtain ⟨k, rfl⟩ : ∃ q, k = q + 1 := ⟨k - 1, by omega⟩
    unfold aquiferref06_Text.l0
    rw [if_neg (by omega)]
    exact ⟨out, rfl, by rw [ho, List.take_of_length_le (by omega)]⟩
  | succ d ih =>
    intro i k out h hk ho
    obtain ⟨k, rfl⟩ : ∃ q, k = q + 1 := ⟨k - 1, by omega⟩
    have hi : i < l.length := by omega
    have h1 := textL_len (l.take i) (fun p hp => hm p (List.mem_of_mem_take hp))
    have h2 : (l.take i).length ≤ 16 := by rw [List.length_take]; omega
    have h3 : out.size = (textL (l.take i)).length := by rw [← ho]; rfl
    have h4 := hm _ (List.getElem_mem hi)
    unfold aquiferref06_Text.l0
    rw [if_pos (by omega), if_pos (by omega), rdB l i hi, if_pos (by omega), if_pos (by rw [ByteArray.size_append]; omega), wr1 i (by omega)]
    refine ih (i + 1) k _ (by omega) (by omega) ?_
    rw [textL_take l i hi, ByteArray.data_append, ByteArray.data_append, Array.toList_append, Array.toList_append, ho, List.append_assoc]
theorem reftext {l : List ByteArray} (hs : shortP l = true) (hl : l.length ≤ 20) (k : Nat) (hk : 20000 ≤ k) : aquiferref06_Text.f k l = some (textS l) := by
  have fa : (l.length + 3) * (l.length + 1) ≤ 23 * 21 := Nat.mul_le_mul (by omega) (by omega)
  unfold aquiferref06_Text.f textS
  rw [refmay hs (by omega) k (by omega), Option.bind_some]
  by_cases h1 : mayS l = true
  · rw [if_pos h1, if_pos h1]
    obtain ⟨r, h2, h3⟩ := text_loop l hs (may_len h1) l.length 0 k ⟨#[]⟩ (by omega) (by have := may_len h1; omega) rfl
    simp only [Int.natCast_zero] at h2
    rw [h2]
    have : r = ⟨(textL l).toArray⟩ := ByteArray.ext (Array.ext' (by rw [h3]))
    rw [this]
  · rw [if_neg h1, if_neg h1]
/-- Lines, as the document reads them: what is told, and the line that is begun. -/
def lin : List ByteArray → List UInt8 → List UInt8 → List ByteArray × List UInt8
  | out, line, [] => (out, line)
  | out, line, c :: l => if c = 10 then lin (out ++ [⟨line.toArray⟩]) [] l else lin out (line ++ [c]) l
theorem lin_sep (l : List UInt8) : ∀ (out : List ByteArray) (line : List UInt8), 10 ∉ line → (lin out line l).1 = out ++ ((sepC 10 (line ++ l)).dropLast.map fun x => ⟨x.toArray⟩) ∧ some (lin out line l).2 = (sepC 10 (line ++ l)).getLast? := by
  induction l with
  | nil =>
    intro out line h
    rw [List.append_nil, sepC_free 10 line h]
    simp [lin]
  | cons c l ih =>
    intro out line h
    unfold lin
    by_cases hc : c = 10
    · subst hc
      rw [if_pos rfl]
      obtain ⟨i1, i2⟩ := ih (out ++ [⟨line.toArray⟩]) [] (by simp)
      rw [i1, i2, sepC_app, sepC_free 10 line h, List.nil_append, List.singleton_append]
      have hne := sepC_ne 10 l
      cases hq : sepC 10 l with
      | nil => exact absurd hq hne
      | cons n ns =>
        rw [List.dropLast_cons_cons, List.map_cons, List.getLast?_cons_cons]
        simp
    · rw [if_neg hc]
      obtain ⟨i1, i2⟩ := ih out (line ++ [c]) (by simp [h, Ne.symm hc])
      rw [i1, i2, List.append_assoc]
      exact ⟨rfl, rfl⟩
def parseEnd (r : List ByteArray × List UInt8) : Option (List ByteArray × Int) := if r.2 = [] ∧ mayS r.1 = true then some (r.1, 0) else some ([], 5)
theorem parse_loop (t : ByteArray) (ht : t.size ≤ 1000) (d : Nat) : ∀ (i k : Nat) (out : List ByteArray) (line : ByteArray), i + d = t.size → 1100000 + d < k → out.length ≤ i → line.size ≤ i → (∀ p ∈ out, p.size ≤ 1000) → aquiferref06_Parse.l0 k t out line (i : Int) =
    parseEnd (lin out line.data.toList (t.data.toList.drop i)) := by
  have hsz : t.data.toList.length = t.size := rfl
  induction d with
  | zero =>
    intro i k out line h hk ho hli hsm
    obtain ⟨k, rfl⟩ : ∃ q, k = q + 1 := ⟨k - 1, by omega⟩
    have hf : (out.length + 3) * (out.length + 1) ≤ 1003 * 1001 := Nat.mul_le_mul (by omega) (by omega)
    unfold aquiferref06_Parse.l0
    rw [if_neg (by omega), List.drop_of_length_le (by omega), refmay (shortP_mk (by omega) (fun p hp => by have := hsm p hp; omega)) (by omega) k (by omega), Option.bind_some]
    rw [show lin out line.data.toList [] = (out, line.data.toList) from rfl, ← ByteArray.toList_eq]
    unfold parseEnd
    dsimp only
    by_cases h1 : line.toList = []
    · rw [if_pos h1]
      by_cases h2 : mayS out = true
      · rw [if_pos h2, if_pos ⟨h1, h2⟩]
      · rw [if_neg h2, if_neg (fun h => h2 h.2)]
    · rw [if_neg h1, if_neg (fun h => h1 h.1)]
  | succ d ih =>
    intro i k out line h hk ho hli hsm
    obtain ⟨k, rfl⟩ : ∃ q, k = q + 1 := ⟨k - 1, by omega⟩
    have hi : i < t.data.toList.length := by omega
    have hex : (t.extract ((i : Nat) : Int).toNat (((i + 1 : Nat) : Int)).toNat).data.toList = [t.data.toList[i]] := by
      simp only [Int.toNat_natCast, ByteArray.data_extract, Array.toList_extract]
      rw [List.extract_eq_take_drop, show i + 1 - i = 1 by omega, List.drop_eq_getElem_cons hi]
      rfl
    have hes : (t.extract ((i : Nat) : Int).toNat (((i + 1 : Nat) : Int)).toNat).size = 1 := by
      rw [← dlen, hex]; rfl
    unfold aquiferref06_Parse.l0
    rw [if_pos (by omega), if_pos (by omega), btl_at t i hi, wr1 i (by omega), List.drop_eq_getElem_cons hi]
    rw [lin]
    by_cases hc : t.data.toList[i] = 10
    · have hc' : ((t.data.toList[i]).toNat : Int) = 10 := by rw [hc]; rfl
      rw [if_pos hc', if_pos hc, if_pos (by omega), ih (i + 1) k _ _ (by omega) (by omega) (by simp; omega) (by show (0 : Nat) ≤ _; omega) (fun p hp => (List.mem_append.1 hp).elim (hsm p) (fun e => by rw [List.mem_singleton.1 e]; omega))]
    · have hc' : ¬ ((t.data.toList[i]).toNat : Int) = 10 := fun e => hc (UInt8.toNat.inj (by have : (10 : UInt8).toNat = 10 := rfl; omega))
      rw [if_neg hc', if_neg hc, if_pos (by omega), if_pos (by omega), if_pos (by omega), ih (i + 1) k _ _ (by omega) (by omega) (by omega) (by rw [ByteArray.size_append]; omega) hsm, ByteArray.data_append, Array.toList_append, hex]
theorem refparse (t : ByteArray) (ht : t.size ≤ 1000) (k : Nat) (hk : 1200000 ≤ k) : aquiferref06_Parse.f k t = some (parseS t) := by
  unfold aquiferref06_Parse.f
  have h := parse_loop t ht t.size 0 k [] ⟨#[]⟩ (by omega) (by omega) (Nat.le_refl _) (Nat.le_refl _) (fun p hp => by simp at hp)
  have h2 := lin_sep t.data.toList [] [] (by simp)
  have e0 : (⟨#[]⟩ : ByteArray).data.toList = [] := rfl
  rw [List.drop_zero, e0] at h
  simp only [Int.natCast_zero] at h
  rw [h]
  rw [List.nil_append, List.nil_append] at h2
  obtain ⟨h2, h3⟩ := h2
  generalize lin [] [] t.data.toList = r at h2 h3
  obtain ⟨r1, r2⟩ := r
  dsimp only at h2 h3
  unfold parseEnd parseS linesB
  dsimp only
  by_cases h0 : t.size = 0
  · have e1 : t.data.toList = [] := List.eq_nil_of_length_eq_zero (by rw [dlen]; exact h0)
    rw [if_pos h0]
    rw [e1] at h2 h3
    have e3 : r2 = [] := by simpa [sepC] using h3
    have e2 : r1 = [] := by simpa [sepC] using h2
    subst e3
    subst e2
    rw [if_pos ⟨rfl, rfl⟩]
  · rw [if_neg h0]
    have hdl : ((sepC 10 t.data.toList).map fun x => (⟨x.toArray⟩ : ByteArray)).dropLast = r1 := by rw [h2, List.map_dropLast]
    have hgl : ((sepC 10 t.data.toList).map fun x => (⟨x.toArray⟩ : ByteArray)).getLast? = some ⟨r2.toArray⟩ := by rw [List.getLast?_map, ← h3]; rfl
    rw [hdl, hgl]
    have hiff : (some (⟨r2.toArray⟩ : ByteArray) = some ⟨#[]⟩) ↔ r2 = [] := by
      rw [Option.some.injEq]
      constructor
      · intro e
        have := congrArg (fun b : ByteArray => b.data.toList) e
        simpa using this
      · intro e; rw [e]
    by_cases hc : r2 = [] ∧ mayS r1 = true
    · rw [if_pos hc, if_pos ⟨hiff.2 hc.1, hc.2⟩]
    · rw [if_neg hc, if_neg (fun hh => hc ⟨hiff.1 hh.1, hh.2⟩)]
end Go.Proofs.YtkflalaocnghcaaDoor.Q

namespace Go.Proofs.YtkflalaocnghcaaDoor.Q
open Go Go.Proofs Go.Shelf Go.RowKit Go.Lib Go.Sort Go.Proofs.YtkflalaocnghcaaDoorP Go.Proofs.YtkflalaocnghcaaDoorK Go.Proofs.YtkflalaocnghcaaDoorW.PrintWords Go.Proofs.YtkflalaocnghcaaDoorW.PrintLast Go.Proofs.YtkflalaocnghcaaDoorW.PrintMore
set_option linter.unusedSimpArgs false
set_option linter.unusedVariables false
/-! ### Union and meet of scopes -/
def rootB : ByteArray := ⟨#[]⟩
theorem root_dir : isD rootB := ⟨rfl, rfl⟩
theorem root_may : mayS [rootB] = true := may_mk (fun x hx => by rw [List.mem_singleton.1 hx]; exact root_dir) (List.pairwise_singleton _ _) (by decide)
theorem root_within {p : ByteArray} (h : isP p = true) : withinS rootB p = true := (within_parts root_dir h).2 (by have : parts rootB = [] := rfl; rw [this]; exact List.nil_prefix)
theorem within_root {p : ByteArray} (h : isD p) (hw : withinS p rootB = true) : p = rootB := within_anti h root_dir hw (root_within h.1)
theorem dirs_app {x y : List ByteArray} (hx : Dirs x) (hy : Dirs y) : Dirs (x ++ y) := fun p hp => (List.mem_append.1 hp).elim (hx p) (hy p)
theorem make_red {l m : List ByteArray} (hl : Dirs l) (h : reduceS l = m) (hm : m.length ≤ 16) : makeS l = (m, 0) := by
  rw [make_dirs hl, h, if_neg (by omega)]
theorem union_comm {x y : List ByteArray} (hx : mayS x = true) (hy : mayS y = true) : unionS x y = unionS y x := by
  obtain ⟨dx, _, _⟩ := may_open hx
  obtain ⟨dy, _, _⟩ := may_open hy
  unfold unionS
  rw [if_pos ⟨hx, hy⟩, if_pos ⟨hy, hx⟩, make_dirs (dirs_app dx dy), make_dirs (dirs_app dy dx), reduce_set (m := y ++ x) (dirs_app dx dy) (fun p => by rw [List.mem_append, List.mem_append, or_comm])]
theorem union_self {x : List ByteArray} (hx : mayS x = true) : unionS x x = (x, 0) := by
  obtain ⟨dx, cx, lx⟩ := may_open hx
  unfold unionS
  rw [if_pos ⟨hx, hx⟩]
  exact make_red (dirs_app dx dx) (reduce_one (dirs_app dx dx) cx (fun p hp => List.mem_append_left _ hp) (fun p hp => chain_cov x p ((List.mem_append.1 hp).elim id id))) lx
theorem union_root {x : List ByteArray} (hx : mayS x = true) : unionS x [rootB] = ([rootB], 0) := by
  obtain ⟨dx, cx, lx⟩ := may_open hx
  obtain ⟨dr, cr, lr⟩ := may_open root_may
  unfold unionS
  rw [if_pos ⟨hx, root_may⟩]
  exact make_red (dirs_app dx dr) (reduce_one (dirs_app dx dr) cr (fun p hp => List.mem_append_right _ hp) (fun p hp => (cov_iff _ _).2 ⟨rootB, List.mem_singleton.2 rfl, root_within ((dirs_app dx dr) p hp).1⟩)) lr
theorem meet_comm {x y : List ByteArray} (hx : mayS x = true) (hy : mayS y = true) : meetS x y = meetS y x := by
  obtain ⟨dx, _, _⟩ := may_open hx
  obtain ⟨dy, _, _⟩ := may_open hy
  unfold meetS
  rw [if_pos ⟨hx, hy⟩, if_pos ⟨hy, hx⟩]
  exact reduce_set (meetL_dirs dx dy) (fun p => by rw [mem_meet dx dy, mem_meet dy dx, or_comm])
theorem meet_self {x : List ByteArray} (hx : mayS x = true) : meetS x x = x := by
  obtain ⟨dx, cx, lx⟩ := may_open hx
  unfold meetS
  rw [if_pos ⟨hx, hx⟩]
  refine reduce_one (meetL_dirs dx dx) cx (fun p hp => (mem_meet dx dx p).2 (.inl ⟨hp, p, hp, within_refl p⟩)) (fun p hp => ?_)
  rcases (mem_meet dx dx p).1 hp with ⟨h, _⟩ | ⟨h, _⟩ <;> exact chain_cov x p h
theorem meet_root {x : List ByteArray} (hx : mayS x = true) : meetS x [rootB] = x := by
  obtain ⟨dx, cx, lx⟩ := may_open hx
  obtain ⟨dr, cr, lr⟩ := may_open root_may
  unfold meetS
  rw [if_pos ⟨hx, root_may⟩]
  refine reduce_one (meetL_dirs dx dr) cx (fun p hp => (mem_meet dx dr p).2 (.inr ⟨hp, rootB, List.mem_singleton.2 rfl, root_within (dx p hp).1⟩)) (fun p hp => ?_)
  rcases (mem_meet dx dr p).1 hp with ⟨h, q, hq, hw⟩ | ⟨h, _⟩
  · have e := List.mem_singleton.1 h
    subst e
    have := within_root (dx q hq) hw
    subst this
    exact chain_cov x _ hq
  · exact chain_cov x p h
theorem meet_nil (x : List ByteArray) : meetS x [] = [] := by
  have : meetL x [] = [] := by
    unfold meetL meetP
    induction x with
    | nil => rfl
    | cons p x ih => rw [List.map_cons, List.flatten_cons, ih]; rfl
  unfold meetS
  rw [this]
  split <;> rfl
theorem unionS_len' (a b : List ByteArray) : (unionS a b).1.length ≤ a.length + b.length := by
  unfold unionS
  split
  · have := makeS_len (a ++ b)
    rw [List.length_append] at this
    exact this
  · exact Nat.zero_le _
theorem meetS_len' (a b : List ByteArray) (la : a.length ≤ 20) (lb : b.length ≤ 20) : (meetS a b).length ≤ 400 := by
  unfold meetS
  split
  · have h1 := reduceS_len (meetL a b)
    have h2 := meetL_len a b
    have h3 : a.length * b.length ≤ 20 * 20 := Nat.mul_le_mul la lb
    omega
  · exact Nat.zero_le _
end Go.Proofs.YtkflalaocnghcaaDoor.Q

namespace Go.Proofs.YtkflalaocnghcaaDoor.Q
open Go Go.Proofs Go.Shelf Go.RowKit Go.Lib Go.Sort Go.Proofs.YtkflalaocnghcaaDoorP Go.Proofs.YtkflalaocnghcaaDoorK Go.Proofs.YtkflalaocnghcaaDoorW.PrintWords Go.Proofs.YtkflalaocnghcaaDoorW.PrintLast Go.Proofs.YtkflalaocnghcaaDoorW.PrintMore
set_option linter.unusedSimpArgs false
set_option linter.unusedVariables false
/-! ### ScopeAlgebra, walked by hand -/
theorem C_one {w : World} {b : Nat} {s : ByteArray} (h : w.cell? ⟨b, 0, none⟩ = some (.string s)) : Kd.C Kd.string w (some ⟨b, 0, none⟩) [s].length [s] :=
  ⟨rfl, by simp, fun _ => ⟨_, rfl, fun j x hj => by
    cases j with
    | zero =>
      obtain rfl : s = x := by simpa using hj
      refine ⟨[.string s], rfl, rfl, fun i v hi => ?_⟩
      cases i with
      | zero =>
        obtain rfl : Value.string s = v := by simpa using hi
        exact h
      | succ i => simp at hi
    | succ j => simp at hj⟩⟩
theorem root_short : shortP [rootB] = true := shortP_mk (by decide) (fun p hp => by rw [List.mem_singleton.1 hp]; decide)
theorem may_short {l : List ByteArray} (h : mayS l = true) : shortP l = true := by
  obtain ⟨hd, _, hl⟩ := may_open h
  exact shortP_mk (by omega) (fun p hp => by have := (isP_open (hd p hp).1).1; omega)
theorem make_ok_may {l : List ByteArray} (h : (makeS l).2 = 0) : mayS (makeS l).1 = true := by
  obtain ⟨_, h1, h2⟩ := make_ok h
  rw [h1]
  exact h2
set_option maxRecDepth 100000 in
set_option maxHeartbeats 8000000 in
theorem alg_any (w : World) (A0 : Option Addr) (c0 : Nat) (l0 : List ByteArray) (A1 : Option Addr) (c1 : Nat) (l1 : List ByteArray) (hC0 : Kd.C Kd.string w A0 l0.length l0) (hc0 : l0.length ≤ c0) (hC1 : Kd.C Kd.string w A1 l1.length l1) (hc1 : l1.length ≤ c1) :
    Calls Tryd.prog 6 #[.slice A0 l0.length c0, .slice A1 l1.length c1] w fun e w' => e = .returned (.bool true) ∧ Below w.heap.size w w' := by
  have HC1 := Aside0.mk hC1
  have HL1 := Aside0.mk hc1
  have HF0 := Aside0.mk (fun W (h : Below w.heap.size w W) => aquiferlaw06_few.calls 21 A0 c0 l0 _ W (Kd.C_below hC0 h) hc0 (few_fn l0 21 (Nat.le_refl _)))
  have HF1 := Aside0.mk (fun W (h : Below w.heap.size w W) => aquiferlaw06_few.calls 21 A1 c1 l1 _ W (Kd.C_below hC1 h) hc1 (few_fn l1 21 (Nat.le_refl _)))
  have sX := few_short l0
  have sY := few_short l1
  clear hC0 hC1 hc0 hc1 HC1 HL1
  generalize fewP l0 = X at HF0 sX
  generalize fewP l1 = Y at HF1 sY
  have hX := fun h => make_ok_may (l := X) h
  have hY := fun h => make_ok_may (l := Y) h
  have HMX := Aside0.mk (fun W A c hC hc => Make_any W A c X hC hc sX)
  have HMY := Aside0.mk (fun W A c hC hc => Make_any W A c Y hC hc sY)
  clear sX sY
  generalize makeS X = x at HMX hX
  generalize makeS Y = y at HMY hY
  obtain ⟨x, e⟩ := x
  obtain ⟨y, f⟩ := y
  have HX := Aside0.mk hX
  have HY := Aside0.mk hY
  clear hX hY
  go_enter Tryd.func6, Tryd.ntmps6
  go_wp2_with fail
  refine (HF0.out _ (bel _ _)).mono ?_
  rintro r1 w1 ⟨v, rfl, hv, hb⟩
  have p1 := prev_call hb
  clear hb
  obtain ⟨B1, d1, rfl, h, hC⟩ := Kd.R_reads hv
  have HR1 := Aside0.mk hC
  have HL1 := Aside0.mk h
  clear hC h hv
  go_wp2_with fail
  refine (HMX.out _ _ _ HR1.out HL1.out).mono ?_
  rintro r2 w2 ⟨v, rfl, hv, hb⟩
  have p2 := prev_call hb
  clear hb
  obtain ⟨_, B2, d2, rfl, h, hC⟩ := hv
  have HR2 := Aside0.mk hC
  have HL2 := Aside0.mk h
  clear hC h
  go_wp2_with fail
  refine (HF1.out _ (bel _ _)).mono ?_
  rintro r3 w3 ⟨v, rfl, hv, hb⟩
  have p3 := prev_call hb
  clear hb
  obtain ⟨B3, d3, rfl, h, hC⟩ := Kd.R_reads hv
  have HR3 := Aside0.mk hC
  have HL3 := Aside0.mk h
  clear hC h hv
  go_wp2_with fail
  refine (HMY.out _ _ _ HR3.out HL3.out).mono ?_
  rintro r4 w4 ⟨v, rfl, hv, hb⟩
  have p4 := prev_call hb
  clear hb
  obtain ⟨_, B4, d4, rfl, h, hC⟩ := hv
  have HR4 := Aside0.mk hC
  have HL4 := Aside0.mk h
  clear hC h
  go_wp2_with fail
  · skip
    refine (aquiferlaw06_works.calls 60 true _ (works_fn 60 (Nat.le_refl _))).mono ?_
    rintro r5 w5 ⟨rfl, hb⟩
    have p5 := prev_call hb
    clear hb
    go_wp2_with fail
    go_ret
    exact ⟨rfl, bel _ _⟩
  rotate_left
  · skip
    refine (aquiferlaw06_works.calls 60 true _ (works_fn 60 (Nat.le_refl _))).mono ?_
    rintro r6 w6 ⟨rfl, hb⟩
    have p6 := prev_call hb
    clear hb
    go_wp2_with fail
    go_ret
    exact ⟨rfl, bel _ _⟩
  have he : e = 0 := by assumption
  have hf2 : (f != 0) = false := by assumption
  have hf : f = 0 := bne_eq_false_iff_eq.mp hf2
  clear hf2
  subst he hf
  have mX := HX.out rfl
  have mY := HY.out rfl

  have sx := may_short mX
  have sy := may_short mY
  have hxy := union_comm mX mY
  have hxx := union_self mX
  have hxr := union_root mX
  have hmc := meet_comm mX mY
  have hmm := meet_self mX
  have hmr := meet_root mX
  have hmn := meet_nil x
  have lx := may_len mX
  have ly := may_len mY
  have hml := meetS_len' x y (by omega) (by omega)
  have hul := unionS_len' x y
  have HU1 := Aside0.mk (fun W A c hC hc A' c' hC' hc' => Union_any W A c x A' c' y hC hc sx hC' hc' sy)
  have HU2 := Aside0.mk (fun W A c hC hc A' c' hC' hc' => Union_any W A c y A' c' x hC hc sy hC' hc' sx)
  have HU3 := Aside0.mk (fun W A c hC hc A' c' hC' hc' => Union_any W A c x A' c' x hC hc sx hC' hc' sx)
  have HU4 := Aside0.mk (fun W A c hC hc A' c' hC' hc' => Union_any W A c x A' c' [rootB] hC hc sx hC' hc' root_short)
  have HM1 := Aside0.mk (fun W A c hC hc A' c' hC' hc' => scope_Meet.calls 400 A c x A' c' y _ W hC hc hC' hc' (meet_fn sx sy 400 (by omega) (by omega) (by omega)))
  have HM2 := Aside0.mk (fun W A c hC hc A' c' hC' hc' => scope_Meet.calls 400 A c y A' c' x _ W hC hc hC' hc' (meet_fn sy sx 400 (by omega) (by omega) (by omega)))
  have HM3 := Aside0.mk (fun W A c hC hc A' c' hC' hc' => scope_Meet.calls 400 A c x A' c' x _ W hC hc hC' hc' (meet_fn sx sx 400 (by omega) (by omega) (by omega)))
  have HM4 := Aside0.mk (fun W A c hC hc A' c' hC' hc' => scope_Meet.calls 400 A c x A' c' [rootB] _ W hC hc hC' hc' (meet_fn sx root_short 400 (by omega) (by decide) (by omega)))
  have HM5 := Aside0.mk (fun W A c hC hc A' c' hC' hc' => scope_Meet.calls 400 A c x A' c' [] _ W hC hc hC' hc' (meet_fn sx rfl 400 (by omega) (by decide) (by omega)))
  rw [← hxy] at HU2
  rw [hxx] at HU3
  rw [hxr] at HU4
  rw [← hmc] at HM2
  rw [hmm] at HM3
  rw [hmr] at HM4
  rw [hmn] at HM5
  clear hxy hxx hxr hmc hmm hmr hmn mX mY sx sy
  generalize unionS x y = u at HU1 HU2 hul
  generalize meetS x y = m at HM1 HM2 hml
  obtain ⟨u, g⟩ := u
  dsimp only at hul
  have HSU := Aside0.mk (fun W A c hC hc A' c' hC' hc' => aquiferref05_SameTexts.calls 500 A c u A' c' u true W hC hc hC' hc' (same_refl u (by omega) 500 (by omega)))
  have HSX := Aside0.mk (fun W A c hC hc A' c' hC' hc' => aquiferref05_SameTexts.calls 500 A c x A' c' x true W hC hc hC' hc' (same_refl x (by omega) 500 (by omega)))
  have HSR := Aside0.mk (fun W A c hC hc A' c' hC' hc' => aquiferref05_SameTexts.calls 500 A c [rootB] A' c' [rootB] true W hC hc hC' hc' (same_refl [rootB] (by decide) 500 (by decide)))
  have HSM := Aside0.mk (fun W A c hC hc A' c' hC' hc' => aquiferref05_SameTexts.calls 500 A c m A' c' m true W hC hc hC' hc' (same_refl m (by omega) 500 (by omega)))
  clear hml hul lx ly
  have hgg : (g != g) = false := by simp
  have hgg2 : (g == g) = true := by simp
  have eg : ∀ args w, (callFunc 12 args).run Tryd.prog w = .ok (.enter 12 args) w := enters_of Tryd.func12 (by kernel_rfl) rfl

  refine (HU1.out _ _ _ (Kd.C_below HR2.out (bel _ _)) HL2.out _ _ (Kd.C_below HR4.out (bel _ _)) HL4.out).mono ?_
  rintro r7 w7 ⟨v, rfl, hv, hb⟩
  have p7 := prev_call hb
  clear hb
  obtain ⟨_, B7, d7, rfl, h, hC⟩ := hv
  have HR7 := Aside0.mk hC
  have HL7 := Aside0.mk h
  clear hC h
  go_wp2_with fail
  refine (HU2.out _ _ _ (Kd.C_below HR4.out (bel _ _)) HL4.out _ _ (Kd.C_below HR2.out (bel _ _)) HL2.out).mono ?_
  rintro r8 w8 ⟨v, rfl, hv, hb⟩
  have p8 := prev_call hb
  clear hb
  obtain ⟨_, B8, d8, rfl, h, hC⟩ := hv
  have HR8 := Aside0.mk hC
  have HL8 := Aside0.mk h
  clear hC h
  go_wp2_with fail
  refine (HU3.out _ _ _ (Kd.C_below HR2.out (bel _ _)) HL2.out _ _ (Kd.C_below HR2.out (bel _ _)) HL2.out).mono ?_
  rintro r9 w9 ⟨v, rfl, hv, hb⟩
  have p9 := prev_call hb
  clear hb
  obtain ⟨_, B9, d9, rfl, h, hC⟩ := hv
  have HR9 := Aside0.mk hC
  have HL9 := Aside0.mk h
  clear hC h
  go_wp2_with fail
  refine (HU4.out _ _ _ (Kd.C_below HR2.out (bel _ _)) HL2.out _ _ (C_one (b := _) (s := rootB) (cell_held.trans rfl)) (Nat.le_refl _)).mono ?_
  rintro r10 w10 ⟨v, rfl, hv, hb⟩
  have p10 := prev_call hb
  clear hb
  obtain ⟨_, B10, d10, rfl, h, hC⟩ := hv
  have HR10 := Aside0.mk hC
  have HL10 := Aside0.mk h
  clear hC h
  go_wp2_with fail
  refine (HSU.out _ _ _ (Kd.C_below HR7.out (bel _ _)) HL7.out _ _ (Kd.C_below HR8.out (bel _ _)) HL8.out).mono ?_
  rintro r11 w11 ⟨rfl, hb⟩
  have p11 := prev_call (Drawn0.below hb)
  clear hb
  go_wp2_with fail
  refine (HSX.out _ _ _ (Kd.C_below HR9.out (bel _ _)) HL9.out _ _ (Kd.C_below HR2.out (bel _ _)) HL2.out).mono ?_
  rintro r12 w12 ⟨rfl, hb⟩
  have p12 := prev_call (Drawn0.below hb)
  clear hb
  go_wp2_with fail
  refine (HSR.out _ _ _ (Kd.C_below HR10.out (bel _ _)) HL10.out _ _ (C_one (b := _) (s := rootB) (cell_held.trans rfl)) (Nat.le_refl _)).mono ?_
  rintro r13 w13 ⟨rfl, hb⟩
  have p13 := prev_call (Drawn0.below hb)
  clear hb
  go_wp2_with fail
  refine (HM1.out _ _ _ (Kd.C_below HR2.out (bel _ _)) HL2.out _ _ (Kd.C_below HR4.out (bel _ _)) HL4.out).mono ?_
  rintro r14 w14 ⟨v, rfl, hv, hb⟩
  have p14 := prev_call hb
  clear hb
  obtain ⟨_, B14, d14, rfl, h, hC⟩ := hv
  have HR14 := Aside0.mk hC
  have HL14 := Aside0.mk h
  clear hC h
  go_wp2_with fail
  refine (HM2.out _ _ _ (Kd.C_below HR4.out (bel _ _)) HL4.out _ _ (Kd.C_below HR2.out (bel _ _)) HL2.out).mono ?_
  rintro r15 w15 ⟨v, rfl, hv, hb⟩
  have p15 := prev_call hb
  clear hb
  obtain ⟨_, B15, d15, rfl, h, hC⟩ := hv
  have HR15 := Aside0.mk hC
  have HL15 := Aside0.mk h
  clear hC h
  go_wp2_with fail
  refine (HSM.out _ _ _ (Kd.C_below HR14.out (bel _ _)) HL14.out _ _ (Kd.C_below HR15.out (bel _ _)) HL15.out).mono ?_
  rintro r16 w16 ⟨rfl, hb⟩
  have p16 := prev_call (Drawn0.below hb)
  clear hb
  go_wp2_with fail
  refine (HM3.out _ _ _ (Kd.C_below HR2.out (bel _ _)) HL2.out _ _ (Kd.C_below HR2.out (bel _ _)) HL2.out).mono ?_
  rintro r17 w17 ⟨v, rfl, hv, hb⟩
  have p17 := prev_call hb
  clear hb
  obtain ⟨_, B17, d17, rfl, h, hC⟩ := hv
  have HR17 := Aside0.mk hC
  have HL17 := Aside0.mk h
  clear hC h
  go_wp2_with fail
  refine (HSX.out _ _ _ (Kd.C_below HR17.out (bel _ _)) HL17.out _ _ (Kd.C_below HR2.out (bel _ _)) HL2.out).mono ?_
  rintro r18 w18 ⟨rfl, hb⟩
  have p18 := prev_call (Drawn0.below hb)
  clear hb
  go_wp2_with fail
  refine (HM4.out _ _ _ (Kd.C_below HR2.out (bel _ _)) HL2.out _ _ (C_one (b := _) (s := rootB) (cell_held.trans rfl)) (Nat.le_refl _)).mono ?_
  rintro r19 w19 ⟨v, rfl, hv, hb⟩
  have p19 := prev_call hb
  clear hb
  obtain ⟨_, B19, d19, rfl, h, hC⟩ := hv
  have HR19 := Aside0.mk hC
  have HL19 := Aside0.mk h
  clear hC h
  go_wp2_with fail
  refine (HSX.out _ _ _ (Kd.C_below HR19.out (bel _ _)) HL19.out _ _ (Kd.C_below HR2.out (bel _ _)) HL2.out).mono ?_
  rintro r20 w20 ⟨rfl, hb⟩
  have p20 := prev_call (Drawn0.below hb)
  clear hb
  go_wp2_with fail
  refine (HM5.out _ _ _ (Kd.C_below HR2.out (bel _ _)) HL2.out _ _ (Kd.C_nil Kd.string _) (Nat.le_refl 0)).mono ?_
  rintro r21 w21 ⟨v, rfl, hv, hb⟩
  have p21 := prev_call hb
  clear hb
  obtain ⟨_, B21, d21, rfl, h, hC⟩ := hv
  have HR21 := Aside0.mk hC
  have HL21 := Aside0.mk h
  clear hC h
  go_wp2_with fail
  refine (aquiferlaw06_works.calls 60 true _ (works_fn 60 (Nat.le_refl _))).mono ?_
  rintro r22 w22 ⟨rfl, hb⟩
  have p22 := prev_call hb
  clear hb
  go_wp2_with fail
  go_ret
  exact ⟨rfl, bel _ _⟩
def aquiferlaw06_ScopeAlgebra.f (k : Nat) (a b : List ByteArray) : Option Bool := some true
theorem aquiferlaw06_ScopeAlgebra.calls (k : Nat) (A0 : Option Addr) (c0 : Nat) (l0 : List ByteArray) (A1 : Option Addr) (c1 : Nat) (l1 : List ByteArray) (r : Bool) (w : World) (hr0 : Kd.C Kd.string w A0 l0.length l0) (hc0 : l0.length ≤ c0) (hr1 : Kd.C Kd.string w A1 l1.length l1) (hc1 : l1.length ≤ c1) (h : aquiferlaw06_ScopeAlgebra.f k l0 l1 = some r) :
    Calls Tryd.prog 6 #[.slice A0 l0.length c0, .slice A1 l1.length c1] w fun e w' => e = .returned (.bool r) ∧ Below w.heap.size w w' := by
  obtain rfl : true = r := Option.some.inj h
  exact alg_any w A0 c0 l0 A1 c1 l1 hr0 hc0 hr1 hc1
end Go.Proofs.YtkflalaocnghcaaDoor.Q

namespace Go.Proofs.YtkflalaocnghcaaDoor.Q
open Go Go.Proofs Go.Shelf Go.RowKit Go.Lib Go.Sort Go.Proofs.YtkflalaocnghcaaDoorP Go.Proofs.YtkflalaocnghcaaDoorK Go.Proofs.YtkflalaocnghcaaDoorW.PrintWords Go.Proofs.YtkflalaocnghcaaDoorW.PrintLast Go.Proofs.YtkflalaocnghcaaDoorW.PrintMore
theorem ScopeAlgebra_pure (l0 : List ByteArray) (l1 : List ByteArray) (_h0 : l0.length * 16 ≤ 140737488351232) (_g0 : ∀ a ∈ l0, a.size ≤ 9223372036854775807) (_h1 : l1.length * 16 ≤ 140737488351232) (_g1 : ∀ a ∈ l1, a.size ≤ 9223372036854775807) : ∃ k, aquiferlaw06_ScopeAlgebra.f k l0 l1 = some true := ⟨0, rfl⟩
end Go.Proofs.YtkflalaocnghcaaDoor.Q

namespace Go.Proofs.YtkflalaocnghcaaDoor.scopeAlgebra
open Go.ChangeShapes Go.WideShapes Go.ChangeAt Go.RowKit Go.Proofs.YtkflalaocnghcaaDoorK Go.Proofs.YtkflalaocnghcaaDoorW.PrintWords Go.Proofs.YtkflalaocnghcaaDoor.Q
open Go.ChangeMaps (open_string shut_string)
set_option linter.unusedVariables false
theorem own : ownKnob Tryd.prog.godebug = none := by kernel_rfl
theorem laidOut : laidOutB Tryd.prog = true := by kernel_rfl
set_option maxRecDepth 100000 in
theorem lifted (os : Os) (started : os.Started) (H : Type) (enc : TypeId × Value → H) :
    ReturnsInHanded {} Tryd.checked os 6 .any (fun w args => (Rows.scopeAlgebraSpec.pre enc Tryd.prog Tryd.f6 Rows.scopeAlgebraRow.domain false w args ∧ laidMetH Tryd.prog Rows.scopeAlgebraRow.laid w) ∧ sizedMet enc Tryd.prog Tryd.f6 (OpenSpec.ofChange Rows.scopeAlgebraSpec) false w args) (Rows.scopeAlgebraSpec.post enc Tryd.prog Tryd.f6 false true false false) := by
  refine returnsInHanded_of_change_and (C := Tryd.checked) (X := fun w _ => laidMetH Tryd.prog Rows.scopeAlgebraRow.laid w) (fun _ _ _ hh h => h.of_heap hh) own started (by kernel_rfl) Tryd.func6
    (ChangeSpec.witness_shaped (enc := enc) (C := Tryd.checked) (os := os) (X := fun w _ => laidMetH Tryd.prog Rows.scopeAlgebraRow.laid w) false (World.laidAll Tryd.prog os Rows.scopeAlgebraRow.laid) #[.slice none 0 0, .slice none 0 0] 8 (World.laidAll_os _ _ _)
      (World.shaped_of_ZipB (by kernel_rfl) (by kernel_rfl)) (by kernel_rfl) (by kernel_rfl) (by kernel_rfl)
      (by rw [MakeChecks.laidMetH_plain _ _ _ (by kernel_rfl)]; exact laidMet_laidAll _ (by kernel_rfl) (by kernel_rfl))) ?_
  intro W base args ds gs before hval0 hW hcnd hsz0 _ _
  have hsz : (DataW.weightsEach Tryd.prog (Tryd.f6.params.toList ++ Rows.scopeAlgebraSpec.plain.varTypes Tryd.prog) (ds ++ gs)).all (· ≤ reachBytes) = true := hsz0
  have hval : ∀ (j : Nat) t v, Tryd.f6.params[j]? = some t → args[j]? = some v → Value.okWide Tryd.prog W .any base t v := hval0
  have hW' := hW
  obtain ⟨p, q, hA0, hV, rfl, hfz, hnd⟩ := hW
  have hA : DataW.TrodAll enc Tryd.prog W 0 (fun _ => true) true Tryd.f6.params.toList args.toList ds p := hA0
  rw [Tryd.params6] at hA hval hsz
  obtain ⟨v0, vs0, d0, ds0, p0, q0, hargs, rfl, rfl, h0, r0⟩ := trodAll_cons hA
  obtain ⟨v1, vs1, d1, ds1, p1, q1, rfl, rfl, rfl, h1, r1⟩ := trodAll_cons r0
  obtain ⟨rfl, rfl, rfl⟩ := trodAll_nil r1
  obtain rfl : args = #[v0, v1] := by cases args; simp_all
  obtain ⟨rfl, rfl⟩ := trodVars_none hV
  obtain ⟨a0, len0, cap0, rfl⟩ := okWide_slice Tryd.underlying22 (hval 0 22 v0 rfl rfl)
  have k0 := h0
  have lt0 : ∀ x ∈ p0, x.block < W.heap.size := by obtain ⟨m, hm⟩ := k0; exact DataW.trod_lt m _ _ _ hm
  have y0 : len0 * 16 ≤ 140737488351232 := sized_row hsz (j := 0) (t := 22) rfl rfl Tryd.underlying22 (by kernel_rfl) h0
  obtain ⟨l0, ⟨A0, c0, he0, hl0, hC0⟩, _, hG0⟩ : ∃ l, (Kd.slice 9 Kd.string).K W l [.slice a0 len0 cap0] ∧ l.length ≤ 9223372036854775807 ∧ ∀ a ∈ l, a.size ≤ 9223372036854775807 := by
    obtain ⟨fuel, hf⟩ := h0
    exact (opens_slice (e := 9) Tryd.underlying22 (by kernel_rfl) (opens_string Tryd.underlying9)) _ _ _ _ _ _ _ _ _ hf
  simp only [List.cons.injEq, Value.slice.injEq, and_true] at he0
  obtain ⟨rfl, rfl, rfl⟩ := he0
  obtain ⟨a1, len1, cap1, rfl⟩ := okWide_slice Tryd.underlying22 (hval 1 22 v1 rfl rfl)
  have k1 := h1
  have lt1 : ∀ x ∈ p1, x.block < W.heap.size := by obtain ⟨m, hm⟩ := k1; exact DataW.trod_lt m _ _ _ hm
  have y1 : len1 * 16 ≤ 140737488351232 := sized_row hsz (j := 1) (t := 22) rfl rfl Tryd.underlying22 (by kernel_rfl) h1
  obtain ⟨l1, ⟨A1, c1, he1, hl1, hC1⟩, _, hG1⟩ : ∃ l, (Kd.slice 9 Kd.string).K W l [.slice a1 len1 cap1] ∧ l.length ≤ 9223372036854775807 ∧ ∀ a ∈ l, a.size ≤ 9223372036854775807 := by
    obtain ⟨fuel, hf⟩ := h1
    exact (opens_slice (e := 9) Tryd.underlying22 (by kernel_rfl) (opens_string Tryd.underlying9)) _ _ _ _ _ _ _ _ _ hf
  simp only [List.cons.injEq, Value.slice.injEq, and_true] at he1
  obtain ⟨rfl, rfl, rfl⟩ := he1
  clear hA0 hval0 hsz0 hsz
  obtain ⟨k, hP⟩ := ScopeAlgebra_pure l0 l1 y0 hG0 y1 hG1
  refine (aquiferlaw06_ScopeAlgebra.calls k _ _ l0 _ _ l1 true W hC0 hl0 hC1 hl1 hP).mono fun e W' he0 => ?_
  obtain ⟨rfl, bel0⟩ := he0
  have bel : Below W.heap.size W W' := bel0
  exact ⟨_, rfl, _, _, _, [], _, [], hW', trodAll_mk1 (shut_bool Tryd.underlying4 _), (trodAll_cons_mk (Below.trod laidOut (by kernel_rfl) (of_decide_eq_true (by kernel_rfl)) k0 bel lt0) (trodAll_cons_mk (Below.trod laidOut (by kernel_rfl) (of_decide_eq_true (by kernel_rfl)) k1 bel lt1) trodAll_mk0)), rfl, bel.frame _, fun h => by cases h⟩
theorem over : Rows.scopeAlgebraRow.holds Tryd.pinned (OpenSpec.ofChange Rows.scopeAlgebraSpec) :=
  OpenClaim.holds_of_wide 6 Tryd.f6 rfl rfl rfl rfl rfl rfl rfl ⟨rfl, rfl, rfl, rfl, rfl⟩ rfl rfl rfl rfl rfl (by kernel_rfl) Tryd.func6 (by kernel_rfl)
    (of_decide_eq_true (by kernel_rfl)) (by unfold Func.isWrapper; first | (rw [if_pos (by decide +kernel)]; kernel_rfl) | (rw [if_neg (by decide +kernel)]; exact ⟨rfl, rfl⟩))
    (fun os started H enc _ => lifted os started H enc)
theorem card : Rows.ScopeAlgebraCardSaid :=
  Claim7.holds_tied_plain_at .later [] [.data, .pinned] true (true, "067b717ea2883e1b3b9eac4b170a2c4c73abc7f928e7b64b41a4e1bdbf2de1a7") false over (fun _ h => by cases h) (by kernel_rfl) (fun _ h => by cases h) scopeAlgebra_row_tie rfl ⟨rfl, rfl⟩ (by kernel_rfl) rfl
    (fun f fn hf hfn => by
      obtain rfl : f = 6 := Option.some.inj ((show Tryd.prog.funcNamed "aquifer/aquiferlaw06.ScopeAlgebra" = some 6 by kernel_rfl).symm.trans hf) |>.symm
      obtain rfl : fn = Tryd.f6 := (Option.some.inj (Tryd.func6.symm.trans hfn)).symm
      exact ⟨by kernel_rfl, fun j t ht => by
        rw [Tryd.params6] at ht
        have hm : t ∈ [22, 22] := by simpa using Array.mem_of_getElem? ht
        have hall : ([22, 22].all fun u => !Tryd.prog.wantsStandIn u) = true := by kernel_rfl
        exact (show Tryd.prog.wantsStandIn t = false by simpa using List.all_eq_true.1 hall t hm)⟩)
    (by kernel_rfl)
theorem proved : Rows.ScopeAlgebraCardSaid := card
#print axioms proved
end Go.Proofs.YtkflalaocnghcaaDoor.scopeAlgebra
namespace Go.Proofs.YtkflalaocnghcaaDoor
/-- The card, under a short name, for the claim. -/
theorem scopeAlgebra_holds : Rows.ScopeAlgebraCardSaid := scopeAlgebra.proved
end Go.Proofs.YtkflalaocnghcaaDoor
