/-
What is proved: aquifer/aquiferlaw26.LruVictims answers true for every input, and leaves its arguments as they were.
-/
import Derived.Test.YtdggdmdefmljlaaDoorZV1
import Derived.Test.YtdggdmdefmljlaaDoorZV2
import Derived.Test.YtdggdmdefmljlaaDoorRows
import Derived.Test.YtdggdmdefmljlaaDoorCards
import Derived.Test.YtdggdmdefmljlaaDoorTie
import Derived.WalkKit
import Derived.ProofKit
import Derived.OpenShut
import Derived.ShutString
import Derived.ChangeOld
import Derived.Below
import Derived.SizedLaws
import Derived.LaidLaws
import Derived.LaidMore
import Derived.Lay
import Derived.SevenTiedAt
import Derived.Stop.Joined
namespace Go.Proofs.YtdggdmdefmljlaaDoor.Q
open Go.RowKit Go.Proofs.YtdggdmdefmljlaaDoorW.PrintWords Go.Proofs.YtdggdmdefmljlaaDoorW.PrintLast Go.Proofs.YtdggdmdefmljlaaDoorW.PrintMore Go.Proofs.YtdggdmdefmljlaaDoorK
attribute [local go_sem] max2_int min2_int max_two min_two max_three min_three max_four min_four   -- for this text's walks alone
attribute [local go_sem ↓] Go.Proofs.YtdggdmdefmljlaaDoorK.isSome_setCell
set_option linter.unusedVariables false
set_option linter.unusedSimpArgs false

/-! ### aquiferref26_Victims: function 21 -/
mutual
def aquiferref26_Victims.j0 : Nat → List (S35) → Int → Int → Bool → Option (List ByteArray × Int)
  | 0, _, _, _, _ => none
  | k + 1, x0, x1, x2, x31 => if x31 = true then (some (([] : List ByteArray), 2)) else ((aquiferref26_Fixed.f k x0).bind fun t204 => (if t204 > (wrap64 (x1 - x2)) then (some (([] : List ByteArray), 17)) else ((aquiferref26_Order.f k x0).bind fun t205 => ((aquiferref26_Bytes.f k x0).bind fun t208 => (aquiferref26_Victims.l0 k x1 x2 t205 t208 ([] : List ByteArray) 0)))))
def aquiferref26_Victims.l0 : Nat → Int → Int → List (S35) → Int → List ByteArray → Int → Option (List ByteArray × Int)
  | 0, _, _, _, _, _, _ => none
  | k + 1, x1, x2, x9, x10, x11, x12 => if x12 < (x9.length : Int) then (if x10 > (wrap64 (x1 - x2)) then (if 0 ≤ x12 then (if x11.length < 8796093022208 then (aquiferref26_Victims.l0 k x1 x2 x9 (wrap64 (x10 - ((rd_T35 x9 x12).f1))) (x11 ++ [(rd_T35 x9 x12).f0]) (wrap64 (x12 + 1))) else (none)) else (none)) else (some (x11, 0))) else (some (x11, 0))
end
def aquiferref26_Victims.f (k : Nat) (l0 : List (S35)) (a1 : Int) (a2 : Int) : Option (List ByteArray × Int) := (aquiferref26_Check.f k l0).bind fun t203 => (if t203 = 0 then (if a1 < 0 then (aquiferref26_Victims.j0 k l0 a1 a2 true) else (if a1 > 4611686018427387904 then (aquiferref26_Victims.j0 k l0 a1 a2 true) else (if a2 < 0 then (aquiferref26_Victims.j0 k l0 a1 a2 true) else (aquiferref26_Victims.j0 k l0 a1 a2 (decide (a2 > 4096)))))) else (some (([] : List ByteArray), t203)))
theorem aquiferref26_Victims.mono_l : ∀ k, (∀ y0 y1 y2 y3, LeO (aquiferref26_Victims.j0 k y0 y1 y2 y3) (aquiferref26_Victims.j0 (k + 1) y0 y1 y2 y3)) ∧ (∀ y0 y1 y2 y3 y4 y5, LeO (aquiferref26_Victims.l0 k y0 y1 y2 y3 y4 y5) (aquiferref26_Victims.l0 (k + 1) y0 y1 y2 y3 y4 y5))
  | 0 => ⟨fun _ _ _ _ r h => by simp [aquiferref26_Victims.j0] at h, fun _ _ _ _ _ _ r h => by simp [aquiferref26_Victims.l0] at h⟩
  | k + 1 => by
    obtain ⟨ih0, ih1⟩ := aquiferref26_Victims.mono_l k
    refine ⟨?_, ?_⟩
    · intro y0 y1 y2 y3
      unfold aquiferref26_Victims.j0
      repeat' first
      | (with_reducible exact ih0 _ _ _ _)
      | (with_reducible exact ih1 _ _ _ _ _ _)
      | (with_reducible exact aquiferref26_Bytes.mono _ _)
      | (with_reducible exact aquiferref26_Check.mono _ _)
      | (with_reducible exact aquiferref26_Fixed.mono _ _)
      | (with_reducible exact aquiferref26_Order.mono _ _)
      | (with_reducible exact LeO.refl _)
      | (with_reducible exact LeO.none _)
      | (with_reducible refine LeO.ite ?_ ?_)
      | (with_reducible refine LeO.bind ?_ (fun _ => ?_))
      | exact ih0 _ _ _ _
      | exact ih1 _ _ _ _ _ _
      | exact aquiferref26_Bytes.mono _ _
      | exact aquiferref26_Check.mono _ _
      | exact aquiferref26_Fixed.mono _ _
      | exact aquiferref26_Order.mono _ _
      | exact LeO.none _
      | refine LeO.ite ?_ ?_
      | refine LeO.bind ?_ (fun _ => ?_)
    · intro y0 y1 y2 y3 y4 y5
      unfold aquiferref26_Victims.l0
      repeat' first
      | (with_reducible exact ih0 _ _ _ _)
      | (with_reducible exact ih1 _ _ _ _ _ _)
      | (with_reducible exact aquiferref26_Bytes.mono _ _)
      | (with_reducible exact aquiferref26_Check.mono _ _)
      | (with_reducible exact aquiferref26_Fixed.mono _ _)
      | (with_reducible exact aquiferref26_Order.mono _ _)
      | (with_reducible exact LeO.refl _)
      | (with_reducible exact LeO.none _)
      | (with_reducible refine LeO.ite ?_ ?_)
      | (with_reducible refine LeO.bind ?_ (fun _ => ?_))
      | exact ih0 _ _ _ _
      | exact ih1 _ _ _ _ _ _
      | exact aquiferref26_Bytes.mono _ _
      | exact aquiferref26_Check.mono _ _
      | exact aquiferref26_Fixed.mono _ _
      | exact aquiferref26_Order.mono _ _
      | exact LeO.none _
      | refine LeO.ite ?_ ?_
      | refine LeO.bind ?_ (fun _ => ?_)
theorem aquiferref26_Victims.mono : ∀ a0 a1 a2 k, LeO (aquiferref26_Victims.f k a0 a1 a2) (aquiferref26_Victims.f (k + 1) a0 a1 a2) := by
  intro a0 a1 a2 k
  obtain ⟨ih0, ih1⟩ := aquiferref26_Victims.mono_l k
  unfold aquiferref26_Victims.f
  repeat' first
      | (with_reducible exact ih0 _ _ _ _)
      | (with_reducible exact ih1 _ _ _ _ _ _)
      | (with_reducible exact aquiferref26_Bytes.mono _ _)
      | (with_reducible exact aquiferref26_Check.mono _ _)
      | (with_reducible exact aquiferref26_Fixed.mono _ _)
      | (with_reducible exact aquiferref26_Order.mono _ _)
      | (with_reducible exact LeO.refl _)
      | (with_reducible exact LeO.none _)
      | (with_reducible refine LeO.ite ?_ ?_)
      | (with_reducible refine LeO.bind ?_ (fun _ => ?_))
      | exact ih0 _ _ _ _
      | exact ih1 _ _ _ _ _ _
      | exact aquiferref26_Bytes.mono _ _
      | exact aquiferref26_Check.mono _ _
      | exact aquiferref26_Fixed.mono _ _
      | exact aquiferref26_Order.mono _ _
      | exact LeO.none _
      | refine LeO.ite ?_ ?_
      | refine LeO.bind ?_ (fun _ => ?_)
set_option maxHeartbeats 8000000 in
set_option maxRecDepth 100000 in
theorem aquiferref26_Victims.calls (k : Nat) (A0 : Option Addr) (c0 : Nat) (l0 : List (S35)) (a1 : Int) (a2 : Int) (r1 : List ByteArray) (r2 : Int) (w : World) (hr0 : Kd.C k35 w A0 l0.length l0) (hc0 : l0.length ≤ c0) (h : aquiferref26_Victims.f k l0 a1 a2 = some (r1, r2)) :
    Calls Tryd.prog 21 #[.slice A0 l0.length c0, .int .i64 a1, .int .i64 a2] w fun e w' => ∃ v0_ : Value, e = .returned (.tuple #[v0_, .int .i64 r2]) ∧ Kd.R Kd.string 9 w' w.heap.size (fun _ => True) v0_ r1 ∧ Below w.heap.size w w' := by
  have HR0 := Aside0.mk hr0
  have HC0 := Aside0.mk hc0
  clear hr0 hc0
  have HB := Aside0.mk (Below.refl w.heap.size w)
  have H : ((aquiferref26_Check.f k l0).bind fun t203 => (if t203 = 0 then (if a1 < 0 then (aquiferref26_Victims.j0 k l0 a1 a2 true) else (if a1 > 4611686018427387904 then (aquiferref26_Victims.j0 k l0 a1 a2 true) else (if a2 < 0 then (aquiferref26_Victims.j0 k l0 a1 a2 true) else (aquiferref26_Victims.j0 k l0 a1 a2 (decide (a2 > 4096)))))) else (some (([] : List ByteArray), t203)))) = some (r1, r2) := h
  clear h
  replace H := Option.bind_eq_some_iff.mp H
  obtain ⟨t203, A40, H⟩ := H
  replace H : (if t203 = 0 then (if a1 < 0 then (aquiferref26_Victims.j0 k l0 a1 a2 true) else (if a1 > 4611686018427387904 then (aquiferref26_Victims.j0 k l0 a1 a2 true) else (if a2 < 0 then (aquiferref26_Victims.j0 k l0 a1 a2 true) else (aquiferref26_Victims.j0 k l0 a1 a2 (decide (a2 > 4096)))))) else (some (([] : List ByteArray), t203))) = some (r1, r2) := H
  have A4 := Aside0.mk A40
  clear A40
  by_cases c5 : t203 = 0
  · rw [if_pos c5] at H
    have c5b0 : (t203 == 0) = true := beq_iff_eq.mpr c5
    have c5b1 : (t203 != 0) = false := bne_eq_false_iff_eq.mpr c5
    clear c5
    have HC6 := Aside0.mk H
    clear H
    go_enter Tryd.func21, Tryd.ntmps21
    go_upto_region 4 with (first | ((with_reducible refine gate_callee (f := 10) rfl ?_); refine goesL_ (some 14) rfl rfl Tryd.func10 (by kernel_rfl) rfl #[.slice A0 l0.length c0] rfl (by (try simp only [List.map_toArray, List.map_cons, List.map_nil]); first | done | rfl | (simp only [List.length_drop, List.length_take]; rfl)) ?_; (with_reducible refine (aquiferref26_Check.calls k _ _ l0 t203 _ ?side1 ?side2 A4.out).mono ?_); (case side1 => exact CU HR0.out); (case side2 => exact HC0.out); rintro e w' ⟨rfl, ⟨nd, rfl⟩⟩; refine ⟨_, rfl, ?_⟩))
    (try simp only [Act.put, List.setIfInBounds_toArray, List.set_cons_zero, List.set_cons_succ])
    go_cut [31] (fun v31 wc => ∃ (kq : Nat) (x31_5 : Bool), v31 = .bool x31_5 ∧ Aside0 (aquiferref26_Victims.j0 kq l0 a1 a2 x31_5 = some (r1, r2)) ∧ Aside0 (kq ≤ k) ∧ Aside0 (Below w.heap.size w wc))
    case first =>
      have H := HC6.out
      clear HC6
      by_cases c7 : a1 < 0
      · rw [if_pos c7] at H
        have c7b0 : decide (a1 < 0) = true := decide_eq_true c7
        clear c7
        (first | rw [c7b0] | (simp only [i64_w, i32_w]; rw [c7b0]) | skip)
        have H' := Aside0.mk H
        clear H
        go_wp2
        go_meet
        case rel => exact ⟨_, (true), (by first | rfl | (simp; done) | (simp [*]; done)), H', ⟨by first | omega | exact Nat.le_refl _⟩, ⟨belU HB.out⟩⟩
      · rw [if_neg c7] at H
        have c7b0 : decide (a1 < 0) = false := decide_eq_false c7
        clear c7
        (first | rw [c7b0] | (simp only [i64_w, i32_w]; rw [c7b0]) | skip)
        by_cases c8 : a1 > 4611686018427387904
        · rw [if_pos c8] at H
          have c8b0 : decide (4611686018427387904 < a1) = true := decide_eq_true c8
          clear c8
          have H' := Aside0.mk H
          clear H
          go_wp2
          go_meet
          case rel => exact ⟨_, (true), (by first | rfl | (simp; done) | (simp [*]; done)), H', ⟨by first | omega | exact Nat.le_refl _⟩, ⟨belU HB.out⟩⟩
        · rw [if_neg c8] at H
          have c8b0 : decide (4611686018427387904 < a1) = false := decide_eq_false c8
          clear c8
          by_cases c9 : a2 < 0
          · rw [if_pos c9] at H
            have c9b0 : decide (a2 < 0) = true := decide_eq_true c9
            clear c9
            have H' := Aside0.mk H
            clear H
            go_wp2
            go_meet
            case rel => exact ⟨_, (true), (by first | rfl | (simp; done) | (simp [*]; done)), H', ⟨by first | omega | exact Nat.le_refl _⟩, ⟨belU HB.out⟩⟩
          · rw [if_neg c9] at H
            have c9b0 : decide (a2 < 0) = false := decide_eq_false c9
            clear c9
            have H' := Aside0.mk H
            clear H
            go_wp2
            go_meet
            case rel => exact ⟨_, (decide (a2 > 4096)), (by first | rfl | (simp; done) | (simp [*]; done)), H', ⟨by first | omega | exact Nat.le_refl _⟩, ⟨belU HB.out⟩⟩
    case rest =>
      clear HC6
      try clear c1
      try clear c2
      try clear p2
      try clear c5
      try clear c5b0
      try clear c5b1
      try clear c7
      try clear c7b0
      try clear c8
      try clear c8b0
      try clear c9
      try clear c9b0
      obtain ⟨kq, x31_5, rfl, HA, HJ5, HB⟩ := hcut
      cases kq with
      | zero => exact absurd HA.out (by simp [aquiferref26_Victims.j0])
      | succ kj5 =>
        have H := HA.out
        clear HA
        simp only [aquiferref26_Victims.j0] at H
        by_cases c10 : x31_5 = true
        · subst c10
          have H1 : (some (([] : List ByteArray), 2)) = some (r1, r2) := by rw [if_pos rfl] at H; exact H
          clear H
          have H := H1
          clear H1
          simp only [Option.some.injEq, Prod.mk.injEq] at H
          obtain ⟨rfl, rfl⟩ := H
          go_wp2
          go_ret2
          exact ⟨_, by first | rfl | (simp [errW_none, errW_some] <;> rfl) | (simp [*, errW_none, errW_some] <;> rfl), by first | exact Kd.R_nil _ _ _ _ _ | exact Kd.N_nil _ _ _ _ _ | exact Kd.V_nil _ _ _ _ _ | exact Kd.Q_nil _ _ _ _ _ | exact Kd.S_nil _ _ _ _ _, belU HB.out⟩
        · replace c10 := Bool.eq_false_iff.mpr c10
          subst c10
          have H1 : ((aquiferref26_Fixed.f kj5 l0).bind fun t204 => (if t204 > (wrap64 (a1 - a2)) then (some (([] : List ByteArray), 17)) else ((aquiferref26_Order.f kj5 l0).bind fun t205 => ((aquiferref26_Bytes.f kj5 l0).bind fun t208 => (aquiferref26_Victims.l0 kj5 a1 a2 t205 t208 ([] : List ByteArray) 0))))) = some (r1, r2) := by rw [if_neg (show ¬ (false = true) by decide)] at H; exact H
          clear H
          have H := H1
          clear H1
          replace H := Option.bind_eq_some_iff.mp H
          obtain ⟨t204, A110, H⟩ := H
          replace H : (if t204 > (wrap64 (a1 - a2)) then (some (([] : List ByteArray), 17)) else ((aquiferref26_Order.f kj5 l0).bind fun t205 => ((aquiferref26_Bytes.f kj5 l0).bind fun t208 => (aquiferref26_Victims.l0 kj5 a1 a2 t205 t208 ([] : List ByteArray) 0)))) = some (r1, r2) := H
          have A11 := Aside0.mk A110
          clear A110
          by_cases c12 : t204 > (wrap64 (a1 - a2))
          · rw [if_pos c12] at H
            have c12b0 : decide ((wrap64 (a1 - a2)) < t204) = true := decide_eq_true c12
            clear c12
            simp only [Option.some.injEq, Prod.mk.injEq] at H
            obtain ⟨rfl, rfl⟩ := H
            go_wp2_with (first | ((with_reducible refine gate_callee (f := 14) rfl ?_); refine goesL_ (some 33) rfl rfl Tryd.func14 (by kernel_rfl) rfl #[.slice A0 l0.length c0] rfl (by (try simp only [List.map_toArray, List.map_cons, List.map_nil]); first | done | rfl | (simp only [List.length_drop, List.length_take]; rfl)) ?_; (with_reducible refine (aquiferref26_Fixed.calls kj5 _ _ l0 t204 _ ?side1 ?side2 A11.out).mono ?_); (case side1 => exact CU (Kd.C_below HR0.out HB.out)); (case side2 => exact HC0.out); rintro e w' ⟨rfl, ⟨nd, rfl⟩⟩; refine ⟨_, rfl, ?_⟩))
            go_ret2
            exact ⟨_, by first | rfl | (simp [errW_none, errW_some] <;> rfl) | (simp [*, errW_none, errW_some] <;> rfl), by first | exact Kd.R_nil _ _ _ _ _ | exact Kd.N_nil _ _ _ _ _ | exact Kd.V_nil _ _ _ _ _ | exact Kd.Q_nil _ _ _ _ _ | exact Kd.S_nil _ _ _ _ _, belU HB.out⟩
          · rw [if_neg c12] at H
            have c12b0 : decide ((wrap64 (a1 - a2)) < t204) = false := decide_eq_false c12
            clear c12
            replace H := Option.bind_eq_some_iff.mp H
            obtain ⟨t205, A130, H⟩ := H
            replace H : ((aquiferref26_Bytes.f kj5 l0).bind fun t208 => (aquiferref26_Victims.l0 kj5 a1 a2 t205 t208 ([] : List ByteArray) 0)) = some (r1, r2) := H
            have A13 := Aside0.mk A130
            clear A130
            replace H := Option.bind_eq_some_iff.mp H
            obtain ⟨t208, A140, H⟩ := H
            replace H : (aquiferref26_Victims.l0 kj5 a1 a2 t205 t208 ([] : List ByteArray) 0) = some (r1, r2) := H
            have A14 := Aside0.mk A140
            clear A140
            have H' := Aside0.mk H
            clear H
            go_wp2_with (first | ((with_reducible refine gate_callee (f := 14) rfl ?_); refine goesL_ (some 33) rfl rfl Tryd.func14 (by kernel_rfl) rfl #[.slice A0 l0.length c0] rfl (by (try simp only [List.map_toArray, List.map_cons, List.map_nil]); first | done | rfl | (simp only [List.length_drop, List.length_take]; rfl)) ?_; (with_reducible refine (aquiferref26_Fixed.calls kj5 _ _ l0 t204 _ ?side1 ?side2 A11.out).mono ?_); (case side1 => exact CU (Kd.C_below HR0.out HB.out)); (case side2 => exact HC0.out); rintro e w' ⟨rfl, ⟨nd, rfl⟩⟩; refine ⟨_, rfl, ?_⟩) | ((with_reducible refine gate_callee (f := 17) rfl ?_); refine goesL_ (some 39) rfl rfl Tryd.func17 (by kernel_rfl) rfl #[.slice A0 l0.length c0] rfl (by (try simp only [List.map_toArray, List.map_cons, List.map_nil]); first | done | rfl | (simp only [List.length_drop, List.length_take]; rfl)) ?_; (with_reducible refine (aquiferref26_Order.calls kj5 _ _ l0 t205 _ ?side1 ?side2 A13.out).mono ?_); (case side1 => repeat (first | exact (Kd.C_below HR0.out (belU HB.out)) | (with_reducible refine Kd.C_alloc ?_ _) | (with_reducible refine Kd.C_drewN ?_ _) | (with_reducible refine Kd.C_drew ?_))); (case side2 => exact HC0.out); rintro e w15 ⟨v206, rfl, ho0, hb⟩; refine ⟨_, rfl, ?_⟩; have n0_ := Aside0.mk (Kd.R_lower ho0 (sizU HB.out)); have n1_ := Aside0.mk (below_step (belU HB.out) hb); clear HB; have HO207 := n0_; have HB := n1_; clear n0_ n1_; (try clear hb); (try clear hb2); (try clear hk); (try clear hi); (try clear ho0)) | ((with_reducible refine gate_callee (f := 12) rfl ?_); refine goesL_ (some 41) rfl rfl Tryd.func12 (by kernel_rfl) rfl #[.slice A0 l0.length c0] rfl (by (try simp only [List.map_toArray, List.map_cons, List.map_nil]); first | done | rfl | (simp only [List.length_drop, List.length_take]; rfl)) ?_; (with_reducible refine (aquiferref26_Bytes.calls kj5 _ _ l0 t208 _ ?side1 ?side2 A14.out).mono ?_); (case side1 => exact CU (Kd.C_below HR0.out HB.out)); (case side2 => exact HC0.out); rintro e w' ⟨rfl, ⟨nd, rfl⟩⟩; refine ⟨_, rfl, ?_⟩))
            go_loopg [10, 11, 12] kj5 (fun kq v10 v11 v12 w' => ∃ (x10_2 : Int) (x11_2 : List ByteArray) (x12_2 : Int), v10 = .int .i64 x10_2 ∧ v12 = .int .i64 x12_2 ∧ Aside0 (aquiferref26_Victims.l0 kq a1 a2 t205 x10_2 x11_2 x12_2 = some (r1, r2)) ∧ Aside0 (kq ≤ kj5) ∧ Aside0 (Kd.R k35 35 w' w.heap.size (fun _ => True) v206 t205) ∧ Aside0 (Kd.R Kd.string 9 w' w.heap.size (fun _ => True) v11 x11_2) ∧ Aside0 (Below w.heap.size w w'))
            case atStart => exact ⟨(t208), (([] : List ByteArray)), (0), (by first | rfl | (simp; done) | (simp [*]; done)), (by first | rfl | (simp; done) | (simp [*]; done)), H', ⟨Nat.le_refl _⟩, ⟨RU HO207.out⟩, ⟨by first | exact Kd.R_nil _ _ _ _ _ | exact Kd.N_nil _ _ _ _ _ | exact Kd.V_nil _ _ _ _ _ | exact Kd.Q_nil _ _ _ _ _ | exact Kd.S_nil _ _ _ _ _⟩, ⟨belU HB.out⟩⟩
            case round =>
              clear H'
              try clear c1
              try clear c2
              try clear p2
              try clear c5
              try clear c5b0
              try clear c5b1
              try clear p6
              try clear c7
              try clear c7b0
              try clear c8
              try clear c8b0
              try clear c9
              try clear c9b0
              try clear c10
              try clear c12
              try clear c12b0
              try clear c14
              try clear p2
              obtain ⟨x10_2, x11_2, x12_2, rfl, rfl, HA, HK2, HO_9, HO_11, HB⟩ := hrel
              cases gk with
              | zero => exact absurd HA.out (by simp [aquiferref26_Victims.l0])
              | succ k2 =>
                have H := HA.out
                clear HA
                simp only [aquiferref26_Victims.l0] at H
                by_cases c16 : x12_2 < (t205.length : Int)
                · rw [if_pos c16] at H
                  have c16b0 : decide (x12_2 < (t205.length : Int)) = true := decide_eq_true c16
                  clear c16
                  by_cases c17 : x10_2 > (wrap64 (a1 - a2))
                  · rw [if_pos c17] at H
                    have c17b0 : decide ((wrap64 (a1 - a2)) < x10_2) = true := decide_eq_true c17
                    clear c17
                    by_cases c18 : 0 ≤ x12_2
                    · rw [if_pos c18] at H
                      have c18b0 : decide (0 ≤ x12_2) = true := decide_eq_true c18
                      clear c18
                      by_cases c19 : x11_2.length < 8796093022208
                      · rw [if_pos c19] at H
                        have LMc19 := Aside0.mk c19
                        clear c19
                        obtain ⟨y210, hy210⟩ : ∃ y_ : List ByteArray, y_ = (x11_2 ++ [(rd_T35 t205 x12_2).f0]) := ⟨_, rfl⟩
                        replace H : (aquiferref26_Victims.l0 k2 a1 a2 t205 (wrap64 (x10_2 - ((rd_T35 t205 x12_2).f1))) y210 (wrap64 (x12_2 + 1))) = some (r1, r2) := by first | (rw [hy210]; with_reducible exact H) | (have H2_ := (Option.bind_some _ _).symm.trans H; rw [hy210]; with_reducible exact H2_) | (have H2_ := (Option.bind_some _ _).symm.trans H; with_reducible exact H2_) | with_reducible exact H | (rw [hy210]; exact H) | exact H
                        have Ny210 := Aside0.mk hy210
                        clear hy210
                        have H' := Aside0.mk H
                        clear H
                        obtain ⟨Ao20, co20, eo20⟩ := Kd.R_slice HO_9.out
                        subst eo20
                        have p209 : 0 ≤ (x12_2 : Int) := of_decide_eq_true (by first | (with_reducible assumption) | assumption)
                        have q209 : x12_2 < (t205.length : Int) := of_decide_eq_true (by first | (with_reducible assumption) | assumption)
                        obtain ⟨ad209, e209, hx209_0, hx209_1, hx209_2, hx209_3, hx209_4⟩ := at_T35 (Kd.R_reads' HO_9.out).2.2 x12_2 p209 q209
                        cases e209
                        replace p209 := eq_true p209
                        replace q209 := eq_true q209
                        go_wp2_with (first | ((with_reducible refine gate_builtin (b := .append) (xs := #[.tmp 55, .tmp 61]) rfl ?_); at_builtin; refine Kd.R_append Kd.string (w0 := w) w.heap.size rfl (.tmp 55) (.tmp 61) 30 9 (.string ⟨#[]⟩) 16 rfl Tryd.underlying30 info9 rfl (by decide) (by omega) u11 x11_2 ((rd_T35 t205 x12_2).f0) [.string ((rd_T35 t205 x12_2).f0)] (fun _ => True) (fun _ => False) rfl rfl ?aP (fun _ hk => hk.elim) ?aF ?aO ?aB ?aS ?aL ?_; (case aP => exact rfl); (case aB => exact (belU HB.out)); (case aF => exact (fun _ _ => trivial)); (case aO => exact (RU HO_11.out)); (case aS => exact (sizU HB.out)); (case aL => have := LMc19.out; omega); intro v211 w21 ho hb hg hat; rw [← Ny210.out] at ho; have n0_ := Aside0.mk (Kd.R_over' (RU HO_9.out) (Kd.R_typed (RU HO_11.out)) (by decide) hg); have n1_ := Aside0.mk (hb); have n2_ := Aside0.mk (ho); clear HO_9; clear HB; clear HO_11; have HO_9 := n0_; have HB := n1_; have HO212 := n2_; clear n0_ n1_ n2_; clear ho hb hg hat; have p213 : 0 ≤ (x12_2 : Int) := of_decide_eq_true (by first | (with_reducible assumption) | assumption); have q213 : x12_2 < (t205.length : Int) := of_decide_eq_true (by first | (with_reducible assumption) | assumption); obtain ⟨ad213, e213, hx213_0, hx213_1, hx213_2, hx213_3, hx213_4⟩ := at_T35 (Kd.R_reads' HO_9.out).2.2 x12_2 p213 q213; obtain rfl : ad209 = ad213 := (by injection e213); replace p213 := eq_true p213; replace q213 := eq_true q213))
                        go_roundg k2
                        case measure => have := HJ5.out; have := HK2.out; omega
                        case rel => exact ⟨(wrap64 (x10_2 - ((rd_T35 t205 x12_2).f1))), (y210), (wrap64 (x12_2 + 1)), (by first | rfl | (simp; done) | (simp [*]; done)), (by first | rfl | (simp; done) | (simp [*]; done)), H', ⟨by have := HJ5.out; have := HK2.out; omega⟩, ⟨RU HO_9.out⟩, ⟨RU HO212.out⟩, ⟨belU HB.out⟩⟩
                      · rw [if_neg c19] at H
                        exact absurd H (by simp)
                    · rw [if_neg c18] at H
                      exact absurd H (by simp)
                  · rw [if_neg c17] at H
                    have c17b0 : decide ((wrap64 (a1 - a2)) < x10_2) = false := decide_eq_false c17
                    clear c17
                    simp only [Option.some.injEq, Prod.mk.injEq] at H
                    obtain ⟨rfl, rfl⟩ := H
                    obtain ⟨Ao22, co22, eo22⟩ := Kd.R_slice HO_9.out
                    subst eo22
                    go_wp2
                    go_ret2
                    exact ⟨_, by first | rfl | (simp [errW_none, errW_some] <;> rfl) | (simp [*, errW_none, errW_some] <;> rfl), by (with_reducible repeat (first | apply Kd.R_alloc | apply Kd.R_drewN | apply Kd.R_drew)); exact HO_11.out, belU HB.out⟩
                · rw [if_neg c16] at H
                  have c16b0 : decide (x12_2 < (t205.length : Int)) = false := decide_eq_false c16
                  clear c16
                  simp only [Option.some.injEq, Prod.mk.injEq] at H
                  obtain ⟨rfl, rfl⟩ := H
                  obtain ⟨Ao23, co23, eo23⟩ := Kd.R_slice HO_9.out
                  subst eo23
                  go_wp2
                  go_ret2
                  exact ⟨_, by first | rfl | (simp [errW_none, errW_some] <;> rfl) | (simp [*, errW_none, errW_some] <;> rfl), by (with_reducible repeat (first | apply Kd.R_alloc | apply Kd.R_drewN | apply Kd.R_drew)); exact HO_11.out, belU HB.out⟩
  · rw [if_neg c5] at H
    have c5b0 : (t203 == 0) = false := beq_eq_false_iff_ne.mpr c5
    have c5b1 : (t203 != 0) = true := bne_iff_ne.mpr c5
    simp only [Option.some.injEq, Prod.mk.injEq] at H
    obtain ⟨rfl, rfl⟩ := H
    go_enter Tryd.func21, Tryd.ntmps21
    go_wp2_with (first | ((with_reducible refine gate_callee (f := 10) rfl ?_); refine goesL_ (some 14) rfl rfl Tryd.func10 (by kernel_rfl) rfl #[.slice A0 l0.length c0] rfl (by (try simp only [List.map_toArray, List.map_cons, List.map_nil]); first | done | rfl | (simp only [List.length_drop, List.length_take]; rfl)) ?_; (with_reducible refine (aquiferref26_Check.calls k _ _ l0 t203 _ ?side1 ?side2 A4.out).mono ?_); (case side1 => exact CU HR0.out); (case side2 => exact HC0.out); rintro e w' ⟨rfl, ⟨nd, rfl⟩⟩; refine ⟨_, rfl, ?_⟩))
    go_ret2
    exact ⟨_, by first | rfl | (simp [errW_none, errW_some] <;> rfl) | (simp [*, errW_none, errW_some] <;> rfl), by first | exact Kd.R_nil _ _ _ _ _ | exact Kd.N_nil _ _ _ _ _ | exact Kd.V_nil _ _ _ _ _ | exact Kd.Q_nil _ _ _ _ _ | exact Kd.S_nil _ _ _ _ _, belU HB.out⟩

end Go.Proofs.YtdggdmdefmljlaaDoor.Q

namespace Go.Proofs.YtdggdmdefmljlaaDoor.Q
open Go.RowKit Go.Proofs.YtdggdmdefmljlaaDoorW.PrintWords Go.Proofs.YtdggdmdefmljlaaDoorW.PrintLast Go.Proofs.YtdggdmdefmljlaaDoorW.PrintMore
attribute [local go_sem] max2_int min2_int max_two min_two max_three min_three max_four min_four   -- for this text's walks alone
attribute [local go_sem ↓] Go.Proofs.YtdggdmdefmljlaaDoorK.isSome_setCell
set_option linter.unusedVariables false
set_option linter.unusedSimpArgs false

/-! ### aquiferref05_SameTexts: function 22 -/
def aquiferref05_SameTexts.l0 : Nat → List ByteArray → List ByteArray → Int → Option (Bool)
  | 0, _, _, _ => none
  | k + 1, x0, x1, x5 => if x5 < (x0.length : Int) then (if 0 ≤ x5 then (if x5 < (x1.length : Int) then (if (rdOf ByteArray.empty x0 x5).toList = (rdOf ByteArray.empty x1 x5).toList then (aquiferref05_SameTexts.l0 k x0 x1 (wrap64 (x5 + 1))) else (some false)) else (none)) else (none)) else (some true)
def aquiferref05_SameTexts.f (k : Nat) (l0 : List ByteArray) (l1 : List ByteArray) : Option (Bool) := if (l0.length : Int) = (l1.length : Int) then (aquiferref05_SameTexts.l0 k l0 l1 0) else (some false)
theorem aquiferref05_SameTexts.mono_l : ∀ k, (∀ y0 y1 y2, LeO (aquiferref05_SameTexts.l0 k y0 y1 y2) (aquiferref05_SameTexts.l0 (k + 1) y0 y1 y2))
  | 0 => fun _ _ _ r h => by simp [aquiferref05_SameTexts.l0] at h
  | k + 1 => by
    have ih0 := aquiferref05_SameTexts.mono_l k
    · intro y0 y1 y2
      unfold aquiferref05_SameTexts.l0
      repeat' first
      | (with_reducible exact ih0 _ _ _)
      | (with_reducible exact LeO.refl _)
      | (with_reducible exact LeO.none _)
      | (with_reducible refine LeO.ite ?_ ?_)
      | (with_reducible refine LeO.bind ?_ (fun _ => ?_))
      | exact ih0 _ _ _
      | exact LeO.none _
      | refine LeO.ite ?_ ?_
      | refine LeO.bind ?_ (fun _ => ?_)
theorem aquiferref05_SameTexts.mono : ∀ a0 a1 k, LeO (aquiferref05_SameTexts.f k a0 a1) (aquiferref05_SameTexts.f (k + 1) a0 a1) := by
  intro a0 a1 k
  have ih0 := aquiferref05_SameTexts.mono_l k
  unfold aquiferref05_SameTexts.f
  repeat' first
      | (with_reducible exact ih0 _ _ _)
      | (with_reducible exact LeO.refl _)
      | (with_reducible exact LeO.none _)
      | (with_reducible refine LeO.ite ?_ ?_)
      | (with_reducible refine LeO.bind ?_ (fun _ => ?_))
      | exact ih0 _ _ _
      | exact LeO.none _
      | refine LeO.ite ?_ ?_
      | refine LeO.bind ?_ (fun _ => ?_)
set_option maxHeartbeats 8000000 in
set_option maxRecDepth 100000 in
theorem aquiferref05_SameTexts.calls (k : Nat) (A0 : Option Addr) (c0 : Nat) (l0 : List ByteArray) (A1 : Option Addr) (c1 : Nat) (l1 : List ByteArray) (r : Bool) (w : World) (hr0 : Kd.C Kd.string w A0 l0.length l0) (hc0 : l0.length ≤ c0) (hr1 : Kd.C Kd.string w A1 l1.length l1) (hc1 : l1.length ≤ c1) (h : aquiferref05_SameTexts.f k l0 l1 = some r) :
    Calls Tryd.prog 22 #[.slice A0 l0.length c0, .slice A1 l1.length c1] w fun e w' => e = .returned (.bool r) ∧ Drawn0 w w' := by
  have HR0 := Aside0.mk hr0
  have HC0 := Aside0.mk hc0
  clear hr0 hc0
  have HR1 := Aside0.mk hr1
  have HC1 := Aside0.mk hc1
  clear hr1 hc1
  have H : (if (l0.length : Int) = (l1.length : Int) then (aquiferref05_SameTexts.l0 k l0 l1 0) else (some false)) = some r := h
  clear h
  by_cases c3 : (l0.length : Int) = (l1.length : Int)
  · rw [if_pos c3] at H
    have c3b0 : ((l0.length : Int) == (l1.length : Int)) = true := beq_iff_eq.mpr c3
    have c3b1 : ((l0.length : Int) != (l1.length : Int)) = false := bne_eq_false_iff_eq.mpr c3
    have c3b2 : (l0.length == l1.length) = true := by first | simpa using c3 | (simp at c3 ⊢; omega)
    clear c3
    have H' := Aside0.mk H
    clear H
    go_enter Tryd.func22, Tryd.ntmps22
    go_wp2
    repeat (go_quiet (fail); try go_wp2)
    go_loopg [5] k (fun kq v5 w' => ∃ (x5_1 : Int), v5 = .int .i64 x5_1 ∧ Aside0 (aquiferref05_SameTexts.l0 kq l0 l1 x5_1 = some r) ∧ Aside0 (kq ≤ k) ∧ Drawn0 w w')
    case atStart => exact ⟨(0), (by first | rfl | (simp; done) | (simp [*]; done)), H', ⟨Nat.le_refl _⟩, by repeat (first | exact Drawn0.refl _ | apply Drawn0.step)⟩
    case round =>
      clear H'
      try clear c1
      try clear c2
      try clear p2
      try clear c3
      try clear c3b0
      try clear c3b1
      try clear c3b2
      obtain ⟨x5_1, rfl, HA, HK1, ⟨m1, rfl⟩⟩ := hrel
      cases gk with
      | zero => exact absurd HA.out (by simp [aquiferref05_SameTexts.l0])
      | succ k1 =>
        have H := HA.out
        clear HA
        simp only [aquiferref05_SameTexts.l0] at H
        by_cases c4 : x5_1 < (l0.length : Int)
        · rw [if_pos c4] at H
          have c4b0 : decide (x5_1 < (l0.length : Int)) = true := decide_eq_true c4
          clear c4
          by_cases c5 : 0 ≤ x5_1
          · rw [if_pos c5] at H
            have c5b0 : decide (0 ≤ x5_1) = true := decide_eq_true c5
            clear c5
            by_cases c6 : x5_1 < (l1.length : Int)
            · rw [if_pos c6] at H
              have c6b0 : decide (x5_1 < (l1.length : Int)) = true := decide_eq_true c6
              clear c6
              by_cases c7 : (rdOf ByteArray.empty l0 x5_1).toList = (rdOf ByteArray.empty l1 x5_1).toList
              · rw [if_pos c7] at H
                have c7b0 : ((rdOf ByteArray.empty l0 x5_1).toList == (rdOf ByteArray.empty l1 x5_1).toList) = true := beq_iff_eq.mpr c7
                have c7b1 : ((rdOf ByteArray.empty l0 x5_1).toList != (rdOf ByteArray.empty l1 x5_1).toList) = false := bne_eq_false_iff_eq.mpr c7
                clear c7
                have H' := Aside0.mk H
                clear H
                have p214 : 0 ≤ (x5_1 : Int) := of_decide_eq_true (by first | (with_reducible assumption) | assumption)
                have q214 : x5_1 < (l0.length : Int) := of_decide_eq_true (by first | (with_reducible assumption) | assumption)
                obtain ⟨ad214, e214, hx214_0⟩ := Kd.at_string HR0.out x5_1 p214 q214
                cases e214
                replace p214 := eq_true p214
                replace q214 := eq_true q214
                have p215 : 0 ≤ (x5_1 : Int) := of_decide_eq_true (by first | (with_reducible assumption) | assumption)
                have q215 : x5_1 < (l1.length : Int) := of_decide_eq_true (by first | (with_reducible assumption) | assumption)
                obtain ⟨ad215, e215, hx215_0⟩ := Kd.at_string HR1.out x5_1 p215 q215
                cases e215
                replace p215 := eq_true p215
                replace q215 := eq_true q215
                go_wp2
                repeat (go_quiet (fail); try go_wp2)
                go_roundg k1
                case measure => have := HK1.out; omega
                case rel => exact ⟨(wrap64 (x5_1 + 1)), (by first | rfl | (simp; done) | (simp [*]; done)), H', ⟨by have := HK1.out; omega⟩, by repeat (first | exact Drawn0.refl _ | apply Drawn0.step)⟩
              · rw [if_neg c7] at H
                have c7b0 : ((rdOf ByteArray.empty l0 x5_1).toList == (rdOf ByteArray.empty l1 x5_1).toList) = false := beq_eq_false_iff_ne.mpr c7
                have c7b1 : ((rdOf ByteArray.empty l0 x5_1).toList != (rdOf ByteArray.empty l1 x5_1).toList) = true := bne_iff_ne.mpr c7
                obtain rfl := Option.some.inj H
                have p214 : 0 ≤ (x5_1 : Int) := of_decide_eq_true (by first | (with_reducible assumption) | assumption)
                have q214 : x5_1 < (l0.length : Int) := of_decide_eq_true (by first | (with_reducible assumption) | assumption)
                obtain ⟨ad214, e214, hx214_0⟩ := Kd.at_string HR0.out x5_1 p214 q214
                cases e214
                replace p214 := eq_true p214
                replace q214 := eq_true q214
                have p215 : 0 ≤ (x5_1 : Int) := of_decide_eq_true (by first | (with_reducible assumption) | assumption)
                have q215 : x5_1 < (l1.length : Int) := of_decide_eq_true (by first | (with_reducible assumption) | assumption)
                obtain ⟨ad215, e215, hx215_0⟩ := Kd.at_string HR1.out x5_1 p215 q215
                cases e215
                replace p215 := eq_true p215
                replace q215 := eq_true q215
                go_wp2
                repeat (go_quiet (fail); try go_wp2)
                go_ret
                exact ⟨by first | rfl | (simp; done) | (simp [*]; done), by repeat (first | exact Drawn0.refl _ | apply Drawn0.step)⟩
            · rw [if_neg c6] at H
              exact absurd H (by simp)
          · rw [if_neg c5] at H
            exact absurd H (by simp)
        · rw [if_neg c4] at H
          have c4b0 : decide (x5_1 < (l0.length : Int)) = false := decide_eq_false c4
          clear c4
          obtain rfl := Option.some.inj H
          go_wp2
          repeat (go_quiet (fail); try go_wp2)
          go_ret
          exact ⟨by first | rfl | (simp; done) | (simp [*]; done), by repeat (first | exact Drawn0.refl _ | apply Drawn0.step)⟩
  · rw [if_neg c3] at H
    have c3b0 : ((l0.length : Int) == (l1.length : Int)) = false := beq_eq_false_iff_ne.mpr c3
    have c3b1 : ((l0.length : Int) != (l1.length : Int)) = true := bne_iff_ne.mpr c3
    have c3b2 : (l0.length == l1.length) = false := by first | simpa using c3 | (simp at c3 ⊢; omega)
    obtain rfl := Option.some.inj H
    go_enter Tryd.func22, Tryd.ntmps22
    go_wp2
    repeat (go_quiet (fail); try go_wp2)
    go_ret
    exact ⟨by first | rfl | (simp; done) | (simp [*]; done), by repeat (first | exact Drawn0.refl _ | apply Drawn0.step)⟩

end Go.Proofs.YtdggdmdefmljlaaDoor.Q

namespace Go.Proofs.YtdggdmdefmljlaaDoor.Q
open Go.RowKit Go.Proofs.YtdggdmdefmljlaaDoorW.PrintWords Go.Proofs.YtdggdmdefmljlaaDoorW.PrintLast Go.Proofs.YtdggdmdefmljlaaDoorW.PrintMore Go.Proofs.YtdggdmdefmljlaaDoorK
attribute [local go_sem] max2_int min2_int max_two min_two max_three min_three max_four min_four   -- for this text's walks alone
attribute [local go_sem ↓] Go.Proofs.YtdggdmdefmljlaaDoorK.isSome_setCell
set_option linter.unusedVariables false
set_option linter.unusedSimpArgs false

/-! ### aquiferref26_Spare: function 24 -/
def aquiferref26_Spare.j0 : Nat → List (S35) → Int → Bool → Option (Int)
  | 0, _, _, _ => none
  | k + 1, x0, x1, x21 => if x21 = true then (some 0) else ((aquiferref26_Fixed.f k x0).bind fun t218 => (if (wrap64 (x1 - t218)) > 4096 then (some 4096) else ((aquiferref26_Fixed.f k x0).bind fun t219 => (some (wrap64 (x1 - t219))))))
def aquiferref26_Spare.f (k : Nat) (l0 : List (S35)) (a1 : Int) : Option (Int) := (aquiferref26_Check.f k l0).bind fun t216 => (if t216 = 0 then (if a1 < 0 then (aquiferref26_Spare.j0 k l0 a1 true) else (if a1 > 4611686018427387904 then (aquiferref26_Spare.j0 k l0 a1 true) else ((aquiferref26_Fixed.f k l0).bind fun t217 => (aquiferref26_Spare.j0 k l0 a1 (decide (a1 ≤ t217)))))) else (aquiferref26_Spare.j0 k l0 a1 true))
theorem aquiferref26_Spare.mono_l : ∀ k, (∀ y0 y1 y2, LeO (aquiferref26_Spare.j0 k y0 y1 y2) (aquiferref26_Spare.j0 (k + 1) y0 y1 y2))
  | 0 => fun _ _ _ r h => by simp [aquiferref26_Spare.j0] at h
  | k + 1 => by
    have ih0 := aquiferref26_Spare.mono_l k
    · intro y0 y1 y2
      unfold aquiferref26_Spare.j0
      repeat' first
      | (with_reducible exact ih0 _ _ _)
      | (with_reducible exact aquiferref26_Check.mono _ _)
      | (with_reducible exact aquiferref26_Fixed.mono _ _)
      | (with_reducible exact LeO.refl _)
      | (with_reducible exact LeO.none _)
      | (with_reducible refine LeO.ite ?_ ?_)
      | (with_reducible refine LeO.bind ?_ (fun _ => ?_))
      | exact ih0 _ _ _
      | exact aquiferref26_Check.mono _ _
      | exact aquiferref26_Fixed.mono _ _
      | exact LeO.none _
      | refine LeO.ite ?_ ?_
      | refine LeO.bind ?_ (fun _ => ?_)
theorem aquiferref26_Spare.mono : ∀ a0 a1 k, LeO (aquiferref26_Spare.f k a0 a1) (aquiferref26_Spare.f (k + 1) a0 a1) := by
  intro a0 a1 k
  have ih0 := aquiferref26_Spare.mono_l k
  unfold aquiferref26_Spare.f
  repeat' first
      | (with_reducible exact ih0 _ _ _)
      | (with_reducible exact aquiferref26_Check.mono _ _)
      | (with_reducible exact aquiferref26_Fixed.mono _ _)
      | (with_reducible exact LeO.refl _)
      | (with_reducible exact LeO.none _)
      | (with_reducible refine LeO.ite ?_ ?_)
      | (with_reducible refine LeO.bind ?_ (fun _ => ?_))
      | exact ih0 _ _ _
      | exact aquiferref26_Check.mono _ _
      | exact aquiferref26_Fixed.mono _ _
      | exact LeO.none _
      | refine LeO.ite ?_ ?_
      | refine LeO.bind ?_ (fun _ => ?_)
set_option maxHeartbeats 8000000 in
set_option maxRecDepth 100000 in
theorem aquiferref26_Spare.calls (k : Nat) (A0 : Option Addr) (c0 : Nat) (l0 : List (S35)) (a1 : Int) (r : Int) (w : World) (hr0 : Kd.C k35 w A0 l0.length l0) (hc0 : l0.length ≤ c0) (h : aquiferref26_Spare.f k l0 a1 = some r) :
    Calls Tryd.prog 24 #[.slice A0 l0.length c0, .int .i64 a1] w fun e w' => e = .returned (.int .i64 r) ∧ Drawn0 w w' := by
  have HR0 := Aside0.mk hr0
  have HC0 := Aside0.mk hc0
  clear hr0 hc0
  have H : ((aquiferref26_Check.f k l0).bind fun t216 => (if t216 = 0 then (if a1 < 0 then (aquiferref26_Spare.j0 k l0 a1 true) else (if a1 > 4611686018427387904 then (aquiferref26_Spare.j0 k l0 a1 true) else ((aquiferref26_Fixed.f k l0).bind fun t217 => (aquiferref26_Spare.j0 k l0 a1 (decide (a1 ≤ t217)))))) else (aquiferref26_Spare.j0 k l0 a1 true))) = some r := h
  clear h
  have HC3 := Aside0.mk H
  clear H
  go_enter Tryd.func24, Tryd.ntmps24
  go_upto_region 1 with (fail)
  go_cut [21] (fun v21 wc => ∃ (kq : Nat) (x21_2 : Bool), v21 = .bool x21_2 ∧ Aside0 (aquiferref26_Spare.j0 kq l0 a1 x21_2 = some r) ∧ Aside0 (kq ≤ k) ∧ Drawn0 w wc)
  case first =>
    have H := HC3.out
    clear HC3
    replace H := Option.bind_eq_some_iff.mp H
    obtain ⟨t216, A40, H⟩ := H
    replace H : (if t216 = 0 then (if a1 < 0 then (aquiferref26_Spare.j0 k l0 a1 true) else (if a1 > 4611686018427387904 then (aquiferref26_Spare.j0 k l0 a1 true) else ((aquiferref26_Fixed.f k l0).bind fun t217 => (aquiferref26_Spare.j0 k l0 a1 (decide (a1 ≤ t217)))))) else (aquiferref26_Spare.j0 k l0 a1 true)) = some r := H
    have A4 := Aside0.mk A40
    clear A40
    by_cases c5 : t216 = 0
    · rw [if_pos c5] at H
      have c5b0 : (t216 == 0) = true := beq_iff_eq.mpr c5
      have c5b1 : (t216 != 0) = false := bne_eq_false_iff_eq.mpr c5
      clear c5
      (first | rw [c5b0] | (simp only [i64_w, i32_w]; rw [c5b0]) | skip)
      by_cases c6 : a1 < 0
      · rw [if_pos c6] at H
        have c6b0 : decide (a1 < 0) = true := decide_eq_true c6
        clear c6
        have H' := Aside0.mk H
        clear H
        go_wp2_with (first | ((with_reducible refine gate_callee (f := 10) rfl ?_); refine goesL_ (some 6) rfl rfl Tryd.func10 (by kernel_rfl) rfl #[.slice A0 l0.length c0] rfl (by (try simp only [List.map_toArray, List.map_cons, List.map_nil]); first | done | rfl | (simp only [List.length_drop, List.length_take]; rfl)) ?_; (with_reducible refine (aquiferref26_Check.calls k _ _ l0 t216 _ ?side1 ?side2 A4.out).mono ?_); (case side1 => exact CU HR0.out); (case side2 => exact HC0.out); rintro e w' ⟨rfl, ⟨nd, rfl⟩⟩; refine ⟨_, rfl, ?_⟩))
        go_meet
        case rel => exact ⟨_, (true), (by first | rfl | (simp; done) | (simp [*]; done)), H', ⟨by first | omega | exact Nat.le_refl _⟩, by repeat (first | exact Drawn0.refl _ | apply Drawn0.step)⟩
      · rw [if_neg c6] at H
        have c6b0 : decide (a1 < 0) = false := decide_eq_false c6
        clear c6
        by_cases c7 : a1 > 4611686018427387904
        · rw [if_pos c7] at H
          have c7b0 : decide (4611686018427387904 < a1) = true := decide_eq_true c7
          clear c7
          have H' := Aside0.mk H
          clear H
          go_wp2_with (first | ((with_reducible refine gate_callee (f := 10) rfl ?_); refine goesL_ (some 6) rfl rfl Tryd.func10 (by kernel_rfl) rfl #[.slice A0 l0.length c0] rfl (by (try simp only [List.map_toArray, List.map_cons, List.map_nil]); first | done | rfl | (simp only [List.length_drop, List.length_take]; rfl)) ?_; (with_reducible refine (aquiferref26_Check.calls k _ _ l0 t216 _ ?side1 ?side2 A4.out).mono ?_); (case side1 => exact CU HR0.out); (case side2 => exact HC0.out); rintro e w' ⟨rfl, ⟨nd, rfl⟩⟩; refine ⟨_, rfl, ?_⟩))
          go_meet
          case rel => exact ⟨_, (true), (by first | rfl | (simp; done) | (simp [*]; done)), H', ⟨by first | omega | exact Nat.le_refl _⟩, by repeat (first | exact Drawn0.refl _ | apply Drawn0.step)⟩
        · rw [if_neg c7] at H
          have c7b0 : decide (4611686018427387904 < a1) = false := decide_eq_false c7
          clear c7
          replace H := Option.bind_eq_some_iff.mp H
          obtain ⟨t217, A80, H⟩ := H
          replace H : (aquiferref26_Spare.j0 k l0 a1 (decide (a1 ≤ t217))) = some r := H
          have A8 := Aside0.mk A80
          clear A80
          have H' := Aside0.mk H
          clear H
          go_wp2_with (first | ((with_reducible refine gate_callee (f := 10) rfl ?_); refine goesL_ (some 6) rfl rfl Tryd.func10 (by kernel_rfl) rfl #[.slice A0 l0.length c0] rfl (by (try simp only [List.map_toArray, List.map_cons, List.map_nil]); first | done | rfl | (simp only [List.length_drop, List.length_take]; rfl)) ?_; (with_reducible refine (aquiferref26_Check.calls k _ _ l0 t216 _ ?side1 ?side2 A4.out).mono ?_); (case side1 => exact CU HR0.out); (case side2 => exact HC0.out); rintro e w' ⟨rfl, ⟨nd, rfl⟩⟩; refine ⟨_, rfl, ?_⟩) | (go_at_call 14; (with_reducible refine (aquiferref26_Fixed.calls k _ _ l0 t217 _ ?side1 ?side2 A8.out).mono ?_); (case side1 => exact CU HR0.out); (case side2 => exact HC0.out); rintro e w' ⟨rfl, ⟨nd, rfl⟩⟩))
          go_meet
          case rel => exact ⟨_, (decide (a1 ≤ t217)), (by first | rfl | (simp; done) | (simp [*]; done)), H', ⟨by first | omega | exact Nat.le_refl _⟩, by repeat (first | exact Drawn0.refl _ | apply Drawn0.step)⟩
    · rw [if_neg c5] at H
      have c5b0 : (t216 == 0) = false := beq_eq_false_iff_ne.mpr c5
      have c5b1 : (t216 != 0) = true := bne_iff_ne.mpr c5
      (first | rw [c5b0] | (simp only [i64_w, i32_w]; rw [c5b0]) | skip)
      have H' := Aside0.mk H
      clear H
      go_wp2_with (first | ((with_reducible refine gate_callee (f := 10) rfl ?_); refine goesL_ (some 6) rfl rfl Tryd.func10 (by kernel_rfl) rfl #[.slice A0 l0.length c0] rfl (by (try simp only [List.map_toArray, List.map_cons, List.map_nil]); first | done | rfl | (simp only [List.length_drop, List.length_take]; rfl)) ?_; (with_reducible refine (aquiferref26_Check.calls k _ _ l0 t216 _ ?side1 ?side2 A4.out).mono ?_); (case side1 => exact CU HR0.out); (case side2 => exact HC0.out); rintro e w' ⟨rfl, ⟨nd, rfl⟩⟩; refine ⟨_, rfl, ?_⟩))
      go_meet
      case rel => exact ⟨_, (true), (by first | rfl | (simp; done) | (simp [*]; done)), H', ⟨by first | omega | exact Nat.le_refl _⟩, by repeat (first | exact Drawn0.refl _ | apply Drawn0.step)⟩
  case rest =>
    clear HC3
    try clear c1
    try clear c2
    try clear p2
    try clear c5
    try clear c5b0
    try clear c5b1
    try clear c6
    try clear c6b0
    try clear c7
    try clear c7b0
    obtain ⟨kq, x21_2, rfl, HA, HJ2, ⟨mc2, rfl⟩⟩ := hcut
    cases kq with
    | zero => exact absurd HA.out (by simp [aquiferref26_Spare.j0])
    | succ kj2 =>
      have H := HA.out
      clear HA
      simp only [aquiferref26_Spare.j0] at H
      by_cases c9 : x21_2 = true
      · subst c9
        have H1 : (some 0) = some r := by rw [if_pos rfl] at H; exact H
        clear H
        have H := H1
        clear H1
        obtain rfl := Option.some.inj H
        go_wp2
        go_ret
        exact ⟨by first | rfl | (simp; done) | (simp [*]; done), by repeat (first | exact Drawn0.refl _ | apply Drawn0.step)⟩
      · replace c9 := Bool.eq_false_iff.mpr c9
        subst c9
        have H1 : ((aquiferref26_Fixed.f kj2 l0).bind fun t218 => (if (wrap64 (a1 - t218)) > 4096 then (some 4096) else ((aquiferref26_Fixed.f kj2 l0).bind fun t219 => (some (wrap64 (a1 - t219)))))) = some r := by rw [if_neg (show ¬ (false = true) by decide)] at H; exact H
        clear H
        have H := H1
        clear H1
        replace H := Option.bind_eq_some_iff.mp H
        obtain ⟨t218, A100, H⟩ := H
        replace H : (if (wrap64 (a1 - t218)) > 4096 then (some 4096) else ((aquiferref26_Fixed.f kj2 l0).bind fun t219 => (some (wrap64 (a1 - t219))))) = some r := H
        have A10 := Aside0.mk A100
        clear A100
        by_cases c11 : (wrap64 (a1 - t218)) > 4096
        · rw [if_pos c11] at H
          have c11b0 : decide (4096 < (wrap64 (a1 - t218))) = true := decide_eq_true c11
          clear c11
          obtain rfl := Option.some.inj H
          go_wp2_with (first | ((with_reducible refine gate_callee (f := 14) rfl ?_); refine goesL_ (some 24) rfl rfl Tryd.func14 (by kernel_rfl) rfl #[.slice A0 l0.length c0] rfl (by (try simp only [List.map_toArray, List.map_cons, List.map_nil]); first | done | rfl | (simp only [List.length_drop, List.length_take]; rfl)) ?_; (with_reducible refine (aquiferref26_Fixed.calls kj2 _ _ l0 t218 _ ?side1 ?side2 A10.out).mono ?_); (case side1 => exact CU HR0.out); (case side2 => exact HC0.out); rintro e w' ⟨rfl, ⟨nd, rfl⟩⟩; refine ⟨_, rfl, ?_⟩))
          go_ret
          exact ⟨by first | rfl | (simp; done) | (simp [*]; done), by repeat (first | exact Drawn0.refl _ | apply Drawn0.step)⟩
        · rw [if_neg c11] at H
          have c11b0 : decide (4096 < (wrap64 (a1 - t218))) = false := decide_eq_false c11
          clear c11
          replace H := Option.bind_eq_some_iff.mp H
          obtain ⟨t219, A120, H⟩ := H
          replace H : (some (wrap64 (a1 - t219))) = some r := H
          have A12 := Aside0.mk A120
          clear A120
          obtain rfl := Option.some.inj H
          go_wp2_with (first | ((with_reducible refine gate_callee (f := 14) rfl ?_); refine goesL_ (some 24) rfl rfl Tryd.func14 (by kernel_rfl) rfl #[.slice A0 l0.length c0] rfl (by (try simp only [List.map_toArray, List.map_cons, List.map_nil]); first | done | rfl | (simp only [List.length_drop, List.length_take]; rfl)) ?_; (with_reducible refine (aquiferref26_Fixed.calls kj2 _ _ l0 t218 _ ?side1 ?side2 A10.out).mono ?_); (case side1 => exact CU HR0.out); (case side2 => exact HC0.out); rintro e w' ⟨rfl, ⟨nd, rfl⟩⟩; refine ⟨_, rfl, ?_⟩) | ((with_reducible refine gate_callee (f := 14) rfl ?_); refine goesL_ (some 29) rfl rfl Tryd.func14 (by kernel_rfl) rfl #[.slice A0 l0.length c0] rfl (by (try simp only [List.map_toArray, List.map_cons, List.map_nil]); first | done | rfl | (simp only [List.length_drop, List.length_take]; rfl)) ?_; (with_reducible refine (aquiferref26_Fixed.calls kj2 _ _ l0 t219 _ ?side1 ?side2 A12.out).mono ?_); (case side1 => exact CU HR0.out); (case side2 => exact HC0.out); rintro e w' ⟨rfl, ⟨nd, rfl⟩⟩; refine ⟨_, rfl, ?_⟩))
          go_ret
          exact ⟨by first | rfl | (simp; done) | (simp [*]; done), by repeat (first | exact Drawn0.refl _ | apply Drawn0.step)⟩

end Go.Proofs.YtdggdmdefmljlaaDoor.Q

namespace Go.Proofs.YtdggdmdefmljlaaDoor.Q
open Go.RowKit Go.Proofs.YtdggdmdefmljlaaDoorW.PrintWords Go.Proofs.YtdggdmdefmljlaaDoorW.PrintLast Go.Proofs.YtdggdmdefmljlaaDoorW.PrintMore Go.Proofs.YtdggdmdefmljlaaDoorK
attribute [local go_sem] max2_int min2_int max_two min_two max_three min_three max_four min_four   -- for this text's walks alone
attribute [local go_sem ↓] Go.Proofs.YtdggdmdefmljlaaDoorK.isSome_setCell
set_option linter.unusedVariables false
set_option linter.unusedSimpArgs false

/-! ### aquiferlaw26_LruVictims: function 6 -/
def aquiferlaw26_LruVictims.f (k : Nat) (l0 : List (S35)) (a1 : Int) (a2 : Int) : Option (Bool) := (aquiferlaw26_few.f k l0).bind fun t220 => ((lru_Victims.f t220 a1 a2).bind fun bt223 => ((aquiferref26_Victims.f k t220 a1 a2).bind fun bt227 => ((aquiferref05_SameTexts.f k bt223.1 bt227.1).bind fun t231 => (if t231 = true then (if bt223.2 = bt227.2 then ((lru_Spare.f t220 a1).bind fun t232 => ((aquiferref26_Spare.f k t220 a1).bind fun t233 => (if t232 = t233 then ((aquiferlaw26_works.f).bind fun t234 => (some t234)) else (none)))) else (none)) else (none)))))
theorem aquiferlaw26_LruVictims.mono : ∀ a0 a1 a2 k, LeO (aquiferlaw26_LruVictims.f k a0 a1 a2) (aquiferlaw26_LruVictims.f (k + 1) a0 a1 a2) := by
  intro a0 a1 a2 k
  unfold aquiferlaw26_LruVictims.f
  repeat' first
      | (with_reducible exact aquiferlaw26_few.mono _ _)
      | (with_reducible exact aquiferref05_SameTexts.mono _ _ _)
      | (with_reducible exact aquiferref26_Spare.mono _ _ _)
      | (with_reducible exact aquiferref26_Victims.mono _ _ _ _)
      | (with_reducible exact LeO.refl _)
      | (with_reducible exact LeO.none _)
      | (with_reducible refine LeO.ite ?_ ?_)
      | (with_reducible refine LeO.bind ?_ (fun _ => ?_))
      | exact aquiferlaw26_few.mono _ _
      | exact aquiferref05_SameTexts.mono _ _ _
      | exact aquiferref26_Spare.mono _ _ _
      | exact aquiferref26_Victims.mono _ _ _ _
      | exact LeO.none _
      | refine LeO.ite ?_ ?_
      | refine LeO.bind ?_ (fun _ => ?_)
set_option maxHeartbeats 8000000 in
set_option maxRecDepth 100000 in
theorem aquiferlaw26_LruVictims.calls (k : Nat) (A0 : Option Addr) (c0 : Nat) (l0 : List (S35)) (a1 : Int) (a2 : Int) (r : Bool) (w : World) (hr0 : Kd.C k35 w A0 l0.length l0) (hc0 : l0.length ≤ c0) (h : aquiferlaw26_LruVictims.f k l0 a1 a2 = some r) :
    Calls Tryd.prog 6 #[.slice A0 l0.length c0, .int .i64 a1, .int .i64 a2] w fun e w' => e = .returned (.bool r) ∧ Below w.heap.size w w' := by
  have HR0 := Aside0.mk hr0
  have HC0 := Aside0.mk hc0
  clear hr0 hc0
  have HB := Aside0.mk (Below.refl w.heap.size w)
  have H : ((aquiferlaw26_few.f k l0).bind fun t220 => ((lru_Victims.f t220 a1 a2).bind fun bt223 => ((aquiferref26_Victims.f k t220 a1 a2).bind fun bt227 => ((aquiferref05_SameTexts.f k bt223.1 bt227.1).bind fun t231 => (if t231 = true then (if bt223.2 = bt227.2 then ((lru_Spare.f t220 a1).bind fun t232 => ((aquiferref26_Spare.f k t220 a1).bind fun t233 => (if t232 = t233 then ((aquiferlaw26_works.f).bind fun t234 => (some t234)) else (none)))) else (none)) else (none)))))) = some r := h
  clear h
  replace H := Option.bind_eq_some_iff.mp H
  obtain ⟨t220, A40, H⟩ := H
  replace H : ((lru_Victims.f t220 a1 a2).bind fun bt223 => ((aquiferref26_Victims.f k t220 a1 a2).bind fun bt227 => ((aquiferref05_SameTexts.f k bt223.1 bt227.1).bind fun t231 => (if t231 = true then (if bt223.2 = bt227.2 then ((lru_Spare.f t220 a1).bind fun t232 => ((aquiferref26_Spare.f k t220 a1).bind fun t233 => (if t232 = t233 then ((aquiferlaw26_works.f).bind fun t234 => (some t234)) else (none)))) else (none)) else (none))))) = some r := H
  have A4 := Aside0.mk A40
  clear A40
  replace H := Option.bind_eq_some_iff.mp H
  obtain ⟨⟨t223, t224⟩, A50, H⟩ := H
  replace H : ((aquiferref26_Victims.f k t220 a1 a2).bind fun bt227 => ((aquiferref05_SameTexts.f k t223 bt227.1).bind fun t231 => (if t231 = true then (if t224 = bt227.2 then ((lru_Spare.f t220 a1).bind fun t232 => ((aquiferref26_Spare.f k t220 a1).bind fun t233 => (if t232 = t233 then ((aquiferlaw26_works.f).bind fun t234 => (some t234)) else (none)))) else (none)) else (none)))) = some r := H
  have A5 := Aside0.mk A50
  clear A50
  replace H := Option.bind_eq_some_iff.mp H
  obtain ⟨⟨t227, t228⟩, A60, H⟩ := H
  replace H : ((aquiferref05_SameTexts.f k t223 t227).bind fun t231 => (if t231 = true then (if t224 = t228 then ((lru_Spare.f t220 a1).bind fun t232 => ((aquiferref26_Spare.f k t220 a1).bind fun t233 => (if t232 = t233 then ((aquiferlaw26_works.f).bind fun t234 => (some t234)) else (none)))) else (none)) else (none))) = some r := H
  have A6 := Aside0.mk A60
  clear A60
  replace H := Option.bind_eq_some_iff.mp H
  obtain ⟨t231, A70, H⟩ := H
  replace H : (if t231 = true then (if t224 = t228 then ((lru_Spare.f t220 a1).bind fun t232 => ((aquiferref26_Spare.f k t220 a1).bind fun t233 => (if t232 = t233 then ((aquiferlaw26_works.f).bind fun t234 => (some t234)) else (none)))) else (none)) else (none)) = some r := H
  have A7 := Aside0.mk A70
  clear A70
  by_cases c8 : t231 = true
  · subst c8
    have H1 : (if t224 = t228 then ((lru_Spare.f t220 a1).bind fun t232 => ((aquiferref26_Spare.f k t220 a1).bind fun t233 => (if t232 = t233 then ((aquiferlaw26_works.f).bind fun t234 => (some t234)) else (none)))) else (none)) = some r := by rw [if_pos rfl] at H; exact H
    clear H
    have H := H1
    clear H1
    by_cases c9 : t224 = t228
    · rw [if_pos c9] at H
      have c9b0 : (t224 == t228) = true := beq_iff_eq.mpr c9
      have c9b1 : (t224 != t228) = false := bne_eq_false_iff_eq.mpr c9
      clear c9
      replace H := Option.bind_eq_some_iff.mp H
      obtain ⟨t232, A100, H⟩ := H
      replace H : ((aquiferref26_Spare.f k t220 a1).bind fun t233 => (if t232 = t233 then ((aquiferlaw26_works.f).bind fun t234 => (some t234)) else (none))) = some r := H
      have A10 := Aside0.mk A100
      clear A100
      replace H := Option.bind_eq_some_iff.mp H
      obtain ⟨t233, A110, H⟩ := H
      replace H : (if t232 = t233 then ((aquiferlaw26_works.f).bind fun t234 => (some t234)) else (none)) = some r := H
      have A11 := Aside0.mk A110
      clear A110
      by_cases c12 : t232 = t233
      · rw [if_pos c12] at H
        have c12b0 : (t232 == t233) = true := beq_iff_eq.mpr c12
        have c12b1 : (t232 != t233) = false := bne_eq_false_iff_eq.mpr c12
        clear c12
        replace H := Option.bind_eq_some_iff.mp H
        obtain ⟨t234, A130, H⟩ := H
        replace H : (some t234) = some r := H
        have A13 := Aside0.mk A130
        clear A130
        obtain rfl := Option.some.inj H
        go_enter Tryd.func6, Tryd.ntmps6
        go_wp2_with (first | ((with_reducible refine gate_callee (f := 8) rfl ?_); refine goesL_ (some 12) rfl rfl Tryd.func8 (by kernel_rfl) rfl #[.slice A0 l0.length c0] rfl (by (try simp only [List.map_toArray, List.map_cons, List.map_nil]); first | done | rfl | (simp only [List.length_drop, List.length_take]; rfl)) ?_; (with_reducible refine (aquiferlaw26_few.calls k _ _ l0 t220 _ ?side1 ?side2 A4.out).mono ?_); (case side1 => exact CU HR0.out); (case side2 => exact HC0.out); rintro e w14 ⟨v221, rfl, ho0, hb⟩; refine ⟨_, rfl, ?_⟩; have n0_ := Aside0.mk (Kd.R_lower ho0 (sizU HB.out)); have n1_ := Aside0.mk (below_step (belU HB.out) hb); clear HB; have HO222 := n0_; have HB := n1_; clear n0_ n1_; (try clear hb); (try clear hb2); (try clear hk); (try clear hi); (try clear ho0); obtain ⟨Ao15, co15, eo15⟩ := Kd.R_slice HO222.out; subst eo15) | ((with_reducible refine gate_callee (f := 19) rfl ?_); refine goesL_ (some 17) rfl rfl Tryd.func19 (by kernel_rfl) rfl #[.slice Ao15 t220.length co15, .int .i64 a1, .int .i64 a2] rfl (by (try simp only [List.map_toArray, List.map_cons, List.map_nil]); first | done | rfl | (simp only [List.length_drop, List.length_take]; rfl)) ?_; (with_reducible refine (lru_Victims.calls _ _ t220 a1 a2 t223 t224 _ ?side1 ?side2 A5.out).mono ?_); (case side1 => exact CU (Kd.R_reads' HO222.out).2.2); (case side2 => exact (Kd.R_reads' HO222.out).2.1); rintro e w16 ⟨v225, rfl, ho0, hb⟩; refine ⟨_, rfl, ?_⟩; have n0_ := Aside0.mk (Kd.R_below (RU HO222.out) hb); have n1_ := Aside0.mk (Kd.R_lower ho0 (sizU HB.out)); have n2_ := Aside0.mk (below_step (belU HB.out) hb); clear HO222; clear HB; have HO222 := n0_; have HO226 := n1_; have HB := n2_; clear n0_ n1_ n2_; (try clear hb); (try clear hb2); (try clear hk); (try clear hi); (try clear ho0)) | ((with_reducible refine gate_callee (f := 21) rfl ?_); refine goesL_ (some 24) rfl rfl Tryd.func21 (by kernel_rfl) rfl #[.slice Ao15 t220.length co15, .int .i64 a1, .int .i64 a2] rfl (by (try simp only [List.map_toArray, List.map_cons, List.map_nil]); first | done | rfl | (simp only [List.length_drop, List.length_take]; rfl)) ?_; (with_reducible refine (aquiferref26_Victims.calls k _ _ t220 a1 a2 t227 t228 _ ?side1 ?side2 A6.out).mono ?_); (case side1 => exact CU (Kd.R_reads' HO222.out).2.2); (case side2 => exact (Kd.R_reads' HO222.out).2.1); rintro e w17 ⟨v229, rfl, ho0, hb⟩; refine ⟨_, rfl, ?_⟩; have n0_ := Aside0.mk (Kd.R_below (RU HO222.out) hb); have n1_ := Aside0.mk (Kd.R_elder' (RU HO226.out) (Kd.R_base ho0) hb); have n2_ := Aside0.mk (Kd.R_lower (Kd.R_new' ho0 (Kd.R_lt (RU HO226.out))) (sizU HB.out)); have n3_ := Aside0.mk (below_step (belU HB.out) hb); clear HO222; clear HO226; clear HB; have HO222 := n0_; have HO226 := n1_; have HO230 := n2_; have HB := n3_; clear n0_ n1_ n2_ n3_; (try clear hb); (try clear hb2); (try clear hk); (try clear hi); (try clear ho0); obtain ⟨Ao18, co18, eo18⟩ := Kd.R_slice HO226.out; subst eo18; obtain ⟨Ao19, co19, eo19⟩ := Kd.R_slice HO230.out; subst eo19) | ((with_reducible refine gate_callee (f := 22) rfl ?_); refine goesL_ (some 29) rfl rfl Tryd.func22 (by kernel_rfl) rfl #[.slice Ao18 t223.length co18, .slice Ao19 t227.length co19] rfl (by (try simp only [List.map_toArray, List.map_cons, List.map_nil]); first | done | rfl | (simp only [List.length_drop, List.length_take]; rfl)) ?_; (with_reducible refine (aquiferref05_SameTexts.calls k _ _ t223 _ _ t227 true _ ?side1 ?side2 ?side3 ?side4 A7.out).mono ?_); (case side1 => exact CU (Kd.R_reads' HO226.out).2.2); (case side2 => exact (Kd.R_reads' HO226.out).2.1); (case side3 => exact CU (Kd.R_reads' HO230.out).2.2); (case side4 => exact (Kd.R_reads' HO230.out).2.1); rintro e w' ⟨rfl, ⟨nd, rfl⟩⟩; refine ⟨_, rfl, ?_⟩) | (go_at_call 23; (with_reducible refine (lru_Spare.calls _ _ t220 a1 t232 _ ?side1 ?side2 A10.out).mono ?_); (case side1 => exact CU (Kd.R_reads' HO222.out).2.2); (case side2 => exact (Kd.R_reads' HO222.out).2.1); rintro e w20 ⟨rfl, hb⟩; have n0_ := Aside0.mk (Kd.R_below (RU HO222.out) hb); have n1_ := Aside0.mk (Kd.R_below (RU HO226.out) hb); have n2_ := Aside0.mk (Kd.R_below (RU HO230.out) hb); have n3_ := Aside0.mk (below_step (belU HB.out) hb); clear HO222; clear HO226; clear HO230; clear HB; have HO222 := n0_; have HO226 := n1_; have HO230 := n2_; have HB := n3_; clear n0_ n1_ n2_ n3_; (try clear hb); (try clear hb2); (try clear hk); (try clear hi)) | (go_at_call 24; (with_reducible refine (aquiferref26_Spare.calls k _ _ t220 a1 t233 _ ?side1 ?side2 A11.out).mono ?_); (case side1 => exact CU (Kd.R_reads' HO222.out).2.2); (case side2 => exact (Kd.R_reads' HO222.out).2.1); rintro e w' ⟨rfl, ⟨nd, rfl⟩⟩) | (go_at_call 18; (with_reducible refine (aquiferlaw26_works.calls  t234 _ A13.out).mono ?_); rintro e w21 ⟨rfl, hb⟩; have n0_ := Aside0.mk (Kd.R_below (RU HO222.out) hb); have n1_ := Aside0.mk (Kd.R_below (RU HO226.out) hb); have n2_ := Aside0.mk (Kd.R_below (RU HO230.out) hb); have n3_ := Aside0.mk (below_step (belU HB.out) hb); clear HO222; clear HO226; clear HO230; clear HB; have HO222 := n0_; have HO226 := n1_; have HO230 := n2_; have HB := n3_; clear n0_ n1_ n2_ n3_; (try clear hb); (try clear hb2); (try clear hk); (try clear hi)))
        go_ret
        exact ⟨by first | rfl | (simp [errW_none, errW_some] <;> rfl) | (simp [*, errW_none, errW_some] <;> rfl), belU HB.out⟩
      · rw [if_neg c12] at H
        exact absurd H (by simp)
    · rw [if_neg c9] at H
      exact absurd H (by simp)
  · replace c8 := Bool.eq_false_iff.mpr c8
    subst c8
    have H1 : (none) = some r := by rw [if_neg (show ¬ (false = true) by decide)] at H; exact H
    clear H
    have H := H1
    clear H1
    exact absurd H (by simp)

end Go.Proofs.YtdggdmdefmljlaaDoor.Q

namespace Go.Proofs.YtdggdmdefmljlaaDoor.Q
open Go Go.Proofs Go.Shelf Go.RowKit Go.Lib Go.Sort Go.Proofs.YtdggdmdefmljlaaDoorP Go.Proofs.YtdggdmdefmljlaaDoorK Go.Proofs.YtdggdmdefmljlaaDoorW.PrintWords Go.Proofs.YtdggdmdefmljlaaDoorW.PrintLast Go.Proofs.YtdggdmdefmljlaaDoorW.PrintMore
set_option linter.unusedSimpArgs false
set_option linter.unusedVariables false
/-! ### What the laws make of their input, plain -/
def cutP (x : S35) : S35 := ⟨x.f0.extract 0 (mn (x.f0.size : Int) 110).toNat, x.f1, x.f2, x.f3, x.f4⟩
def fewL (l : List S35) : List S35 := (l.take 40).map cutP
theorem few_loop (l : List S35) (d : Nat) : ∀ (k i : Nat), i + d = min l.length 40 → d < k → aquiferlaw26_few.l0 k l ((l.take i).map cutP) (i : Int) = some (fewL l) := by
  induction d with
  | zero =>
    intro k i h hk
    obtain ⟨k, rfl⟩ : ∃ q, k = q + 1 := ⟨k - 1, by omega⟩
    unfold aquiferlaw26_few.l0
    have he : (l.take i).map cutP = fewL l := by
      unfold fewL
      rcases Nat.le_total l.length 40 with h1 | h1
      · rw [List.take_of_length_le (show l.length ≤ i by omega), List.take_of_length_le h1]
      · have : i = 40 := by omega
        rw [this]
    by_cases h1 : (i : Int) < (l.length : Int)
    · rw [if_pos h1, if_neg (by omega), he]
    · rw [if_neg h1, he]
  | succ d ih =>
    intro k i h hk
    obtain ⟨k, rfl⟩ : ∃ q, k = q + 1 := ⟨k - 1, by omega⟩
    unfold aquiferlaw26_few.l0
    have hi : i < l.length := by omega
    have hr : rd_T35 l (i : Int) = l[i] := by
      unfold rd_T35
      simp [hi]
    have hm : 0 ≤ mn ((l[i].f0).size : Int) 110 ∧ mn ((l[i].f0).size : Int) 110 ≤ ((l[i].f0).size : Int) := by
      unfold mn
      split <;> omega
    have hl : ((l.take i).map cutP).length < 3518437208883 := by
      rw [List.length_map, List.length_take]
      omega
    rw [if_pos (by omega), if_pos (by omega), if_pos (by omega), hr, if_pos hm.1, if_pos hm.2, if_pos hl]
    have hw : wrap64 ((i : Int) + 1) = ((i + 1 : Nat) : Int) := by unfold wrap64; omega
    have e : (l.take i).map cutP ++ [(⟨(l[i].f0).extract 0 (mn ((l[i].f0).size : Int) 110).toNat, l[i].f1, l[i].f2, l[i].f3, l[i].f4⟩ : S35)] = (l.take (i + 1)).map cutP := by
      rw [List.take_succ_eq_append_getElem hi, List.map_append]
      rfl
    rw [hw, e]
    exact ih k (i + 1) (by omega) (by omega)
theorem few_fn (l : List S35) (k : Nat) (hk : 41 ≤ k) : aquiferlaw26_few.f k l = some (fewL l) := by
  have := few_loop l (min l.length 40) k 0 (by omega) (by omega)
  simpa [aquiferlaw26_few.f] using this
theorem few_short (l : List S35) : short (fewL l) = true := by
  unfold short fewL
  simp only [Bool.and_eq_true, decide_eq_true_eq, List.all_eq_true, List.length_map, List.length_take]
  refine ⟨by omega, fun c hc => ?_⟩
  obtain ⟨x, _, rfl⟩ := List.mem_map.1 hc
  show (x.f0.extract 0 (mn (x.f0.size : Int) 110).toNat).size ≤ 65536
  rw [ByteArray.size_extract]
  unfold mn
  split <;> omega
theorem check_fn {l : List S35} (h : short l = true) : lru_Check.f l = some (checkS l) := by unfold lru_Check.f; rw [if_pos h]
theorem bytes_fn {l : List S35} (h : short l = true) : lru_Bytes.f l = some (totalS (fun _ => true) l) := by unfold lru_Bytes.f; rw [if_pos h]
theorem fixed_fn {l : List S35} (h : short l = true) : lru_Fixed.f l = some (totalS fixedC l) := by unfold lru_Fixed.f; rw [if_pos h]
theorem order_fn {l : List S35} (h : short l = true) : lru_Order.f l = some (orderS l) := by unfold lru_Order.f; rw [if_pos h]
theorem victims_fn {l : List S35} (h : short l = true) (q n : Int) : lru_Victims.f l q n = some (victimsS l q n) := by unfold lru_Victims.f; rw [if_pos h]
theorem spare_fn {l : List S35} (h : short l = true) (q : Int) : lru_Spare.f l q = some (spareS l q) := by unfold lru_Spare.f; rw [if_pos h]
theorem works_fn : aquiferlaw26_works.f = some true := by decide +kernel
/-- With more room no more go. -/
theorem vicGo_mono (l : List S35) : ∀ (q b m : Int), 0 ≤ m → (vicGo (q + m) b l).length ≤ (vicGo q b l).length := by
  induction l with
  | nil => intro q b m _; exact Nat.le_refl _
  | cons c l ih =>
    intro q b m hm
    simp only [vicGo]
    by_cases h1 : b ≤ q
    · rw [if_pos h1, if_pos (by omega)]
      exact Nat.le_refl _
    · rw [if_neg h1]
      by_cases h2 : b ≤ q + m
      · rw [if_pos h2]
        exact Nat.zero_le _
      · rw [if_neg h2, List.length_cons, List.length_cons]
        have := ih q (b - c.f1) m hm
        omega
theorem boundB_iff (q : Int) : boundB q = true ↔ 0 ≤ q ∧ q ≤ 4611686018427387904 := by
  unfold boundB
  simp
end Go.Proofs.YtdggdmdefmljlaaDoor.Q

namespace Go.Proofs.YtdggdmdefmljlaaDoor.Q
open Go.RowKit Go.Proofs.YtdggdmdefmljlaaDoorW.PrintWords Go.Proofs.YtdggdmdefmljlaaDoorW.PrintLast Go.Proofs.YtdggdmdefmljlaaDoorW.PrintMore
attribute [local go_sem] max2_int min2_int max_two min_two max_three min_three max_four min_four   -- for this text's walks alone
attribute [local go_sem ↓] Go.Proofs.YtdggdmdefmljlaaDoorK.isSome_setCell
set_option linter.unusedVariables false
set_option linter.unusedSimpArgs false

theorem eqA35 (d : Nat) (w : World) (x0 y0 : ByteArray) (x1 y1 : Int) (x2 y2 : Int) (x3 y3 : Bool) (x4 y4 : Bool) :
    (Op.equalIn (d + 2) 35 (.agg #[.string x0, .int .i64 x1, .int .i64 x2, .bool x3, .bool x4]) (.agg #[.string y0, .int .i64 y1, .int .i64 y2, .bool y3, .bool y4])).run Tryd.prog w = .ok (x0.toList == y0.toList && (x1 == y1 && (x2 == y2 && (x3 == y3 && (x4 == y4))))) w := by
  refine eqA_of Tryd.underlying35 (by kernel_rfl) ?_
  refine eqf_cons (by rfl) (by go_simp; rfl) (by go_simp; rfl) (by go_simp) ?_
  refine eqf_cons (by rfl) (by go_simp; rfl) (by go_simp; rfl) (by go_simp) ?_
  refine eqf_cons (by rfl) (by go_simp; rfl) (by go_simp; rfl) (by go_simp) ?_
  refine eqf_cons (by rfl) (by go_simp; rfl) (by go_simp; rfl) (by go_simp) ?_
  exact eqf_last (by rfl) (by go_simp; rfl) (by go_simp; rfl) (by go_simp)
end Go.Proofs.YtdggdmdefmljlaaDoor.Q

namespace Go.Proofs.YtdggdmdefmljlaaDoor.Q
open Go.RowKit Go.Proofs.YtdggdmdefmljlaaDoorW.PrintWords Go.Proofs.YtdggdmdefmljlaaDoorW.PrintLast Go.Proofs.YtdggdmdefmljlaaDoorW.PrintMore
attribute [local go_sem] max2_int min2_int max_two min_two max_three min_three max_four min_four   -- for this text's walks alone
attribute [local go_sem ↓] Go.Proofs.YtdggdmdefmljlaaDoorK.isSome_setCell
set_option linter.unusedVariables false
set_option linter.unusedSimpArgs false

attribute [local go_sem high] eqA35
/-! ### aquiferref26_Same: function 15 -/
def aquiferref26_Same.l0 : Nat → List (S35) → List (S35) → Int → Option (Bool)
  | 0, _, _, _ => none
  | k + 1, x0, x1, x5 => if x5 < (x0.length : Int) then (if 0 ≤ x5 then (if x5 < (x1.length : Int) then (if (!((((rd_T35 x0 x5).f0).toList) == (((rd_T35 x1 x5).f0).toList)) || (!(((rd_T35 x0 x5).f1) == ((rd_T35 x1 x5).f1)) || (!(((rd_T35 x0 x5).f2) == ((rd_T35 x1 x5).f2)) || (!(((rd_T35 x0 x5).f3) == ((rd_T35 x1 x5).f3)) || (!(((rd_T35 x0 x5).f4) == ((rd_T35 x1 x5).f4))))))) = true then (some false) else (aquiferref26_Same.l0 k x0 x1 (wrap64 (x5 + 1)))) else (none)) else (none)) else (some true)
def aquiferref26_Same.f (k : Nat) (l0 : List (S35)) (l1 : List (S35)) : Option (Bool) := if (l0.length : Int) = (l1.length : Int) then (aquiferref26_Same.l0 k l0 l1 0) else (some false)
theorem aquiferref26_Same.mono_l : ∀ k, (∀ y0 y1 y2, LeO (aquiferref26_Same.l0 k y0 y1 y2) (aquiferref26_Same.l0 (k + 1) y0 y1 y2))
  | 0 => fun _ _ _ r h => by simp [aquiferref26_Same.l0] at h
  | k + 1 => by
    have ih0 := aquiferref26_Same.mono_l k
    · intro y0 y1 y2
      unfold aquiferref26_Same.l0
      repeat' first
      | (with_reducible exact ih0 _ _ _)
      | (with_reducible exact LeO.refl _)
      | (with_reducible exact LeO.none _)
      | (with_reducible refine LeO.ite ?_ ?_)
      | (with_reducible refine LeO.bind ?_ (fun _ => ?_))
      | exact ih0 _ _ _
      | exact LeO.none _
      | refine LeO.ite ?_ ?_
      | refine LeO.bind ?_ (fun _ => ?_)
theorem aquiferref26_Same.mono : ∀ a0 a1 k, LeO (aquiferref26_Same.f k a0 a1) (aquiferref26_Same.f (k + 1) a0 a1) := by
  intro a0 a1 k
  have ih0 := aquiferref26_Same.mono_l k
  unfold aquiferref26_Same.f
  repeat' first
      | (with_reducible exact ih0 _ _ _)
      | (with_reducible exact LeO.refl _)
      | (with_reducible exact LeO.none _)
      | (with_reducible refine LeO.ite ?_ ?_)
      | (with_reducible refine LeO.bind ?_ (fun _ => ?_))
      | exact ih0 _ _ _
      | exact LeO.none _
      | refine LeO.ite ?_ ?_
      | refine LeO.bind ?_ (fun _ => ?_)
set_option maxHeartbeats 8000000 in
set_option maxRecDepth 100000 in
theorem aquiferref26_Same.calls (k : Nat) (A0 : Option Addr) (c0 : Nat) (l0 : List (S35)) (A1 : Option Addr) (c1 : Nat) (l1 : List (S35)) (r : Bool) (w : World) (hr0 : Kd.C k35 w A0 l0.length l0) (hc0 : l0.length ≤ c0) (hr1 : Kd.C k35 w A1 l1.length l1) (hc1 : l1.length ≤ c1) (h : aquiferref26_Same.f k l0 l1 = some r) :
    Calls Tryd.prog 15 #[.slice A0 l0.length c0, .slice A1 l1.length c1] w fun e w' => e = .returned (.bool r) ∧ Drawn0 w w' := by
  have hu35 := Tryd.underlying35
  have HR0 := Aside0.mk hr0
  have HC0 := Aside0.mk hc0
  clear hr0 hc0
  have HR1 := Aside0.mk hr1
  have HC1 := Aside0.mk hc1
  clear hr1 hc1
  have H : (if (l0.length : Int) = (l1.length : Int) then (aquiferref26_Same.l0 k l0 l1 0) else (some false)) = some r := h
  clear h
  by_cases c3 : (l0.length : Int) = (l1.length : Int)
  · rw [if_pos c3] at H
    have c3b0 : ((l0.length : Int) == (l1.length : Int)) = true := beq_iff_eq.mpr c3
    have c3b1 : ((l0.length : Int) != (l1.length : Int)) = false := bne_eq_false_iff_eq.mpr c3
    have c3b2 : (l0.length == l1.length) = true := by first | simpa using c3 | (simp at c3 ⊢; omega)
    clear c3
    have H' := Aside0.mk H
    clear H
    go_enter Tryd.func15, Tryd.ntmps15
    go_wp2
    repeat (go_quiet (fail); try go_wp2)
    go_loopg [5] k (fun kq v5 w' => ∃ (x5_1 : Int), v5 = .int .i64 x5_1 ∧ Aside0 (aquiferref26_Same.l0 kq l0 l1 x5_1 = some r) ∧ Aside0 (kq ≤ k) ∧ Drawn0 w w')
    case atStart => exact ⟨(0), (by first | rfl | (simp; done) | (simp [*]; done)), H', ⟨Nat.le_refl _⟩, by repeat (first | exact Drawn0.refl _ | apply Drawn0.step)⟩
    case round =>
      clear H'
      try clear c1
      try clear p2
      try clear c3
      try clear c3b0
      try clear c3b1
      try clear c3b2
      obtain ⟨x5_1, rfl, HA, HK1, ⟨m1, rfl⟩⟩ := hrel
      cases gk with
      | zero => exact absurd HA.out (by simp [aquiferref26_Same.l0])
      | succ k1 =>
        have H := HA.out
        clear HA
        simp only [aquiferref26_Same.l0] at H
        by_cases c4 : x5_1 < (l0.length : Int)
        · rw [if_pos c4] at H
          have c4b0 : decide (x5_1 < (l0.length : Int)) = true := decide_eq_true c4
          clear c4
          by_cases c5 : 0 ≤ x5_1
          · rw [if_pos c5] at H
            have c5b0 : decide (0 ≤ x5_1) = true := decide_eq_true c5
            clear c5
            by_cases c6 : x5_1 < (l1.length : Int)
            · rw [if_pos c6] at H
              have c6b0 : decide (x5_1 < (l1.length : Int)) = true := decide_eq_true c6
              clear c6
              by_cases c7 : (!((((rd_T35 l0 x5_1).f0).toList) == (((rd_T35 l1 x5_1).f0).toList)) || (!(((rd_T35 l0 x5_1).f1) == ((rd_T35 l1 x5_1).f1)) || (!(((rd_T35 l0 x5_1).f2) == ((rd_T35 l1 x5_1).f2)) || (!(((rd_T35 l0 x5_1).f3) == ((rd_T35 l1 x5_1).f3)) || (!(((rd_T35 l0 x5_1).f4) == ((rd_T35 l1 x5_1).f4))))))) = true
              · rw [if_pos c7] at H
                have c7b0 : (!((((rd_T35 l0 x5_1).f0).toList) == (((rd_T35 l1 x5_1).f0).toList)) || (!(((rd_T35 l0 x5_1).f1) == ((rd_T35 l1 x5_1).f1)) || (!(((rd_T35 l0 x5_1).f2) == ((rd_T35 l1 x5_1).f2)) || (!(((rd_T35 l0 x5_1).f3) == ((rd_T35 l1 x5_1).f3)) || (!(((rd_T35 l0 x5_1).f4) == ((rd_T35 l1 x5_1).f4))))))) = true := c7
                clear c7
                obtain rfl := Option.some.inj H
                have p120 : 0 ≤ (x5_1 : Int) := of_decide_eq_true (by first | (with_reducible assumption) | assumption)
                have q120 : x5_1 < (l0.length : Int) := of_decide_eq_true (by first | (with_reducible assumption) | assumption)
                obtain ⟨ad120, e120, hx120_0, hx120_1, hx120_2, hx120_3, hx120_4⟩ := at_T35 HR0.out x5_1 p120 q120
                cases e120
                replace p120 := eq_true p120
                replace q120 := eq_true q120
                have p121 : 0 ≤ (x5_1 : Int) := of_decide_eq_true (by first | (with_reducible assumption) | assumption)
                have q121 : x5_1 < (l1.length : Int) := of_decide_eq_true (by first | (with_reducible assumption) | assumption)
                obtain ⟨ad121, e121, hx121_0, hx121_1, hx121_2, hx121_3, hx121_4⟩ := at_T35 HR1.out x5_1 p121 q121
                cases e121
                replace p121 := eq_true p121
                replace q121 := eq_true q121
                go_wp2
                repeat (go_quiet (fail); try go_wp2)
                go_ret
                exact ⟨by first | rfl | (simp; done) | (simp [*]; done), by repeat (first | exact Drawn0.refl _ | apply Drawn0.step)⟩
              · rw [if_neg c7] at H
                have c7b0 : (!((((rd_T35 l0 x5_1).f0).toList) == (((rd_T35 l1 x5_1).f0).toList)) || (!(((rd_T35 l0 x5_1).f1) == ((rd_T35 l1 x5_1).f1)) || (!(((rd_T35 l0 x5_1).f2) == ((rd_T35 l1 x5_1).f2)) || (!(((rd_T35 l0 x5_1).f3) == ((rd_T35 l1 x5_1).f3)) || (!(((rd_T35 l0 x5_1).f4) == ((rd_T35 l1 x5_1).f4))))))) = false := by simpa using c7
                clear c7
                have H' := Aside0.mk H
                clear H
                have p120 : 0 ≤ (x5_1 : Int) := of_decide_eq_true (by first | (with_reducible assumption) | assumption)
                have q120 : x5_1 < (l0.length : Int) := of_decide_eq_true (by first | (with_reducible assumption) | assumption)
                obtain ⟨ad120, e120, hx120_0, hx120_1, hx120_2, hx120_3, hx120_4⟩ := at_T35 HR0.out x5_1 p120 q120
                cases e120
                replace p120 := eq_true p120
                replace q120 := eq_true q120
                have p121 : 0 ≤ (x5_1 : Int) := of_decide_eq_true (by first | (with_reducible assumption) | assumption)
                have q121 : x5_1 < (l1.length : Int) := of_decide_eq_true (by first | (with_reducible assumption) | assumption)
                obtain ⟨ad121, e121, hx121_0, hx121_1, hx121_2, hx121_3, hx121_4⟩ := at_T35 HR1.out x5_1 p121 q121
                cases e121
                replace p121 := eq_true p121
                replace q121 := eq_true q121
                go_wp2
                repeat (go_quiet (fail); try go_wp2)
                go_roundg k1
                case measure => have := HK1.out; omega
                case rel => exact ⟨(wrap64 (x5_1 + 1)), (by first | rfl | (simp; done) | (simp [*]; done)), H', ⟨by have := HK1.out; omega⟩, by repeat (first | exact Drawn0.refl _ | apply Drawn0.step)⟩
            · rw [if_neg c6] at H
              exact absurd H (by simp)
          · rw [if_neg c5] at H
            exact absurd H (by simp)
        · rw [if_neg c4] at H
          have c4b0 : decide (x5_1 < (l0.length : Int)) = false := decide_eq_false c4
          clear c4
          obtain rfl := Option.some.inj H
          go_wp2
          repeat (go_quiet (fail); try go_wp2)
          go_ret
          exact ⟨by first | rfl | (simp; done) | (simp [*]; done), by repeat (first | exact Drawn0.refl _ | apply Drawn0.step)⟩
  · rw [if_neg c3] at H
    have c3b0 : ((l0.length : Int) == (l1.length : Int)) = false := beq_eq_false_iff_ne.mpr c3
    have c3b1 : ((l0.length : Int) != (l1.length : Int)) = true := bne_iff_ne.mpr c3
    have c3b2 : (l0.length == l1.length) = false := by first | simpa using c3 | (simp at c3 ⊢; omega)
    obtain rfl := Option.some.inj H
    go_enter Tryd.func15, Tryd.ntmps15
    go_wp2
    repeat (go_quiet (fail); try go_wp2)
    go_ret
    exact ⟨by first | rfl | (simp; done) | (simp [*]; done), by repeat (first | exact Drawn0.refl _ | apply Drawn0.step)⟩

end Go.Proofs.YtdggdmdefmljlaaDoor.Q

namespace Go.Proofs.YtdggdmdefmljlaaDoor.Q
open Go Go.Proofs Go.Shelf Go.RowKit Go.Lib Go.Sort Go.Proofs.YtdggdmdefmljlaaDoorP Go.Proofs.YtdggdmdefmljlaaDoorK Go.Proofs.YtdggdmdefmljlaaDoorW.PrintWords Go.Proofs.YtdggdmdefmljlaaDoorW.PrintLast Go.Proofs.YtdggdmdefmljlaaDoorW.PrintMore
set_option linter.unusedSimpArgs false
set_option linter.unusedVariables false
/-! ### The document's own answers, plain -/
theorem few_len (l : List S35) : (fewL l).length ≤ 40 := by
  unfold fewL
  rw [List.length_map, List.length_take]
  omega
theorem rd_at (l : List S35) (i : Nat) (h : i < l.length) : rd_T35 l (i : Int) = l[i] := by
  unfold rd_T35
  simp [h]
theorem wr (i : Nat) (h : i < 1048576) : wrap64 ((i : Int) + 1) = ((i + 1 : Nat) : Int) := by unfold wrap64; omega
theorem tl_iff (a b : ByteArray) : a.toList = b.toList ↔ a.data.toList = b.data.toList := by
  rw [ByteArray.toList_eq, ByteArray.toList_eq]
theorem tl_beq (a b : ByteArray) : (a.toList == b.toList) = (a.data.toList == b.data.toList) := by
  rw [Bool.eq_iff_iff, beq_iff_eq, beq_iff_eq]
  exact tl_iff a b
/-- Is the path of the i-th one among those from m on, ahead of it? -/
def dupB (l : List S35) (p : ByteArray) (m : Nat) : Bool := (l.drop m).any fun c => c.f0.data.toList == p.data.toList
theorem check_in (l : List S35) (hn : l.length ≤ 4096) (i : Nat) (hi : i < l.length) (d : Nat) : ∀ (m k : Nat), m + d = i → aquiferref26_Check.l1 (k + d + 1) l (i : Int) (m : Int) = if dupB (l.take i) l[i].f0 m = true then some 2 else aquiferref26_Check.l0 k l ((i + 1 : Nat) : Int) := by
  induction d with
  | zero =>
    intro m k h
    have e : dupB (l.take i) l[i].f0 m = false := by
      unfold dupB
      rw [List.drop_of_length_le (by rw [List.length_take]; omega)]
      rfl
    unfold aquiferref26_Check.l1
    rw [if_neg (by omega), e, wr i (by omega)]
    rfl
  | succ d ih =>
    intro m k h
    have hm : m < l.length := by omega
    have hmt : m < (l.take i).length := by rw [List.length_take]; omega
    have ih' := ih (m + 1) k (by omega)
    have e : dupB (l.take i) l[i].f0 m = ((l[m].f0.data.toList == l[i].f0.data.toList) || dupB (l.take i) l[i].f0 (m + 1)) := by
      unfold dupB
      rw [List.drop_eq_getElem_cons hmt, List.any_cons]
      simp
    rw [show k + (d + 1) + 1 = (k + d + 1) + 1 by omega]
    unfold aquiferref26_Check.l1
    rw [if_pos (by omega), if_pos (by omega), if_pos (by omega), if_pos (by omega), if_pos (by omega), rd_at l m hm, rd_at l i hi, wr m (by omega), ih', e]
    by_cases he : l[m].f0.toList = l[i].f0.toList
    · rw [if_pos he, beq_iff_eq.mpr ((tl_iff _ _).1 he)]
      simp
    · rw [if_neg he, beq_eq_false_iff_ne.mpr (fun h2 => he ((tl_iff _ _).2 h2)), Bool.false_or]
theorem isIn_paths (l : List S35) (p : ByteArray) : isIn p ((l.map (·.f0)).reverse) = dupB l p 0 := by
  unfold isIn dupB
  rw [List.any_reverse, List.any_map, List.drop_zero]
  congr 1
  funext c
  rw [Bool.eq_iff_iff]
  simp only [Function.comp, beq_iff_eq]
  exact ⟨Eq.symm, Eq.symm⟩
theorem check_loop (l : List S35) (hn : l.length ≤ 4096) (d : Nat) : ∀ (i k : Nat), i + d = l.length → d * (l.length + 3) + 1 ≤ k → aquiferref26_Check.l0 k l (i : Int) = some (goS (((l.take i).map (·.f0)).reverse) (l.drop i)) := by
  induction d with
  | zero =>
    intro i k h hk
    obtain ⟨k, rfl⟩ : ∃ q, k = q + 1 := ⟨k - 1, by omega⟩
    unfold aquiferref26_Check.l0
    rw [if_neg (by omega), List.drop_of_length_le (by omega)]
    rfl
  | succ d ih =>
    intro i k h hk
    have hi : i < l.length := by omega
    have hk' : d * (l.length + 3) + 1 + (l.length + 3) ≤ k := by rw [Nat.succ_mul] at hk; omega
    obtain ⟨k0, hk0, hk1⟩ : ∃ k0, k = k0 + i + 1 + 1 + 1 ∧ d * (l.length + 3) + 1 ≤ k0 := ⟨k - i - 3, by omega, by omega⟩
    subst hk0
    have ih' := ih (i + 1) k0 (by omega) hk1
    have hin := check_in l hn i hi i 0 k0 (by omega)
    have hseen := isIn_paths (l.take i) l[i].f0
    have hgo : goS (((l.take i).map (·.f0)).reverse) (l.drop i) = if (badC l[i] || dupB (l.take i) l[i].f0 0) = true then 2 else goS (((l.take (i + 1)).map (·.f0)).reverse) (l.drop (i + 1)) := by
      rw [List.drop_eq_getElem_cons hi]
      simp only [goS]
      rw [hseen, List.take_succ_eq_append_getElem hi, List.map_append, List.reverse_append]
      rfl
    rw [hgo]
    have hj : ∀ b, aquiferref26_Check.j1 (k0 + i + 1 + 1) l (i : Int) b = if (b || dupB (l.take i) l[i].f0 0) = true then some 2 else some (goS (((l.take (i + 1)).map (·.f0)).reverse) (l.drop (i + 1))) := by
      intro b
      unfold aquiferref26_Check.j1
      cases b
      · rw [if_neg (by decide)]
        have := hin
        simp only [Int.natCast_zero] at this
        rw [this, ih', Bool.false_or]
      · simp
    unfold aquiferref26_Check.l0
    rw [if_pos (by omega), if_pos (by omega), rd_at l i hi]
    have hfin : ∀ b, badC l[i] = b → aquiferref26_Check.j1 (k0 + i + 1 + 1) l (i : Int) b = some (if (badC l[i] || dupB (l.take i) l[i].f0 0) = true then 2 else goS (((l.take (i + 1)).map (·.f0)).reverse) (l.drop (i + 1))) := by
      intro b hb
      rw [hj, hb]
      split <;> rfl
    unfold badC at hfin
    by_cases h1 : l[i].f1 < 0
    · rw [if_pos h1]
      exact hfin true (by rw [decide_eq_true h1]; rfl)
    · rw [if_neg h1]
      by_cases h2 : l[i].f1 > 4096
      · rw [if_pos h2]
        exact hfin true (by rw [decide_eq_false h1, decide_eq_true (show 4096 < l[i].f1 from h2)]; rfl)
      · rw [if_neg h2]
        by_cases h3 : l[i].f2 < 0
        · rw [if_pos h3]
          exact hfin true (by rw [decide_eq_false h1, decide_eq_false (show ¬ 4096 < l[i].f1 from h2), decide_eq_true h3]; rfl)
        · rw [if_neg h3]
          exact hfin _ (by rw [decide_eq_false h1, decide_eq_false (show ¬ 4096 < l[i].f1 from h2), decide_eq_false h3]; rfl)
theorem refcheck (l : List S35) (hn : l.length ≤ 40) (k : Nat) (hk : 2000 ≤ k) : aquiferref26_Check.f k l = some (checkS l) := by
  have h1 : l.length * (l.length + 3) ≤ 40 * 43 := Nat.mul_le_mul hn (by omega)
  have h := check_loop l (by omega) l.length 0 k (by omega) (by omega)
  unfold aquiferref26_Check.f checkS
  rw [if_neg (by omega), if_neg (by omega)]
  simpa using h
theorem sumS_step (p : S35 → Bool) (n : Int) (c : S35) (l : List S35) : sumS p n (c :: l) = sumS p (if p c = true then n + c.f1 else n) l := rfl
theorem bytes_loop (l : List S35) (hn : l.length ≤ 40) (h0 : checkS l = 0) (d : Nat) : ∀ (i k : Nat) (n : Int), i + d = l.length → 2000 + d < k → 0 ≤ n → n ≤ 4096 * i → aquiferref26_Bytes.l0 k l n (i : Int) = some (sumS (fun _ => true) n (l.drop i)) := by
  induction d with
  | zero =>
    intro i k n h hk _ _
    obtain ⟨k, rfl⟩ : ∃ q, k = q + 1 := ⟨k - 1, by omega⟩
    unfold aquiferref26_Bytes.l0
    rw [if_neg (by omega), List.drop_of_length_le (by omega)]
    rfl
  | succ d ih =>
    intro i k n h hk hn0 hn1
    obtain ⟨k, rfl⟩ : ∃ q, k = q + 1 := ⟨k - 1, by omega⟩
    have hi : i < l.length := by omega
    have hc := (check_ok h0).2 l[i] (List.getElem_mem hi)
    unfold aquiferref26_Bytes.l0
    rw [if_pos (by omega), refcheck l hn k (by omega), Option.bind_some, h0, if_pos rfl, if_pos (by omega), rd_at l i hi, wr i (by omega), List.drop_eq_getElem_cons hi, sumS_step]
    have hw : wrap64 (n + l[i].f1) = n + l[i].f1 := by unfold wrap64; omega
    rw [hw]
    exact ih (i + 1) k (n + l[i].f1) (by omega) (by omega) (by omega) (by omega)
theorem refbytes (l : List S35) (hn : l.length ≤ 40) (k : Nat) (hk : 3000 ≤ k) : aquiferref26_Bytes.f k l = some (totalS (fun _ => true) l) := by
  unfold aquiferref26_Bytes.f totalS
  by_cases h0 : checkS l = 0
  · have := bytes_loop l hn h0 l.length 0 k 0 (by omega) (by omega) (by omega) (by omega)
    rw [if_pos h0]
    simpa using this
  · rw [if_neg h0]
    obtain ⟨k, rfl⟩ : ∃ q, k = q + 1 := ⟨k - 1, by omega⟩
    unfold aquiferref26_Bytes.l0
    rw [refcheck l hn k (by omega), Option.bind_some, if_neg h0]
    split <;> rfl
theorem fixed_loop (l : List S35) (hn : l.length ≤ 40) (h0 : checkS l = 0) (d : Nat) : ∀ (i k : Nat) (n : Int), i + d = l.length → 2000 + 2 * d + 1 < k → 0 ≤ n → n ≤ 4096 * i → aquiferref26_Fixed.l0 k l n (i : Int) = some (sumS fixedC n (l.drop i)) := by
  induction d with
  | zero =>
    intro i k n h hk _ _
    obtain ⟨k, rfl⟩ : ∃ q, k = q + 1 + 1 := ⟨k - 2, by omega⟩
    unfold aquiferref26_Fixed.l0
    rw [if_neg (by omega), List.drop_of_length_le (by omega)]
    unfold aquiferref26_Fixed.j1
    rfl
  | succ d ih =>
    intro i k n h hk hn0 hn1
    obtain ⟨k, rfl⟩ : ∃ q, k = q + 1 + 1 := ⟨k - 2, by omega⟩
    have hi : i < l.length := by omega
    have hc := (check_ok h0).2 l[i] (List.getElem_mem hi)
    have hw : wrap64 (n + l[i].f1) = n + l[i].f1 := by unfold wrap64; omega
    unfold aquiferref26_Fixed.l0
    rw [if_pos (by omega), refcheck l hn (k + 1) (by omega), Option.bind_some, h0]
    show aquiferref26_Fixed.j1 (k + 1) l n (i : Int) true = _
    unfold aquiferref26_Fixed.j1
    rw [if_pos rfl, if_pos (by omega), if_pos (by omega), rd_at l i hi, wr i (by omega), List.drop_eq_getElem_cons hi, sumS_step, hw]
    have ha := ih (i + 1) k (n + l[i].f1) (by omega) (by omega) (by omega) (by omega)
    have hb := ih (i + 1) k n (by omega) (by omega) (by omega) (by omega)
    have hf : fixedC l[i] = (l[i].f3 || l[i].f4) := rfl
    rw [hf]
    cases h3 : l[i].f3
    · rw [if_neg (by decide)]
      cases h4 : l[i].f4
      · rw [if_neg (by decide)]
        exact hb
      · rw [if_pos rfl]
        exact ha
    · rw [if_pos rfl]
      exact ha
theorem reffixed (l : List S35) (hn : l.length ≤ 40) (k : Nat) (hk : 3000 ≤ k) : aquiferref26_Fixed.f k l = some (totalS fixedC l) := by
  unfold aquiferref26_Fixed.f totalS
  by_cases h0 : checkS l = 0
  · have := fixed_loop l hn h0 l.length 0 k 0 (by omega) (by omega) (by omega) (by omega)
    rw [if_pos h0]
    simpa using this
  · rw [if_neg h0]
    obtain ⟨k, rfl⟩ : ∃ q, k = q + 1 + 1 := ⟨k - 2, by omega⟩
    unfold aquiferref26_Fixed.l0
    rw [refcheck l hn (k + 1) (by omega), Option.bind_some, beq_eq_false_iff_ne.mpr h0]
    unfold aquiferref26_Fixed.j1
    split <;> rfl
theorem same_loop (l : List S35) (hn : l.length ≤ 1048575) (d : Nat) : ∀ (i k : Nat), i + d = l.length → d < k → aquiferref26_Same.l0 k l l (i : Int) = some true := by
  induction d with
  | zero =>
    intro i k h hk
    obtain ⟨k, rfl⟩ : ∃ q, k = q + 1 := ⟨k - 1, by omega⟩
    unfold aquiferref26_Same.l0
    rw [if_neg (by omega)]
  | succ d ih =>
    intro i k h hk
    obtain ⟨k, rfl⟩ : ∃ q, k = q + 1 := ⟨k - 1, by omega⟩
    unfold aquiferref26_Same.l0
    rw [if_pos (by omega), if_pos (by omega), if_pos (by omega), wr i (by omega)]
    simp only [beq_self_eq_true, Bool.not_true, Bool.or_self, Bool.false_eq_true, if_false]
    exact ih (i + 1) k (by omega) (by omega)
theorem refsame (l : List S35) (hn : l.length ≤ 1048575) (k : Nat) (hk : l.length < k) : aquiferref26_Same.f k l l = some true := by
  unfold aquiferref26_Same.f
  rw [if_pos rfl]
  have := same_loop l hn l.length 0 k (by omega) hk
  simpa using this
theorem texts_loop (l : List ByteArray) (hn : l.length ≤ 1048575) (d : Nat) : ∀ (i k : Nat), i + d = l.length → d < k → aquiferref05_SameTexts.l0 k l l (i : Int) = some true := by
  induction d with
  | zero =>
    intro i k h hk
    obtain ⟨k, rfl⟩ : ∃ q, k = q + 1 := ⟨k - 1, by omega⟩
    unfold aquiferref05_SameTexts.l0
    rw [if_neg (by omega)]
  | succ d ih =>
    intro i k h hk
    obtain ⟨k, rfl⟩ : ∃ q, k = q + 1 := ⟨k - 1, by omega⟩
    unfold aquiferref05_SameTexts.l0
    rw [if_pos (by omega), if_pos (by omega), if_pos (by omega), if_pos rfl, wr i (by omega)]
    exact ih (i + 1) k (by omega) (by omega)
theorem reftexts (l : List ByteArray) (hn : l.length ≤ 1048575) (k : Nat) (hk : l.length < k) : aquiferref05_SameTexts.f k l l = some true := by
  unfold aquiferref05_SameTexts.f
  rw [if_pos rfl]
  have := texts_loop l hn l.length 0 k (by omega) hk
  simpa using this
theorem cutP_cutP (x : S35) : cutP (cutP x) = cutP x := by
  have h1 : (x.f0.extract 0 (mn (x.f0.size : Int) 110).toNat).size = (mn (x.f0.size : Int) 110).toNat := by
    rw [ByteArray.size_extract]
    unfold mn
    split <;> omega
  have h2 : (mn (((mn (x.f0.size : Int) 110).toNat : Nat) : Int) 110).toNat = (mn (x.f0.size : Int) 110).toNat := by
    unfold mn
    split <;> split <;> omega
  unfold cutP
  simp only [S35.mk.injEq, and_true]
  rw [h1, h2]
  apply ByteArray.ext
  simp [ByteArray.data_extract]
theorem map_cutP (l : List S35) : (l.map cutP).map cutP = l.map cutP := by
  rw [List.map_map]
  exact List.map_congr_left (fun x _ => cutP_cutP x)
theorem few_same (m : List S35) (h : m.length ≤ 40) : fewL m = m.map cutP := by
  unfold fewL
  rw [List.take_of_length_le h]
theorem fewL_fewL (l : List S35) : fewL (fewL l) = fewL l := by
  rw [few_same (fewL l) (few_len l)]
  unfold fewL
  exact map_cutP _
end Go.Proofs.YtdggdmdefmljlaaDoor.Q

namespace Go.Proofs.YtdggdmdefmljlaaDoor.Q
open Go Go.Proofs Go.Shelf Go.RowKit Go.Lib Go.Sort Go.Proofs.YtdggdmdefmljlaaDoorP Go.Proofs.YtdggdmdefmljlaaDoorK Go.Proofs.YtdggdmdefmljlaaDoorW.PrintWords Go.Proofs.YtdggdmdefmljlaaDoorW.PrintLast Go.Proofs.YtdggdmdefmljlaaDoorW.PrintMore
set_option linter.unusedSimpArgs false
set_option linter.unusedVariables false
/-! ### The document's names, compare, order: plain -/
/-- A byte behind the last of some names. -/
def lastApp (c : UInt8) : List (List UInt8) → List (List UInt8)
  | [] => [[c]]
  | [n] => [n ++ [c]]
  | n :: m :: ns => n :: lastApp c (m :: ns)
theorem names_snoc (l : List UInt8) (c : UInt8) : names (l ++ [c]) = if c = 47 then names l ++ [[]] else lastApp c (names l) := by
  induction l with
  | nil =>
    simp only [List.nil_append, names]
    split <;> rfl
  | cons b l ih =>
    rw [List.cons_append]
    have hne := names_ne l
    by_cases hb : b = 47
    · simp only [names, if_pos hb]
      rw [ih]
      by_cases hc : c = 47
      · rw [if_pos hc, if_pos hc]
        rfl
      · rw [if_neg hc, if_neg hc]
        cases hn : names l with
        | nil => exact absurd hn hne
        | cons n ns => rfl
    · simp only [names, if_neg hb]
      rw [ih]
      cases hn : names l with
      | nil => exact absurd hn hne
      | cons n ns =>
        by_cases hc : c = 47
        · rw [if_pos hc, if_pos hc]
          rfl
        · rw [if_neg hc, if_neg hc]
          cases ns <;> rfl
theorem lastApp_set (c : UInt8) : ∀ l : List (List UInt8), l ≠ [] → lastApp c l = l.set (l.length - 1) (l.getD (l.length - 1) [] ++ [c])
  | [], h => absurd rfl h
  | [n], _ => rfl
  | n :: m :: ns, _ => by
    have ih := lastApp_set c (m :: ns) (by simp)
    show n :: lastApp c (m :: ns) = _
    rw [ih]
    simp
theorem bt_47 (s : ByteArray) (i : Nat) (h : i < s.size) : bt s (i : Int) = 47 ↔ s.data.toList[i]'h = 47 := by
  have h1 : bt s (i : Int) = ((s[i]'h).toNat : Int) := by simp [bt, h]
  have h2 : s.data.toList[i]'h = s[i]'h := rfl
  rw [h1, h2]
  constructor
  · intro e
    apply UInt8.toNat_inj.1
    have e2 : (s[i]'h).toNat = 47 := by omega
    rw [e2]
    rfl
  · intro e
    rw [e]
    rfl
theorem map_data_len {L : List ByteArray} {M : List (List UInt8)} (h : L.map (·.data.toList) = M) : L.length = M.length := by
  rw [← h, List.length_map]
theorem names_len (l : List UInt8) : (names l).length ≤ l.length + 1 := by
  induction l with
  | nil => simp [names]
  | cons c l ih =>
    unfold names
    split
    · simp only [List.length_cons]; omega
    · split
      · simp
      · rename_i h
        rw [h] at ih
        simp only [List.length_cons] at ih ⊢
        omega
theorem flat_size : ∀ (L : List (List UInt8)) (j : Nat), (L.getD j []).length ≤ (L.map List.length).sum
  | [], j => by simp
  | n :: L, 0 => by simp
  | n :: L, j + 1 => by
    have := flat_size L j
    simp only [List.getD_cons_succ, List.map_cons, List.sum_cons]
    omega
theorem names_sum (l : List UInt8) : ((names l).map List.length).sum ≤ l.length := by
  induction l with
  | nil => simp [names]
  | cons c l ih =>
    unfold names
    split
    · simp only [List.map_cons, List.sum_cons, List.length_nil, List.length_cons]; omega
    · split
      · simp
      · rename_i h
        rw [h] at ih
        simp only [List.map_cons, List.sum_cons, List.length_cons] at ih ⊢
        omega
theorem names_loop (s : ByteArray) (hs : s.size ≤ 65536) (d : Nat) : ∀ (i k : Nat) (L : List ByteArray), i + d = s.size → d < k → L.map (·.data.toList) = names (s.data.toList.take i) → ∃ M, aquiferref05_Names.l0 k s L (i : Int) = some M ∧ M.map (·.data.toList) = names s.data.toList := by
  have hsz : s.data.toList.length = s.size := rfl
  induction d with
  | zero =>
    intro i k L h hk hL
    obtain ⟨k, rfl⟩ : ∃ q, k = q + 1 := ⟨k - 1, by omega⟩
    refine ⟨L, ?_, ?_⟩
    · unfold aquiferref05_Names.l0
      rw [if_neg (by omega)]
    · rw [hL, List.take_of_length_le (by omega)]
  | succ d ih =>
    intro i k L h hk hL
    obtain ⟨k, rfl⟩ : ∃ q, k = q + 1 := ⟨k - 1, by omega⟩
    have hi : i < s.size := by omega
    have hi' : i < s.data.toList.length := by omega
    have hl := map_data_len hL
    have hln := names_len (s.data.toList.take i)
    have hne := names_ne (s.data.toList.take i)
    have hpos : 0 < L.length := by
      rw [hl]
      exact List.length_pos_iff.2 hne
    have hlt : (s.data.toList.take i).length ≤ 65536 := by rw [List.length_take]; omega
    have hsn := names_snoc (s.data.toList.take i) (s.data.toList[i]'hi')
    rw [← List.take_succ_eq_append_getElem hi'] at hsn
    unfold aquiferref05_Names.l0
    rw [if_pos (by omega), if_pos (by omega), wr i (by omega)]
    by_cases hc : bt s (i : Int) = 47
    · rw [if_pos hc, if_pos (by omega)]
      refine ih (i + 1) k _ (by omega) (by omega) ?_
      rw [hsn, if_pos ((bt_47 s i hi).1 hc), List.map_append, hL]
      rfl
    · have hw : wrap64 ((L.length : Int) - 1) = ((L.length - 1 : Nat) : Int) := by unfold wrap64; omega
      rw [if_neg hc, hw, if_pos (by omega), if_pos (by omega), if_pos (by omega), if_pos (by omega)]
      have hrd : (rdOf ByteArray.empty L ((L.length - 1 : Nat) : Int)).data.toList = (names (s.data.toList.take i)).getD (L.length - 1) [] := by
        unfold rdOf
        rw [← hL]
        simp [List.getD_eq_getElem?_getD]
        cases L[L.length - 1]? <;> rfl
      have hex : (s.extract ((i : Nat) : Int).toNat (((i + 1 : Nat) : Int)).toNat).data.toList = [s.data.toList[i]'hi'] := by
        simp only [Int.toNat_natCast, ByteArray.data_extract, Array.toList_extract]
        rw [List.extract_eq_take_drop, show i + 1 - i = 1 by omega, List.drop_eq_getElem_cons hi']
        rfl
      have hsz1 : (rdOf ByteArray.empty L ((L.length - 1 : Nat) : Int)).size ≤ 65536 := by
        have h1 := flat_size (names (s.data.toList.take i)) (L.length - 1)
        have h2 := names_sum (s.data.toList.take i)
        have h3 : (rdOf ByteArray.empty L ((L.length - 1 : Nat) : Int)).size = (rdOf ByteArray.empty L ((L.length - 1 : Nat) : Int)).data.toList.length := rfl
        rw [h3, hrd]
        omega
      have hsz2 : (s.extract ((i : Nat) : Int).toNat (((i + 1 : Nat) : Int)).toNat).size = 1 := by
        have h3 : (s.extract ((i : Nat) : Int).toNat (((i + 1 : Nat) : Int)).toNat).size = (s.extract ((i : Nat) : Int).toNat (((i + 1 : Nat) : Int)).toNat).data.toList.length := rfl
        rw [h3, hex]
        rfl
      rw [if_pos (by omega)]
      refine ih (i + 1) k _ (by omega) (by omega) ?_
      rw [hsn, if_neg (fun e => hc ((bt_47 s i hi).2 e)), lastApp_set _ _ hne, List.map_set, hL, ByteArray.data_append, Array.toList_append, hrd, hex, ← hl]
      rfl
theorem refnames (s : ByteArray) (hs : s.size ≤ 65536) (k : Nat) (hk : s.size < k) : ∃ M, aquiferref05_Names.f k s = some M ∧ M.map (·.data.toList) = names s.data.toList :=
  names_loop s hs s.size 0 k [⟨#[]⟩] (by omega) hk rfl
theorem cmp_less : ∀ x y : List UInt8, Lib.compareBytes x y = if Op.bytesLess x y = true then -1 else if Op.bytesLess y x = true then 1 else 0
  | [], [] => rfl
  | [], _ :: _ => rfl
  | _ :: _, [] => rfl
  | a :: x, b :: y => by
    have ih := cmp_less x y
    simp only [Lib.compareBytes, Op.bytesLess, Bool.or_eq_true, decide_eq_true_eq, Bool.and_eq_true, beq_iff_eq]
    by_cases h1 : a < b
    · rw [if_pos h1, if_pos (.inl h1)]
    · rw [if_neg h1]
      by_cases h2 : b < a
      · have hn : a ≠ b := fun e => by subst e; exact UInt8.lt_irrefl _ h2
        rw [if_pos h2, if_neg (by rintro (h | h); · exact h1 h
                                  · exact hn h.1), if_pos (.inl h2)]
      · have he : a = b := UInt8.le_antisymm (UInt8.not_lt.1 h2) (UInt8.not_lt.1 h1)
        subst he
        rw [if_neg h1, ih]
        simp [UInt8.lt_irrefl]
theorem cmp_loop (x y : List ByteArray) (hx : x.length ≤ 100000) (d : Nat) : ∀ (i k : Nat), min x.length y.length ≤ i + d → i ≤ x.length → i ≤ y.length → 2 * d + 1 < k → aquiferref05_Compare.l0 k x y (i : Int) = some (cmpN ((x.map (·.data.toList)).drop i) ((y.map (·.data.toList)).drop i)) := by
  have hend : ∀ (i k : Nat), i ≤ x.length → i ≤ y.length → (i = x.length ∨ i = y.length) → aquiferref05_Compare.j1 (k + 1) x y (i : Int) false = some (cmpN ((x.map (·.data.toList)).drop i) ((y.map (·.data.toList)).drop i)) := by
    intro i k h1 h2 h3
    have he := lex_end Lib.compareBytes (x.map (·.data.toList)) (y.map (·.data.toList)) i (by rw [List.length_map]; exact h1) (by rw [List.length_map]; exact h2) (by rw [List.length_map, List.length_map]; exact h3)
    unfold aquiferref05_Compare.j1 cmpN
    rw [he, if_neg (by decide), List.length_map, List.length_map]
    unfold Lib.compareInt
    split
    · rfl
    · split <;> rfl
  have hstop : ∀ (i k : Nat), i ≤ x.length → i ≤ y.length → (i = x.length ∨ i = y.length) → aquiferref05_Compare.l0 (k + 1 + 1) x y (i : Int) = some (cmpN ((x.map (·.data.toList)).drop i) ((y.map (·.data.toList)).drop i)) := by
    intro i k h1 h2 h3
    unfold aquiferref05_Compare.l0
    by_cases h4 : (i : Int) < (x.length : Int)
    · rw [if_pos h4, decide_eq_false (by omega)]
      exact hend i k h1 h2 h3
    · rw [if_neg h4]
      exact hend i k h1 h2 h3
  induction d with
  | zero =>
    intro i k h h1 h2 hk
    obtain ⟨k, rfl⟩ : ∃ q, k = q + 1 + 1 := ⟨k - 2, by omega⟩
    exact hstop i k h1 h2 (by omega)
  | succ d ih =>
    intro i k h h1 h2 hk
    obtain ⟨k, rfl⟩ : ∃ q, k = q + 1 + 1 := ⟨k - 2, by omega⟩
    by_cases h3 : i = x.length ∨ i = y.length
    · exact hstop i k h1 h2 h3
    · have hix : i < x.length := by omega
      have hiy : i < y.length := by omega
      have ih' := ih (i + 1) k (by omega) (by omega) (by omega) (by omega)
      have rx : rdOf ByteArray.empty x (i : Int) = x[i] := by unfold rdOf; simp [hix]
      have ry : rdOf ByteArray.empty y (i : Int) = y[i] := by unfold rdOf; simp [hiy]
      unfold aquiferref05_Compare.l0
      rw [if_pos (by omega), decide_eq_true (by omega)]
      unfold aquiferref05_Compare.j1
      rw [if_pos rfl, if_pos (by omega), if_pos (by omega), if_pos (by omega), rx, ry, wr i (by omega), ih']
      rw [List.drop_eq_getElem_cons (show i < (x.map (·.data.toList)).length by rw [List.length_map]; exact hix), List.drop_eq_getElem_cons (show i < (y.map (·.data.toList)).length by rw [List.length_map]; exact hiy)]
      simp only [cmpN, lexC, List.getElem_map]
      rw [cmp_less, ← Lib.toList_data, ← Lib.toList_data]
      by_cases h4 : Op.bytesLess x[i].toList y[i].toList = true
      · rw [if_pos h4, if_pos h4, if_neg (by decide)]
      · rw [if_neg h4, if_neg h4]
        by_cases h5 : Op.bytesLess y[i].toList x[i].toList = true
        · rw [if_pos h5, if_pos h5, if_neg (by decide)]
        · rw [if_neg h5, if_neg h5, if_pos rfl]
theorem refcompare (a b : ByteArray) (ha : a.size ≤ 65536) (hb : b.size ≤ 65536) (k : Nat) (hk : 2 * a.size + 4 ≤ k) (hk2 : b.size < k) : aquiferref05_Compare.f k a b = some (pcmp a b) := by
  obtain ⟨M, h1, h2⟩ := refnames a ha k (by omega)
  obtain ⟨N, h3, h4⟩ := refnames b hb k hk2
  have hm := map_data_len h2
  have hl := names_len a.data.toList
  have hsz : a.data.toList.length = a.size := rfl
  unfold aquiferref05_Compare.f
  rw [h1, Option.bind_some, h3, Option.bind_some]
  have := cmp_loop M N (by omega) M.length 0 k (by omega) (by omega) (by omega) (by omega)
  unfold pcmp
  rw [← h2, ← h4]
  simpa using this
def slim (l : List S35) : Prop := ∀ c ∈ l, c.f0.size ≤ 110
theorem few_slim (l : List S35) : slim (fewL l) := by
  intro c hc
  unfold fewL at hc
  obtain ⟨x, _, rfl⟩ := List.mem_map.1 hc
  show (x.f0.extract 0 (mn (x.f0.size : Int) 110).toNat).size ≤ 110
  rw [ByteArray.size_extract]
  unfold mn
  split <;> omega
theorem refahead (x y : S35) (hx : x.f0.size ≤ 110) (hy : y.f0.size ≤ 110) (k : Nat) (hk : 300 ≤ k) : aquiferref26_ahead.f k x.f0 x.f1 x.f2 x.f3 x.f4 y.f0 y.f1 y.f2 y.f3 y.f4 = some (decide (cfC x y < 0)) := by
  unfold aquiferref26_ahead.f cfC cmpK keyC
  dsimp only
  by_cases h : x.f2 = y.f2
  · rw [if_pos h, refcompare _ _ (by omega) (by omega) k (by omega) (by omega), Option.bind_some]
    have : Lib.compareInt x.f2 y.f2 = 0 := by unfold Lib.compareInt; rw [h]; simp
    rw [if_pos this]
  · rw [if_neg h]
    have : Lib.compareInt x.f2 y.f2 = if x.f2 < y.f2 then -1 else 1 := by
      unfold Lib.compareInt
      split
      · rfl
      · rw [if_pos (by omega)]
    rw [this]
    by_cases h2 : x.f2 < y.f2
    · rw [if_pos h2, if_neg (by decide), decide_eq_true h2]
      rfl
    · rw [if_neg h2, if_neg (by decide), decide_eq_false h2]
      rfl
/-- The least of some is found. -/
theorem min_loop (l out : List S35) (hn : l.length ≤ 40) (ho : out.length ≤ 40) (hs : slim l) (d : Nat) : ∀ (m i k : Nat), i + d = l.length → m < i → (∀ j (hj : j < l.length) (hm : m < l.length), j < i → leC l[m] l[j]) → 300 ≤ k → ∃ (m' : Nat) (hm' : m' < l.length), (∀ j (hj : j < l.length), leC l[m'] l[j]) ∧ aquiferref26_Order.l2 (k + d + 1) l out (m : Int) (i : Int) = aquiferref26_Order.l1 k (l.take m' ++ l.drop (m' + 1)) (out ++ [l[m']]) := by
  induction d with
  | zero =>
    intro m i k h hm hle hk
    have hml : m < l.length := by omega
    refine ⟨m, hml, fun j hj => hle j hj hml (by omega), ?_⟩
    unfold aquiferref26_Order.l2
    rw [if_neg (by omega), if_pos (by omega), if_pos (by omega), if_pos (by omega), Option.bind_some, if_pos (by omega), Option.bind_some]
    rw [if_pos (by simp only [List.length_nil, List.length_take]; omega), Option.bind_some, wr m (by omega), if_pos (by omega), if_pos (by omega), Option.bind_some]
    rw [if_pos (by simp only [List.nil_append, List.length_take, List.length_drop]; omega), rd_at l m hml]
    rfl
  | succ d ih =>
    intro m i k h hm hle hk
    have hml : m < l.length := by omega
    have hil : i < l.length := by omega
    have ha := refahead l[i] l[m] (hs _ (List.getElem_mem hil)) (hs _ (List.getElem_mem hml)) (k + d + 1) (by omega)
    rw [show k + (d + 1) + 1 = (k + d + 1) + 1 by omega]
    unfold aquiferref26_Order.l2
    rw [if_pos (by omega), if_pos (by omega), if_pos (by omega), if_pos (by omega), rd_at l m hml, rd_at l i hil, ha, Option.bind_some, wr i (by omega)]
    by_cases hc : cfC l[i] l[m] < 0
    · rw [if_pos (decide_eq_true hc)]
      refine ih i (i + 1) k (by omega) (by omega) ?_ hk
      intro j hj hm2 hji
      have hlm : leC l[i] l[m] := by
        rcases leC_total l[i] l[m] with h1 | h1
        · exact h1
        · exact absurd hc h1
      by_cases hij : j = i
      · subst hij
        rcases leC_total l[j] l[j] with h1 | h1 <;> exact h1
      · exact leC_trans hlm (hle j hj hml (by omega))
    · rw [if_neg (by simpa using hc)]
      refine ih m (i + 1) k (by omega) (by omega) ?_ hk
      intro j hj hm2 hji
      by_cases hij : j = i
      · subst hij
        exact hc
      · exact hle j hj hml (by omega)
theorem sel_loop (n : Nat) : ∀ (l out : List S35) (k : Nat), l.length = n → n ≤ 40 → out.length + n ≤ 40 → slim l → 300 + n * (n + 3) + 1 ≤ k → ∃ s, aquiferref26_Order.l1 k l out = some (out ++ s) ∧ s.Perm l ∧ s.Pairwise leC := by
  induction n with
  | zero =>
    intro l out k hl _ _ _ hk
    obtain ⟨k, rfl⟩ : ∃ q, k = q + 1 := ⟨k - 1, by omega⟩
    have : l = [] := List.length_eq_zero_iff.1 hl
    subst this
    refine ⟨[], ?_, List.Perm.refl _, List.Pairwise.nil⟩
    unfold aquiferref26_Order.l1
    rw [if_neg (by simp), List.append_nil]
  | succ n ih =>
    intro l out k hl hn ho hs hk
    have e1 : (n + 1) * (n + 1 + 3) = n * (n + 3) + (2 * n + 4) := by
      rw [Nat.succ_mul, Nat.mul_add, Nat.mul_add, Nat.mul_add]; omega
    rw [e1] at hk
    obtain ⟨k0, hk0, hk1⟩ : ∃ k0, k = (k0 + n + 1) + 1 ∧ 300 + n * (n + 3) + 1 ≤ k0 := ⟨k - n - 2, by omega, by omega⟩
    subst hk0
    obtain ⟨m, hm, hle, he⟩ := min_loop l out (by omega) (by omega) hs n 0 1 k0 (by omega) (by omega) (by
      intro j hj hm hj1
      have : j = 0 := by omega
      subst this
      rcases leC_total l[0] l[0] with h1 | h1 <;> exact h1) (by omega)
    have hsub : ∀ c ∈ l.take m ++ l.drop (m + 1), c ∈ l := by
      intro c hc
      rcases List.mem_append.1 hc with h1 | h1
      · exact List.mem_of_mem_take h1
      · exact List.mem_of_mem_drop h1
    have hlen : (l.take m ++ l.drop (m + 1)).length = n := by
      rw [List.length_append, List.length_take, List.length_drop]
      omega
    obtain ⟨s, h1, h2, h3⟩ := ih (l.take m ++ l.drop (m + 1)) (out ++ [l[m]]) k0 hlen (by omega) (by rw [List.length_append, List.length_singleton]; omega) (fun c hc => hs c (hsub c hc)) hk1
    refine ⟨l[m] :: s, ?_, ?_, ?_⟩
    · unfold aquiferref26_Order.l1
      have he' : aquiferref26_Order.l2 (k0 + n + 1) l out 0 1 = _ := he
      rw [if_pos (by omega), he', h1, List.append_assoc]
      rfl
    · have hd : l = l.take m ++ l[m] :: l.drop (m + 1) := by
        rw [← List.drop_eq_getElem_cons hm, List.take_append_drop]
      refine (List.Perm.cons l[m] h2).trans ?_
      refine List.Perm.trans ?_ (List.Perm.of_eq hd.symm)
      exact List.perm_middle.symm
    · refine List.Pairwise.cons ?_ h3
      intro c hc
      obtain ⟨j, hj, e⟩ := List.getElem_of_mem (hsub c (h2.mem_iff.1 hc))
      rw [← e]
      exact hle j hj
theorem free_loop (l : List S35) (hn : l.length ≤ 40) (d : Nat) : ∀ (i k : Nat), i + d = l.length → aquiferref26_Order.l0 (k + d + 1) l (freeL (l.take i)) (i : Int) = aquiferref26_Order.l1 k (freeL l) [] := by
  induction d with
  | zero =>
    intro i k h
    unfold aquiferref26_Order.l0
    rw [if_neg (by omega), List.take_of_length_le (by omega)]
  | succ d ih =>
    intro i k h
    have hil : i < l.length := by omega
    have ih' := ih (i + 1) k (by omega)
    have hf : freeL (l.take (i + 1)) = freeL (l.take i) ++ if fixedC l[i] = true then [] else [l[i]] := by
      unfold freeL
      rw [List.take_succ_eq_append_getElem hil, List.filter_append]
      congr 1
      cases hx : fixedC l[i] <;> simp [List.filter, hx]
    have hlen : (freeL (l.take i)).length ≤ 40 := by
      unfold freeL
      have := List.length_filter_le (fun c => !fixedC c) (l.take i)
      rw [List.length_take] at this
      omega
    rw [hf] at ih'
    rw [show k + (d + 1) + 1 = (k + d + 1) + 1 by omega]
    unfold aquiferref26_Order.l0
    rw [if_pos (by omega), if_pos (by omega), rd_at l i hil, wr i (by omega)]
    have hx : fixedC l[i] = (l[i].f3 || l[i].f4) := rfl
    rw [hx] at ih'
    cases h3 : l[i].f3
    · rw [if_neg (by decide)]
      cases h4 : l[i].f4
      · rw [if_neg (by decide), if_pos (by omega)]
        rw [h3, h4] at ih'
        have he : ∀ c : S35, c.f3 = false → c.f4 = false → (⟨c.f0, c.f1, c.f2, false, false⟩ : S35) = c := by
          rintro ⟨_, _, _, _, _⟩ h1 h2
          cases h1
          cases h2
          rfl
        have he := he l[i] h3 h4
        rw [he]
        exact ih'
      · rw [if_pos rfl]
        rw [h3, h4] at ih'
        simpa using ih'
    · rw [if_pos rfl]
      rw [h3] at ih'
      simpa using ih'
theorem free_len (l : List S35) : (freeL l).length ≤ l.length := List.length_filter_le _ _
theorem free_slim {l : List S35} (h : slim l) : slim (freeL l) := fun c hc => h c (List.mem_filter.1 hc).1
theorem reforder (l : List S35) (hn : l.length ≤ 40) (hs : slim l) (k : Nat) (hk : 3000 ≤ k) : aquiferref26_Order.f k l = some (orderS l) := by
  unfold aquiferref26_Order.f orderS
  rw [refcheck l hn k (by omega), Option.bind_some]
  by_cases h0 : checkS l = 0
  · rw [if_pos h0, if_pos h0]
    have hfl := free_len l
    obtain ⟨k0, rfl⟩ : ∃ k0, k = k0 + l.length + 1 := ⟨k - l.length - 1, by omega⟩
    have h1 := free_loop l hn l.length 0 k0 (by omega)
    have hb : (freeL l).length * ((freeL l).length + 3) ≤ 40 * 43 := Nat.mul_le_mul (by omega) (by omega)
    obtain ⟨s, h2, h3, h4⟩ := sel_loop (freeL l).length (freeL l) [] k0 rfl (by omega) (by simp only [List.length_nil]; omega) (free_slim hs) (by omega)
    have ha : Apart35 (freeL l) := List.Pairwise.filter _ (check_apart h0)
    have h5 := sort_one ha h3 h4
    have h1' : aquiferref26_Order.l0 (k0 + l.length + 1) l [] 0 = _ := h1
    rw [h1', h2, h5]
    rfl
  · rw [if_neg h0, if_neg h0]
end Go.Proofs.YtdggdmdefmljlaaDoor.Q

namespace Go.Proofs.YtdggdmdefmljlaaDoor.Q
open Go Go.Proofs Go.Shelf Go.RowKit Go.Lib Go.Sort Go.Proofs.YtdggdmdefmljlaaDoorP Go.Proofs.YtdggdmdefmljlaaDoorK Go.Proofs.YtdggdmdefmljlaaDoorW.PrintWords Go.Proofs.YtdggdmdefmljlaaDoorW.PrintLast Go.Proofs.YtdggdmdefmljlaaDoorW.PrintMore
set_option linter.unusedSimpArgs false
set_option linter.unusedVariables false
/-! ### The document's victims, spare: plain -/
theorem vic_loop (o : List S35) (hn : o.length ≤ 40) (hc : ∀ c ∈ o, 0 ≤ c.f1 ∧ c.f1 ≤ 4096) (q n : Int) (hq : boundB q = true) (h0 : 0 ≤ n) (h1 : n ≤ 4096) (d : Nat) : ∀ (i k : Nat) (t : Int) (out : List ByteArray), i + d = o.length → d < k → out.length ≤ i → -1000000 ≤ t - 4096 * (d : Int) ∧ t ≤ 1000000 → aquiferref26_Victims.l0 k q n o t out (i : Int) = some (out ++ vicGo q (t + n) (o.drop i), 0) := by
  have hq' := (boundB_iff q).1 hq
  have hw : wrap64 (q - n) = q - n := by unfold wrap64; omega
  induction d with
  | zero =>
    intro i k t out h hk _ _
    obtain ⟨k, rfl⟩ : ∃ q, k = q + 1 := ⟨k - 1, by omega⟩
    unfold aquiferref26_Victims.l0
    rw [if_neg (by omega), List.drop_of_length_le (by omega)]
    simp [vicGo]
  | succ d ih =>
    intro i k t out h hk ho ht
    obtain ⟨k, rfl⟩ : ∃ q, k = q + 1 := ⟨k - 1, by omega⟩
    have hi : i < o.length := by omega
    have hci := hc o[i] (List.getElem_mem hi)
    unfold aquiferref26_Victims.l0
    rw [if_pos (by omega), hw, List.drop_eq_getElem_cons hi]
    by_cases h2 : t > q - n
    · have hw2 : wrap64 (t - o[i].f1) = t - o[i].f1 := by unfold wrap64; omega
      rw [if_pos h2, if_pos (by omega), if_pos (by omega), rd_at o i hi, wr i (by omega), hw2, ih (i + 1) k _ _ (by omega) (by omega) (by rw [List.length_append, List.length_singleton]; omega) (by omega), List.append_assoc]
      simp only [vicGo]
      rw [if_neg (by omega), show t - o[i].f1 + n = t + n - o[i].f1 by omega]
      rfl
    · rw [if_neg h2]
      simp only [vicGo]
      rw [if_pos (by omega), List.append_nil]
theorem order_len (l : List S35) : (orderS l).length ≤ l.length := by
  unfold orderS
  split
  · rw [(sortC_perm (freeL l)).length_eq]
    exact free_len l
  · exact Nat.zero_le _
theorem total_small (p : S35 → Bool) (l : List S35) (hn : l.length ≤ 40) (h : checkS l = 0) : 0 ≤ totalS p l ∧ totalS p l ≤ 163840 := by
  obtain ⟨h1, h2⟩ := check_ok h
  have h3 := sumS_range p l 0 (fun c hc => ⟨(h2 c hc).1, (h2 c hc).2.1⟩)
  unfold totalS
  rw [if_pos h]
  omega
theorem refvictims (l : List S35) (hn : l.length ≤ 40) (hs : slim l) (q n : Int) (k : Nat) (hk : 3100 ≤ k) : aquiferref26_Victims.f k l q n = some (victimsS l q n) := by
  obtain ⟨k, rfl⟩ : ∃ j, k = j + 1 := ⟨k - 1, by omega⟩
  have hj : aquiferref26_Victims.j0 (k + 1) l q n true = some (([] : List ByteArray), 2) := by
    unfold aquiferref26_Victims.j0
    rfl
  unfold aquiferref26_Victims.f victimsS
  rw [refcheck l hn (k + 1) (by omega), Option.bind_some]
  by_cases h0 : checkS l = 0
  · rw [if_pos h0, if_neg (show ¬ checkS l ≠ 0 by simp [h0])]
    by_cases hb : boundB q = true
    · have hq := (boundB_iff q).1 hb
      rw [if_neg (show ¬ q < 0 by omega), if_neg (show ¬ q > 4611686018427387904 by omega)]
      by_cases h1 : n < 0
      · rw [if_pos h1, hj, if_pos (.inr (.inl h1))]
      · rw [if_neg h1]
        by_cases h2 : n > 4096
        · rw [decide_eq_true h2, hj, if_pos (.inr (.inr h2))]
        · rw [decide_eq_false h2, if_neg (by rintro (h | h | h)
                                             · rw [hb] at h; exact absurd h (by decide)
                                             · exact h1 h
                                             · exact h2 h)]
          have ht := total_small fixedC l hn h0
          have ht2 := total_small (fun _ => true) l hn h0
          have hw : wrap64 (q - n) = q - n := by unfold wrap64; omega
          have ho := order_len l
          have hv := vic_loop (orderS l) (by omega) (order_mem h0).2 q n hb (by omega) (by omega) (orderS l).length 0 k (totalS (fun _ => true) l) [] (by omega) (by omega) (Nat.zero_le _) (by omega)
          unfold aquiferref26_Victims.j0
          dsimp only
          rw [if_neg Bool.false_ne_true, reffixed l hn k (by omega), Option.bind_some, hw]
          by_cases h3 : totalS fixedC l > q - n
          · rw [if_pos h3, if_pos (by omega)]
          · rw [if_neg h3, if_neg (by omega), reforder l hn hs k (by omega), Option.bind_some, refbytes l hn k (by omega), Option.bind_some]
            simpa using hv
    · have hb' : boundB q = false := by simpa using hb
      rw [if_pos (show boundB q = false ∨ n < 0 ∨ 4096 < n from .inl hb')]
      by_cases h1 : q < 0
      · rw [if_pos h1, hj]
      · rw [if_neg h1, if_pos (by
          rcases Int.lt_or_le 4611686018427387904 q with h2 | h2
          · exact h2
          · exact absurd ((boundB_iff q).2 (by omega)) hb), hj]
  · rw [if_neg h0, if_pos h0]
theorem refspare (l : List S35) (hn : l.length ≤ 40) (q : Int) (k : Nat) (hk : 3100 ≤ k) : aquiferref26_Spare.f k l q = some (spareS l q) := by
  obtain ⟨k, rfl⟩ : ∃ j, k = j + 1 := ⟨k - 1, by omega⟩
  have hj : aquiferref26_Spare.j0 (k + 1) l q true = some 0 := by
    unfold aquiferref26_Spare.j0
    rfl
  unfold aquiferref26_Spare.f spareS
  rw [refcheck l hn (k + 1) (by omega), Option.bind_some]
  by_cases h0 : checkS l = 0
  · rw [if_pos h0]
    by_cases hb : boundB q = true
    · have hq := (boundB_iff q).1 hb
      have ht := total_small fixedC l hn h0
      rw [if_neg (show ¬ q < 0 by omega), if_neg (show ¬ q > 4611686018427387904 by omega), reffixed l hn (k + 1) (by omega), Option.bind_some, if_neg (show ¬ (checkS l ≠ 0 ∨ boundB q = false) by simp [h0, hb])]
      by_cases h1 : q ≤ totalS fixedC l
      · rw [decide_eq_true h1, hj, if_pos h1]
      · have hw : wrap64 (q - totalS fixedC l) = q - totalS fixedC l := by unfold wrap64; omega
        rw [decide_eq_false h1, if_neg h1]
        unfold aquiferref26_Spare.j0
        dsimp only
        rw [if_neg Bool.false_ne_true, reffixed l hn k (by omega), Option.bind_some, Option.bind_some, hw]
        by_cases h2 : q - totalS fixedC l > 4096
        · rw [if_pos h2, if_pos h2]
        · rw [if_neg h2, if_neg h2]
    · have hb' : boundB q = false := by simpa using hb
      rw [if_pos (show checkS l ≠ 0 ∨ boundB q = false from .inr hb')]
      by_cases h1 : q < 0
      · rw [if_pos h1, hj]
      · rw [if_neg h1, if_pos (by
          rcases Int.lt_or_le 4611686018427387904 q with h2 | h2
          · exact h2
          · exact absurd ((boundB_iff q).2 (by omega)) hb), hj]
  · rw [if_neg h0, if_pos (show checkS l ≠ 0 ∨ boundB q = false from .inl h0), hj]
end Go.Proofs.YtdggdmdefmljlaaDoor.Q

namespace Go.Proofs.YtdggdmdefmljlaaDoor.Q
open Go Go.Proofs Go.Shelf Go.RowKit Go.Lib Go.Sort Go.Proofs.YtdggdmdefmljlaaDoorP Go.Proofs.YtdggdmdefmljlaaDoorK Go.Proofs.YtdggdmdefmljlaaDoorW.PrintWords Go.Proofs.YtdggdmdefmljlaaDoorW.PrintLast Go.Proofs.YtdggdmdefmljlaaDoorW.PrintMore
set_option linter.unusedSimpArgs false
set_option linter.unusedVariables false
theorem vicGo_len (q : Int) : ∀ (l : List S35) (m : Int), (vicGo q m l).length ≤ l.length
  | [], m => by simp [vicGo]
  | c :: l, m => by
    have := vicGo_len q l (m - c.f1)
    simp only [vicGo]
    split
    · exact Nat.zero_le _
    · simp only [List.length_cons]; omega
theorem victims_len (l : List S35) (hn : l.length ≤ 40) (q n : Int) : (victimsS l q n).1.length ≤ 40 := by
  unfold victimsS
  split
  · exact Nat.zero_le _
  · split
    · exact Nat.zero_le _
    · split
      · exact Nat.zero_le _
      · have h1 := vicGo_len q (orderS l) (totalS (fun _ => true) l + n)
        have h2 := order_len l
        show (vicGo q (totalS (fun _ => true) l + n) (orderS l)).length ≤ 40
        omega
theorem LruVictims_pure (l0 : List S35) (a1 a2 : Int) (_h0 : l0.length * 40 ≤ 140737488351232) (_g0 : ∀ a ∈ l0, good35 a) (_h1 : (Lit.int .i64 a1).wf = true) (_h2 : (Lit.int .i64 a2).wf = true) : ∃ k, aquiferlaw26_LruVictims.f k l0 a1 a2 = some true := by
  refine ⟨4000, ?_⟩
  have hs := few_short l0
  have hn := few_len l0
  have hsl := few_slim l0
  unfold aquiferlaw26_LruVictims.f
  rw [few_fn l0 4000 (by decide), Option.bind_some]
  generalize fewL l0 = l at hs hn hsl
  have hv := victims_len l hn a1 a2
  rw [victims_fn hs, Option.bind_some, refvictims l hn hsl a1 a2 4000 (by decide), Option.bind_some, reftexts _ (by omega) 4000 (by omega), Option.bind_some, if_pos rfl, if_pos rfl, spare_fn hs, Option.bind_some, refspare l hn a1 4000 (by decide), Option.bind_some, if_pos rfl, works_fn]
  rfl
end Go.Proofs.YtdggdmdefmljlaaDoor.Q

namespace Go.Proofs.YtdggdmdefmljlaaDoor.lruVictims
open Go.ChangeShapes Go.WideShapes Go.ChangeAt Go.RowKit Go.Proofs.YtdggdmdefmljlaaDoorK Go.Proofs.YtdggdmdefmljlaaDoorW.PrintWords Go.Proofs.YtdggdmdefmljlaaDoor.Q
open Go.ChangeMaps (open_string shut_string)
set_option linter.unusedVariables false
theorem own : ownKnob Tryd.prog.godebug = none := by kernel_rfl
theorem laidOut : laidOutB Tryd.prog = true := by kernel_rfl
set_option maxRecDepth 100000 in
theorem lifted (os : Os) (started : os.Started) (H : Type) (enc : TypeId × Value → H) :
    ReturnsInHanded {} Tryd.checked os 6 .any (fun w args => (Rows.lruVictimsSpec.pre enc Tryd.prog Tryd.f6 Rows.lruVictimsRow.domain false w args ∧ laidMetH Tryd.prog Rows.lruVictimsRow.laid w) ∧ sizedMet enc Tryd.prog Tryd.f6 (OpenSpec.ofChange Rows.lruVictimsSpec) false w args) (Rows.lruVictimsSpec.post enc Tryd.prog Tryd.f6 false true false false) := by
  refine returnsInHanded_of_change_and (C := Tryd.checked) (X := fun w _ => laidMetH Tryd.prog Rows.lruVictimsRow.laid w) (fun _ _ _ hh h => h.of_heap hh) own started (by kernel_rfl) Tryd.func6
    (ChangeSpec.witness_shaped (enc := enc) (C := Tryd.checked) (os := os) (X := fun w _ => laidMetH Tryd.prog Rows.lruVictimsRow.laid w) false (World.laidAll Tryd.prog os Rows.lruVictimsRow.laid) #[.slice none 0 0, .int .i64 0, .int .i64 0] 8 (World.laidAll_os _ _ _)
      (World.shaped_of_ZipB (by kernel_rfl) (by kernel_rfl)) (by kernel_rfl) (by kernel_rfl) (by kernel_rfl)
      (by rw [MakeChecks.laidMetH_plain _ _ _ (by kernel_rfl)]; exact laidMet_laidAll _ (by kernel_rfl) (by kernel_rfl))) ?_
  intro W base args ds gs before hval0 hW hcnd hsz0 _ _
  have hsz : (DataW.weightsEach Tryd.prog (Tryd.f6.params.toList ++ Rows.lruVictimsSpec.plain.varTypes Tryd.prog) (ds ++ gs)).all (· ≤ reachBytes) = true := hsz0
  have hval : ∀ (j : Nat) t v, Tryd.f6.params[j]? = some t → args[j]? = some v → Value.okWide Tryd.prog W .any base t v := hval0
  have hW' := hW
  obtain ⟨p, q, hA0, hV, rfl, hfz, hnd⟩ := hW
  have hA : DataW.TrodAll enc Tryd.prog W 0 (fun _ => true) true Tryd.f6.params.toList args.toList ds p := hA0
  rw [Tryd.params6] at hA hval hsz
  obtain ⟨v0, vs0, d0, ds0, p0, q0, hargs, rfl, rfl, h0, r0⟩ := trodAll_cons hA
  obtain ⟨v1, vs1, d1, ds1, p1, q1, rfl, rfl, rfl, h1, r1⟩ := trodAll_cons r0
  obtain ⟨v2, vs2, d2, ds2, p2, q2, rfl, rfl, rfl, h2, r2⟩ := trodAll_cons r1
  obtain ⟨rfl, rfl, rfl⟩ := trodAll_nil r2
  obtain rfl : args = #[v0, v1, v2] := by cases args; simp_all
  obtain ⟨rfl, rfl⟩ := trodVars_none hV
  obtain ⟨a0, len0, cap0, rfl⟩ := okWide_slice Tryd.underlying22 (hval 0 22 v0 rfl rfl)
  have k0 := h0
  have lt0 : ∀ x ∈ p0, x.block < W.heap.size := by obtain ⟨m, hm⟩ := k0; exact DataW.trod_lt m _ _ _ hm
  have y0 : len0 * 40 ≤ 140737488351232 := sized_row hsz (j := 0) (t := 22) rfl rfl Tryd.underlying22 (by kernel_rfl) h0
  obtain ⟨l0, ⟨A0, c0, he0, hl0, hC0⟩, _, hG0⟩ : ∃ l, (Kd.slice 35 k35).K W l [.slice a0 len0 cap0] ∧ l.length ≤ 9223372036854775807 ∧ ∀ a ∈ l, good35 a := by
    obtain ⟨fuel, hf⟩ := h0
    exact (opens_slice (e := 35) Tryd.underlying22 (by kernel_rfl) opens35) _ _ _ _ _ _ _ _ _ hf
  simp only [List.cons.injEq, Value.slice.injEq, and_true] at he0
  obtain ⟨rfl, rfl, rfl⟩ := he0
  obtain ⟨a1, rfl, rfl, rfl, w1⟩ := open_int Tryd.underlying3 (hval 1 3 v1 rfl rfl) h1
  obtain ⟨a2, rfl, rfl, rfl, w2⟩ := open_int Tryd.underlying3 (hval 2 3 v2 rfl rfl) h2
  clear hA0 hval0 hsz0 hsz
  obtain ⟨k, hP⟩ := LruVictims_pure l0 a1 a2 y0 hG0 w1 w2
  refine (aquiferlaw26_LruVictims.calls k _ _ l0 a1 a2 true W hC0 hl0 hP).mono fun e W' he0 => ?_
  obtain ⟨rfl, bel0⟩ := he0
  have bel : Below W.heap.size W W' := bel0
  exact ⟨_, rfl, _, _, _, [], _, [], hW', trodAll_mk1 (shut_bool Tryd.underlying4 _), (trodAll_cons_mk (Below.trod laidOut (by kernel_rfl) (of_decide_eq_true (by kernel_rfl)) k0 bel lt0) (trodAll_cons_mk (shut_int Tryd.underlying3 w1) (trodAll_cons_mk (shut_int Tryd.underlying3 w2) trodAll_mk0))), rfl, bel.frame _, fun h => by cases h⟩
theorem over : Rows.lruVictimsRow.holds Tryd.pinned (OpenSpec.ofChange Rows.lruVictimsSpec) :=
  OpenClaim.holds_of_wide 6 Tryd.f6 rfl rfl rfl rfl rfl rfl rfl ⟨rfl, rfl, rfl, rfl, rfl⟩ rfl rfl rfl rfl rfl (by kernel_rfl) Tryd.func6 (by kernel_rfl)
    (of_decide_eq_true (by kernel_rfl)) (by unfold Func.isWrapper; first | (rw [if_pos (by decide +kernel)]; kernel_rfl) | (rw [if_neg (by decide +kernel)]; exact ⟨rfl, rfl⟩))
    (fun os started H enc _ => lifted os started H enc)
theorem card : Rows.LruVictimsCardSaid :=
  Claim7.holds_tied_plain_at .later [] [.data, .pinned] true (true, "ed3517321f6b201d801f28c50cabd34698d0c30173b98f1f6a6ddb8340a2a237") false over (fun _ h => by cases h) (by kernel_rfl) (fun _ h => by cases h) lruVictims_row_tie rfl ⟨rfl, rfl⟩ (by kernel_rfl) rfl
    (fun f fn hf hfn => by
      obtain rfl : f = 6 := Option.some.inj ((show Tryd.prog.funcNamed "aquifer/aquiferlaw26.LruVictims" = some 6 by kernel_rfl).symm.trans hf) |>.symm
      obtain rfl : fn = Tryd.f6 := (Option.some.inj (Tryd.func6.symm.trans hfn)).symm
      exact ⟨by kernel_rfl, fun j t ht => by
        rw [Tryd.params6] at ht
        have hm : t ∈ [22, 3, 3] := by simpa using Array.mem_of_getElem? ht
        have hall : ([22, 3, 3].all fun u => !Tryd.prog.wantsStandIn u) = true := by kernel_rfl
        exact (show Tryd.prog.wantsStandIn t = false by simpa using List.all_eq_true.1 hall t hm)⟩)
    (by kernel_rfl)
theorem proved : Rows.LruVictimsCardSaid := card
#print axioms proved
end Go.Proofs.YtdggdmdefmljlaaDoor.lruVictims
namespace Go.Proofs.YtdggdmdefmljlaaDoor
/-- The card, under a short name, for the claim. -/
theorem lruVictims_holds : Rows.LruVictimsCardSaid := lruVictims.proved
end Go.Proofs.YtdggdmdefmljlaaDoor
