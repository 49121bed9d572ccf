/- Parts of the proof: Q26, PMay, PL, KG, Q9, Q10, Q11, Q12, Q19, Q22, PRef05, Q13, Q14, Q15, PRefK, Q16. -/
import Derived.Test.YtkflalaocnghcaaDoorZG1
namespace Go.Proofs.YtkflalaocnghcaaDoor.Q
open Go.RowKit Go.Proofs.YtkflalaocnghcaaDoorW.PrintWords Go.Proofs.YtkflalaocnghcaaDoorW.PrintLast Go.Proofs.YtkflalaocnghcaaDoorW.PrintMore Go.Proofs.YtkflalaocnghcaaDoorK
attribute [local go_sem] max2_int min2_int max_two min_two max_three min_three max_four min_four   -- for this text's walks alone
attribute [local go_sem ↓] Go.Proofs.YtkflalaocnghcaaDoorK.isSome_setCell
set_option linter.unusedVariables false
set_option linter.unusedSimpArgs false

/-! ### scope_Meet: function 22 -/
mutual
def scope_Meet.j0 : Nat → List ByteArray → List ByteArray → Bool → Option (List ByteArray)
  | 0, _, _, _ => none
  | k + 1, x0, x1, x17 => if x17 = true then (some ([] : List ByteArray)) else (scope_Meet.l0 k x1 ([] : List ByteArray) x0 (x0.length : Int) 0)
def scope_Meet.l0 : Nat → List ByteArray → List ByteArray → List ByteArray → Int → Int → Option (List ByteArray)
  | 0, _, _, _, _, _ => none
  | k + 1, x1, x5, x18, x19, x20 => if x20 < x19 then (if 0 ≤ x20 then (if x20 < (x18.length : Int) then (scope_Meet.l1 k x1 x5 (rdOf ByteArray.empty x18 x20) x18 x19 x20 x1 (x1.length : Int) 0) else (none)) else (none)) else ((scope_reduce.f x5).bind fun t195 => (some t195))
def scope_Meet.l1 : Nat → List ByteArray → List ByteArray → ByteArray → List ByteArray → Int → Int → List ByteArray → Int → Int → Option (List ByteArray)
  | 0, _, _, _, _, _, _, _, _, _ => none
  | k + 1, x1, x5, x7, x18, x19, x20, x24, x25, x26 => if x26 < x25 then (if 0 ≤ x26 then (if x26 < (x24.length : Int) then ((scope_within.f x7 (rdOf ByteArray.empty x24 x26)).bind fun t200 => (if t200 = true then (if x5.length < 8796093022208 then (scope_Meet.l1 k x1 (x5 ++ [rdOf ByteArray.empty x24 x26]) x7 x18 x19 x20 x24 x25 (wrap64 (x26 + 1))) else (none)) else ((scope_within.f (rdOf ByteArray.empty x24 x26) x7).bind fun t204 => (if t204 = true then (if x5.length < 8796093022208 then (scope_Meet.l1 k x1 (x5 ++ [x7]) x7 x18 x19 x20 x24 x25 (wrap64 (x26 + 1))) else (none)) else (scope_Meet.l1 k x1 x5 x7 x18 x19 x20 x24 x25 (wrap64 (x26 + 1))))))) else (none)) else (none)) else (scope_Meet.l0 k x1 x5 x18 x19 (wrap64 (x20 + 1)))
end
def scope_Meet.f (k : Nat) (l0 : List ByteArray) (l1 : List ByteArray) : Option (List ByteArray) := (scope_May.f k l0).bind fun t193 => (if t193 = true then ((scope_May.f k l1).bind fun t194 => (scope_Meet.j0 k l0 l1 (!t194))) else (scope_Meet.j0 k l0 l1 true))
theorem scope_Meet.mono_l : ∀ k, (∀ y0 y1 y2, LeO (scope_Meet.j0 k y0 y1 y2) (scope_Meet.j0 (k + 1) y0 y1 y2)) ∧ (∀ y0 y1 y2 y3 y4, LeO (scope_Meet.l0 k y0 y1 y2 y3 y4) (scope_Meet.l0 (k + 1) y0 y1 y2 y3 y4)) ∧ (∀ y0 y1 y2 y3 y4 y5 y6 y7 y8, LeO (scope_Meet.l1 k y0 y1 y2 y3 y4 y5 y6 y7 y8) (scope_Meet.l1 (k + 1) y0 y1 y2 y3 y4 y5 y6 y7 y8))
  | 0 => ⟨fun _ _ _ r h => by simp [scope_Meet.j0] at h, fun _ _ _ _ _ r h => by simp [scope_Meet.l0] at h, fun _ _ _ _ _ _ _ _ _ r h => by simp [scope_Meet.l1] at h⟩
  | k + 1 => by
    obtain ⟨ih0, ih1, ih2⟩ := scope_Meet.mono_l k
    refine ⟨?_, ?_, ?_⟩
    · intro y0 y1 y2
      unfold scope_Meet.j0
      repeat' first
      | (with_reducible exact ih0 _ _ _)
      | (with_reducible exact ih1 _ _ _ _ _)
      | (with_reducible exact ih2 _ _ _ _ _ _ _ _ _)
      | (with_reducible exact scope_May.mono _ _)
      | (with_reducible exact LeO.refl _)
      | (with_reducible exact LeO.none _)
      | (with_reducible refine LeO.ite ?_ ?_)
      | (with_reducible refine LeO.bind ?_ (fun _ => ?_))
      | exact ih0 _ _ _
      | exact ih1 _ _ _ _ _
      | exact ih2 _ _ _ _ _ _ _ _ _
      | exact scope_May.mono _ _
      | exact LeO.none _
      | refine LeO.ite ?_ ?_
      | refine LeO.bind ?_ (fun _ => ?_)
    · intro y0 y1 y2 y3 y4
      unfold scope_Meet.l0
      repeat' first
      | (with_reducible exact ih0 _ _ _)
      | (with_reducible exact ih1 _ _ _ _ _)
      | (with_reducible exact ih2 _ _ _ _ _ _ _ _ _)
      | (with_reducible exact scope_May.mono _ _)
      | (with_reducible exact LeO.refl _)
      | (with_reducible exact LeO.none _)
      | (with_reducible refine LeO.ite ?_ ?_)
      | (with_reducible refine LeO.bind ?_ (fun _ => ?_))
      | exact ih0 _ _ _
      | exact ih1 _ _ _ _ _
      | exact ih2 _ _ _ _ _ _ _ _ _
      | exact scope_May.mono _ _
      | exact LeO.none _
      | refine LeO.ite ?_ ?_
      | refine LeO.bind ?_ (fun _ => ?_)
    · intro y0 y1 y2 y3 y4 y5 y6 y7 y8
      unfold scope_Meet.l1
      repeat' first
      | (with_reducible exact ih0 _ _ _)
      | (with_reducible exact ih1 _ _ _ _ _)
      | (with_reducible exact ih2 _ _ _ _ _ _ _ _ _)
      | (with_reducible exact scope_May.mono _ _)
      | (with_reducible exact LeO.refl _)
      | (with_reducible exact LeO.none _)
      | (with_reducible refine LeO.ite ?_ ?_)
      | (with_reducible refine LeO.bind ?_ (fun _ => ?_))
      | exact ih0 _ _ _
      | exact ih1 _ _ _ _ _
      | exact ih2 _ _ _ _ _ _ _ _ _
      | exact scope_May.mono _ _
      | exact LeO.none _
      | refine LeO.ite ?_ ?_
      | refine LeO.bind ?_ (fun _ => ?_)
theorem scope_Meet.mono : ∀ a0 a1 k, LeO (scope_Meet.f k a0 a1) (scope_Meet.f (k + 1) a0 a1) := by
  intro a0 a1 k
  obtain ⟨ih0, ih1, ih2⟩ := scope_Meet.mono_l k
  unfold scope_Meet.f
  repeat' first
      | (with_reducible exact ih0 _ _ _)
      | (with_reducible exact ih1 _ _ _ _ _)
      | (with_reducible exact ih2 _ _ _ _ _ _ _ _ _)
      | (with_reducible exact scope_May.mono _ _)
      | (with_reducible exact LeO.refl _)
      | (with_reducible exact LeO.none _)
      | (with_reducible refine LeO.ite ?_ ?_)
      | (with_reducible refine LeO.bind ?_ (fun _ => ?_))
      | exact ih0 _ _ _
      | exact ih1 _ _ _ _ _
      | exact ih2 _ _ _ _ _ _ _ _ _
      | exact scope_May.mono _ _
      | exact LeO.none _
      | refine LeO.ite ?_ ?_
      | refine LeO.bind ?_ (fun _ => ?_)
set_option maxHeartbeats 8000000 in
set_option maxRecDepth 100000 in
theorem scope_Meet.calls (k : Nat) (A0 : Option Addr) (c0 : Nat) (l0 : List ByteArray) (A1 : Option Addr) (c1 : Nat) (l1 : List ByteArray) (r : List ByteArray) (w : World) (hr0 : Kd.C Kd.string w A0 l0.length l0) (hc0 : l0.length ≤ c0) (hr1 : Kd.C Kd.string w A1 l1.length l1) (hc1 : l1.length ≤ c1) (h : scope_Meet.f k l0 l1 = some r) :
    Calls Tryd.prog 22 #[.slice A0 l0.length c0, .slice A1 l1.length c1] w fun e w' => ∃ v0_ : Value, e = .returned (v0_) ∧ SR Kd.string 9 w' w.heap.size (fun _ => True) v0_ r ∧ Below w.heap.size w w' := by
  have HR0 := Aside0.mk hr0
  have HC0 := Aside0.mk hc0
  clear hr0 hc0
  have HR1 := Aside0.mk hr1
  have HC1 := Aside0.mk hc1
  clear hr1 hc1
  have HB := Aside0.mk (Below.refl w.heap.size w)
  have H : ((scope_May.f k l0).bind fun t193 => (if t193 = true then ((scope_May.f k l1).bind fun t194 => (scope_Meet.j0 k l0 l1 (!t194))) else (scope_Meet.j0 k l0 l1 true))) = some r := h
  clear h
  have HC3 := Aside0.mk H
  clear H
  go_enter Tryd.func22, Tryd.ntmps22
  go_upto_region 1 with (fail)
  go_cut [17] (fun v17 wc => ∃ (kq : Nat) (x17_2 : Bool), v17 = .bool x17_2 ∧ Aside0 (scope_Meet.j0 kq l0 l1 x17_2 = some r) ∧ Aside0 (kq ≤ k) ∧ Aside0 (Below w.heap.size w wc))
  case first =>
    have H := HC3.out
    clear HC3
    replace H := Option.bind_eq_some_iff.mp H
    obtain ⟨t193, A40, H⟩ := H
    replace H : (if t193 = true then ((scope_May.f k l1).bind fun t194 => (scope_Meet.j0 k l0 l1 (!t194))) else (scope_Meet.j0 k l0 l1 true)) = some r := H
    have A4 := Aside0.mk A40
    clear A40
    by_cases c5 : t193 = true
    · subst c5
      have H1 : ((scope_May.f k l1).bind fun t194 => (scope_Meet.j0 k l0 l1 (!t194))) = some r := by rw [if_pos rfl] at H; exact H
      clear H
      have H := H1
      clear H1
      replace H := Option.bind_eq_some_iff.mp H
      obtain ⟨t194, A60, H⟩ := H
      replace H : (scope_Meet.j0 k l0 l1 (!t194)) = some r := H
      have A6 := Aside0.mk A60
      clear A60
      have H' := Aside0.mk H
      clear H
      go_wp2_with (first | ((with_reducible refine gate_callee (f := 13) rfl ?_); refine goesL_ (some 11) rfl rfl Tryd.func13 (by kernel_rfl) rfl #[.slice A0 l0.length c0] rfl (by (try simp only [List.map_toArray, List.map_cons, List.map_nil]); first | done | rfl | (simp only [List.length_drop, List.length_take]; rfl)) ?_; (with_reducible refine (scope_May.calls k _ _ l0 true _ ?side1 ?side2 A4.out).mono ?_); (case side1 => exact CU (Kd.C_below HR0.out HB.out)); (case side2 => exact HC0.out); rintro e w7 ⟨rfl, hb⟩; refine ⟨_, rfl, ?_⟩; have n0_ := Aside0.mk (below_step (belU HB.out) hb); clear HB; have HB := n0_; clear n0_; (try clear hb); (try clear hb2); (try clear hk); (try clear hi)) | (go_at_call 13; (with_reducible refine (scope_May.calls k _ _ l1 t194 _ ?side1 ?side2 A6.out).mono ?_); (case side1 => exact CU (Kd.C_below HR1.out HB.out)); (case side2 => exact HC1.out); rintro e w8 ⟨rfl, hb⟩; have n0_ := Aside0.mk (below_step (belU HB.out) hb); clear HB; have HB := n0_; clear n0_; (try clear hb); (try clear hb2); (try clear hk); (try clear hi)))
      go_meet
      case rel => exact ⟨_, (!t194), (by first | rfl | (simp; done) | (simp [*]; done)), H', ⟨by first | omega | exact Nat.le_refl _⟩, ⟨belU HB.out⟩⟩
    · replace c5 := Bool.eq_false_iff.mpr c5
      subst c5
      have H1 : (scope_Meet.j0 k l0 l1 true) = some r := by rw [if_neg (show ¬ (false = true) by decide)] at H; exact H
      clear H
      have H := H1
      clear H1
      have H' := Aside0.mk H
      clear H
      go_wp2_with (first | ((with_reducible refine gate_callee (f := 13) rfl ?_); refine goesL_ (some 11) rfl rfl Tryd.func13 (by kernel_rfl) rfl #[.slice A0 l0.length c0] rfl (by (try simp only [List.map_toArray, List.map_cons, List.map_nil]); first | done | rfl | (simp only [List.length_drop, List.length_take]; rfl)) ?_; (with_reducible refine (scope_May.calls k _ _ l0 false _ ?side1 ?side2 A4.out).mono ?_); (case side1 => exact CU (Kd.C_below HR0.out HB.out)); (case side2 => exact HC0.out); rintro e w9 ⟨rfl, hb⟩; refine ⟨_, rfl, ?_⟩; have n0_ := Aside0.mk (below_step (belU HB.out) hb); clear HB; have HB := n0_; clear n0_; (try clear hb); (try clear hb2); (try clear hk); (try clear hi)))
      go_meet
      case rel => exact ⟨_, (true), (by first | rfl | (simp; done) | (simp [*]; done)), H', ⟨by first | omega | exact Nat.le_refl _⟩, ⟨belU HB.out⟩⟩
  case rest =>
    clear HC3
    try clear c1
    try clear c2
    try clear p2
    try clear c5
    obtain ⟨kq, x17_2, rfl, HA, HJ2, HB⟩ := hcut
    cases kq with
    | zero => exact absurd HA.out (by simp [scope_Meet.j0])
    | succ kj2 =>
      have H := HA.out
      clear HA
      simp only [scope_Meet.j0] at H
      by_cases c10 : x17_2 = true
      · subst c10
        have H1 : (some ([] : List ByteArray)) = some r := by rw [if_pos rfl] at H; exact H
        clear H
        have H := H1
        clear H1
        obtain rfl := Option.some.inj H
        go_wp2
        go_ret
        exact ⟨_, by first | rfl | (simp [errW_none, errW_some] <;> rfl) | (simp [*, errW_none, errW_some] <;> rfl), by first | exact SR_nil _ _ _ _ _ | exact Kd.N_nil _ _ _ _ _ | exact Kd.V_nil _ _ _ _ _ | exact Kd.Q_nil _ _ _ _ _ | exact Kd.S_nil _ _ _ _ _, belU HB.out⟩
      · replace c10 := Bool.eq_false_iff.mpr c10
        subst c10
        have H1 : (scope_Meet.l0 kj2 l1 ([] : List ByteArray) l0 (l0.length : Int) 0) = some r := by rw [if_neg (show ¬ (false = true) by decide)] at H; exact H
        clear H
        have H := H1
        clear H1
        have H' := Aside0.mk H
        clear H
        go_wp2
        go_loopg [5, 20] kj2 (fun kq v5 v20 w' => ∃ (x5_2 : List ByteArray) (x20_2 : Int), v20 = .int .i64 x20_2 ∧ Aside0 (scope_Meet.l0 kq l1 x5_2 l0 (l0.length : Int) x20_2 = some r) ∧ Aside0 (kq ≤ kj2) ∧ Aside0 (Kd.R Kd.string 9 w' w.heap.size (fun _ => True) v5 x5_2) ∧ Aside0 (Below w.heap.size w w'))
        case atStart => exact ⟨(([] : List ByteArray)), (0), (by first | rfl | (simp; done) | (simp [*]; done)), H', ⟨Nat.le_refl _⟩, ⟨by first | exact Kd.R_nil _ _ _ _ _ | exact Kd.N_nil _ _ _ _ _ | exact Kd.V_nil _ _ _ _ _ | exact Kd.Q_nil _ _ _ _ _ | exact Kd.S_nil _ _ _ _ _⟩, ⟨belU HB.out⟩⟩
        case round =>
          clear H'
          try clear c1
          try clear c2
          try clear p2
          try clear c5
          try clear c10
          try clear p2
          obtain ⟨x5_2, x20_2, rfl, HA, HK2, HO_5, HB⟩ := hrel
          cases gk with
          | zero => exact absurd HA.out (by simp [scope_Meet.l0])
          | succ k2 =>
            have H := HA.out
            clear HA
            simp only [scope_Meet.l0] at H
            by_cases c11 : x20_2 < (l0.length : Int)
            · rw [if_pos c11] at H
              have c11b0 : decide (x20_2 < (l0.length : Int)) = true := decide_eq_true c11
              clear c11
              by_cases c12 : 0 ≤ x20_2
              · rw [if_pos c12] at H
                have c12b0 : decide (0 ≤ x20_2) = true := decide_eq_true c12
                clear c12
                by_cases c13 : x20_2 < (l0.length : Int)
                · rw [if_pos c13] at H
                  have c13b0 : decide (x20_2 < (l0.length : Int)) = true := decide_eq_true c13
                  clear c13
                  have H' := Aside0.mk H
                  clear H
                  have p198 : 0 ≤ (x20_2 : Int) := of_decide_eq_true (by first | (with_reducible assumption) | assumption)
                  have q198 : x20_2 < (l0.length : Int) := of_decide_eq_true (by first | (with_reducible assumption) | assumption)
                  obtain ⟨ad198, e198, hx198_0⟩ := Kd.at_string HR0.out x20_2 p198 q198
                  cases e198
                  replace hx198_0 := (HB.out.cell (World.block_lt_of_cell? w _ hx198_0)).trans hx198_0
                  replace p198 := eq_true p198
                  replace q198 := eq_true q198
                  go_wp2
                  go_loopg [5, 26] k2 (fun kq v5 v26 w' => ∃ (x5_3 : List ByteArray) (x26_3 : Int), v26 = .int .i64 x26_3 ∧ Aside0 (scope_Meet.l1 kq l1 x5_3 (rdOf ByteArray.empty l0 x20_2) l0 (l0.length : Int) x20_2 l1 (l1.length : Int) x26_3 = some r) ∧ Aside0 (kq ≤ k2) ∧ Aside0 (Kd.R Kd.string 9 w' w.heap.size (fun _ => True) v5 x5_3) ∧ Aside0 (Below w.heap.size w w'))
                  case atStart => exact ⟨(x5_2), (0), (by first | rfl | (simp; done) | (simp [*]; done)), H', ⟨Nat.le_refl _⟩, ⟨RU HO_5.out⟩, ⟨belU HB.out⟩⟩
                  case round =>
                    clear H'
                    try clear c1
                    try clear p1
                    try clear q1
                    try clear hx1
                    try clear c2
                    try clear p2
                    try clear c5
                    try clear c10
                    try clear c11
                    try clear c11b0
                    try clear c12
                    try clear c12b0
                    try clear c13
                    try clear c13b0
                    try clear hx198_0
                    try clear p198
                    try clear p2
                    try clear q198
                    obtain ⟨x5_3, x26_3, rfl, HA, HK3, HO_5, HB⟩ := hrel
                    cases gk with
                    | zero => exact absurd HA.out (by simp [scope_Meet.l1])
                    | succ k3 =>
                      have H := HA.out
                      clear HA
                      simp only [scope_Meet.l1] at H
                      by_cases c14 : x26_3 < (l1.length : Int)
                      · rw [if_pos c14] at H
                        have c14b0 : decide (x26_3 < (l1.length : Int)) = true := decide_eq_true c14
                        clear c14
                        by_cases c15 : 0 ≤ x26_3
                        · rw [if_pos c15] at H
                          have c15b0 : decide (0 ≤ x26_3) = true := decide_eq_true c15
                          clear c15
                          by_cases c16 : x26_3 < (l1.length : Int)
                          · rw [if_pos c16] at H
                            have c16b0 : decide (x26_3 < (l1.length : Int)) = true := decide_eq_true c16
                            clear c16
                            replace H := Option.bind_eq_some_iff.mp H
                            obtain ⟨t200, A170, H⟩ := H
                            replace H : (if t200 = true then (if x5_3.length < 8796093022208 then (scope_Meet.l1 k3 l1 (x5_3 ++ [rdOf ByteArray.empty l1 x26_3]) (rdOf ByteArray.empty l0 x20_2) l0 (l0.length : Int) x20_2 l1 (l1.length : Int) (wrap64 (x26_3 + 1))) else (none)) else ((scope_within.f (rdOf ByteArray.empty l1 x26_3) (rdOf ByteArray.empty l0 x20_2)).bind fun t204 => (if t204 = true then (if x5_3.length < 8796093022208 then (scope_Meet.l1 k3 l1 (x5_3 ++ [(rdOf ByteArray.empty l0 x20_2)]) (rdOf ByteArray.empty l0 x20_2) l0 (l0.length : Int) x20_2 l1 (l1.length : Int) (wrap64 (x26_3 + 1))) else (none)) else (scope_Meet.l1 k3 l1 x5_3 (rdOf ByteArray.empty l0 x20_2) l0 (l0.length : Int) x20_2 l1 (l1.length : Int) (wrap64 (x26_3 + 1)))))) = some r := H
                            have A17 := Aside0.mk A170
                            clear A170
                            by_cases c18 : t200 = true
                            · subst c18
                              have H1 : (if x5_3.length < 8796093022208 then (scope_Meet.l1 k3 l1 (x5_3 ++ [rdOf ByteArray.empty l1 x26_3]) (rdOf ByteArray.empty l0 x20_2) l0 (l0.length : Int) x20_2 l1 (l1.length : Int) (wrap64 (x26_3 + 1))) else (none)) = some r := by rw [if_pos rfl] at H; exact H
                              clear H
                              have H := H1
                              clear H1
                              by_cases c19 : x5_3.length < 8796093022208
                              · rw [if_pos c19] at H
                                have LMc19 := Aside0.mk c19
                                clear c19
                                obtain ⟨y201, hy201⟩ : ∃ y_ : List ByteArray, y_ = (x5_3 ++ [rdOf ByteArray.empty l1 x26_3]) := ⟨_, rfl⟩
                                replace H : (scope_Meet.l1 k3 l1 y201 (rdOf ByteArray.empty l0 x20_2) l0 (l0.length : Int) x20_2 l1 (l1.length : Int) (wrap64 (x26_3 + 1))) = some r := by first | (rw [hy201]; with_reducible exact H) | (have H2_ := (Option.bind_some _ _).symm.trans H; rw [hy201]; with_reducible exact H2_) | (have H2_ := (Option.bind_some _ _).symm.trans H; with_reducible exact H2_) | with_reducible exact H | (rw [hy201]; exact H) | exact H
                                have Ny201 := Aside0.mk hy201
                                clear hy201
                                have H' := Aside0.mk H
                                clear H
                                have p199 : 0 ≤ (x26_3 : Int) := of_decide_eq_true (by first | (with_reducible assumption) | assumption)
                                have q199 : x26_3 < (l1.length : Int) := of_decide_eq_true (by first | (with_reducible assumption) | assumption)
                                obtain ⟨ad199, e199, hx199_0⟩ := Kd.at_string HR1.out x26_3 p199 q199
                                cases e199
                                replace hx199_0 := (HB.out.cell (World.block_lt_of_cell? w _ hx199_0)).trans hx199_0
                                replace p199 := eq_true p199
                                replace q199 := eq_true q199
                                go_wp2_with (first | ((with_reducible refine gate_callee (f := 33) rfl ?_); refine goesL_ (some 33) rfl rfl Tryd.func33 (by kernel_rfl) rfl #[.string (rdOf ByteArray.empty l0 x20_2), .string (rdOf ByteArray.empty l1 x26_3)] rfl (by (try simp only [List.map_toArray, List.map_cons, List.map_nil]); first | done | rfl | (simp only [List.length_drop, List.length_take]; rfl)) ?_; (with_reducible refine (scope_within.calls (rdOf ByteArray.empty l0 x20_2) (rdOf ByteArray.empty l1 x26_3) true _ A17.out).mono ?_); rintro e w20 ⟨rfl, hb⟩; refine ⟨_, rfl, ?_⟩; have n0_ := Aside0.mk (Kd.R_below (RU HO_5.out) hb); have n1_ := Aside0.mk (below_step (belU HB.out) hb); clear HO_5; clear HB; have HO_5 := n0_; have HB := n1_; clear n0_ n1_; (try clear hb); (try clear hb2); (try clear hk); (try clear hi)) | ((with_reducible refine gate_builtin (b := .append) (xs := #[.tmp 34, .tmp 36]) rfl ?_); at_builtin; refine Kd.R_append Kd.string (w0 := w) w.heap.size rfl (.tmp 34) (.tmp 36) 22 9 (.string ⟨#[]⟩) 16 rfl Tryd.underlying22 info9 rfl (by decide) (by omega) u5 x5_3 (rdOf ByteArray.empty l1 x26_3) [.string (rdOf ByteArray.empty l1 x26_3)] (fun _ => True) (fun _ => False) rfl rfl ?aP (fun _ hk => hk.elim) ?aF ?aO ?aB ?aS ?aL ?_; (case aP => exact rfl); (case aB => exact (belU HB.out)); (case aF => exact (fun _ _ => trivial)); (case aO => exact (RU HO_5.out)); (case aS => exact (sizU HB.out)); (case aL => have := LMc19.out; omega); intro v202 w21 ho hb hg hat; rw [← Ny201.out] at ho; have n0_ := Aside0.mk (hb); have n1_ := Aside0.mk (ho); clear HB; clear HO_5; have HB := n0_; have HO203 := n1_; clear n0_ n1_; clear ho hb hg hat))
                                go_roundg k3
                                case measure => have := HJ2.out; have := HK2.out; have := HK3.out; omega
                                case rel => exact ⟨(y201), (wrap64 (x26_3 + 1)), (by first | rfl | (simp; done) | (simp [*]; done)), H', ⟨by have := HJ2.out; have := HK2.out; have := HK3.out; omega⟩, ⟨RU HO203.out⟩, ⟨belU HB.out⟩⟩
                              · rw [if_neg c19] at H
                                exact absurd H (by simp)
                            · replace c18 := Bool.eq_false_iff.mpr c18
                              subst c18
                              have H1 : ((scope_within.f (rdOf ByteArray.empty l1 x26_3) (rdOf ByteArray.empty l0 x20_2)).bind fun t204 => (if t204 = true then (if x5_3.length < 8796093022208 then (scope_Meet.l1 k3 l1 (x5_3 ++ [(rdOf ByteArray.empty l0 x20_2)]) (rdOf ByteArray.empty l0 x20_2) l0 (l0.length : Int) x20_2 l1 (l1.length : Int) (wrap64 (x26_3 + 1))) else (none)) else (scope_Meet.l1 k3 l1 x5_3 (rdOf ByteArray.empty l0 x20_2) l0 (l0.length : Int) x20_2 l1 (l1.length : Int) (wrap64 (x26_3 + 1))))) = some r := by rw [if_neg (show ¬ (false = true) by decide)] at H; exact H
                              clear H
                              have H := H1
                              clear H1
                              replace H := Option.bind_eq_some_iff.mp H
                              obtain ⟨t204, A220, H⟩ := H
                              replace H : (if t204 = true then (if x5_3.length < 8796093022208 then (scope_Meet.l1 k3 l1 (x5_3 ++ [(rdOf ByteArray.empty l0 x20_2)]) (rdOf ByteArray.empty l0 x20_2) l0 (l0.length : Int) x20_2 l1 (l1.length : Int) (wrap64 (x26_3 + 1))) else (none)) else (scope_Meet.l1 k3 l1 x5_3 (rdOf ByteArray.empty l0 x20_2) l0 (l0.length : Int) x20_2 l1 (l1.length : Int) (wrap64 (x26_3 + 1)))) = some r := H
                              have A22 := Aside0.mk A220
                              clear A220
                              by_cases c23 : t204 = true
                              · subst c23
                                have H1 : (if x5_3.length < 8796093022208 then (scope_Meet.l1 k3 l1 (x5_3 ++ [(rdOf ByteArray.empty l0 x20_2)]) (rdOf ByteArray.empty l0 x20_2) l0 (l0.length : Int) x20_2 l1 (l1.length : Int) (wrap64 (x26_3 + 1))) else (none)) = some r := by rw [if_pos rfl] at H; exact H
                                clear H
                                have H := H1
                                clear H1
                                by_cases c24 : x5_3.length < 8796093022208
                                · rw [if_pos c24] at H
                                  have LMc24 := Aside0.mk c24
                                  clear c24
                                  obtain ⟨y205, hy205⟩ : ∃ y_ : List ByteArray, y_ = (x5_3 ++ [(rdOf ByteArray.empty l0 x20_2)]) := ⟨_, rfl⟩
                                  replace H : (scope_Meet.l1 k3 l1 y205 (rdOf ByteArray.empty l0 x20_2) l0 (l0.length : Int) x20_2 l1 (l1.length : Int) (wrap64 (x26_3 + 1))) = some r := by first | (rw [hy205]; with_reducible exact H) | (have H2_ := (Option.bind_some _ _).symm.trans H; rw [hy205]; with_reducible exact H2_) | (have H2_ := (Option.bind_some _ _).symm.trans H; with_reducible exact H2_) | with_reducible exact H | (rw [hy205]; exact H) | exact H
                                  have Ny205 := Aside0.mk hy205
                                  clear hy205
                                  have H' := Aside0.mk H
                                  clear H
                                  have p199 : 0 ≤ (x26_3 : Int) := of_decide_eq_true (by first | (with_reducible assumption) | assumption)
                                  have q199 : x26_3 < (l1.length : Int) := of_decide_eq_true (by first | (with_reducible assumption) | assumption)
                                  obtain ⟨ad199, e199, hx199_0⟩ := Kd.at_string HR1.out x26_3 p199 q199
                                  cases e199
                                  replace hx199_0 := (HB.out.cell (World.block_lt_of_cell? w _ hx199_0)).trans hx199_0
                                  replace p199 := eq_true p199
                                  replace q199 := eq_true q199
                                  go_wp2_with (first | ((with_reducible refine gate_callee (f := 33) rfl ?_); refine goesL_ (some 33) rfl rfl Tryd.func33 (by kernel_rfl) rfl #[.string (rdOf ByteArray.empty l0 x20_2), .string (rdOf ByteArray.empty l1 x26_3)] rfl (by (try simp only [List.map_toArray, List.map_cons, List.map_nil]); first | done | rfl | (simp only [List.length_drop, List.length_take]; rfl)) ?_; (with_reducible refine (scope_within.calls (rdOf ByteArray.empty l0 x20_2) (rdOf ByteArray.empty l1 x26_3) false _ A17.out).mono ?_); rintro e w25 ⟨rfl, hb⟩; refine ⟨_, rfl, ?_⟩; have n0_ := Aside0.mk (Kd.R_below (RU HO_5.out) hb); have n1_ := Aside0.mk (below_step (belU HB.out) hb); clear HO_5; clear HB; have HO_5 := n0_; have HB := n1_; clear n0_ n1_; (try clear hb); (try clear hb2); (try clear hk); (try clear hi)) | ((with_reducible refine gate_callee (f := 33) rfl ?_); refine goesL_ (some 41) rfl rfl Tryd.func33 (by kernel_rfl) rfl #[.string (rdOf ByteArray.empty l1 x26_3), .string (rdOf ByteArray.empty l0 x20_2)] rfl (by (try simp only [List.map_toArray, List.map_cons, List.map_nil]); first | done | rfl | (simp only [List.length_drop, List.length_take]; rfl)) ?_; (with_reducible refine (scope_within.calls (rdOf ByteArray.empty l1 x26_3) (rdOf ByteArray.empty l0 x20_2) true _ A22.out).mono ?_); rintro e w26 ⟨rfl, hb⟩; refine ⟨_, rfl, ?_⟩; have n0_ := Aside0.mk (Kd.R_below (RU HO_5.out) hb); have n1_ := Aside0.mk (below_step (belU HB.out) hb); clear HO_5; clear HB; have HO_5 := n0_; have HB := n1_; clear n0_ n1_; (try clear hb); (try clear hb2); (try clear hk); (try clear hi)) | ((with_reducible refine gate_builtin (b := .append) (xs := #[.tmp 42, .tmp 44]) rfl ?_); at_builtin; refine Kd.R_append Kd.string (w0 := w) w.heap.size rfl (.tmp 42) (.tmp 44) 22 9 (.string ⟨#[]⟩) 16 rfl Tryd.underlying22 info9 rfl (by decide) (by omega) u5 x5_3 (rdOf ByteArray.empty l0 x20_2) [.string (rdOf ByteArray.empty l0 x20_2)] (fun _ => True) (fun _ => False) rfl rfl ?aP (fun _ hk => hk.elim) ?aF ?aO ?aB ?aS ?aL ?_; (case aP => exact rfl); (case aB => exact (belU HB.out)); (case aF => exact (fun _ _ => trivial)); (case aO => exact (RU HO_5.out)); (case aS => exact (sizU HB.out)); (case aL => have := LMc24.out; omega); intro v206 w27 ho hb hg hat; rw [← Ny205.out] at ho; have n0_ := Aside0.mk (hb); have n1_ := Aside0.mk (ho); clear HB; clear HO_5; have HB := n0_; have HO207 := n1_; clear n0_ n1_; clear ho hb hg hat))
                                  go_roundg k3
                                  case measure => have := HJ2.out; have := HK2.out; have := HK3.out; omega
                                  case rel => exact ⟨(y205), (wrap64 (x26_3 + 1)), (by first | rfl | (simp; done) | (simp [*]; done)), H', ⟨by have := HJ2.out; have := HK2.out; have := HK3.out; omega⟩, ⟨RU HO207.out⟩, ⟨belU HB.out⟩⟩
                                · rw [if_neg c24] at H
                                  exact absurd H (by simp)
                              · replace c23 := Bool.eq_false_iff.mpr c23
                                subst c23
                                have H1 : (scope_Meet.l1 k3 l1 x5_3 (rdOf ByteArray.empty l0 x20_2) l0 (l0.length : Int) x20_2 l1 (l1.length : Int) (wrap64 (x26_3 + 1))) = some r := by rw [if_neg (show ¬ (false = true) by decide)] at H; exact H
                                clear H
                                have H := H1
                                clear H1
                                have H' := Aside0.mk H
                                clear H
                                have p199 : 0 ≤ (x26_3 : Int) := of_decide_eq_true (by first | (with_reducible assumption) | assumption)
                                have q199 : x26_3 < (l1.length : Int) := of_decide_eq_true (by first | (with_reducible assumption) | assumption)
                                obtain ⟨ad199, e199, hx199_0⟩ := Kd.at_string HR1.out x26_3 p199 q199
                                cases e199
                                replace hx199_0 := (HB.out.cell (World.block_lt_of_cell? w _ hx199_0)).trans hx199_0
                                replace p199 := eq_true p199
                                replace q199 := eq_true q199
                                go_wp2_with (first | ((with_reducible refine gate_callee (f := 33) rfl ?_); refine goesL_ (some 33) rfl rfl Tryd.func33 (by kernel_rfl) rfl #[.string (rdOf ByteArray.empty l0 x20_2), .string (rdOf ByteArray.empty l1 x26_3)] rfl (by (try simp only [List.map_toArray, List.map_cons, List.map_nil]); first | done | rfl | (simp only [List.length_drop, List.length_take]; rfl)) ?_; (with_reducible refine (scope_within.calls (rdOf ByteArray.empty l0 x20_2) (rdOf ByteArray.empty l1 x26_3) false _ A17.out).mono ?_); rintro e w28 ⟨rfl, hb⟩; refine ⟨_, rfl, ?_⟩; have n0_ := Aside0.mk (Kd.R_below (RU HO_5.out) hb); have n1_ := Aside0.mk (below_step (belU HB.out) hb); clear HO_5; clear HB; have HO_5 := n0_; have HB := n1_; clear n0_ n1_; (try clear hb); (try clear hb2); (try clear hk); (try clear hi)) | ((with_reducible refine gate_callee (f := 33) rfl ?_); refine goesL_ (some 41) rfl rfl Tryd.func33 (by kernel_rfl) rfl #[.string (rdOf ByteArray.empty l1 x26_3), .string (rdOf ByteArray.empty l0 x20_2)] rfl (by (try simp only [List.map_toArray, List.map_cons, List.map_nil]); first | done | rfl | (simp only [List.length_drop, List.length_take]; rfl)) ?_; (with_reducible refine (scope_within.calls (rdOf ByteArray.empty l1 x26_3) (rdOf ByteArray.empty l0 x20_2) false _ A22.out).mono ?_); rintro e w29 ⟨rfl, hb⟩; refine ⟨_, rfl, ?_⟩; have n0_ := Aside0.mk (Kd.R_below (RU HO_5.out) hb); have n1_ := Aside0.mk (below_step (belU HB.out) hb); clear HO_5; clear HB; have HO_5 := n0_; have HB := n1_; clear n0_ n1_; (try clear hb); (try clear hb2); (try clear hk); (try clear hi)))
                                go_roundg k3
                                case measure => have := HJ2.out; have := HK2.out; have := HK3.out; omega
                                case rel => exact ⟨(x5_3), (wrap64 (x26_3 + 1)), (by first | rfl | (simp; done) | (simp [*]; done)), H', ⟨by have := HJ2.out; have := HK2.out; have := HK3.out; omega⟩, ⟨RU HO_5.out⟩, ⟨belU HB.out⟩⟩
                          · rw [if_neg c16] at H
                            exact absurd H (by simp)
                        · rw [if_neg c15] at H
                          exact absurd H (by simp)
                      · rw [if_neg c14] at H
                        have c14b0 : decide (x26_3 < (l1.length : Int)) = false := decide_eq_false c14
                        clear c14
                        have H' := Aside0.mk H
                        clear H
                        go_wp2
                        go_roundg k3
                        case measure => have := HJ2.out; have := HK2.out; have := HK3.out; omega
                        case rel => exact ⟨(x5_3), (wrap64 (x20_2 + 1)), (by first | rfl | (simp; done) | (simp [*]; done)), H', ⟨by have := HJ2.out; have := HK2.out; have := HK3.out; omega⟩, ⟨RU HO_5.out⟩, ⟨belU HB.out⟩⟩
                · rw [if_neg c13] at H
                  exact absurd H (by simp)
              · rw [if_neg c12] at H
                exact absurd H (by simp)
            · rw [if_neg c11] at H
              have c11b0 : decide (x20_2 < (l0.length : Int)) = false := decide_eq_false c11
              clear c11
              replace H := Option.bind_eq_some_iff.mp H
              obtain ⟨t195, A300, H⟩ := H
              replace H : (some t195) = some r := H
              have A30 := Aside0.mk A300
              clear A300
              obtain rfl := Option.some.inj H
              obtain ⟨Ao31, co31, eo31⟩ := Kd.R_slice HO_5.out
              subst eo31
              go_wp2_with (first | ((with_reducible refine gate_callee (f := 29) rfl ?_); refine goesL_ (some 49) rfl rfl Tryd.func29 (by kernel_rfl) rfl #[.slice Ao31 x5_2.length co31] rfl (by (try simp only [List.map_toArray, List.map_cons, List.map_nil]); first | done | rfl | (simp only [List.length_drop, List.length_take]; rfl)) ?_; (with_reducible refine (scope_reduce.calls _ _ x5_2 t195 _ ?side1 ?side2 A30.out).mono ?_); (case side1 => exact CU (S_reads' HO_5.out).2.2); (case side2 => exact (S_reads' HO_5.out).2.1); rintro e w32 ⟨v196, rfl, ho0, hb⟩; refine ⟨_, rfl, ?_⟩; have n0_ := Aside0.mk (S_elder' (SU HO_5.out) (S_base ho0) hb); have n1_ := Aside0.mk (S_lower (S_new' ho0 (S_lt (SU HO_5.out))) (sizU HB.out)); have n2_ := Aside0.mk (below_step (belU HB.out) hb); clear HO_5; clear HB; have HO_5 := n0_; have HO197 := n1_; have HB := n2_; clear n0_ n1_ n2_; (try clear hb); (try clear hb2); (try clear hk); (try clear hi); (try clear ho0)))
              go_ret
              exact ⟨_, by first | rfl | (simp [errW_none, errW_some] <;> rfl) | (simp [*, errW_none, errW_some] <;> rfl), by exact S_mono (SU HO197.out) (fun _ hk => trivial), belU HB.out⟩

end Go.Proofs.YtkflalaocnghcaaDoor.Q

namespace Go.Proofs.YtkflalaocnghcaaDoor.Q
open Go Go.Proofs Go.Shelf Go.RowKit Go.Lib Go.Sort Go.Proofs.YtkflalaocnghcaaDoorP Go.Proofs.YtkflalaocnghcaaDoorK Go.Proofs.YtkflalaocnghcaaDoorW.PrintWords Go.Proofs.YtkflalaocnghcaaDoorW.PrintLast Go.Proofs.YtkflalaocnghcaaDoorW.PrintMore
set_option linter.unusedSimpArgs false
set_option linter.unusedVariables false
/-! ### scope.Make, May, Meet: what the printed functions compute -/
theorem wr1 (i : Nat) (h : i < 1048577) : wrap64 ((i : Int) + 1) = ((i + 1 : Nat) : Int) := by unfold wrap64; omega
theorem wr0 (i : Nat) (h : i < 1048577) (h0 : 0 < i) : wrap64 ((i : Int) - 1) = ((i - 1 : Nat) : Int) := by unfold wrap64; omega
theorem rdB (l : List ByteArray) (i : Nat) (h : i < l.length) : rdOf ByteArray.empty l (i : Int) = l[i] := by unfold rdOf; simp [h]
theorem tlB (a b : ByteArray) : a.toList = b.toList ↔ a = b := by
  rw [ByteArray.toList_eq, ByteArray.toList_eq]
  exact ⟨fun h => ByteArray.ext (Array.ext' h), fun h => by rw [h]⟩
/-- Why a path is no directory's. -/
def dirS (p : ByteArray) : Int := if (kindS p).2 = 0 ∧ (kindS p).1 = 2 then 13 else (kindS p).2
theorem dir_fn {p : ByteArray} (h : p.size ≤ 65536) : scope_dir.f p = some (dirS p) := by
  unfold scope_dir.f path_Kind.f dirS
  rw [if_pos h, Option.bind_some]
  by_cases h1 : (kindS p).2 = 0
  · rw [if_pos h1]
    by_cases h2 : (kindS p).1 = 2
    · rw [if_pos h2, if_pos ⟨h1, h2⟩]
    · rw [if_neg h2, if_neg (fun h => h2 h.2)]
  · rw [if_neg h1, if_neg (fun h => h1 h.1)]
theorem within_fn {d p : ByteArray} (h : p.size ≤ 65536) : scope_within.f d p = some (withinS d p) := by
  unfold scope_within.f path_Below.f withinS
  rw [if_pos h]
  by_cases h1 : p.toList = d.toList
  · rw [if_pos h1, beq_iff_eq.mpr h1]
    rfl
  · rw [if_neg h1, beq_eq_false_iff_ne.mpr h1]
    rfl
def makeS (l : List ByteArray) : List ByteArray × Int := match l.find? (fun p => dirS p != 0) with
  | some p => ([], dirS p)
  | none => if 16 < (reduceS l).length then ([], 7) else (reduceS l, 0)
theorem make_loop (l : List ByteArray) (hs : shortP l = true) (d : Nat) : ∀ (i k : Nat), i + d = l.length → d < k → scope_Make.l0 k l l (l.length : Int) (i : Int) = some (match (l.drop i).find? (fun p => dirS p != 0) with
  | some p => ([], dirS p)
  | none => if 16 < (reduceS l).length then ([], 7) else (reduceS l, 0)) := by
  obtain ⟨hl, hm⟩ := shortP_mem hs
  induction d with
  | zero =>
    intro i k h hk
    obtain ⟨k, rfl⟩ : ∃ q, k = q + 1 := ⟨k - 1, by omega⟩
    unfold scope_Make.l0 scope_reduce.f
    rw [if_neg (by omega), List.drop_of_length_le (by omega), if_pos hs, Option.bind_some, List.find?_nil]
    dsimp only
    by_cases h16 : 16 < (reduceS l).length
    · rw [if_pos (by omega), if_pos h16]
    · rw [if_neg (by omega), if_neg h16]
  | succ d ih =>
    intro i k h hk
    obtain ⟨k, rfl⟩ : ∃ q, k = q + 1 := ⟨k - 1, by omega⟩
    have hi : i < l.length := by omega
    unfold scope_Make.l0
    rw [if_pos (by omega), if_pos (by omega), if_pos (by omega), rdB l i hi, dir_fn (hm _ (List.getElem_mem hi)), Option.bind_some, List.drop_eq_getElem_cons hi, List.find?_cons, wr1 i (by omega)]
    by_cases h0 : dirS l[i] = 0
    · rw [if_pos h0, ih (i + 1) k (by omega) (by omega)]
      simp [h0]
    · rw [if_neg h0]
      have : (dirS l[i] != 0) = true := bne_iff_ne.mpr h0
      rw [this]
theorem make_fn {l : List ByteArray} (hs : shortP l = true) (k : Nat) (hk : l.length < k) : scope_Make.f k l = some (makeS l) := by
  have h := make_loop l hs l.length 0 k (by omega) hk
  unfold scope_Make.f makeS
  simpa using h
/-- Is a list a scope? -/
def mayA : Option ByteArray → List ByteArray → Bool
  | _, [] => true
  | none, p :: l => dirS p == 0 && mayA (some p) l
  | some q, p :: l => dirS p == 0 && (decide (pcmp q p < 0) && (!withinS q p && mayA (some p) l))
def mayS (l : List ByteArray) : Bool := mayA none l && decide (l.length ≤ 16)
def prevB (l : List ByteArray) (i : Nat) : Option ByteArray := if i = 0 then none else l[i - 1]?
theorem may_loop (l : List ByteArray) (hs : shortP l = true) (d : Nat) : ∀ (i k : Nat), i + d = l.length → d < k → scope_May.l0 k l l (l.length : Int) (i : Int) = some (mayA (prevB l i) (l.drop i) && decide (l.length ≤ 16)) := by
  obtain ⟨hl, hm⟩ := shortP_mem hs
  induction d with
  | zero =>
    intro i k h hk
    obtain ⟨k, rfl⟩ : ∃ q, k = q + 1 := ⟨k - 1, by omega⟩
    unfold scope_May.l0
    rw [if_neg (by omega), List.drop_of_length_le (by omega)]
    have e : mayA (prevB l i) [] = true := by cases prevB l i <;> rfl
    rw [e, Bool.true_and]
    congr 1
    rw [decide_eq_decide]
    omega
  | succ d ih =>
    intro i k h hk
    obtain ⟨k, rfl⟩ : ∃ q, k = q + 1 := ⟨k - 1, by omega⟩
    have hi : i < l.length := by omega
    have hn : prevB l (i + 1) = some l[i] := by unfold prevB; rw [if_neg (by omega)]; simp [hi]
    unfold scope_May.l0
    rw [if_pos (by omega), if_pos (by omega), if_pos (by omega), rdB l i hi, dir_fn (hm _ (List.getElem_mem hi)), Option.bind_some, List.drop_eq_getElem_cons hi, wr1 i (by omega), ih (i + 1) k (by omega) (by omega), hn]
    by_cases h0 : dirS l[i] = 0
    · rw [if_pos h0]
      by_cases hi0 : i = 0
      · subst hi0
        have e : prevB l 0 = none := rfl
        rw [if_neg (by omega), e]
        simp [mayA, h0]
      · have hp : i - 1 < l.length := by omega
        have e : prevB l i = some l[i - 1] := by unfold prevB; rw [if_neg hi0]; simp [hp]
        rw [if_pos (by omega), wr0 i (by omega) (by omega), if_pos (by omega), if_pos (by omega), rdB l (i - 1) hp, e, within_fn (hm _ (List.getElem_mem hi)), Option.bind_some]
        unfold path_Compare.f
        rw [if_pos ⟨hm _ (List.getElem_mem hp), hm _ (List.getElem_mem hi)⟩, Option.bind_some]
        simp only [mayA, h0, beq_self_eq_true, Bool.true_and]
        by_cases hc : pcmp l[i - 1] l[i] < 0
        · rw [if_neg (by omega), decide_eq_true hc, Bool.true_and]
          cases withinS l[i - 1] l[i] <;> simp
        · rw [if_pos (by omega), decide_eq_false hc]
          simp
    · rw [if_neg h0]
      have e : (dirS l[i] == 0) = false := beq_eq_false_iff_ne.mpr h0
      cases prevB l i <;> simp [mayA, e]
theorem may_fn {l : List ByteArray} (hs : shortP l = true) (k : Nat) (hk : l.length < k) : scope_May.f k l = some (mayS l) := by
  have h := may_loop l hs l.length 0 k (by omega) hk
  unfold scope_May.f mayS
  simpa [prevB] using h
theorem may_len {l : List ByteArray} (h : mayS l = true) : l.length ≤ 16 := by
  unfold mayS at h
  simp only [Bool.and_eq_true, decide_eq_true_eq] at h
  exact h.2
def meetP (p : ByteArray) (b : List ByteArray) : List ByteArray := b.filterMap fun q => if withinS p q = true then some q else if withinS q p = true then some p else none
def meetL (a b : List ByteArray) : List ByteArray := (a.map fun p => meetP p b).flatten
def meetS (a b : List ByteArray) : List ByteArray := if mayS a = true ∧ mayS b = true then reduceS (meetL a b) else []
theorem meetP_len (p : ByteArray) (b : List ByteArray) : (meetP p b).length ≤ b.length := List.length_filterMap_le _ _
theorem meet_in (a b : List ByteArray) (ha : shortP a = true) (hb : shortP b = true) (p : ByteArray) (hp : p.size ≤ 65536) (i : Int) (d : Nat) : ∀ (j k : Nat) (out : List ByteArray), j + d = b.length → out.length + d < 8000000 → scope_Meet.l1 (k + d + 1) b out p a (a.length : Int) i b (b.length : Int) (j : Int) = scope_Meet.l0 k b (out ++ meetP p (b.drop j)) a (a.length : Int) (wrap64 (i + 1)) := by
  obtain ⟨hl, hm⟩ := shortP_mem hb
  induction d with
  | zero =>
    intro j k out h ho
    unfold scope_Meet.l1
    rw [if_neg (by omega), List.drop_of_length_le (by omega)]
    simp [meetP]
  | succ d ih =>
    intro j k out h ho
    have hj : j < b.length := by omega
    rw [show k + (d + 1) + 1 = (k + d + 1) + 1 by omega]
    unfold scope_Meet.l1
    rw [if_pos (by omega), if_pos (by omega), if_pos (by omega), rdB b j hj, within_fn (hm _ (List.getElem_mem hj)), Option.bind_some, within_fn hp, Option.bind_some, wr1 j (by omega), List.drop_eq_getElem_cons hj]
    unfold meetP
    rw [List.filterMap_cons]
    by_cases h1 : withinS p b[j] = true
    · rw [if_pos h1, if_pos h1, if_pos (by omega), ih (j + 1) k _ (by omega) (by rw [List.length_append, List.length_singleton]; omega)]
      simp [meetP]
    · rw [if_neg h1, if_neg h1]
      by_cases h2 : withinS b[j] p = true
      · rw [if_pos h2, if_pos h2, if_pos (by omega), ih (j + 1) k _ (by omega) (by rw [List.length_append, List.length_singleton]; omega)]
        simp [meetP]
      · rw [if_neg h2, if_neg h2, ih (j + 1) k _ (by omega) (by omega)]
        rfl
theorem within_mem_short (a b : List ByteArray) (ha : ∀ p ∈ a, p.size ≤ 65536) (hb : ∀ p ∈ b, p.size ≤ 65536) : ∀ q ∈ meetL a b, q.size ≤ 65536 := by
  intro q hq
  unfold meetL at hq
  rw [List.mem_flatten] at hq
  obtain ⟨m, hm, hq⟩ := hq
  obtain ⟨p, hp, rfl⟩ := List.mem_map.1 hm
  unfold meetP at hq
  obtain ⟨x, hx, he⟩ := List.mem_filterMap.1 hq
  split at he
  · cases he
    exact hb _ hx
  · split at he
    · cases he
      exact ha _ hp
    · cases he
theorem meetL_len (a b : List ByteArray) : (meetL a b).length ≤ a.length * b.length := by
  unfold meetL
  induction a with
  | nil => simp
  | cons p a ih =>
    rw [List.map_cons, List.flatten_cons, List.length_append, List.length_cons, Nat.succ_mul]
    have := meetP_len p b
    omega
theorem meet_loop (a b : List ByteArray) (ha : shortP a = true) (hb : shortP b = true) (hn : a.length ≤ 16 ∧ b.length ≤ 16) (d : Nat) : ∀ (i k : Nat) (out : List ByteArray), i + d = a.length → (b.length + 2) * d < k → out.length + d * 16 ≤ 1000 → (∀ q ∈ out, q.size ≤ 65536) → scope_Meet.l0 k b out a (a.length : Int) (i : Int) = some (reduceS (out ++ meetL (a.drop i) b)) := by
  obtain ⟨hl, hm⟩ := shortP_mem ha
  obtain ⟨hl2, hm2⟩ := shortP_mem hb
  induction d with
  | zero =>
    intro i k out h hk ho hsz
    obtain ⟨k, rfl⟩ : ∃ q, k = q + 1 := ⟨k - 1, by omega⟩
    unfold scope_Meet.l0 scope_reduce.f
    rw [if_neg (by omega), List.drop_of_length_le (by omega), if_pos (shortP_mk (by omega) hsz), Option.bind_some]
    simp [meetL]
  | succ d ih =>
    intro i k out h hk ho hsz
    have hi : i < a.length := by omega
    rw [Nat.mul_succ] at hk
    obtain ⟨k, rfl⟩ : ∃ q, k = q + b.length + 1 + 1 := ⟨k - b.length - 2, by omega⟩
    have hpl := meetP_len a[i] b
    unfold scope_Meet.l0
    rw [if_pos (by omega), if_pos (by omega), if_pos (by omega), rdB a i hi]
    have := meet_in a b ha hb a[i] (hm _ (List.getElem_mem hi)) (i : Int) b.length 0 k out (by omega) (by omega)
    simp only [Int.natCast_zero, List.drop_zero] at this
    rw [this, wr1 i (by omega), ih (i + 1) k _ (by omega) (by omega) (by rw [List.length_append]; omega) (fun q hq => by
      rcases List.mem_append.1 hq with hq | hq
      · exact hsz q hq
      · exact within_mem_short [a[i]] b (fun p hp => by rw [List.mem_singleton.1 hp]; exact hm _ (List.getElem_mem hi)) hm2 q (by unfold meetL; simpa using hq))]
    rw [List.drop_eq_getElem_cons hi]
    unfold meetL
    rw [List.map_cons, List.flatten_cons, List.append_assoc]
theorem meet_fn {a b : List ByteArray} (ha : shortP a = true) (hb : shortP b = true) (k : Nat) (hk1 : a.length < k) (hk2 : b.length < k) (hk : 400 ≤ k) : scope_Meet.f k a b = some (meetS a b) := by
  obtain ⟨k, rfl⟩ : ∃ q, k = q + 1 := ⟨k - 1, by omega⟩
  unfold scope_Meet.f meetS
  rw [may_fn ha _ hk1, Option.bind_some]
  have hj : ∀ t, scope_Meet.j0 (k + 1) a b t = if t = true then some [] else scope_Meet.l0 k b [] a (a.length : Int) 0 := fun _ => rfl
  by_cases h1 : mayS a = true
  · rw [if_pos h1, may_fn hb _ hk2, Option.bind_some, hj]
    by_cases h2 : mayS b = true
    · rw [if_neg (by rw [h2]; decide), if_pos ⟨h1, h2⟩]
      have l1 := may_len h1
      have l2 := may_len h2
      have hle : (b.length + 2) * a.length ≤ 18 * 16 := Nat.mul_le_mul (by omega) l1
      have := meet_loop a b ha hb ⟨l1, l2⟩ a.length 0 k [] (by omega) (by omega) (by simp; omega) (by simp)
      simpa using this
    · rw [if_pos (by simp [h2]), if_neg (fun h => h2 h.2)]
  · rw [if_neg h1, if_neg (fun h => h1 h.1), hj, if_pos rfl]
end Go.Proofs.YtkflalaocnghcaaDoor.Q

namespace Go.Proofs.YtkflalaocnghcaaDoorP
open Go Go.Lib
/-! A text, parted at each byte c. -/
def sepC (c : UInt8) : List UInt8 → List (List UInt8)
  | [] => [[]]
  | b :: l => if b = c then [] :: sepC c l else match sepC c l with
    | [] => [[b]]
    | n :: ns => (b :: n) :: ns
theorem sepC_ne (c : UInt8) (l : List UInt8) : sepC c l ≠ [] := by
  cases l with
  | nil => simp [sepC]
  | cons b l =>
    unfold sepC
    split
    · simp
    · split <;> simp
theorem split_sepC (c : UInt8) (l : List UInt8) : splitK [c] 0 (count l [c]) l = sepC c l := by
  induction l with
  | nil => rfl
  | cons b l ih =>
    by_cases h : b = c
    · subst h
      rw [count_cons_eq, Nat.add_comm, splitK, index_cons_eq, if_neg (by decide)]
      simp only [sepC, if_pos]
      simpa using ih
    · rw [count_cons_ne b c l h]
      simp only [sepC, if_neg h]
      rw [← ih]
      cases hk : count l [c] with
      | zero => simp [splitK]
      | succ k =>
        have hi : index l [c] ≠ -1 := fun e => by have := (index_none l c).1 e; omega
        have hg := index_ge l c
        obtain ⟨i, hii⟩ : ∃ i : Nat, index l [c] = (i : Int) := ⟨(index l [c]).toNat, by omega⟩
        rw [splitK, splitK, index_cons_ne l b c h, hii]
        have e1 : ¬ ((i : Int) == -1) = true := by simp <;> omega
        have e2 : ¬ ((i : Int) + 1 == -1) = true := by simp <;> omega
        rw [if_neg e1, if_neg e2, if_neg e1]
        have e3 : ((i : Int) + 1).toNat = i + 1 := by omega
        have e4 : (i : Int).toNat = i := by omega
        rw [e3, e4]
        simp
theorem names_sepC (l : List UInt8) : names l = sepC 47 l := by
  induction l with
  | nil => rfl
  | cons b l ih =>
    rw [names, sepC, ih]
    by_cases h : b = 47
    · rw [if_pos h, if_pos h]
    · rw [if_neg h, if_neg h]
      cases sepC 47 l <;> rfl
theorem sepC_size (c : UInt8) (l : List UInt8) : ∀ n ∈ sepC c l, n.length ≤ l.length := by
  induction l with
  | nil => intro n hn; simp [sepC] at hn; simp [hn]
  | cons b l ih =>
    intro n hn
    unfold sepC at hn
    split at hn
    · rcases List.mem_cons.1 hn with e | hn
      · rw [e]; exact Nat.zero_le _
      · exact Nat.le_succ_of_le (ih n hn)
    · split at hn
      · rename_i he
        exact absurd he (sepC_ne c l)
      · rename_i m ms he
        rcases List.mem_cons.1 hn with e | hn
        · rw [e, List.length_cons, List.length_cons]
          exact Nat.succ_le_succ (ih m (by rw [he]; exact List.mem_cons_self))
        · exact Nat.le_succ_of_le (ih n (by rw [he]; exact List.mem_cons_of_mem _ hn))
theorem sepC_len (c : UInt8) (l : List UInt8) : (sepC c l).length ≤ l.length + 1 := by
  induction l with
  | nil => simp [sepC]
  | cons b l ih =>
    unfold sepC
    split
    · simp only [List.length_cons]; omega
    · split
      · simp
      · rename_i m ms he
        rw [he] at ih
        simp only [List.length_cons] at ih ⊢
        omega
/-- Two texts with the byte between. -/
theorem sepC_app (c : UInt8) (a b : List UInt8) : sepC c (a ++ c :: b) = sepC c a ++ sepC c b := by
  induction a with
  | nil => simp [sepC]
  | cons x a ih =>
    rw [List.cons_append, sepC, sepC, ih]
    by_cases h : x = c
    · rw [if_pos h, if_pos h]; rfl
    · rw [if_neg h, if_neg h]
      cases hs : sepC c a with
      | nil => exact absurd hs (sepC_ne c a)
      | cons n ns => rfl
theorem sepC_free (c : UInt8) (a : List UInt8) (h : c ∉ a) : sepC c a = [a] := by
  induction a with
  | nil => rfl
  | cons x a ih =>
    unfold sepC
    rw [if_neg (fun e => h (by rw [e]; exact List.mem_cons_self)), ih (fun hm => h (List.mem_cons_of_mem _ hm))]
end Go.Proofs.YtkflalaocnghcaaDoorP

namespace Go.Proofs.YtkflalaocnghcaaDoorK
open Go Go.Proofs
/-! ### the order of strings: less, or greater, or alike -/
theorem bl_irrefl : ∀ x : List UInt8, Op.bytesLess x x = false
  | [] => rfl
  | a :: x => by
    have h := bl_irrefl x
    simp only [Op.bytesLess, h, Bool.and_false, Bool.or_false, decide_eq_false_iff_not]
    exact UInt8.lt_irrefl a
theorem bl_ne (x y : List UInt8) (h : Op.bytesLess y x = true) : (x == y) = false := by
  rw [beq_eq_false_iff_ne]
  rintro rfl
  rw [bl_irrefl] at h
  exact absurd h (by decide)
theorem bl_eq : ∀ x y : List UInt8, Op.bytesLess x y = false → Op.bytesLess y x = false → x = y
  | [], [] => fun _ _ => rfl
  | [], b :: y => fun h _ => absurd h (by simp [Op.bytesLess])
  | a :: x, [] => fun _ h => absurd h (by simp [Op.bytesLess])
  | a :: x, b :: y => fun h g => by
    simp only [Op.bytesLess, Bool.or_eq_false_iff, decide_eq_false_iff_not, Bool.and_eq_false_iff, beq_eq_false_iff_ne] at h g
    have hab : a = b := UInt8.le_antisymm (UInt8.not_lt.1 g.1) (UInt8.not_lt.1 h.1)
    subst hab
    rw [bl_eq x y (h.2.resolve_left (by simp)) (g.2.resolve_left (by simp))]
theorem bl_eqb (x y : List UInt8) (h : Op.bytesLess x y = false) (g : Op.bytesLess y x = false) : (x == y) = true := beq_iff_eq.2 (bl_eq x y h g)
@[go_sem] theorem binOp_string_gtr_k (t : TypeId) (a b : ByteArray) : binOp .gtr t (.string a) (.string b) = pure (.bool !(Op.bytesLess a.toList b.toList || a.toList == b.toList)) := by simp [binOp, Op.stringOp]
end Go.Proofs.YtkflalaocnghcaaDoorK

namespace Go.Proofs.YtkflalaocnghcaaDoor.Q
open Go.RowKit Go.Proofs.YtkflalaocnghcaaDoorW.PrintWords Go.Proofs.YtkflalaocnghcaaDoorW.PrintLast Go.Proofs.YtkflalaocnghcaaDoorW.PrintMore Go.Proofs.YtkflalaocnghcaaDoorK
attribute [local go_sem] max2_int min2_int max_two min_two max_three min_three max_four min_four   -- for this text's walks alone
attribute [local go_sem ↓] Go.Proofs.YtkflalaocnghcaaDoorK.isSome_setCell
set_option linter.unusedVariables false
set_option linter.unusedSimpArgs false

/-! ### aquiferref05_Names: function 59 -/
def aquiferref05_Names.l0 : Nat → ByteArray → List ByteArray → Int → Option (List ByteArray)
  | 0, _, _, _ => none
  | k + 1, x0, x3, x4 => if x4 < (x0.size : Int) then (if 0 ≤ x4 then (if (bt x0 x4) = 47 then (if x3.length < 8796093022208 then (aquiferref05_Names.l0 k x0 (x3 ++ [(⟨#[]⟩ : ByteArray)]) (wrap64 (x4 + 1))) else (none)) else (if 0 ≤ (wrap64 ((x3.length : Int) - 1)) then (if (wrap64 ((x3.length : Int) - 1)) < (x3.length : Int) then (if x4 ≤ (wrap64 (x4 + 1)) then (if (wrap64 (x4 + 1)) ≤ (x0.size : Int) then (if (rdOf ByteArray.empty x3 (wrap64 ((x3.length : Int) - 1))).size + (x0.extract (x4 : Int).toNat ((wrap64 (x4 + 1)) : Int).toNat).size ≤ 9223372036854775807 then (aquiferref05_Names.l0 k x0 (x3.set ((wrap64 ((x3.length : Int) - 1)) : Int).toNat ((rdOf ByteArray.empty x3 (wrap64 ((x3.length : Int) - 1))) ++ (x0.extract (x4 : Int).toNat ((wrap64 (x4 + 1)) : Int).toNat))) (wrap64 (x4 + 1))) else (none)) else (none)) else (none)) else (none)) else (none))) else (none)) else (some x3)
def aquiferref05_Names.f (k : Nat) (a0 : ByteArray) : Option (List ByteArray) := aquiferref05_Names.l0 k a0 (([(⟨#[]⟩ : ByteArray)] : List ByteArray)) 0
theorem aquiferref05_Names.mono_l : ∀ k, (∀ y0 y1 y2, LeO (aquiferref05_Names.l0 k y0 y1 y2) (aquiferref05_Names.l0 (k + 1) y0 y1 y2))
  | 0 => fun _ _ _ r h => by simp [aquiferref05_Names.l0] at h
  | k + 1 => by
    have ih0 := aquiferref05_Names.mono_l k
    · intro y0 y1 y2
      unfold aquiferref05_Names.l0
      repeat' first
      | (with_reducible exact ih0 _ _ _)
      | (with_reducible exact LeO.refl _)
      | (with_reducible exact LeO.none _)
      | (with_reducible refine LeO.ite ?_ ?_)
      | (with_reducible refine LeO.bind ?_ (fun _ => ?_))
      | exact ih0 _ _ _
      | exact LeO.none _
      | refine LeO.ite ?_ ?_
      | refine LeO.bind ?_ (fun _ => ?_)
theorem aquiferref05_Names.mono : ∀ a0 k, LeO (aquiferref05_Names.f k a0) (aquiferref05_Names.f (k + 1) a0) := by
  intro a0 k
  have ih0 := aquiferref05_Names.mono_l k
  unfold aquiferref05_Names.f
  repeat' first
      | (with_reducible exact ih0 _ _ _)
      | (with_reducible exact LeO.refl _)
      | (with_reducible exact LeO.none _)
      | (with_reducible refine LeO.ite ?_ ?_)
      | (with_reducible refine LeO.bind ?_ (fun _ => ?_))
      | exact ih0 _ _ _
      | exact LeO.none _
      | refine LeO.ite ?_ ?_
      | refine LeO.bind ?_ (fun _ => ?_)
def aquiferref05_Names.T7 : Bool × List (List Nat × List Nat) := (true, [([], []), ([], []), ([1], [1]), ([2], [2]), ([], []), ([], []), ([5], [5]), ([6], [6]), ([4, 7], [4, 7]), ([8], [8]), ([], []), ([], []), ([], []), ([12], [12]), ([10, 11, 13], [10, 11, 13]), ([9, 14], [9, 14]), ([0, 3, 0, 1, 2, 3, 4, 5, 6, 7, 8, 9, 10, 11, 12, 13, 14, 15], [0, 3]), ([16, 15, 0, 1, 2, 3, 4, 5, 6, 7, 8, 9, 10, 11, 12, 13, 14, 15], [15, 16])])
def aquiferref05_Names.B7 : List Nat := [0, 0, 2, 6, 0, 0, 32, 96, 240, 496, 0, 0, 0, 4096, 15360, 32752, 65535, 131071]
theorem aquiferref05_Names.tab7 : rtab .any (opsOf Tryd.f59 7) = aquiferref05_Names.T7 := by kernel_rfl
theorem aquiferref05_Names.bits7 : waitsOk aquiferref05_Names.T7.2 aquiferref05_Names.B7 = true := by kernel_rfl
set_option maxHeartbeats 8000000 in
set_option maxRecDepth 100000 in
theorem aquiferref05_Names.calls (k : Nat) (a0 : ByteArray) (r : List ByteArray) (w : World) (h : aquiferref05_Names.f k a0 = some r) :
    Calls Tryd.prog 59 #[.string a0] w fun e w' => ∃ v0_ : Value, e = .returned (v0_) ∧ Kd.R Kd.string 9 w' w.heap.size (fun _ => True) v0_ r ∧ Below w.heap.size w w' := by
  have HB := Aside0.mk (Below.refl w.heap.size w)
  have H : (aquiferref05_Names.l0 k a0 (([(⟨#[]⟩ : ByteArray)] : List ByteArray)) 0) = some r := h
  clear h
  obtain ⟨y114, hy114⟩ : ∃ y_ : List ByteArray, y_ = (([(⟨#[]⟩ : ByteArray)] : List ByteArray)) := ⟨_, rfl⟩
  replace H : (aquiferref05_Names.l0 k a0 y114 0) = some r := by first | (rw [hy114]; with_reducible exact H) | (have H2_ := (Option.bind_some _ _).symm.trans H; rw [hy114]; with_reducible exact H2_) | (have H2_ := (Option.bind_some _ _).symm.trans H; with_reducible exact H2_) | with_reducible exact H | (rw [hy114]; exact H) | exact H
  have Ny114 := Aside0.mk hy114
  clear hy114
  have H' := Aside0.mk H
  clear H
  go_enter Tryd.func59, Tryd.ntmps59
  go_wp2_with (first | ((with_reducible refine gate_dst (N := 5) rfl ?_); refine Kd.R_lit Kd.string _ 9 ?hg (N := 5) ?hd (xs := ([(⟨#[]⟩ : ByteArray)] : List ByteArray)) (inner := [.string (⟨#[]⟩ : ByteArray)]) (ok := fun _ => True) (okp := fun _ => True) ?hr ?hp (fun _ hk => hk) trivial (Below.refl _ _) (Nat.le_refl _) (by simp) ?_; (case hd => rfl); (case hg => rfl); (case hr => first | (go_simp; done) | (go_simp; rfl)); (case hp => exact (Reps.one (show Kd.M Kd.string _ _ _ (⟨#[]⟩ : ByteArray) [.string (⟨#[]⟩ : ByteArray)] from rfl) (Reps.none _ _))); intro v115 w2 ho3 hb hg_ hnew_; clear hg_ hnew_; (first | rw [← Ny114.out] at ho3 | (simp only [Int.reduceToNat] at ho3; rw [← Ny114.out] at ho3)); have n0_ := Aside0.mk (Kd.R_lower ho3 (sizU HB.out)); have n1_ := Aside0.mk (below_step (belU HB.out) hb); clear HB; have HO116 := n0_; have HB := n1_; clear n0_ n1_; clear hb ho3))
  go_loopg [3, 4] k (fun kq v3 v4 w' => ∃ (x3_1 : List ByteArray) (x4_1 : Int), v4 = .int .i64 x4_1 ∧ Aside0 (aquiferref05_Names.l0 kq a0 x3_1 x4_1 = some r) ∧ Aside0 (kq ≤ k) ∧ Aside0 (Kd.R Kd.string 9 w' w.heap.size (fun _ => True) v3 x3_1) ∧ Aside0 (Below w.heap.size w w'))
  case atStart => exact ⟨(y114), (0), (by first | rfl | (simp; done) | (simp [*]; done)), H', ⟨Nat.le_refl _⟩, ⟨RU HO116.out⟩, ⟨belU HB.out⟩⟩
  case round =>
    clear H'
    try clear p2
    obtain ⟨x3_1, x4_1, rfl, HA, HK1, HO_3, HB⟩ := hrel
    cases gk with
    | zero => exact absurd HA.out (by simp [aquiferref05_Names.l0])
    | succ k1 =>
      have H := HA.out
      clear HA
      simp only [aquiferref05_Names.l0] at H
      by_cases c4 : x4_1 < (a0.size : Int)
      · rw [if_pos c4] at H
        have c4b0 : decide (x4_1 < (a0.size : Int)) = true := decide_eq_true c4
        clear c4
        by_cases c5 : 0 ≤ x4_1
        · rw [if_pos c5] at H
          have c5b0 : decide (0 ≤ x4_1) = true := decide_eq_true c5
          clear c5
          by_cases c7 : (bt a0 x4_1) = 47
          · rw [if_pos c7] at H
            have c7b0 : ((bt a0 x4_1) == 47) = true := beq_iff_eq.mpr c7
            have c7b1 : ((bt a0 x4_1) != 47) = false := bne_eq_false_iff_eq.mpr c7
            clear c7
            by_cases c8 : x3_1.length < 8796093022208
            · rw [if_pos c8] at H
              have LMc8 := Aside0.mk c8
              clear c8
              obtain ⟨y117, hy117⟩ : ∃ y_ : List ByteArray, y_ = (x3_1 ++ [(⟨#[]⟩ : ByteArray)]) := ⟨_, rfl⟩
              replace H : (aquiferref05_Names.l0 k1 a0 y117 (wrap64 (x4_1 + 1))) = some r := by first | (rw [hy117]; with_reducible exact H) | (have H2_ := (Option.bind_some _ _).symm.trans H; rw [hy117]; with_reducible exact H2_) | (have H2_ := (Option.bind_some _ _).symm.trans H; with_reducible exact H2_) | with_reducible exact H | (rw [hy117]; exact H) | exact H
              have Ny117 := Aside0.mk hy117
              clear hy117
              have H' := Aside0.mk H
              clear H
              have p6 : 0 ≤ (x4_1 : Int) := of_decide_eq_true (by first | (with_reducible assumption) | assumption)
              have q6 : x4_1 < (a0.size : Int) := of_decide_eq_true (by first | (with_reducible assumption) | assumption)
              have hx6 := bt_at a0 x4_1
              replace p6 := eq_true p6
              replace q6 := eq_true q6
              go_wp2_with (first | ((with_reducible refine gate_builtin (b := .append) (xs := #[.tmp 16, .tmp 17]) rfl ?_); at_builtin; refine Kd.R_append Kd.string (w0 := w) w.heap.size rfl (.tmp 16) (.tmp 17) 22 9 (.string ⟨#[]⟩) 16 rfl Tryd.underlying22 info9 rfl (by decide) (by omega) u3 x3_1 (⟨#[]⟩ : ByteArray) [.string (⟨#[]⟩ : ByteArray)] (fun _ => True) (fun _ => False) rfl rfl ?aP (fun _ hk => hk.elim) ?aF ?aO ?aB ?aS ?aL ?_; (case aP => exact rfl); (case aB => exact (belU HB.out)); (case aF => exact (fun _ _ => trivial)); (case aO => exact (RU HO_3.out)); (case aS => exact (sizU HB.out)); (case aL => have := LMc8.out; omega); intro v118 w9 ho hb hg hat; rw [← Ny117.out] at ho; have n0_ := Aside0.mk (hb); have n1_ := Aside0.mk (ho); clear HB; clear HO_3; have HB := n0_; have HO119 := n1_; clear n0_ n1_; clear ho hb hg hat))
              go_roundg k1
              case measure => have := HK1.out; omega
              case rel => exact ⟨(y117), (wrap64 (x4_1 + 1)), (by first | rfl | (simp; done) | (simp [*]; done)), H', ⟨by have := HK1.out; omega⟩, ⟨RU HO119.out⟩, ⟨belU HB.out⟩⟩
            · rw [if_neg c8] at H
              exact absurd H (by simp)
          · rw [if_neg c7] at H
            have c7b0 : ((bt a0 x4_1) == 47) = false := beq_eq_false_iff_ne.mpr c7
            have c7b1 : ((bt a0 x4_1) != 47) = true := bne_iff_ne.mpr c7
            obtain ⟨ji10, hji10⟩ : ∃ j_ : Int, (wrap64 ((x3_1.length : Int) - 1)) = j_ := ⟨_, rfl⟩
            replace H : (if 0 ≤ (ji10) then (if (ji10) < (x3_1.length : Int) then (if x4_1 ≤ (wrap64 (x4_1 + 1)) then (if (wrap64 (x4_1 + 1)) ≤ (a0.size : Int) then (if (rdOf ByteArray.empty x3_1 (ji10)).size + (a0.extract (x4_1 : Int).toNat ((wrap64 (x4_1 + 1)) : Int).toNat).size ≤ 9223372036854775807 then (aquiferref05_Names.l0 k1 a0 (x3_1.set ((ji10) : Int).toNat ((rdOf ByteArray.empty x3_1 (ji10)) ++ (a0.extract (x4_1 : Int).toNat ((wrap64 (x4_1 + 1)) : Int).toNat))) (wrap64 (x4_1 + 1))) else (none)) else (none)) else (none)) else (none)) else (none)) = some r := by first | (rw [hji10] at H; exact H) | (simp only [hji10] at H ⊢; exact H)
            have hji10w : (IntKind.i64.wrap ((x3_1.length : Int) - 1)) = ji10 := (i64_w _).trans hji10
            by_cases c11 : 0 ≤ (ji10)
            · rw [if_pos c11] at H
              have c11b0 : decide (0 ≤ (ji10)) = true := decide_eq_true c11
              clear c11
              by_cases c12 : (ji10) < (x3_1.length : Int)
              · rw [if_pos c12] at H
                have c12b0 : decide ((ji10) < (x3_1.length : Int)) = true := decide_eq_true c12
                clear c12
                have c13b0 := eq_true (of_decide_eq_true (by first | (with_reducible assumption) | assumption) : 0 ≤ x4_1)
                by_cases c14 : x4_1 ≤ (wrap64 (x4_1 + 1))
                · rw [if_pos c14] at H
                  have c14b0 := eq_true c14
                  have c14b1 : decide (x4_1 ≤ (wrap64 (x4_1 + 1))) = true := decide_eq_true c14
                  by_cases c15 : (wrap64 (x4_1 + 1)) ≤ (a0.size : Int)
                  · rw [if_pos c15] at H
                    have c15b0 := eq_true c15
                    have c15b1 : decide ((wrap64 (x4_1 + 1)) ≤ (a0.size : Int)) = true := decide_eq_true c15
                    by_cases c16 : (rdOf ByteArray.empty x3_1 (ji10)).size + (a0.extract (x4_1 : Int).toNat ((wrap64 (x4_1 + 1)) : Int).toNat).size ≤ 9223372036854775807
                    · rw [if_pos c16] at H
                      have c16b0 := eq_true c16
                      have c16b1 : decide ((rdOf ByteArray.empty x3_1 (ji10)).size + (a0.extract (x4_1 : Int).toNat ((wrap64 (x4_1 + 1)) : Int).toNat).size ≤ 9223372036854775807) = true := decide_eq_true c16
                      try have c16b2 : (9223372036854775807 < (rdOf ByteArray.empty x3_1 (ji10)).size + (a0.extract (x4_1 : Int).toNat ((wrap64 (x4_1 + 1)) : Int).toNat).size) = False := eq_false (Nat.not_lt.2 c16)
                      try have c16b3 : (9223372036854775807 < (rdOf ByteArray.empty x3_1 (ji10)).size + (((wrap64 (x4_1 + 1)) : Int).toNat - (x4_1 : Int).toNat)) = False := eq_false (by have h_ := c16; simp only [ByteArray.size_extract] at h_; omega)
                      obtain ⟨y121, hy121⟩ : ∃ y_ : List ByteArray, y_ = (x3_1.set ((ji10) : Int).toNat ((rdOf ByteArray.empty x3_1 (ji10)) ++ (a0.extract (x4_1 : Int).toNat ((wrap64 (x4_1 + 1)) : Int).toNat))) := ⟨_, rfl⟩
                      replace H : (aquiferref05_Names.l0 k1 a0 y121 (wrap64 (x4_1 + 1))) = some r := by first | (rw [hy121]; with_reducible exact H) | (have H2_ := (Option.bind_some _ _).symm.trans H; rw [hy121]; with_reducible exact H2_) | (have H2_ := (Option.bind_some _ _).symm.trans H; with_reducible exact H2_) | with_reducible exact H | (rw [hy121]; exact H) | exact H
                      have Ny121 := Aside0.mk hy121
                      clear hy121
                      have H' := Aside0.mk H
                      clear H
                      have p6 : 0 ≤ (x4_1 : Int) := of_decide_eq_true (by first | (with_reducible assumption) | assumption)
                      have q6 : x4_1 < (a0.size : Int) := of_decide_eq_true (by first | (with_reducible assumption) | assumption)
                      have hx6 := bt_at a0 x4_1
                      replace p6 := eq_true p6
                      replace q6 := eq_true q6
                      try go_wp2
                      have n0_ := Aside0.mk (Kd.R_drew HO_3.out)
                      have n1_ := Aside0.mk (below_drew1 HB.out)
                      clear HO_3
                      clear HB
                      have HO_3 := n0_
                      have HB := n1_
                      clear n0_ n1_
                      obtain ⟨Ao19, co19, eo19⟩ := Kd.R_slice HO_3.out
                      (first | subst eo19 | (injection eo19 with f1_ f2_ f3_; have f4_ := f1_.symm; have f5_ := f3_.symm; clear f1_ f2_ f3_; subst f4_; subst f5_))
                      have p120 : 0 ≤ ((ji10) : Int) := of_decide_eq_true (by first | (with_reducible assumption) | assumption)
                      have q120 : (ji10) < (x3_1.length : Int) := of_decide_eq_true (by first | (with_reducible assumption) | assumption)
                      obtain ⟨ad120, e120, hx120_0⟩ := Kd.at_string (Kd.R_reads' HO_3.out).2.2 (ji10) p120 q120
                      cases e120
                      replace p120 := eq_true p120
                      replace q120 := eq_true q120
                      have p17 : 0 ≤ ((ji10) : Int) := of_decide_eq_true (by first | (with_reducible assumption) | assumption)
                      have q17 : ((ji10) : Int) < ((x3_1.length : Int) : Int) := of_decide_eq_true (by first | (with_reducible assumption) | assumption)
                      obtain ⟨go17, co17, eo17, gb17, gl17, cl17, HG17⟩ := Kd.R_form HO_3.out (by omega)
                      (first | cases eo17 | (injection eo17 with ea_ en_ ec_; (first | subst ea_ | (injection ea_ with ea_; subst ea_)); subst ec_; clear en_))
                      have GB17 := Aside0.mk gb17
                      have GG17 := Aside0.mk HG17
                      clear gb17 gl17 HG17
                      (first | simp only [add_plain] at hx120_0 | skip)
                      obtain ⟨hx17_0, hf17_0⟩ := Kd.R_celln (⟨#[]⟩ : ByteArray) HO_3.out ((ji10) : Int) p17 q17
                      replace p17 := eq_true p17
                      replace q17 := eq_true q17
                      have HP20 := Kd.R_putn HO_3.out ((ji10) : Int) ((rdOf ByteArray.empty x3_1 (ji10)) ++ (a0.extract (x4_1 : Int).toNat ((wrap64 (x4_1 + 1)) : Int).toNat))
                      rw [← Ny121.out] at HP20
                      have HQ20 := Aside0.mk HP20
                      clear HP20
                      refine start_ (n := 18) (S := fun w' => w'.cell? ⟨go17, ((ji10)).toNat, none⟩ = some (.string (rdOf ByteArray.empty x3_1 (ji10)))) (ds := [17]) #[false, false, false, false, false, false, false, false, false, false, false, false, false, false, false, false, false, false] (by kernel_rfl) rfl rfl (hx120_0) (fun hHeld => ?_); refine with_tabW aquiferref05_Names.tab7 aquiferref05_Names.bits7 (fun HT_ HW_ => ?_)
                      generalize wr.drew = w18 at HO_3 HB GG17 HQ20 hf17_0 hx120_0 hx17_0 hHeld ⊢
                      refine pure_ (i := 0) (N := some 19) (v := ?_) (a' := ?_) #[true, false, false, false, false, false, false, false, false, false, false, false, false, false, false, false, false, false] rfl rfl (any_of HT_.out (by kernel_rfl)) (fun _ _ _ h => h) (Or.inl ⟨by rfl, ?_⟩) ?_ ?_
                      rotate_left
                      · intro w'
                        go_simp
                        with_reducible rfl
                      rotate_left
                      · simp only [Act.put, List.setIfInBounds_toArray, List.set_cons_zero, List.set_cons_succ, i64_w, i32_w]
                        rfl
                      refine pure_ (i := 1) (N := some 20) (v := ?_) (a' := ?_) #[true, true, false, false, false, false, false, false, false, false, false, false, false, false, false, false, false, false] rfl rfl (any_of HT_.out (by kernel_rfl)) (fun _ _ _ h => h) (Or.inl ⟨by rfl, ?_⟩) ?_ ?_
                      rotate_left
                      · intro w'
                        go_simp
                        with_reducible rfl
                      rotate_left
                      · simp only [Act.put, List.setIfInBounds_toArray, List.set_cons_zero, List.set_cons_succ, i64_w, i32_w]
                        rfl
                      refine pure_ (i := 2) (N := some 21) (v := ?_) (a' := ?_) #[true, true, true, false, false, false, false, false, false, false, false, false, false, false, false, false, false, false] rfl rfl (any_of HT_.out (by kernel_rfl)) (fun _ _ _ h => h) (Or.inl ⟨by rfl, ?_⟩) ?_ ?_
                      rotate_left
                      · intro w'
                        go_simp
                        with_reducible rfl
                      rotate_left
                      · simp only [Act.put, List.setIfInBounds_toArray, List.set_cons_zero, List.set_cons_succ, i64_w, i32_w]
                        rfl
                      refine pure_ (i := 3) (N := some 22) (v := ?_) (a' := ?_) #[true, true, true, true, false, false, false, false, false, false, false, false, false, false, false, false, false, false] rfl rfl (any_of HT_.out (by kernel_rfl)) (fun _ _ _ h => h) (Or.inl ⟨by rfl, ?_⟩) ?_ ?_
                      rotate_left
                      · intro w'
                        go_simp
                        with_reducible rfl
                      rotate_left
                      · simp only [Act.put, List.setIfInBounds_toArray, List.set_cons_zero, List.set_cons_succ, i64_w, i32_w]
                        rfl
                      refine pure_ (i := 4) (N := some 23) (v := ?_) (a' := ?_) #[true, true, true, true, true, false, false, false, false, false, false, false, false, false, false, false, false, false] rfl rfl (any_of HT_.out (by kernel_rfl)) (fun _ _ _ h => h) (Or.inl ⟨by rfl, ?_⟩) ?_ ?_
                      rotate_left
                      · intro w'
                        go_simp
                        with_reducible rfl
                      rotate_left
                      · simp only [Act.put, List.setIfInBounds_toArray, List.set_cons_zero, List.set_cons_succ, i64_w, i32_w]
                        rfl
                      refine pure_ (i := 5) (N := some 24) (v := ?_) (a' := ?_) #[true, true, true, true, true, true, false, false, false, false, false, false, false, false, false, false, false, false] rfl rfl (any_of HT_.out (by kernel_rfl)) (fun _ _ _ h => h) (Or.inl ⟨by rfl, ?_⟩) ?_ ?_
                      rotate_left
                      · intro w'
                        go_simp
                        with_reducible rfl
                      rotate_left
                      · simp only [Act.put, List.setIfInBounds_toArray, List.set_cons_zero, List.set_cons_succ, i64_w, i32_w]
                        rfl
                      refine pure_ (i := 6) (N := some 25) (v := ?_) (a' := ?_) #[true, true, true, true, true, true, true, false, false, false, false, false, false, false, false, false, false, false] rfl rfl (any_of HT_.out (by kernel_rfl)) (fun _ _ _ h => h) (Or.inl ⟨by rfl, ?_⟩) ?_ ?_
                      rotate_left
                      · intro w'
                        go_simp
                        with_reducible rfl
                      rotate_left
                      · simp only [Act.put, List.setIfInBounds_toArray, List.set_cons_zero, List.set_cons_succ, i64_w, i32_w]
                        rfl
                      refine pure_ (i := 7) (N := some 26) (v := ?_) (a' := ?_) #[true, true, true, true, true, true, true, true, false, false, false, false, false, false, false, false, false, false] rfl rfl (any_of HT_.out (by kernel_rfl)) (fun _ _ _ h => h) (Or.inl ⟨by rfl, ?_⟩) ?_ ?_
                      rotate_left
                      · intro w'
                        go_simp
                        with_reducible rfl
                      rotate_left
                      · simp only [Act.put, List.setIfInBounds_toArray, List.set_cons_zero, List.set_cons_succ, i64_w, i32_w]
                        rfl
                      refine pure_ (i := 8) (N := some 27) (v := ?_) (a' := ?_) #[true, true, true, true, true, true, true, true, true, false, false, false, false, false, false, false, false, false] rfl rfl (any_of HT_.out (by kernel_rfl)) (fun _ _ _ h => h) (Or.inl ⟨by rfl, ?_⟩) ?_ ?_
                      rotate_left
                      · intro w'
                        go_simp
                        with_reducible rfl
                      rotate_left
                      · simp only [Act.put, List.setIfInBounds_toArray, List.set_cons_zero, List.set_cons_succ, i64_w, i32_w]
                        rfl
                      refine pure_ (i := 10) (N := some 29) (v := ?_) (a' := ?_) #[true, true, true, true, true, true, true, true, true, false, true, false, false, false, false, false, false, false] rfl rfl (any_of HT_.out (by kernel_rfl)) (fun _ _ _ h => h) (Or.inl ⟨by rfl, ?_⟩) ?_ ?_
                      rotate_left
                      · intro w'
                        go_simp
                        with_reducible rfl
                      rotate_left
                      · simp only [Act.put, List.setIfInBounds_toArray, List.set_cons_zero, List.set_cons_succ, i64_w, i32_w]
                        rfl
                      refine pure_ (i := 11) (N := some 30) (v := ?_) (a' := ?_) #[true, true, true, true, true, true, true, true, true, false, true, true, false, false, false, false, false, false] rfl rfl (any_of HT_.out (by kernel_rfl)) (fun _ _ _ h => h) (Or.inl ⟨by rfl, ?_⟩) ?_ ?_
                      rotate_left
                      · intro w'
                        go_simp
                        with_reducible rfl
                      rotate_left
                      · simp only [Act.put, List.setIfInBounds_toArray, List.set_cons_zero, List.set_cons_succ, i64_w, i32_w]
                        rfl
                      refine pure_ (i := 12) (N := some 31) (v := ?_) (a' := ?_) #[true, true, true, true, true, true, true, true, true, false, true, true, true, false, false, false, false, false] rfl rfl (any_of HT_.out (by kernel_rfl)) (fun _ _ _ h => h) (Or.inl ⟨by rfl, ?_⟩) ?_ ?_
                      rotate_left
                      · intro w'
                        go_simp
                        with_reducible rfl
                      rotate_left
                      · simp only [Act.put, List.setIfInBounds_toArray, List.set_cons_zero, List.set_cons_succ, i64_w, i32_w]
                        rfl
                      refine pure_ (i := 13) (N := some 32) (v := ?_) (a' := ?_) #[true, true, true, true, true, true, true, true, true, false, true, true, true, true, false, false, false, false] rfl rfl (any_of HT_.out (by kernel_rfl)) (fun _ _ _ h => h) (Or.inl ⟨by rfl, ?_⟩) ?_ ?_
                      rotate_left
                      · intro w'
                        go_simp
                        with_reducible rfl
                      rotate_left
                      · simp only [Act.put, List.setIfInBounds_toArray, List.set_cons_zero, List.set_cons_succ, i64_w, i32_w]
                        rfl
                      refine pure_ (i := 14) (N := some 33) (v := ?_) (a' := ?_) #[true, true, true, true, true, true, true, true, true, false, true, true, true, true, true, false, false, false] rfl rfl (any_of HT_.out (by kernel_rfl)) (fun _ _ _ h => h) (Or.inl ⟨by rfl, ?_⟩) ?_ ?_
                      rotate_left
                      · intro w'
                        go_simp
                        with_reducible rfl
                      rotate_left
                      · simp only [Act.put, List.setIfInBounds_toArray, List.set_cons_zero, List.set_cons_succ, i64_w, i32_w]
                        rfl
                      refine take_ (i := 9) (N := some 28) (v := ?_) (a' := ?_) #[true, true, true, true, true, true, true, true, true, true, true, true, true, true, true, false, false, false] rfl rfl (take_ofW HT_.out HW_.out (by kernel_rfl)) (fun _ _ _ h => h) (Or.inl ⟨by rfl, ?_⟩) hHeld ?_ ?_
                      rotate_left
                      · intro w' s0
                        go_simp
                        with_reducible rfl
                      rotate_left
                      · simp only [Act.put, List.setIfInBounds_toArray, List.set_cons_zero, List.set_cons_succ, i64_w, i32_w]
                        rfl
                      refine pure_ (i := 15) (N := some 34) (v := ?_) (a' := ?_) #[true, true, true, true, true, true, true, true, true, true, true, true, true, true, true, true, false, false] rfl rfl (any_of HT_.out (by kernel_rfl)) (fun _ _ _ h => h) (Or.inl ⟨by rfl, ?_⟩) ?_ ?_
                      rotate_left
                      · intro w'
                        go_simp
                        with_reducible rfl
                      rotate_left
                      · simp only [Act.put, List.setIfInBounds_toArray, List.set_cons_zero, List.set_cons_succ, i64_w, i32_w]
                        rfl
                      refine pure_ (i := 16) (N := some 35) (v := ?_) (a' := ?_) #[true, true, true, true, true, true, true, true, true, true, true, true, true, true, true, true, true, false] rfl rfl (any_of HT_.out (by kernel_rfl)) (fun _ _ _ h => h) (Or.inl ⟨by rfl, ?_⟩) ?_ ?_
                      rotate_left
                      · intro w'
                        go_simp
                        with_reducible rfl
                      rotate_left
                      · simp only [Act.put, List.setIfInBounds_toArray, List.set_cons_zero, List.set_cons_succ, i64_w, i32_w]
                        rfl
                      refine last_ (i := 17) (N := none) #[true, true, true, true, true, true, true, true, true, true, true, true, true, true, true, true, true, true] rfl rfl (one_of HT_.out (by kernel_rfl)) (by decide) (fun K hK => ?_)
                      refine skip_ (w1 := ?_) (by rfl) rfl ?_ ?_
                      rotate_left
                      · go_simp
                        rfl
                      refine hK.out _ _ ?_
                      clear hK K
                      refine done_ (done_of HT_.out (by kernel_rfl)) ?_
                      try go_wp2
                      go_roundg k1
                      case measure => have := HK1.out; omega
                      case rel => exact ⟨(y121), (wrap64 (x4_1 + 1)), (by first | rfl | (simp; done) | (simp [*]; done)), H', ⟨by have := HK1.out; omega⟩, ⟨RU HQ20.out⟩, ⟨belG HB.out GB17.out⟩⟩
                    · rw [if_neg c16] at H
                      exact absurd H (by simp)
                  · rw [if_neg c15] at H
                    exact absurd H (by simp)
                · rw [if_neg c14] at H
                  exact absurd H (by simp)
              · rw [if_neg c12] at H
                exact absurd H (by simp)
            · rw [if_neg c11] at H
              exact absurd H (by simp)
        · rw [if_neg c5] at H
          exact absurd H (by simp)
      · rw [if_neg c4] at H
        have c4b0 : decide (x4_1 < (a0.size : Int)) = false := decide_eq_false c4
        clear c4
        obtain rfl := Option.some.inj H
        go_wp2
        go_ret
        exact ⟨_, by first | rfl | (simp [errW_none, errW_some] <;> rfl) | (simp [*, errW_none, errW_some] <;> rfl), by (with_reducible repeat (first | apply Kd.R_alloc | apply Kd.R_drewN | apply Kd.R_drew)); exact HO_3.out, belU HB.out⟩

end Go.Proofs.YtkflalaocnghcaaDoor.Q

namespace Go.Proofs.YtkflalaocnghcaaDoor.Q
open Go.RowKit Go.Proofs.YtkflalaocnghcaaDoorW.PrintWords Go.Proofs.YtkflalaocnghcaaDoorW.PrintLast Go.Proofs.YtkflalaocnghcaaDoorW.PrintMore
attribute [local go_sem] max2_int min2_int max_two min_two max_three min_three max_four min_four   -- for this text's walks alone
attribute [local go_sem ↓] Go.Proofs.YtkflalaocnghcaaDoorK.isSome_setCell
set_option linter.unusedVariables false
set_option linter.unusedSimpArgs false

/-! ### aquiferref05_sign: function 81 -/
def aquiferref05_sign.f (a0 : Int) : Option (Bool) := if a0 ≥ 97 then (if a0 ≤ 122 then (some true) else (if a0 ≥ 48 then (if a0 ≤ 57 then (some true) else (if a0 = 95 then (some true) else (if a0 = 45 then (some true) else (some (a0 == 126))))) else (if a0 = 95 then (some true) else (if a0 = 45 then (some true) else (some (a0 == 126)))))) else (if a0 ≥ 48 then (if a0 ≤ 57 then (some true) else (if a0 = 95 then (some true) else (if a0 = 45 then (some true) else (some (a0 == 126))))) else (if a0 = 95 then (some true) else (if a0 = 45 then (some true) else (some (a0 == 126)))))
set_option maxHeartbeats 8000000 in
set_option maxRecDepth 100000 in
theorem aquiferref05_sign.calls (a0 : Int) (r : Bool) (w : World) (h : aquiferref05_sign.f a0 = some r) :
    Calls Tryd.prog 81 #[.int .u8 a0] w fun e w' => e = .returned (.bool r) ∧ Drawn0 w w' := by
  have H : (if a0 ≥ 97 then (if a0 ≤ 122 then (some true) else (if a0 ≥ 48 then (if a0 ≤ 57 then (some true) else (if a0 = 95 then (some true) else (if a0 = 45 then (some true) else (some (a0 == 126))))) else (if a0 = 95 then (some true) else (if a0 = 45 then (some true) else (some (a0 == 126)))))) else (if a0 ≥ 48 then (if a0 ≤ 57 then (some true) else (if a0 = 95 then (some true) else (if a0 = 45 then (some true) else (some (a0 == 126))))) else (if a0 = 95 then (some true) else (if a0 = 45 then (some true) else (some (a0 == 126)))))) = some r := h
  clear h
  by_cases c2 : a0 ≥ 97
  · rw [if_pos c2] at H
    have c2b0 : decide (97 ≤ a0) = true := decide_eq_true c2
    clear c2
    by_cases c3 : a0 ≤ 122
    · rw [if_pos c3] at H
      have c3b0 : decide (a0 ≤ 122) = true := decide_eq_true c3
      clear c3
      obtain rfl := Option.some.inj H
      go_enter Tryd.func81, Tryd.ntmps81
      go_wp2
      go_ret
      exact ⟨by first | rfl | (simp; done) | (simp [*]; done), by repeat (first | exact Drawn0.refl _ | apply Drawn0.step)⟩
    · rw [if_neg c3] at H
      have c3b0 : decide (a0 ≤ 122) = false := decide_eq_false c3
      clear c3
      by_cases c4 : a0 ≥ 48
      · rw [if_pos c4] at H
        have c4b0 : decide (48 ≤ a0) = true := decide_eq_true c4
        clear c4
        by_cases c5 : a0 ≤ 57
        · rw [if_pos c5] at H
          have c5b0 : decide (a0 ≤ 57) = true := decide_eq_true c5
          clear c5
          obtain rfl := Option.some.inj H
          go_enter Tryd.func81, Tryd.ntmps81
          go_wp2
          go_ret
          exact ⟨by first | rfl | (simp; done) | (simp [*]; done), by repeat (first | exact Drawn0.refl _ | apply Drawn0.step)⟩
        · rw [if_neg c5] at H
          have c5b0 : decide (a0 ≤ 57) = false := decide_eq_false c5
          clear c5
          by_cases c6 : a0 = 95
          · rw [if_pos c6] at H
            have c6b0 : (a0 == 95) = true := beq_iff_eq.mpr c6
            have c6b1 : (a0 != 95) = false := bne_eq_false_iff_eq.mpr c6
            clear c6
            obtain rfl := Option.some.inj H
            go_enter Tryd.func81, Tryd.ntmps81
            go_wp2
            go_ret
            exact ⟨by first | rfl | (simp; done) | (simp [*]; done), by repeat (first | exact Drawn0.refl _ | apply Drawn0.step)⟩
          · rw [if_neg c6] at H
            have c6b0 : (a0 == 95) = false := beq_eq_false_iff_ne.mpr c6
            have c6b1 : (a0 != 95) = true := bne_iff_ne.mpr c6
            by_cases c7 : a0 = 45
            · rw [if_pos c7] at H
              have c7b0 : (a0 == 45) = true := beq_iff_eq.mpr c7
              have c7b1 : (a0 != 45) = false := bne_eq_false_iff_eq.mpr c7
              clear c7
              obtain rfl := Option.some.inj H
              go_enter Tryd.func81, Tryd.ntmps81
              go_wp2
              go_ret
              exact ⟨by first | rfl | (simp; done) | (simp [*]; done), by repeat (first | exact Drawn0.refl _ | apply Drawn0.step)⟩
            · rw [if_neg c7] at H
              have c7b0 : (a0 == 45) = false := beq_eq_false_iff_ne.mpr c7
              have c7b1 : (a0 != 45) = true := bne_iff_ne.mpr c7
              obtain rfl := Option.some.inj H
              go_enter Tryd.func81, Tryd.ntmps81
              go_wp2
              go_ret
              exact ⟨by first | rfl | (simp; done) | (simp [*]; done), by repeat (first | exact Drawn0.refl _ | apply Drawn0.step)⟩
      · rw [if_neg c4] at H
        have c4b0 : decide (48 ≤ a0) = false := decide_eq_false c4
        clear c4
        by_cases c8 : a0 = 95
        · rw [if_pos c8] at H
          have c8b0 : (a0 == 95) = true := beq_iff_eq.mpr c8
          have c8b1 : (a0 != 95) = false := bne_eq_false_iff_eq.mpr c8
          clear c8
          obtain rfl := Option.some.inj H
          go_enter Tryd.func81, Tryd.ntmps81
          go_wp2
          go_ret
          exact ⟨by first | rfl | (simp; done) | (simp [*]; done), by repeat (first | exact Drawn0.refl _ | apply Drawn0.step)⟩
        · rw [if_neg c8] at H
          have c8b0 : (a0 == 95) = false := beq_eq_false_iff_ne.mpr c8
          have c8b1 : (a0 != 95) = true := bne_iff_ne.mpr c8
          by_cases c9 : a0 = 45
          · rw [if_pos c9] at H
            have c9b0 : (a0 == 45) = true := beq_iff_eq.mpr c9
            have c9b1 : (a0 != 45) = false := bne_eq_false_iff_eq.mpr c9
            clear c9
            obtain rfl := Option.some.inj H
            go_enter Tryd.func81, Tryd.ntmps81
            go_wp2
            go_ret
            exact ⟨by first | rfl | (simp; done) | (simp [*]; done), by repeat (first | exact Drawn0.refl _ | apply Drawn0.step)⟩
          · rw [if_neg c9] at H
            have c9b0 : (a0 == 45) = false := beq_eq_false_iff_ne.mpr c9
            have c9b1 : (a0 != 45) = true := bne_iff_ne.mpr c9
            obtain rfl := Option.some.inj H
            go_enter Tryd.func81, Tryd.ntmps81
            go_wp2
            go_ret
            exact ⟨by first | rfl | (simp; done) | (simp [*]; done), by repeat (first | exact Drawn0.refl _ | apply Drawn0.step)⟩
  · rw [if_neg c2] at H
    have c2b0 : decide (97 ≤ a0) = false := decide_eq_false c2
    clear c2
    by_cases c10 : a0 ≥ 48
    · rw [if_pos c10] at H
      have c10b0 : decide (48 ≤ a0) = true := decide_eq_true c10
      clear c10
      by_cases c11 : a0 ≤ 57
      · rw [if_pos c11] at H
        have c11b0 : decide (a0 ≤ 57) = true := decide_eq_true c11
        clear c11
        obtain rfl := Option.some.inj H
        go_enter Tryd.func81, Tryd.ntmps81
        go_wp2
        go_ret
        exact ⟨by first | rfl | (simp; done) | (simp [*]; done), by repeat (first | exact Drawn0.refl _ | apply Drawn0.step)⟩
      · rw [if_neg c11] at H
        have c11b0 : decide (a0 ≤ 57) = false := decide_eq_false c11
        clear c11
        by_cases c12 : a0 = 95
        · rw [if_pos c12] at H
          have c12b0 : (a0 == 95) = true := beq_iff_eq.mpr c12
          have c12b1 : (a0 != 95) = false := bne_eq_false_iff_eq.mpr c12
          clear c12
          obtain rfl := Option.some.inj H
          go_enter Tryd.func81, Tryd.ntmps81
          go_wp2
          go_ret
          exact ⟨by first | rfl | (simp; done) | (simp [*]; done), by repeat (first | exact Drawn0.refl _ | apply Drawn0.step)⟩
        · rw [if_neg c12] at H
          have c12b0 : (a0 == 95) = false := beq_eq_false_iff_ne.mpr c12
          have c12b1 : (a0 != 95) = true := bne_iff_ne.mpr c12
          by_cases c13 : a0 = 45
          · rw [if_pos c13] at H
            have c13b0 : (a0 == 45) = true := beq_iff_eq.mpr c13
            have c13b1 : (a0 != 45) = false := bne_eq_false_iff_eq.mpr c13
            clear c13
            obtain rfl := Option.some.inj H
            go_enter Tryd.func81, Tryd.ntmps81
            go_wp2
            go_ret
            exact ⟨by first | rfl | (simp; done) | (simp [*]; done), by repeat (first | exact Drawn0.refl _ | apply Drawn0.step)⟩
          · rw [if_neg c13] at H
            have c13b0 : (a0 == 45) = false := beq_eq_false_iff_ne.mpr c13
            have c13b1 : (a0 != 45) = true := bne_iff_ne.mpr c13
            obtain rfl := Option.some.inj H
            go_enter Tryd.func81, Tryd.ntmps81
            go_wp2
            go_ret
            exact ⟨by first | rfl | (simp; done) | (simp [*]; done), by repeat (first | exact Drawn0.refl _ | apply Drawn0.step)⟩
    · rw [if_neg c10] at H
      have c10b0 : decide (48 ≤ a0) = false := decide_eq_false c10
      clear c10
      by_cases c14 : a0 = 95
      · rw [if_pos c14] at H
        have c14b0 : (a0 == 95) = true := beq_iff_eq.mpr c14
        have c14b1 : (a0 != 95) = false := bne_eq_false_iff_eq.mpr c14
        clear c14
        obtain rfl := Option.some.inj H
        go_enter Tryd.func81, Tryd.ntmps81
        go_wp2
        go_ret
        exact ⟨by first | rfl | (simp; done) | (simp [*]; done), by repeat (first | exact Drawn0.refl _ | apply Drawn0.step)⟩
      · rw [if_neg c14] at H
        have c14b0 : (a0 == 95) = false := beq_eq_false_iff_ne.mpr c14
        have c14b1 : (a0 != 95) = true := bne_iff_ne.mpr c14
        by_cases c15 : a0 = 45
        · rw [if_pos c15] at H
          have c15b0 : (a0 == 45) = true := beq_iff_eq.mpr c15
          have c15b1 : (a0 != 45) = false := bne_eq_false_iff_eq.mpr c15
          clear c15
          obtain rfl := Option.some.inj H
          go_enter Tryd.func81, Tryd.ntmps81
          go_wp2
          go_ret
          exact ⟨by first | rfl | (simp; done) | (simp [*]; done), by repeat (first | exact Drawn0.refl _ | apply Drawn0.step)⟩
        · rw [if_neg c15] at H
          have c15b0 : (a0 == 45) = false := beq_eq_false_iff_ne.mpr c15
          have c15b1 : (a0 != 45) = true := bne_iff_ne.mpr c15
          obtain rfl := Option.some.inj H
          go_enter Tryd.func81, Tryd.ntmps81
          go_wp2
          go_ret
          exact ⟨by first | rfl | (simp; done) | (simp [*]; done), by repeat (first | exact Drawn0.refl _ | apply Drawn0.step)⟩

end Go.Proofs.YtkflalaocnghcaaDoor.Q

namespace Go.Proofs.YtkflalaocnghcaaDoor.Q
open Go.RowKit Go.Proofs.YtkflalaocnghcaaDoorW.PrintWords Go.Proofs.YtkflalaocnghcaaDoorW.PrintLast Go.Proofs.YtkflalaocnghcaaDoorW.PrintMore
attribute [local go_sem] max2_int min2_int max_two min_two max_three min_three max_four min_four   -- for this text's walks alone
attribute [local go_sem ↓] Go.Proofs.YtkflalaocnghcaaDoorK.isSome_setCell
set_option linter.unusedVariables false
set_option linter.unusedSimpArgs false

/-! ### aquiferref05_name: function 60 -/
def aquiferref05_name.l0 : Nat → ByteArray → Int → Int → Option (Int)
  | 0, _, _, _ => none
  | k + 1, x0, x3, x4 => if x4 < (x0.size : Int) then (if 0 ≤ x4 then (if (bt x0 x4) = 46 then (if x4 = 0 then (some 0) else (if x4 = (wrap64 ((x0.size : Int) - 1)) then (some 0) else (aquiferref05_name.l0 k x0 (wrap64 (x3 + 1)) (wrap64 (x4 + 1))))) else ((aquiferref05_sign.f (bt x0 x4)).bind fun t122 => (if t122 = true then (aquiferref05_name.l0 k x0 x3 (wrap64 (x4 + 1))) else (some 0)))) else (none)) else (if (x0.size : Int) = 0 then (some 0) else (if (x0.size : Int) > 24 then (some 0) else (if x3 > 1 then (some 0) else (some (wrap64 (1 + x3))))))
def aquiferref05_name.f (k : Nat) (a0 : ByteArray) : Option (Int) := aquiferref05_name.l0 k a0 0 0
theorem aquiferref05_name.mono_l : ∀ k, (∀ y0 y1 y2, LeO (aquiferref05_name.l0 k y0 y1 y2) (aquiferref05_name.l0 (k + 1) y0 y1 y2))
  | 0 => fun _ _ _ r h => by simp [aquiferref05_name.l0] at h
  | k + 1 => by
    have ih0 := aquiferref05_name.mono_l k
    · intro y0 y1 y2
      unfold aquiferref05_name.l0
      repeat' first
      | (with_reducible exact ih0 _ _ _)
      | (with_reducible exact LeO.refl _)
      | (with_reducible exact LeO.none _)
      | (with_reducible refine LeO.ite ?_ ?_)
      | (with_reducible refine LeO.bind ?_ (fun _ => ?_))
      | exact ih0 _ _ _
      | exact LeO.none _
      | refine LeO.ite ?_ ?_
      | refine LeO.bind ?_ (fun _ => ?_)
theorem aquiferref05_name.mono : ∀ a0 k, LeO (aquiferref05_name.f k a0) (aquiferref05_name.f (k + 1) a0) := by
  intro a0 k
  have ih0 := aquiferref05_name.mono_l k
  unfold aquiferref05_name.f
  repeat' first
      | (with_reducible exact ih0 _ _ _)
      | (with_reducible exact LeO.refl _)
      | (with_reducible exact LeO.none _)
      | (with_reducible refine LeO.ite ?_ ?_)
      | (with_reducible refine LeO.bind ?_ (fun _ => ?_))
      | exact ih0 _ _ _
      | exact LeO.none _
      | refine LeO.ite ?_ ?_
      | refine LeO.bind ?_ (fun _ => ?_)
set_option maxHeartbeats 8000000 in
set_option maxRecDepth 100000 in
theorem aquiferref05_name.calls (k : Nat) (a0 : ByteArray) (r : Int) (w : World) (h : aquiferref05_name.f k a0 = some r) :
    Calls Tryd.prog 60 #[.string a0] w fun e w' => e = .returned (.int .i64 r) ∧ Drawn0 w w' := by
  have H : (aquiferref05_name.l0 k a0 0 0) = some r := h
  clear h
  have H' := Aside0.mk H
  clear H
  go_enter Tryd.func60, Tryd.ntmps60
  go_wp2
  go_loopg [3, 4] k (fun kq v3 v4 w' => ∃ (x3_1 : Int) (x4_1 : Int), v3 = .int .i64 x3_1 ∧ v4 = .int .i64 x4_1 ∧ Aside0 (aquiferref05_name.l0 kq a0 x3_1 x4_1 = some r) ∧ Aside0 (kq ≤ k) ∧ Drawn0 w w')
  case atStart => exact ⟨(0), (0), (by first | rfl | (simp; done) | (simp [*]; done)), (by first | rfl | (simp; done) | (simp [*]; done)), H', ⟨Nat.le_refl _⟩, by repeat (first | exact Drawn0.refl _ | apply Drawn0.step)⟩
  case round =>
    clear H'
    obtain ⟨x3_1, x4_1, rfl, rfl, HA, HK1, ⟨m1, rfl⟩⟩ := hrel
    cases gk with
    | zero => exact absurd HA.out (by simp [aquiferref05_name.l0])
    | succ k1 =>
      have H := HA.out
      clear HA
      simp only [aquiferref05_name.l0] at H
      by_cases c2 : x4_1 < (a0.size : Int)
      · rw [if_pos c2] at H
        have c2b0 : decide (x4_1 < (a0.size : Int)) = true := decide_eq_true c2
        clear c2
        by_cases c3 : 0 ≤ x4_1
        · rw [if_pos c3] at H
          have c3b0 : decide (0 ≤ x4_1) = true := decide_eq_true c3
          clear c3
          by_cases c5 : (bt a0 x4_1) = 46
          · rw [if_pos c5] at H
            have c5b0 : ((bt a0 x4_1) == 46) = true := beq_iff_eq.mpr c5
            have c5b1 : ((bt a0 x4_1) != 46) = false := bne_eq_false_iff_eq.mpr c5
            clear c5
            by_cases c6 : x4_1 = 0
            · rw [if_pos c6] at H
              have c6b0 : (x4_1 == 0) = true := beq_iff_eq.mpr c6
              have c6b1 : (x4_1 != 0) = false := bne_eq_false_iff_eq.mpr c6
              clear c6
              obtain rfl := Option.some.inj H
              have p4 : 0 ≤ (x4_1 : Int) := of_decide_eq_true (by first | (with_reducible assumption) | assumption)
              have q4 : x4_1 < (a0.size : Int) := of_decide_eq_true (by first | (with_reducible assumption) | assumption)
              have hx4 := bt_at a0 x4_1
              replace p4 := eq_true p4
              replace q4 := eq_true q4
              go_wp2
              go_ret
              exact ⟨by first | rfl | (simp; done) | (simp [*]; done), by repeat (first | exact Drawn0.refl _ | apply Drawn0.step)⟩
            · rw [if_neg c6] at H
              have c6b0 : (x4_1 == 0) = false := beq_eq_false_iff_ne.mpr c6
              have c6b1 : (x4_1 != 0) = true := bne_iff_ne.mpr c6
              by_cases c7 : x4_1 = (wrap64 ((a0.size : Int) - 1))
              · rw [if_pos c7] at H
                have c7b0 : (x4_1 == (wrap64 ((a0.size : Int) - 1))) = true := beq_iff_eq.mpr c7
                have c7b1 : (x4_1 != (wrap64 ((a0.size : Int) - 1))) = false := bne_eq_false_iff_eq.mpr c7
                clear c7
                obtain rfl := Option.some.inj H
                have p4 : 0 ≤ (x4_1 : Int) := of_decide_eq_true (by first | (with_reducible assumption) | assumption)
                have q4 : x4_1 < (a0.size : Int) := of_decide_eq_true (by first | (with_reducible assumption) | assumption)
                have hx4 := bt_at a0 x4_1
                replace p4 := eq_true p4
                replace q4 := eq_true q4
                go_wp2
                go_ret
                exact ⟨by first | rfl | (simp; done) | (simp [*]; done), by repeat (first | exact Drawn0.refl _ | apply Drawn0.step)⟩
              · rw [if_neg c7] at H
                have c7b0 : (x4_1 == (wrap64 ((a0.size : Int) - 1))) = false := beq_eq_false_iff_ne.mpr c7
                have c7b1 : (x4_1 != (wrap64 ((a0.size : Int) - 1))) = true := bne_iff_ne.mpr c7
                have H' := Aside0.mk H
                clear H
                have p4 : 0 ≤ (x4_1 : Int) := of_decide_eq_true (by first | (with_reducible assumption) | assumption)
                have q4 : x4_1 < (a0.size : Int) := of_decide_eq_true (by first | (with_reducible assumption) | assumption)
                have hx4 := bt_at a0 x4_1
                replace p4 := eq_true p4
                replace q4 := eq_true q4
                go_wp2
                go_roundg k1
                case measure => have := HK1.out; omega
                case rel => exact ⟨(wrap64 (x3_1 + 1)), (wrap64 (x4_1 + 1)), (by first | rfl | (simp; done) | (simp [*]; done)), (by first | rfl | (simp; done) | (simp [*]; done)), H', ⟨by have := HK1.out; omega⟩, by repeat (first | exact Drawn0.refl _ | apply Drawn0.step)⟩
          · rw [if_neg c5] at H
            have c5b0 : ((bt a0 x4_1) == 46) = false := beq_eq_false_iff_ne.mpr c5
            have c5b1 : ((bt a0 x4_1) != 46) = true := bne_iff_ne.mpr c5
            replace H := Option.bind_eq_some_iff.mp H
            obtain ⟨t122, A90, H⟩ := H
            replace H : (if t122 = true then (aquiferref05_name.l0 k1 a0 x3_1 (wrap64 (x4_1 + 1))) else (some 0)) = some r := H
            have A9 := Aside0.mk A90
            clear A90
            by_cases c10 : t122 = true
            · subst c10
              have H1 : (aquiferref05_name.l0 k1 a0 x3_1 (wrap64 (x4_1 + 1))) = some r := by rw [if_pos rfl] at H; exact H
              clear H
              have H := H1
              clear H1
              have H' := Aside0.mk H
              clear H
              have p4 : 0 ≤ (x4_1 : Int) := of_decide_eq_true (by first | (with_reducible assumption) | assumption)
              have q4 : x4_1 < (a0.size : Int) := of_decide_eq_true (by first | (with_reducible assumption) | assumption)
              have hx4 := bt_at a0 x4_1
              replace p4 := eq_true p4
              replace q4 := eq_true q4
              have p8 : 0 ≤ (x4_1 : Int) := of_decide_eq_true (by first | (with_reducible assumption) | assumption)
              have q8 : x4_1 < (a0.size : Int) := of_decide_eq_true (by first | (with_reducible assumption) | assumption)
              have hx8 := bt_at a0 x4_1
              replace p8 := eq_true p8
              replace q8 := eq_true q8
              go_wp2_with (first | ((with_reducible refine gate_callee (f := 81) rfl ?_); refine goesL_ (some 29) rfl rfl Tryd.func81 (by kernel_rfl) rfl #[.int .u8 (bt a0 x4_1)] rfl (by (try simp only [List.map_toArray, List.map_cons, List.map_nil]); first | done | rfl | (simp only [List.length_drop, List.length_take]; rfl)) ?_; (with_reducible refine (aquiferref05_sign.calls (bt a0 x4_1) true _ A9.out).mono ?_); rintro e w' ⟨rfl, ⟨nd, rfl⟩⟩; refine ⟨_, rfl, ?_⟩))
              go_roundg k1
              case measure => have := HK1.out; omega
              case rel => exact ⟨(x3_1), (wrap64 (x4_1 + 1)), (by first | rfl | (simp; done) | (simp [*]; done)), (by first | rfl | (simp; done) | (simp [*]; done)), H', ⟨by have := HK1.out; omega⟩, by repeat (first | exact Drawn0.refl _ | apply Drawn0.step)⟩
            · replace c10 := Bool.eq_false_iff.mpr c10
              subst c10
              have H1 : (some 0) = some r := by rw [if_neg (show ¬ (false = true) by decide)] at H; exact H
              clear H
              have H := H1
              clear H1
              obtain rfl := Option.some.inj H
              have p4 : 0 ≤ (x4_1 : Int) := of_decide_eq_true (by first | (with_reducible assumption) | assumption)
              have q4 : x4_1 < (a0.size : Int) := of_decide_eq_true (by first | (with_reducible assumption) | assumption)
              have hx4 := bt_at a0 x4_1
              replace p4 := eq_true p4
              replace q4 := eq_true q4
              have p8 : 0 ≤ (x4_1 : Int) := of_decide_eq_true (by first | (with_reducible assumption) | assumption)
              have q8 : x4_1 < (a0.size : Int) := of_decide_eq_true (by first | (with_reducible assumption) | assumption)
              have hx8 := bt_at a0 x4_1
              replace p8 := eq_true p8
              replace q8 := eq_true q8
              go_wp2_with (first | ((with_reducible refine gate_callee (f := 81) rfl ?_); refine goesL_ (some 29) rfl rfl Tryd.func81 (by kernel_rfl) rfl #[.int .u8 (bt a0 x4_1)] rfl (by (try simp only [List.map_toArray, List.map_cons, List.map_nil]); first | done | rfl | (simp only [List.length_drop, List.length_take]; rfl)) ?_; (with_reducible refine (aquiferref05_sign.calls (bt a0 x4_1) false _ A9.out).mono ?_); rintro e w' ⟨rfl, ⟨nd, rfl⟩⟩; refine ⟨_, rfl, ?_⟩))
              go_ret
              exact ⟨by first | rfl | (simp; done) | (simp [*]; done), by repeat (first | exact Drawn0.refl _ | apply Drawn0.step)⟩
        · rw [if_neg c3] at H
          exact absurd H (by simp)
      · rw [if_neg c2] at H
        have c2b0 : decide (x4_1 < (a0.size : Int)) = false := decide_eq_false c2
        clear c2
        by_cases c11 : (a0.size : Int) = 0
        · rw [if_pos c11] at H
          have c11b0 : ((a0.size : Int) == 0) = true := beq_iff_eq.mpr c11
          have c11b1 : ((a0.size : Int) != 0) = false := bne_eq_false_iff_eq.mpr c11
          clear c11
          obtain rfl := Option.some.inj H
          go_wp2
          go_ret
          exact ⟨by first | rfl | (simp; done) | (simp [*]; done), by repeat (first | exact Drawn0.refl _ | apply Drawn0.step)⟩
        · rw [if_neg c11] at H
          have c11b0 : ((a0.size : Int) == 0) = false := beq_eq_false_iff_ne.mpr c11
          have c11b1 : ((a0.size : Int) != 0) = true := bne_iff_ne.mpr c11
          by_cases c12 : (a0.size : Int) > 24
          · rw [if_pos c12] at H
            have c12b0 : decide (24 < (a0.size : Int)) = true := decide_eq_true c12
            have c12b1 : decide (24 < a0.size) = true := decide_eq_true (by omega)
            clear c12
            obtain rfl := Option.some.inj H
            go_wp2
            go_ret
            exact ⟨by first | rfl | (simp; done) | (simp [*]; done), by repeat (first | exact Drawn0.refl _ | apply Drawn0.step)⟩
          · rw [if_neg c12] at H
            have c12b0 : decide (24 < (a0.size : Int)) = false := decide_eq_false c12
            have c12b1 : decide (24 < a0.size) = false := decide_eq_false (by omega)
            clear c12
            by_cases c13 : x3_1 > 1
            · rw [if_pos c13] at H
              have c13b0 : decide (1 < x3_1) = true := decide_eq_true c13
              clear c13
              obtain rfl := Option.some.inj H
              go_wp2
              go_ret
              exact ⟨by first | rfl | (simp; done) | (simp [*]; done), by repeat (first | exact Drawn0.refl _ | apply Drawn0.step)⟩
            · rw [if_neg c13] at H
              have c13b0 : decide (1 < x3_1) = false := decide_eq_false c13
              clear c13
              obtain rfl := Option.some.inj H
              go_wp2
              go_ret
              exact ⟨by first | rfl | (simp; done) | (simp [*]; done), by repeat (first | exact Drawn0.refl _ | apply Drawn0.step)⟩

end Go.Proofs.YtkflalaocnghcaaDoor.Q

namespace Go.Proofs.YtkflalaocnghcaaDoor.Q
open Go.RowKit Go.Proofs.YtkflalaocnghcaaDoorW.PrintWords Go.Proofs.YtkflalaocnghcaaDoorW.PrintLast Go.Proofs.YtkflalaocnghcaaDoorW.PrintMore Go.Proofs.YtkflalaocnghcaaDoorK
attribute [local go_sem] max2_int min2_int max_two min_two max_three min_three max_four min_four   -- for this text's walks alone
attribute [local go_sem ↓] Go.Proofs.YtkflalaocnghcaaDoorK.isSome_setCell
set_option linter.unusedVariables false
set_option linter.unusedSimpArgs false

/-! ### aquiferref05_Kind: function 45 -/
def aquiferref05_Kind.l0 : Nat → List ByteArray → Int → Option (Int × Int)
  | 0, _, _ => none
  | k + 1, x4, x5 => if x5 < (x4.length : Int) then (if 0 ≤ x5 then ((aquiferref05_name.f k (rdOf ByteArray.empty x4 x5)).bind fun t129 => (if t129 = 0 then (some (0, 18)) else ((aquiferref05_name.f k (rdOf ByteArray.empty x4 x5)).bind fun t131 => (if t131 = 2 then (if (wrap64 (x5 + 1)) < (x4.length : Int) then (some (0, 18)) else (aquiferref05_Kind.l0 k x4 (wrap64 (x5 + 1)))) else (aquiferref05_Kind.l0 k x4 (wrap64 (x5 + 1))))))) else (none)) else (if (x4.length : Int) > 8 then (some (0, 7)) else (if 0 ≤ (wrap64 ((x4.length : Int) - 1)) then (if (wrap64 ((x4.length : Int) - 1)) < (x4.length : Int) then ((aquiferref05_name.f k (rdOf ByteArray.empty x4 (wrap64 ((x4.length : Int) - 1)))).bind fun t127 => (some (t127, 0))) else (none)) else (none)))
def aquiferref05_Kind.f (k : Nat) (a0 : ByteArray) : Option (Int × Int) := if (a0.size : Int) > 96 then (some (0, 3)) else (if a0.toList = ([] : List UInt8) then (some (1, 0)) else ((aquiferref05_Names.f k a0).bind fun t123 => (aquiferref05_Kind.l0 k t123 0)))
theorem aquiferref05_Kind.mono_l : ∀ k, (∀ y0 y1, LeO (aquiferref05_Kind.l0 k y0 y1) (aquiferref05_Kind.l0 (k + 1) y0 y1))
  | 0 => fun _ _ r h => by simp [aquiferref05_Kind.l0] at h
  | k + 1 => by
    have ih0 := aquiferref05_Kind.mono_l k
    · intro y0 y1
      unfold aquiferref05_Kind.l0
      repeat' first
      | (with_reducible exact ih0 _ _)
      | (with_reducible exact aquiferref05_Names.mono _ _)
      | (with_reducible exact aquiferref05_name.mono _ _)
      | (with_reducible exact LeO.refl _)
      | (with_reducible exact LeO.none _)
      | (with_reducible refine LeO.ite ?_ ?_)
      | (with_reducible refine LeO.bind ?_ (fun _ => ?_))
      | exact ih0 _ _
      | exact aquiferref05_Names.mono _ _
      | exact aquiferref05_name.mono _ _
      | exact LeO.none _
      | refine LeO.ite ?_ ?_
      | refine LeO.bind ?_ (fun _ => ?_)
theorem aquiferref05_Kind.mono : ∀ a0 k, LeO (aquiferref05_Kind.f k a0) (aquiferref05_Kind.f (k + 1) a0) := by
  intro a0 k
  have ih0 := aquiferref05_Kind.mono_l k
  unfold aquiferref05_Kind.f
  repeat' first
      | (with_reducible exact ih0 _ _)
      | (with_reducible exact aquiferref05_Names.mono _ _)
      | (with_reducible exact aquiferref05_name.mono _ _)
      | (with_reducible exact LeO.refl _)
      | (with_reducible exact LeO.none _)
      | (with_reducible refine LeO.ite ?_ ?_)
      | (with_reducible refine LeO.bind ?_ (fun _ => ?_))
      | exact ih0 _ _
      | exact aquiferref05_Names.mono _ _
      | exact aquiferref05_name.mono _ _
      | exact LeO.none _
      | refine LeO.ite ?_ ?_
      | refine LeO.bind ?_ (fun _ => ?_)
set_option maxHeartbeats 8000000 in
set_option maxRecDepth 100000 in
theorem aquiferref05_Kind.calls (k : Nat) (a0 : ByteArray) (r1 : Int) (r2 : Int) (w : World) (h : aquiferref05_Kind.f k a0 = some (r1, r2)) :
    Calls Tryd.prog 45 #[.string a0] w fun e w' => e = .returned (.tuple #[.int .i64 r1, .int .i64 r2]) ∧ Below w.heap.size w w' := by
  have HB := Aside0.mk (Below.refl w.heap.size w)
  have H : (if (a0.size : Int) > 96 then (some (0, 3)) else (if a0.toList = ([] : List UInt8) then (some (1, 0)) else ((aquiferref05_Names.f k a0).bind fun t123 => (aquiferref05_Kind.l0 k t123 0)))) = some (r1, r2) := h
  clear h
  by_cases c2 : (a0.size : Int) > 96
  · rw [if_pos c2] at H
    have c2b0 : decide (96 < (a0.size : Int)) = true := decide_eq_true c2
    have c2b1 : decide (96 < a0.size) = true := decide_eq_true (by omega)
    clear c2
    simp only [Option.some.injEq, Prod.mk.injEq] at H
    obtain ⟨rfl, rfl⟩ := H
    go_enter Tryd.func45, Tryd.ntmps45
    go_wp2
    go_ret2
    exact ⟨by first | rfl | (simp [errW_none, errW_some] <;> rfl) | (simp [*, errW_none, errW_some] <;> rfl), belU HB.out⟩
  · rw [if_neg c2] at H
    have c2b0 : decide (96 < (a0.size : Int)) = false := decide_eq_false c2
    have c2b1 : decide (96 < a0.size) = false := decide_eq_false (by omega)
    clear c2
    by_cases c3 : a0.toList = ([] : List UInt8)
    · rw [if_pos c3] at H
      have c3b0 : (a0.toList == ([] : List UInt8)) = true := beq_iff_eq.mpr c3
      have c3b1 : (a0.toList != ([] : List UInt8)) = false := bne_eq_false_iff_eq.mpr c3
      clear c3
      simp only [Option.some.injEq, Prod.mk.injEq] at H
      obtain ⟨rfl, rfl⟩ := H
      go_enter Tryd.func45, Tryd.ntmps45
      go_wp2
      go_ret2
      exact ⟨by first | rfl | (simp [errW_none, errW_some] <;> rfl) | (simp [*, errW_none, errW_some] <;> rfl), belU HB.out⟩
    · rw [if_neg c3] at H
      have c3b0 : (a0.toList == ([] : List UInt8)) = false := beq_eq_false_iff_ne.mpr c3
      have c3b1 : (a0.toList != ([] : List UInt8)) = true := bne_iff_ne.mpr c3
      replace H := Option.bind_eq_some_iff.mp H
      obtain ⟨t123, A40, H⟩ := H
      replace H : (aquiferref05_Kind.l0 k t123 0) = some (r1, r2) := H
      have A4 := Aside0.mk A40
      clear A40
      have H' := Aside0.mk H
      clear H
      go_enter Tryd.func45, Tryd.ntmps45
      go_wp2_with (first | ((with_reducible refine gate_callee (f := 59) rfl ?_); refine goesL_ (some 12) rfl rfl Tryd.func59 (by kernel_rfl) rfl #[.string a0] rfl (by (try simp only [List.map_toArray, List.map_cons, List.map_nil]); first | done | rfl | (simp only [List.length_drop, List.length_take]; rfl)) ?_; (with_reducible refine (aquiferref05_Names.calls k a0 t123 _ A4.out).mono ?_); rintro e w5 ⟨v124, rfl, ho0, hb⟩; refine ⟨_, rfl, ?_⟩; have n0_ := Aside0.mk (Kd.R_lower ho0 (sizU HB.out)); have n1_ := Aside0.mk (below_step (belU HB.out) hb); clear HB; have HO125 := n0_; have HB := n1_; clear n0_ n1_; (try clear hb); (try clear hb2); (try clear hk); (try clear hi); (try clear ho0)))
      go_loopg [5] k (fun kq v5 w' => ∃ (x5_1 : Int), v5 = .int .i64 x5_1 ∧ Aside0 (aquiferref05_Kind.l0 kq t123 x5_1 = some (r1, r2)) ∧ Aside0 (kq ≤ k) ∧ Aside0 (Kd.R Kd.string 9 w' w.heap.size (fun _ => True) v124 t123) ∧ Aside0 (Below w.heap.size w w'))
      case atStart => exact ⟨(0), (by first | rfl | (simp; done) | (simp [*]; done)), H', ⟨Nat.le_refl _⟩, ⟨RU HO125.out⟩, ⟨belU HB.out⟩⟩
      case round =>
        clear H'
        try clear c2
        try clear c2b0
        try clear c2b1
        try clear p2
        try clear c3
        try clear c3b0
        try clear c3b1
        try clear c4
        try clear c5
        obtain ⟨x5_1, rfl, HA, HK1, HO_4, HB⟩ := hrel
        cases gk with
        | zero => exact absurd HA.out (by simp [aquiferref05_Kind.l0])
        | succ k1 =>
          have H := HA.out
          clear HA
          simp only [aquiferref05_Kind.l0] at H
          by_cases c6 : x5_1 < (t123.length : Int)
          · rw [if_pos c6] at H
            have c6b0 : decide (x5_1 < (t123.length : Int)) = true := decide_eq_true c6
            clear c6
            by_cases c7 : 0 ≤ x5_1
            · rw [if_pos c7] at H
              have c7b0 : decide (0 ≤ x5_1) = true := decide_eq_true c7
              clear c7
              replace H := Option.bind_eq_some_iff.mp H
              obtain ⟨t129, A80, H⟩ := H
              replace H : (if t129 = 0 then (some (0, 18)) else ((aquiferref05_name.f k1 (rdOf ByteArray.empty t123 x5_1)).bind fun t131 => (if t131 = 2 then (if (wrap64 (x5_1 + 1)) < (t123.length : Int) then (some (0, 18)) else (aquiferref05_Kind.l0 k1 t123 (wrap64 (x5_1 + 1)))) else (aquiferref05_Kind.l0 k1 t123 (wrap64 (x5_1 + 1)))))) = some (r1, r2) := H
              have A8 := Aside0.mk A80
              clear A80
              by_cases c9 : t129 = 0
              · rw [if_pos c9] at H
                have c9b0 : (t129 == 0) = true := beq_iff_eq.mpr c9
                have c9b1 : (t129 != 0) = false := bne_eq_false_iff_eq.mpr c9
                clear c9
                simp only [Option.some.injEq, Prod.mk.injEq] at H
                obtain ⟨rfl, rfl⟩ := H
                obtain ⟨Ao10, co10, eo10⟩ := Kd.R_slice HO_4.out
                subst eo10
                have p128 : 0 ≤ (x5_1 : Int) := of_decide_eq_true (by first | (with_reducible assumption) | assumption)
                have q128 : x5_1 < (t123.length : Int) := of_decide_eq_true (by first | (with_reducible assumption) | assumption)
                obtain ⟨ad128, e128, hx128_0⟩ := Kd.at_string (Kd.R_reads' HO_4.out).2.2 x5_1 p128 q128
                cases e128
                replace p128 := eq_true p128
                replace q128 := eq_true q128
                go_wp2_with (first | ((with_reducible refine gate_callee (f := 60) rfl ?_); refine goesL_ (some 23) rfl rfl Tryd.func60 (by kernel_rfl) rfl #[.string (rdOf ByteArray.empty t123 x5_1)] rfl (by (try simp only [List.map_toArray, List.map_cons, List.map_nil]); first | done | rfl | (simp only [List.length_drop, List.length_take]; rfl)) ?_; (with_reducible refine (aquiferref05_name.calls k1 (rdOf ByteArray.empty t123 x5_1) t129 _ A8.out).mono ?_); rintro e w' ⟨rfl, ⟨nd, rfl⟩⟩; refine ⟨_, rfl, ?_⟩))
                go_ret2
                exact ⟨by first | rfl | (simp [errW_none, errW_some] <;> rfl) | (simp [*, errW_none, errW_some] <;> rfl), belU HB.out⟩
              · rw [if_neg c9] at H
                have c9b0 : (t129 == 0) = false := beq_eq_false_iff_ne.mpr c9
                have c9b1 : (t129 != 0) = true := bne_iff_ne.mpr c9
                replace H := Option.bind_eq_some_iff.mp H
                obtain ⟨t131, A110, H⟩ := H
                replace H : (if t131 = 2 then (if (wrap64 (x5_1 + 1)) < (t123.length : Int) then (some (0, 18)) else (aquiferref05_Kind.l0 k1 t123 (wrap64 (x5_1 + 1)))) else (aquiferref05_Kind.l0 k1 t123 (wrap64 (x5_1 + 1)))) = some (r1, r2) := H
                have A11 := Aside0.mk A110
                clear A110
                by_cases c12 : t131 = 2
                · rw [if_pos c12] at H
                  have c12b0 : (t131 == 2) = true := beq_iff_eq.mpr c12
                  have c12b1 : (t131 != 2) = false := bne_eq_false_iff_eq.mpr c12
                  clear c12
                  by_cases c13 : (wrap64 (x5_1 + 1)) < (t123.length : Int)
                  · rw [if_pos c13] at H
                    have c13b0 : decide ((wrap64 (x5_1 + 1)) < (t123.length : Int)) = true := decide_eq_true c13
                    clear c13
                    simp only [Option.some.injEq, Prod.mk.injEq] at H
                    obtain ⟨rfl, rfl⟩ := H
                    obtain ⟨Ao14, co14, eo14⟩ := Kd.R_slice HO_4.out
                    subst eo14
                    have p128 : 0 ≤ (x5_1 : Int) := of_decide_eq_true (by first | (with_reducible assumption) | assumption)
                    have q128 : x5_1 < (t123.length : Int) := of_decide_eq_true (by first | (with_reducible assumption) | assumption)
                    obtain ⟨ad128, e128, hx128_0⟩ := Kd.at_string (Kd.R_reads' HO_4.out).2.2 x5_1 p128 q128
                    cases e128
                    replace p128 := eq_true p128
                    replace q128 := eq_true q128
                    go_wp2_with (first | ((with_reducible refine gate_callee (f := 60) rfl ?_); refine goesL_ (some 23) rfl rfl Tryd.func60 (by kernel_rfl) rfl #[.string (rdOf ByteArray.empty t123 x5_1)] rfl (by (try simp only [List.map_toArray, List.map_cons, List.map_nil]); first | done | rfl | (simp only [List.length_drop, List.length_take]; rfl)) ?_; (with_reducible refine (aquiferref05_name.calls k1 (rdOf ByteArray.empty t123 x5_1) t129 _ A8.out).mono ?_); rintro e w' ⟨rfl, ⟨nd, rfl⟩⟩; refine ⟨_, rfl, ?_⟩; have p130 : 0 ≤ (x5_1 : Int) := of_decide_eq_true (by first | (with_reducible assumption) | assumption); have q130 : x5_1 < (t123.length : Int) := of_decide_eq_true (by first | (with_reducible assumption) | assumption); obtain ⟨ad130, e130, hx130_0⟩ := Kd.at_string (Kd.R_reads' HO_4.out).2.2 x5_1 p130 q130; obtain rfl : ad128 = ad130 := (by injection e130); replace p130 := eq_true p130; replace q130 := eq_true q130) | (go_at_call 60; (with_reducible refine (aquiferref05_name.calls k1 (rdOf ByteArray.empty t123 x5_1) t131 _ A11.out).mono ?_); rintro e w' ⟨rfl, ⟨nd, rfl⟩⟩))
                    go_ret2
                    exact ⟨by first | rfl | (simp [errW_none, errW_some] <;> rfl) | (simp [*, errW_none, errW_some] <;> rfl), belU HB.out⟩
                  · rw [if_neg c13] at H
                    have c13b0 : decide ((wrap64 (x5_1 + 1)) < (t123.length : Int)) = false := decide_eq_false c13
                    clear c13
                    have H' := Aside0.mk H
                    clear H
                    obtain ⟨Ao15, co15, eo15⟩ := Kd.R_slice HO_4.out
                    subst eo15
                    have p128 : 0 ≤ (x5_1 : Int) := of_decide_eq_true (by first | (with_reducible assumption) | assumption)
                    have q128 : x5_1 < (t123.length : Int) := of_decide_eq_true (by first | (with_reducible assumption) | assumption)
                    obtain ⟨ad128, e128, hx128_0⟩ := Kd.at_string (Kd.R_reads' HO_4.out).2.2 x5_1 p128 q128
                    cases e128
                    replace p128 := eq_true p128
                    replace q128 := eq_true q128
                    go_wp2_with (first | ((with_reducible refine gate_callee (f := 60) rfl ?_); refine goesL_ (some 23) rfl rfl Tryd.func60 (by kernel_rfl) rfl #[.string (rdOf ByteArray.empty t123 x5_1)] rfl (by (try simp only [List.map_toArray, List.map_cons, List.map_nil]); first | done | rfl | (simp only [List.length_drop, List.length_take]; rfl)) ?_; (with_reducible refine (aquiferref05_name.calls k1 (rdOf ByteArray.empty t123 x5_1) t129 _ A8.out).mono ?_); rintro e w' ⟨rfl, ⟨nd, rfl⟩⟩; refine ⟨_, rfl, ?_⟩; have p130 : 0 ≤ (x5_1 : Int) := of_decide_eq_true (by first | (with_reducible assumption) | assumption); have q130 : x5_1 < (t123.length : Int) := of_decide_eq_true (by first | (with_reducible assumption) | assumption); obtain ⟨ad130, e130, hx130_0⟩ := Kd.at_string (Kd.R_reads' HO_4.out).2.2 x5_1 p130 q130; obtain rfl : ad128 = ad130 := (by injection e130); replace p130 := eq_true p130; replace q130 := eq_true q130) | (go_at_call 60; (with_reducible refine (aquiferref05_name.calls k1 (rdOf ByteArray.empty t123 x5_1) t131 _ A11.out).mono ?_); rintro e w' ⟨rfl, ⟨nd, rfl⟩⟩))
                    go_roundg k1
                    case measure => have := HK1.out; omega
                    case rel => exact ⟨(wrap64 (x5_1 + 1)), (by first | rfl | (simp; done) | (simp [*]; done)), H', ⟨by have := HK1.out; omega⟩, ⟨RU HO_4.out⟩, ⟨belU HB.out⟩⟩
                · rw [if_neg c12] at H
                  have c12b0 : (t131 == 2) = false := beq_eq_false_iff_ne.mpr c12
                  have c12b1 : (t131 != 2) = true := bne_iff_ne.mpr c12
                  have H' := Aside0.mk H
                  clear H
                  obtain ⟨Ao16, co16, eo16⟩ := Kd.R_slice HO_4.out
                  subst eo16
                  have p128 : 0 ≤ (x5_1 : Int) := of_decide_eq_true (by first | (with_reducible assumption) | assumption)
                  have q128 : x5_1 < (t123.length : Int) := of_decide_eq_true (by first | (with_reducible assumption) | assumption)
                  obtain ⟨ad128, e128, hx128_0⟩ := Kd.at_string (Kd.R_reads' HO_4.out).2.2 x5_1 p128 q128
                  cases e128
                  replace p128 := eq_true p128
                  replace q128 := eq_true q128
                  go_wp2_with (first | ((with_reducible refine gate_callee (f := 60) rfl ?_); refine goesL_ (some 23) rfl rfl Tryd.func60 (by kernel_rfl) rfl #[.string (rdOf ByteArray.empty t123 x5_1)] rfl (by (try simp only [List.map_toArray, List.map_cons, List.map_nil]); first | done | rfl | (simp only [List.length_drop, List.length_take]; rfl)) ?_; (with_reducible refine (aquiferref05_name.calls k1 (rdOf ByteArray.empty t123 x5_1) t129 _ A8.out).mono ?_); rintro e w' ⟨rfl, ⟨nd, rfl⟩⟩; refine ⟨_, rfl, ?_⟩; have p130 : 0 ≤ (x5_1 : Int) := of_decide_eq_true (by first | (with_reducible assumption) | assumption); have q130 : x5_1 < (t123.length : Int) := of_decide_eq_true (by first | (with_reducible assumption) | assumption); obtain ⟨ad130, e130, hx130_0⟩ := Kd.at_string (Kd.R_reads' HO_4.out).2.2 x5_1 p130 q130; obtain rfl : ad128 = ad130 := (by injection e130); replace p130 := eq_true p130; replace q130 := eq_true q130) | (go_at_call 60; (with_reducible refine (aquiferref05_name.calls k1 (rdOf ByteArray.empty t123 x5_1) t131 _ A11.out).mono ?_); rintro e w' ⟨rfl, ⟨nd, rfl⟩⟩))
                  go_roundg k1
                  case measure => have := HK1.out; omega
                  case rel => exact ⟨(wrap64 (x5_1 + 1)), (by first | rfl | (simp; done) | (simp [*]; done)), H', ⟨by have := HK1.out; omega⟩, ⟨RU HO_4.out⟩, ⟨belU HB.out⟩⟩
            · rw [if_neg c7] at H
              exact absurd H (by simp)
          · rw [if_neg c6] at H
            have c6b0 : decide (x5_1 < (t123.length : Int)) = false := decide_eq_false c6
            clear c6
            by_cases c17 : (t123.length : Int) > 8
            · rw [if_pos c17] at H
              have c17b0 : decide (8 < (t123.length : Int)) = true := decide_eq_true c17
              have c17b1 : decide (8 < t123.length) = true := decide_eq_true (by omega)
              clear c17
              simp only [Option.some.injEq, Prod.mk.injEq] at H
              obtain ⟨rfl, rfl⟩ := H
              obtain ⟨Ao18, co18, eo18⟩ := Kd.R_slice HO_4.out
              subst eo18
              go_wp2
              go_ret2
              exact ⟨by first | rfl | (simp [errW_none, errW_some] <;> rfl) | (simp [*, errW_none, errW_some] <;> rfl), belU HB.out⟩
            · rw [if_neg c17] at H
              have c17b0 : decide (8 < (t123.length : Int)) = false := decide_eq_false c17
              have c17b1 : decide (8 < t123.length) = false := decide_eq_false (by omega)
              clear c17
              obtain ⟨ji19, hji19⟩ : ∃ j_ : Int, (wrap64 ((t123.length : Int) - 1)) = j_ := ⟨_, rfl⟩
              replace H : (if 0 ≤ (ji19) then (if (ji19) < (t123.length : Int) then ((aquiferref05_name.f k1 (rdOf ByteArray.empty t123 (ji19))).bind fun t127 => (some (t127, 0))) else (none)) else (none)) = some (r1, r2) := by first | (rw [hji19] at H; exact H) | (simp only [hji19] at H ⊢; exact H)
              have hji19w : (IntKind.i64.wrap ((t123.length : Int) - 1)) = ji19 := (i64_w _).trans hji19
              by_cases c20 : 0 ≤ (ji19)
              · rw [if_pos c20] at H
                have c20b0 : decide (0 ≤ (ji19)) = true := decide_eq_true c20
                clear c20
                by_cases c21 : (ji19) < (t123.length : Int)
                · rw [if_pos c21] at H
                  have c21b0 : decide ((ji19) < (t123.length : Int)) = true := decide_eq_true c21
                  clear c21
                  replace H := Option.bind_eq_some_iff.mp H
                  obtain ⟨t127, A220, H⟩ := H
                  replace H : (some (t127, 0)) = some (r1, r2) := H
                  have A22 := Aside0.mk A220
                  clear A220
                  simp only [Option.some.injEq, Prod.mk.injEq] at H
                  obtain ⟨rfl, rfl⟩ := H
                  obtain ⟨Ao23, co23, eo23⟩ := Kd.R_slice HO_4.out
                  subst eo23
                  have p126 : 0 ≤ ((ji19) : Int) := of_decide_eq_true (by first | (with_reducible assumption) | assumption)
                  have q126 : (ji19) < (t123.length : Int) := of_decide_eq_true (by first | (with_reducible assumption) | assumption)
                  obtain ⟨ad126, e126, hx126_0⟩ := Kd.at_string (Kd.R_reads' HO_4.out).2.2 (ji19) p126 q126
                  cases e126
                  replace p126 := eq_true p126
                  replace q126 := eq_true q126
                  go_wp2_with (first | ((with_reducible refine gate_callee (f := 60) rfl ?_); refine goesL_ (some 49) rfl rfl Tryd.func60 (by kernel_rfl) rfl #[.string (rdOf ByteArray.empty t123 (ji19))] rfl (by (try simp only [List.map_toArray, List.map_cons, List.map_nil]); first | done | (simp only [hji19]; rfl) | rfl | (simp only [List.length_drop, List.length_take]; rfl)) ?_; (with_reducible refine (aquiferref05_name.calls k1 (rdOf ByteArray.empty t123 (ji19)) t127 _ A22.out).mono ?_); rintro e w' ⟨rfl, ⟨nd, rfl⟩⟩; refine ⟨_, rfl, ?_⟩))
                  go_ret2
                  exact ⟨by first | rfl | (simp [errW_none, errW_some] <;> rfl) | (simp only [← hji19]; first | rfl | (simp [errW_none, errW_some] <;> rfl)) | (simp [*, errW_none, errW_some] <;> rfl), belU HB.out⟩
                · rw [if_neg c21] at H
                  exact absurd H (by simp)
              · rw [if_neg c20] at H
                exact absurd H (by simp)

end Go.Proofs.YtkflalaocnghcaaDoor.Q

namespace Go.Proofs.YtkflalaocnghcaaDoor.Q
open Go.RowKit Go.Proofs.YtkflalaocnghcaaDoorW.PrintWords Go.Proofs.YtkflalaocnghcaaDoorW.PrintLast Go.Proofs.YtkflalaocnghcaaDoorW.PrintMore Go.Proofs.YtkflalaocnghcaaDoorK
attribute [local go_sem] max2_int min2_int max_two min_two max_three min_three max_four min_four   -- for this text's walks alone
attribute [local go_sem ↓] Go.Proofs.YtkflalaocnghcaaDoorK.isSome_setCell
set_option linter.unusedVariables false
set_option linter.unusedSimpArgs false

/-! ### aquiferref05_Compare: function 46 -/
mutual
def aquiferref05_Compare.l0 : Nat → List ByteArray → List ByteArray → Int → Option (Int)
  | 0, _, _, _ => none
  | k + 1, x5, x6, x7 => if x7 < (x5.length : Int) then (aquiferref05_Compare.j1 k x5 x6 x7 (decide (x7 < (x6.length : Int)))) else (aquiferref05_Compare.j1 k x5 x6 x7 false)
def aquiferref05_Compare.j1 : Nat → List ByteArray → List ByteArray → Int → Bool → Option (Int)
  | 0, _, _, _, _ => none
  | k + 1, x5, x6, x7, x21 => if x21 = true then (if 0 ≤ x7 then (if x7 < (x5.length : Int) then (if x7 < (x6.length : Int) then (if (Op.bytesLess ((rdOf ByteArray.empty x5 x7).toList) ((rdOf ByteArray.empty x6 x7).toList)) = true then (some (-1)) else (if (Op.bytesLess ((rdOf ByteArray.empty x6 x7).toList) ((rdOf ByteArray.empty x5 x7).toList)) = true then (some 1) else (aquiferref05_Compare.l0 k x5 x6 (wrap64 (x7 + 1))))) else (none)) else (none)) else (none)) else (if (x5.length : Int) < (x6.length : Int) then (some (-1)) else (if (x5.length : Int) > (x6.length : Int) then (some 1) else (some 0)))
end
def aquiferref05_Compare.f (k : Nat) (a0 : ByteArray) (a1 : ByteArray) : Option (Int) := (aquiferref05_Names.f k a0).bind fun t156 => ((aquiferref05_Names.f k a1).bind fun t159 => (aquiferref05_Compare.l0 k t156 t159 0))
theorem aquiferref05_Compare.mono_l : ∀ k, (∀ y0 y1 y2, LeO (aquiferref05_Compare.l0 k y0 y1 y2) (aquiferref05_Compare.l0 (k + 1) y0 y1 y2)) ∧ (∀ y0 y1 y2 y3, LeO (aquiferref05_Compare.j1 k y0 y1 y2 y3) (aquiferref05_Compare.j1 (k + 1) y0 y1 y2 y3))
  | 0 => ⟨fun _ _ _ r h => by simp [aquiferref05_Compare.l0] at h, fun _ _ _ _ r h => by simp [aquiferref05_Compare.j1] at h⟩
  | k + 1 => by
    obtain ⟨ih0, ih1⟩ := aquiferref05_Compare.mono_l k
    refine ⟨?_, ?_⟩
    · intro y0 y1 y2
      unfold aquiferref05_Compare.l0
      repeat' first
      | (with_reducible exact ih0 _ _ _)
      | (with_reducible exact ih1 _ _ _ _)
      | (with_reducible exact aquiferref05_Names.mono _ _)
      | (with_reducible exact LeO.refl _)
      | (with_reducible exact LeO.none _)
      | (with_reducible refine LeO.ite ?_ ?_)
      | (with_reducible refine LeO.bind ?_ (fun _ => ?_))
      | exact ih0 _ _ _
      | exact ih1 _ _ _ _
      | exact aquiferref05_Names.mono _ _
      | exact LeO.none _
      | refine LeO.ite ?_ ?_
      | refine LeO.bind ?_ (fun _ => ?_)
    · intro y0 y1 y2 y3
      unfold aquiferref05_Compare.j1
      repeat' first
      | (with_reducible exact ih0 _ _ _)
      | (with_reducible exact ih1 _ _ _ _)
      | (with_reducible exact aquiferref05_Names.mono _ _)
      | (with_reducible exact LeO.refl _)
      | (with_reducible exact LeO.none _)
      | (with_reducible refine LeO.ite ?_ ?_)
      | (with_reducible refine LeO.bind ?_ (fun _ => ?_))
      | exact ih0 _ _ _
      | exact ih1 _ _ _ _
      | exact aquiferref05_Names.mono _ _
      | exact LeO.none _
      | refine LeO.ite ?_ ?_
      | refine LeO.bind ?_ (fun _ => ?_)
theorem aquiferref05_Compare.mono : ∀ a0 a1 k, LeO (aquiferref05_Compare.f k a0 a1) (aquiferref05_Compare.f (k + 1) a0 a1) := by
  intro a0 a1 k
  obtain ⟨ih0, ih1⟩ := aquiferref05_Compare.mono_l k
  unfold aquiferref05_Compare.f
  repeat' first
      | (with_reducible exact ih0 _ _ _)
      | (with_reducible exact ih1 _ _ _ _)
      | (with_reducible exact aquiferref05_Names.mono _ _)
      | (with_reducible exact LeO.refl _)
      | (with_reducible exact LeO.none _)
      | (with_reducible refine LeO.ite ?_ ?_)
      | (with_reducible refine LeO.bind ?_ (fun _ => ?_))
      | exact ih0 _ _ _
      | exact ih1 _ _ _ _
      | exact aquiferref05_Names.mono _ _
      | exact LeO.none _
      | refine LeO.ite ?_ ?_
      | refine LeO.bind ?_ (fun _ => ?_)
set_option maxHeartbeats 8000000 in
set_option maxRecDepth 100000 in
theorem aquiferref05_Compare.calls (k : Nat) (a0 : ByteArray) (a1 : ByteArray) (r : Int) (w : World) (h : aquiferref05_Compare.f k a0 a1 = some r) :
    Calls Tryd.prog 46 #[.string a0, .string a1] w fun e w' => e = .returned (.int .i64 r) ∧ Below w.heap.size w w' := by
  have HB := Aside0.mk (Below.refl w.heap.size w)
  have H : ((aquiferref05_Names.f k a0).bind fun t156 => ((aquiferref05_Names.f k a1).bind fun t159 => (aquiferref05_Compare.l0 k t156 t159 0))) = some r := h
  clear h
  replace H := Option.bind_eq_some_iff.mp H
  obtain ⟨t156, A30, H⟩ := H
  replace H : ((aquiferref05_Names.f k a1).bind fun t159 => (aquiferref05_Compare.l0 k t156 t159 0)) = some r := H
  have A3 := Aside0.mk A30
  clear A30
  replace H := Option.bind_eq_some_iff.mp H
  obtain ⟨t159, A40, H⟩ := H
  replace H : (aquiferref05_Compare.l0 k t156 t159 0) = some r := H
  have A4 := Aside0.mk A40
  clear A40
  have H' := Aside0.mk H
  clear H
  go_enter Tryd.func46, Tryd.ntmps46
  go_wp2_with (first | (go_at_call 59; (with_reducible refine (aquiferref05_Names.calls k a0 t156 _ A3.out).mono ?_); rintro e w5 ⟨v157, rfl, ho0, hb⟩; have n0_ := Aside0.mk (Kd.R_lower ho0 (sizU HB.out)); have n1_ := Aside0.mk (below_step (belU HB.out) hb); clear HB; have HO158 := n0_; have HB := n1_; clear n0_ n1_; (try clear hb); (try clear hb2); (try clear hk); (try clear hi); (try clear ho0)) | (go_at_call 59; (with_reducible refine (aquiferref05_Names.calls k a1 t159 _ A4.out).mono ?_); rintro e w6 ⟨v160, rfl, ho0, hb⟩; have n0_ := Aside0.mk (Kd.R_elder' (RU HO158.out) (Kd.R_base ho0) hb); have n1_ := Aside0.mk (Kd.R_lower (Kd.R_new' ho0 (Kd.R_lt (RU HO158.out))) (sizU HB.out)); have n2_ := Aside0.mk (below_step (belU HB.out) hb); clear HO158; clear HB; have HO158 := n0_; have HO161 := n1_; have HB := n2_; clear n0_ n1_ n2_; (try clear hb); (try clear hb2); (try clear hk); (try clear hi); (try clear ho0)))
  repeat (go_quiet (first | (go_at_call 59; (with_reducible refine (aquiferref05_Names.calls k a0 t156 _ A3.out).mono ?_); rintro e w5 ⟨v157, rfl, ho0, hb⟩; have n0_ := Aside0.mk (Kd.R_lower ho0 (sizU HB.out)); have n1_ := Aside0.mk (below_step (belU HB.out) hb); clear HB; have HO158 := n0_; have HB := n1_; clear n0_ n1_; (try clear hb); (try clear hb2); (try clear hk); (try clear hi); (try clear ho0)) | (go_at_call 59; (with_reducible refine (aquiferref05_Names.calls k a1 t159 _ A4.out).mono ?_); rintro e w6 ⟨v160, rfl, ho0, hb⟩; have n0_ := Aside0.mk (Kd.R_elder' (RU HO158.out) (Kd.R_base ho0) hb); have n1_ := Aside0.mk (Kd.R_lower (Kd.R_new' ho0 (Kd.R_lt (RU HO158.out))) (sizU HB.out)); have n2_ := Aside0.mk (below_step (belU HB.out) hb); clear HO158; clear HB; have HO158 := n0_; have HO161 := n1_; have HB := n2_; clear n0_ n1_ n2_; (try clear hb); (try clear hb2); (try clear hk); (try clear hi); (try clear ho0))); try go_wp2_with (first | (go_at_call 59; (with_reducible refine (aquiferref05_Names.calls k a0 t156 _ A3.out).mono ?_); rintro e w5 ⟨v157, rfl, ho0, hb⟩; have n0_ := Aside0.mk (Kd.R_lower ho0 (sizU HB.out)); have n1_ := Aside0.mk (below_step (belU HB.out) hb); clear HB; have HO158 := n0_; have HB := n1_; clear n0_ n1_; (try clear hb); (try clear hb2); (try clear hk); (try clear hi); (try clear ho0)) | (go_at_call 59; (with_reducible refine (aquiferref05_Names.calls k a1 t159 _ A4.out).mono ?_); rintro e w6 ⟨v160, rfl, ho0, hb⟩; have n0_ := Aside0.mk (Kd.R_elder' (RU HO158.out) (Kd.R_base ho0) hb); have n1_ := Aside0.mk (Kd.R_lower (Kd.R_new' ho0 (Kd.R_lt (RU HO158.out))) (sizU HB.out)); have n2_ := Aside0.mk (below_step (belU HB.out) hb); clear HO158; clear HB; have HO158 := n0_; have HO161 := n1_; have HB := n2_; clear n0_ n1_ n2_; (try clear hb); (try clear hb2); (try clear hk); (try clear hi); (try clear ho0))))
  go_loopg [7] k (fun kq v7 w' => ∃ (x7_1 : Int), v7 = .int .i64 x7_1 ∧ Aside0 (aquiferref05_Compare.l0 kq t156 t159 x7_1 = some r) ∧ Aside0 (kq ≤ k) ∧ Aside0 (Kd.R Kd.string 9 w' w.heap.size (fun k_ => some k_ ≠ (v160 : Value).ownBlock) v157 t156) ∧ Aside0 (Kd.R Kd.string 9 w' w.heap.size (fun k_ => some k_ ≠ (v157 : Value).ownBlock) v160 t159) ∧ Aside0 (Below w.heap.size w w'))
  case atStart => exact ⟨(0), (by first | rfl | (simp; done) | (simp [*]; done)), H', ⟨Nat.le_refl _⟩, ⟨by (with_reducible repeat (first | apply Kd.R_alloc | apply Kd.R_drewN | apply Kd.R_drew)); exact Kd.R_mono HO158.out (fun _ hk => hk.2)⟩, ⟨by (with_reducible repeat (first | apply Kd.R_alloc | apply Kd.R_drewN | apply Kd.R_drew)); exact Kd.R_mono HO161.out (fun _ hk => hk.2)⟩, ⟨belU HB.out⟩⟩
  case round =>
    clear H'
    try clear p2
    try clear c4
    obtain ⟨x7_1, rfl, HA, HK1, HO_5, HO_6, HB⟩ := hrel
    cases gk with
    | zero => exact absurd HA.out (by simp [aquiferref05_Compare.l0])
    | succ k1 =>
      have H := HA.out
      clear HA
      simp only [aquiferref05_Compare.l0] at H
      have HC7 := Aside0.mk H
      clear H
      go_upto_region 4 with (fail)
      repeat (go_quiet (fail); go_upto_region 4 with (fail))
      go_cut [21] (fun v21 wc => ∃ (kq : Nat) (x21_6 : Bool), v21 = .bool x21_6 ∧ Aside0 (aquiferref05_Compare.j1 kq t156 t159 x7_1 x21_6 = some r) ∧ Aside0 (kq ≤ k1) ∧ Aside0 (Kd.R Kd.string 9 wc w.heap.size (fun k_ => some k_ ≠ (v160 : Value).ownBlock) v157 t156) ∧ Aside0 (Kd.R Kd.string 9 wc w.heap.size (fun k_ => some k_ ≠ (v157 : Value).ownBlock) v160 t159) ∧ Aside0 (Below w.heap.size w wc))
      case first =>
        have H := HC7.out
        clear HC7
        by_cases c8 : x7_1 < (t156.length : Int)
        · rw [if_pos c8] at H
          have c8b0 : decide (x7_1 < (t156.length : Int)) = true := decide_eq_true c8
          clear c8
          (first | rw [c8b0] | (simp only [i64_w, i32_w]; rw [c8b0]) | skip)
          have H' := Aside0.mk H
          clear H
          obtain ⟨Ao9, co9, eo9⟩ := Kd.R_slice HO_5.out
          subst eo9
          obtain ⟨Ao10, co10, eo10⟩ := Kd.R_slice HO_6.out
          subst eo10
          go_wp2
          repeat (go_quiet (fail); try go_wp2)
          go_meet
          case rel => exact ⟨_, (decide (x7_1 < (t159.length : Int))), (by first | rfl | (simp; done) | (simp [*]; done)), H', ⟨by have := HK1.out; first | omega | exact Nat.le_refl _⟩, ⟨RU HO_5.out⟩, ⟨RU HO_6.out⟩, ⟨belU HB.out⟩⟩
        · rw [if_neg c8] at H
          have c8b0 : decide (x7_1 < (t156.length : Int)) = false := decide_eq_false c8
          clear c8
          (first | rw [c8b0] | (simp only [i64_w, i32_w]; rw [c8b0]) | skip)
          have H' := Aside0.mk H
          clear H
          obtain ⟨Ao11, co11, eo11⟩ := Kd.R_slice HO_5.out
          subst eo11
          go_wp2
          repeat (go_quiet (fail); try go_wp2)
          go_meet
          case rel => exact ⟨_, (false), (by first | rfl | (simp; done) | (simp [*]; done)), H', ⟨by have := HK1.out; first | omega | exact Nat.le_refl _⟩, ⟨RU HO_5.out⟩, ⟨RU HO_6.out⟩, ⟨belU HB.out⟩⟩
      case rest =>
        clear HC7
        try clear p2
        try clear c4
        try clear c8
        try clear c8b0
        try clear p2
        obtain ⟨kq, x21_6, rfl, HA, HJ6, HO_5, HO_6, HB⟩ := hcut
        cases kq with
        | zero => exact absurd HA.out (by simp [aquiferref05_Compare.j1])
        | succ kj6 =>
          have H := HA.out
          clear HA
          simp only [aquiferref05_Compare.j1] at H
          by_cases c12 : x21_6 = true
          · subst c12
            have H1 : (if 0 ≤ x7_1 then (if x7_1 < (t156.length : Int) then (if x7_1 < (t159.length : Int) then (if (Op.bytesLess ((rdOf ByteArray.empty t156 x7_1).toList) ((rdOf ByteArray.empty t159 x7_1).toList)) = true then (some (-1)) else (if (Op.bytesLess ((rdOf ByteArray.empty t159 x7_1).toList) ((rdOf ByteArray.empty t156 x7_1).toList)) = true then (some 1) else (aquiferref05_Compare.l0 kj6 t156 t159 (wrap64 (x7_1 + 1))))) else (none)) else (none)) else (none)) = some r := by rw [if_pos rfl] at H; exact H
            clear H
            have H := H1
            clear H1
            by_cases c13 : 0 ≤ x7_1
            · rw [if_pos c13] at H
              have c13b0 : decide (0 ≤ x7_1) = true := decide_eq_true c13
              clear c13
              by_cases c14 : x7_1 < (t156.length : Int)
              · rw [if_pos c14] at H
                have c14b0 : decide (x7_1 < (t156.length : Int)) = true := decide_eq_true c14
                clear c14
                by_cases c15 : x7_1 < (t159.length : Int)
                · rw [if_pos c15] at H
                  have c15b0 : decide (x7_1 < (t159.length : Int)) = true := decide_eq_true c15
                  clear c15
                  by_cases c16 : (Op.bytesLess ((rdOf ByteArray.empty t156 x7_1).toList) ((rdOf ByteArray.empty t159 x7_1).toList)) = true
                  · rw [if_pos c16] at H
                    have c16b0 : (Op.bytesLess ((rdOf ByteArray.empty t156 x7_1).toList) ((rdOf ByteArray.empty t159 x7_1).toList)) = true := c16
                    try have c16g : (((rdOf ByteArray.empty t159 x7_1).toList) == ((rdOf ByteArray.empty t156 x7_1).toList)) = false := bl_ne _ _ c16b0
                    clear c16
                    obtain rfl := Option.some.inj H
                    obtain ⟨Ao17, co17, eo17⟩ := Kd.R_slice HO_5.out
                    subst eo17
                    have p162 : 0 ≤ (x7_1 : Int) := of_decide_eq_true (by first | (with_reducible assumption) | assumption)
                    have q162 : x7_1 < (t156.length : Int) := of_decide_eq_true (by first | (with_reducible assumption) | assumption)
                    obtain ⟨ad162, e162, hx162_0⟩ := Kd.at_string (Kd.R_reads' HO_5.out).2.2 x7_1 p162 q162
                    cases e162
                    replace p162 := eq_true p162
                    replace q162 := eq_true q162
                    obtain ⟨Ao18, co18, eo18⟩ := Kd.R_slice HO_6.out
                    subst eo18
                    have p163 : 0 ≤ (x7_1 : Int) := of_decide_eq_true (by first | (with_reducible assumption) | assumption)
                    have q163 : x7_1 < (t159.length : Int) := of_decide_eq_true (by first | (with_reducible assumption) | assumption)
                    obtain ⟨ad163, e163, hx163_0⟩ := Kd.at_string (Kd.R_reads' HO_6.out).2.2 x7_1 p163 q163
                    cases e163
                    replace p163 := eq_true p163
                    replace q163 := eq_true q163
                    go_wp2
                    repeat (go_quiet (fail); try go_wp2)
                    go_ret
                    exact ⟨by first | rfl | (simp [errW_none, errW_some] <;> rfl) | (simp [*, errW_none, errW_some] <;> rfl), belU HB.out⟩
                  · rw [if_neg c16] at H
                    have c16b0 : (Op.bytesLess ((rdOf ByteArray.empty t156 x7_1).toList) ((rdOf ByteArray.empty t159 x7_1).toList)) = false := by simpa using c16
                    try have c16g : (((rdOf ByteArray.empty t159 x7_1).toList) == ((rdOf ByteArray.empty t156 x7_1).toList)) = true := bl_eqb _ _ (by assumption) c16b0
                    clear c16
                    by_cases c19 : (Op.bytesLess ((rdOf ByteArray.empty t159 x7_1).toList) ((rdOf ByteArray.empty t156 x7_1).toList)) = true
                    · rw [if_pos c19] at H
                      have c19b0 : (Op.bytesLess ((rdOf ByteArray.empty t159 x7_1).toList) ((rdOf ByteArray.empty t156 x7_1).toList)) = true := c19
                      try have c19g : (((rdOf ByteArray.empty t156 x7_1).toList) == ((rdOf ByteArray.empty t159 x7_1).toList)) = false := bl_ne _ _ c19b0
                      clear c19
                      obtain rfl := Option.some.inj H
                      obtain ⟨Ao20, co20, eo20⟩ := Kd.R_slice HO_5.out
                      subst eo20
                      have p162 : 0 ≤ (x7_1 : Int) := of_decide_eq_true (by first | (with_reducible assumption) | assumption)
                      have q162 : x7_1 < (t156.length : Int) := of_decide_eq_true (by first | (with_reducible assumption) | assumption)
                      obtain ⟨ad162, e162, hx162_0⟩ := Kd.at_string (Kd.R_reads' HO_5.out).2.2 x7_1 p162 q162
                      cases e162
                      replace p162 := eq_true p162
                      replace q162 := eq_true q162
                      obtain ⟨Ao21, co21, eo21⟩ := Kd.R_slice HO_6.out
                      subst eo21
                      have p163 : 0 ≤ (x7_1 : Int) := of_decide_eq_true (by first | (with_reducible assumption) | assumption)
                      have q163 : x7_1 < (t159.length : Int) := of_decide_eq_true (by first | (with_reducible assumption) | assumption)
                      obtain ⟨ad163, e163, hx163_0⟩ := Kd.at_string (Kd.R_reads' HO_6.out).2.2 x7_1 p163 q163
                      cases e163
                      replace p163 := eq_true p163
                      replace q163 := eq_true q163
                      have p164 : 0 ≤ (x7_1 : Int) := of_decide_eq_true (by first | (with_reducible assumption) | assumption)
                      have q164 : x7_1 < (t156.length : Int) := of_decide_eq_true (by first | (with_reducible assumption) | assumption)
                      obtain ⟨ad164, e164, hx164_0⟩ := Kd.at_string (Kd.R_reads' HO_5.out).2.2 x7_1 p164 q164
                      obtain rfl : ad162 = ad164 := (by injection e164)
                      replace p164 := eq_true p164
                      replace q164 := eq_true q164
                      have p165 : 0 ≤ (x7_1 : Int) := of_decide_eq_true (by first | (with_reducible assumption) | assumption)
                      have q165 : x7_1 < (t159.length : Int) := of_decide_eq_true (by first | (with_reducible assumption) | assumption)
                      obtain ⟨ad165, e165, hx165_0⟩ := Kd.at_string (Kd.R_reads' HO_6.out).2.2 x7_1 p165 q165
                      obtain rfl : ad163 = ad165 := (by injection e165)
                      replace p165 := eq_true p165
                      replace q165 := eq_true q165
                      go_wp2
                      repeat (go_quiet (fail); try go_wp2)
                      go_ret
                      exact ⟨by first | rfl | (simp [errW_none, errW_some] <;> rfl) | (simp [*, errW_none, errW_some] <;> rfl), belU HB.out⟩
                    · rw [if_neg c19] at H
                      have c19b0 : (Op.bytesLess ((rdOf ByteArray.empty t159 x7_1).toList) ((rdOf ByteArray.empty t156 x7_1).toList)) = false := by simpa using c19
                      try have c19g : (((rdOf ByteArray.empty t156 x7_1).toList) == ((rdOf ByteArray.empty t159 x7_1).toList)) = true := bl_eqb _ _ (by assumption) c19b0
                      clear c19
                      have H' := Aside0.mk H
                      clear H
                      obtain ⟨Ao22, co22, eo22⟩ := Kd.R_slice HO_5.out
                      subst eo22
                      have p162 : 0 ≤ (x7_1 : Int) := of_decide_eq_true (by first | (with_reducible assumption) | assumption)
                      have q162 : x7_1 < (t156.length : Int) := of_decide_eq_true (by first | (with_reducible assumption) | assumption)
                      obtain ⟨ad162, e162, hx162_0⟩ := Kd.at_string (Kd.R_reads' HO_5.out).2.2 x7_1 p162 q162
                      cases e162
                      replace p162 := eq_true p162
                      replace q162 := eq_true q162
                      obtain ⟨Ao23, co23, eo23⟩ := Kd.R_slice HO_6.out
                      subst eo23
                      have p163 : 0 ≤ (x7_1 : Int) := of_decide_eq_true (by first | (with_reducible assumption) | assumption)
                      have q163 : x7_1 < (t159.length : Int) := of_decide_eq_true (by first | (with_reducible assumption) | assumption)
                      obtain ⟨ad163, e163, hx163_0⟩ := Kd.at_string (Kd.R_reads' HO_6.out).2.2 x7_1 p163 q163
                      cases e163
                      replace p163 := eq_true p163
                      replace q163 := eq_true q163
                      have p164 : 0 ≤ (x7_1 : Int) := of_decide_eq_true (by first | (with_reducible assumption) | assumption)
                      have q164 : x7_1 < (t156.length : Int) := of_decide_eq_true (by first | (with_reducible assumption) | assumption)
                      obtain ⟨ad164, e164, hx164_0⟩ := Kd.at_string (Kd.R_reads' HO_5.out).2.2 x7_1 p164 q164
                      obtain rfl : ad162 = ad164 := (by injection e164)
                      replace p164 := eq_true p164
                      replace q164 := eq_true q164
                      have p165 : 0 ≤ (x7_1 : Int) := of_decide_eq_true (by first | (with_reducible assumption) | assumption)
                      have q165 : x7_1 < (t159.length : Int) := of_decide_eq_true (by first | (with_reducible assumption) | assumption)
                      obtain ⟨ad165, e165, hx165_0⟩ := Kd.at_string (Kd.R_reads' HO_6.out).2.2 x7_1 p165 q165
                      obtain rfl : ad163 = ad165 := (by injection e165)
                      replace p165 := eq_true p165
                      replace q165 := eq_true q165
                      go_wp2
                      repeat (go_quiet (fail); try go_wp2)
                      go_roundg kj6
                      case measure => have := HK1.out; have := HJ6.out; omega
                      case rel => exact ⟨(wrap64 (x7_1 + 1)), (by first | rfl | (simp; done) | (simp [*]; done)), H', ⟨by have := HK1.out; have := HJ6.out; omega⟩, ⟨RU HO_5.out⟩, ⟨RU HO_6.out⟩, ⟨belU HB.out⟩⟩
                · rw [if_neg c15] at H
                  exact absurd H (by simp)
              · rw [if_neg c14] at H
                exact absurd H (by simp)
            · rw [if_neg c13] at H
              exact absurd H (by simp)
          · replace c12 := Bool.eq_false_iff.mpr c12
            subst c12
            have H1 : (if (t156.length : Int) < (t159.length : Int) then (some (-1)) else (if (t156.length : Int) > (t159.length : Int) then (some 1) else (some 0))) = some r := by rw [if_neg (show ¬ (false = true) by decide)] at H; exact H
            clear H
            have H := H1
            clear H1
            by_cases c24 : (t156.length : Int) < (t159.length : Int)
            · rw [if_pos c24] at H
              have c24b0 : decide ((t156.length : Int) < (t159.length : Int)) = true := decide_eq_true c24
              have c24b1 : decide (t156.length < t159.length) = true := decide_eq_true (Int.ofNat_lt.mp c24)
              clear c24
              obtain rfl := Option.some.inj H
              obtain ⟨Ao25, co25, eo25⟩ := Kd.R_slice HO_5.out
              subst eo25
              obtain ⟨Ao26, co26, eo26⟩ := Kd.R_slice HO_6.out
              subst eo26
              go_wp2
              repeat (go_quiet (fail); try go_wp2)
              go_ret
              exact ⟨by first | rfl | (simp [errW_none, errW_some] <;> rfl) | (simp [*, errW_none, errW_some] <;> rfl), belU HB.out⟩
            · rw [if_neg c24] at H
              have c24b0 : decide ((t156.length : Int) < (t159.length : Int)) = false := decide_eq_false c24
              have c24b1 : decide (t156.length < t159.length) = false := decide_eq_false (fun h => c24 (Int.ofNat_lt.mpr h))
              clear c24
              by_cases c27 : (t156.length : Int) > (t159.length : Int)
              · rw [if_pos c27] at H
                have c27b0 : decide ((t159.length : Int) < (t156.length : Int)) = true := decide_eq_true c27
                have c27b1 : decide (t159.length < t156.length) = true := decide_eq_true (Int.ofNat_lt.mp c27)
                clear c27
                obtain rfl := Option.some.inj H
                obtain ⟨Ao28, co28, eo28⟩ := Kd.R_slice HO_5.out
                subst eo28
                obtain ⟨Ao29, co29, eo29⟩ := Kd.R_slice HO_6.out
                subst eo29
                go_wp2
                repeat (go_quiet (fail); try go_wp2)
                go_ret
                exact ⟨by first | rfl | (simp [errW_none, errW_some] <;> rfl) | (simp [*, errW_none, errW_some] <;> rfl), belU HB.out⟩
              · rw [if_neg c27] at H
                have c27b0 : decide ((t159.length : Int) < (t156.length : Int)) = false := decide_eq_false c27
                have c27b1 : decide (t159.length < t156.length) = false := decide_eq_false (fun h => c27 (Int.ofNat_lt.mpr h))
                clear c27
                obtain rfl := Option.some.inj H
                obtain ⟨Ao30, co30, eo30⟩ := Kd.R_slice HO_5.out
                subst eo30
                obtain ⟨Ao31, co31, eo31⟩ := Kd.R_slice HO_6.out
                subst eo31
                go_wp2
                repeat (go_quiet (fail); try go_wp2)
                go_ret
                exact ⟨by first | rfl | (simp [errW_none, errW_some] <;> rfl) | (simp [*, errW_none, errW_some] <;> rfl), belU HB.out⟩

end Go.Proofs.YtkflalaocnghcaaDoor.Q

namespace Go.Proofs.YtkflalaocnghcaaDoor.Q
open Go.RowKit Go.Proofs.YtkflalaocnghcaaDoorW.PrintWords Go.Proofs.YtkflalaocnghcaaDoorW.PrintLast Go.Proofs.YtkflalaocnghcaaDoorW.PrintMore
attribute [local go_sem] max2_int min2_int max_two min_two max_three min_three max_four min_four   -- for this text's walks alone
attribute [local go_sem ↓] Go.Proofs.YtkflalaocnghcaaDoorK.isSome_setCell
set_option linter.unusedVariables false
set_option linter.unusedSimpArgs false

/-! ### aquiferref05_SameTexts: function 12 -/
def aquiferref05_SameTexts.l0 : Nat → List ByteArray → List ByteArray → Int → Option (Bool)
  | 0, _, _, _ => none
  | k + 1, x0, x1, x5 => if x5 < (x0.length : Int) then (if 0 ≤ x5 then (if x5 < (x1.length : Int) then (if (rdOf ByteArray.empty x0 x5).toList = (rdOf ByteArray.empty x1 x5).toList then (aquiferref05_SameTexts.l0 k x0 x1 (wrap64 (x5 + 1))) else (some false)) else (none)) else (none)) else (some true)
def aquiferref05_SameTexts.f (k : Nat) (l0 : List ByteArray) (l1 : List ByteArray) : Option (Bool) := if (l0.length : Int) = (l1.length : Int) then (aquiferref05_SameTexts.l0 k l0 l1 0) else (some false)
theorem aquiferref05_SameTexts.mono_l : ∀ k, (∀ y0 y1 y2, LeO (aquiferref05_SameTexts.l0 k y0 y1 y2) (aquiferref05_SameTexts.l0 (k + 1) y0 y1 y2))
  | 0 => fun _ _ _ r h => by simp [aquiferref05_SameTexts.l0] at h
  | k + 1 => by
    have ih0 := aquiferref05_SameTexts.mono_l k
    · intro y0 y1 y2
      unfold aquiferref05_SameTexts.l0
      repeat' first
      | (with_reducible exact ih0 _ _ _)
      | (with_reducible exact LeO.refl _)
      | (with_reducible exact LeO.none _)
      | (with_reducible refine LeO.ite ?_ ?_)
      | (with_reducible refine LeO.bind ?_ (fun _ => ?_))
      | exact ih0 _ _ _
      | exact LeO.none _
      | refine LeO.ite ?_ ?_
      | refine LeO.bind ?_ (fun _ => ?_)
theorem aquiferref05_SameTexts.mono : ∀ a0 a1 k, LeO (aquiferref05_SameTexts.f k a0 a1) (aquiferref05_SameTexts.f (k + 1) a0 a1) := by
  intro a0 a1 k
  have ih0 := aquiferref05_SameTexts.mono_l k
  unfold aquiferref05_SameTexts.f
  repeat' first
      | (with_reducible exact ih0 _ _ _)
      | (with_reducible exact LeO.refl _)
      | (with_reducible exact LeO.none _)
      | (with_reducible refine LeO.ite ?_ ?_)
      | (with_reducible refine LeO.bind ?_ (fun _ => ?_))
      | exact ih0 _ _ _
      | exact LeO.none _
      | refine LeO.ite ?_ ?_
      | refine LeO.bind ?_ (fun _ => ?_)
set_option maxHeartbeats 8000000 in
set_option maxRecDepth 100000 in
theorem aquiferref05_SameTexts.calls (k : Nat) (A0 : Option Addr) (c0 : Nat) (l0 : List ByteArray) (A1 : Option Addr) (c1 : Nat) (l1 : List ByteArray) (r : Bool) (w : World) (hr0 : Kd.C Kd.string w A0 l0.length l0) (hc0 : l0.length ≤ c0) (hr1 : Kd.C Kd.string w A1 l1.length l1) (hc1 : l1.length ≤ c1) (h : aquiferref05_SameTexts.f k l0 l1 = some r) :
    Calls Tryd.prog 12 #[.slice A0 l0.length c0, .slice A1 l1.length c1] w fun e w' => e = .returned (.bool r) ∧ Drawn0 w w' := by
  have HR0 := Aside0.mk hr0
  have HC0 := Aside0.mk hc0
  clear hr0 hc0
  have HR1 := Aside0.mk hr1
  have HC1 := Aside0.mk hc1
  clear hr1 hc1
  have H : (if (l0.length : Int) = (l1.length : Int) then (aquiferref05_SameTexts.l0 k l0 l1 0) else (some false)) = some r := h
  clear h
  by_cases c3 : (l0.length : Int) = (l1.length : Int)
  · rw [if_pos c3] at H
    have c3b0 : ((l0.length : Int) == (l1.length : Int)) = true := beq_iff_eq.mpr c3
    have c3b1 : ((l0.length : Int) != (l1.length : Int)) = false := bne_eq_false_iff_eq.mpr c3
    have c3b2 : (l0.length == l1.length) = true := by first | simpa using c3 | (simp at c3 ⊢; omega)
    clear c3
    have H' := Aside0.mk H
    clear H
    go_enter Tryd.func12, Tryd.ntmps12
    go_wp2
    repeat (go_quiet (fail); try go_wp2)
    go_loopg [5] k (fun kq v5 w' => ∃ (x5_1 : Int), v5 = .int .i64 x5_1 ∧ Aside0 (aquiferref05_SameTexts.l0 kq l0 l1 x5_1 = some r) ∧ Aside0 (kq ≤ k) ∧ Drawn0 w w')
    case atStart => exact ⟨(0), (by first | rfl | (simp; done) | (simp [*]; done)), H', ⟨Nat.le_refl _⟩, by repeat (first | exact Drawn0.refl _ | apply Drawn0.step)⟩
    case round =>
      clear H'
      try clear c1
      try clear p2
      try clear c3
      try clear c3b0
      try clear c3b1
      try clear c3b2
      obtain ⟨x5_1, rfl, HA, HK1, ⟨m1, rfl⟩⟩ := hrel
      cases gk with
      | zero => exact absurd HA.out (by simp [aquiferref05_SameTexts.l0])
      | succ k1 =>
        have H := HA.out
        clear HA
        simp only [aquiferref05_SameTexts.l0] at H
        by_cases c4 : x5_1 < (l0.length : Int)
        · rw [if_pos c4] at H
          have c4b0 : decide (x5_1 < (l0.length : Int)) = true := decide_eq_true c4
          clear c4
          by_cases c5 : 0 ≤ x5_1
          · rw [if_pos c5] at H
            have c5b0 : decide (0 ≤ x5_1) = true := decide_eq_true c5
            clear c5
            by_cases c6 : x5_1 < (l1.length : Int)
            · rw [if_pos c6] at H
              have c6b0 : decide (x5_1 < (l1.length : Int)) = true := decide_eq_true c6
              clear c6
              by_cases c7 : (rdOf ByteArray.empty l0 x5_1).toList = (rdOf ByteArray.empty l1 x5_1).toList
              · rw [if_pos c7] at H
                have c7b0 : ((rdOf ByteArray.empty l0 x5_1).toList == (rdOf ByteArray.empty l1 x5_1).toList) = true := beq_iff_eq.mpr c7
                have c7b1 : ((rdOf ByteArray.empty l0 x5_1).toList != (rdOf ByteArray.empty l1 x5_1).toList) = false := bne_eq_false_iff_eq.mpr c7
                clear c7
                have H' := Aside0.mk H
                clear H
                have p180 : 0 ≤ (x5_1 : Int) := of_decide_eq_true (by first | (with_reducible assumption) | assumption)
                have q180 : x5_1 < (l0.length : Int) := of_decide_eq_true (by first | (with_reducible assumption) | assumption)
                obtain ⟨ad180, e180, hx180_0⟩ := Kd.at_string HR0.out x5_1 p180 q180
                cases e180
                replace p180 := eq_true p180
                replace q180 := eq_true q180
                have p181 : 0 ≤ (x5_1 : Int) := of_decide_eq_true (by first | (with_reducible assumption) | assumption)
                have q181 : x5_1 < (l1.length : Int) := of_decide_eq_true (by first | (with_reducible assumption) | assumption)
                obtain ⟨ad181, e181, hx181_0⟩ := Kd.at_string HR1.out x5_1 p181 q181
                cases e181
                replace p181 := eq_true p181
                replace q181 := eq_true q181
                go_wp2
                repeat (go_quiet (fail); try go_wp2)
                go_roundg k1
                case measure => have := HK1.out; omega
                case rel => exact ⟨(wrap64 (x5_1 + 1)), (by first | rfl | (simp; done) | (simp [*]; done)), H', ⟨by have := HK1.out; omega⟩, by repeat (first | exact Drawn0.refl _ | apply Drawn0.step)⟩
              · rw [if_neg c7] at H
                have c7b0 : ((rdOf ByteArray.empty l0 x5_1).toList == (rdOf ByteArray.empty l1 x5_1).toList) = false := beq_eq_false_iff_ne.mpr c7
                have c7b1 : ((rdOf ByteArray.empty l0 x5_1).toList != (rdOf ByteArray.empty l1 x5_1).toList) = true := bne_iff_ne.mpr c7
                obtain rfl := Option.some.inj H
                have p180 : 0 ≤ (x5_1 : Int) := of_decide_eq_true (by first | (with_reducible assumption) | assumption)
                have q180 : x5_1 < (l0.length : Int) := of_decide_eq_true (by first | (with_reducible assumption) | assumption)
                obtain ⟨ad180, e180, hx180_0⟩ := Kd.at_string HR0.out x5_1 p180 q180
                cases e180
                replace p180 := eq_true p180
                replace q180 := eq_true q180
                have p181 : 0 ≤ (x5_1 : Int) := of_decide_eq_true (by first | (with_reducible assumption) | assumption)
                have q181 : x5_1 < (l1.length : Int) := of_decide_eq_true (by first | (with_reducible assumption) | assumption)
                obtain ⟨ad181, e181, hx181_0⟩ := Kd.at_string HR1.out x5_1 p181 q181
                cases e181
                replace p181 := eq_true p181
                replace q181 := eq_true q181
                go_wp2
                repeat (go_quiet (fail); try go_wp2)
                go_ret
                exact ⟨by first | rfl | (simp; done) | (simp [*]; done), by repeat (first | exact Drawn0.refl _ | apply Drawn0.step)⟩
            · rw [if_neg c6] at H
              exact absurd H (by simp)
          · rw [if_neg c5] at H
            exact absurd H (by simp)
        · rw [if_neg c4] at H
          have c4b0 : decide (x5_1 < (l0.length : Int)) = false := decide_eq_false c4
          clear c4
          obtain rfl := Option.some.inj H
          go_wp2
          repeat (go_quiet (fail); try go_wp2)
          go_ret
          exact ⟨by first | rfl | (simp; done) | (simp [*]; done), by repeat (first | exact Drawn0.refl _ | apply Drawn0.step)⟩
  · rw [if_neg c3] at H
    have c3b0 : ((l0.length : Int) == (l1.length : Int)) = false := beq_eq_false_iff_ne.mpr c3
    have c3b1 : ((l0.length : Int) != (l1.length : Int)) = true := bne_iff_ne.mpr c3
    have c3b2 : (l0.length == l1.length) = false := by first | simpa using c3 | (simp at c3 ⊢; omega)
    obtain rfl := Option.some.inj H
    go_enter Tryd.func12, Tryd.ntmps12
    go_wp2
    repeat (go_quiet (fail); try go_wp2)
    go_ret
    exact ⟨by first | rfl | (simp; done) | (simp [*]; done), by repeat (first | exact Drawn0.refl _ | apply Drawn0.step)⟩

end Go.Proofs.YtkflalaocnghcaaDoor.Q

namespace Go.Proofs.YtkflalaocnghcaaDoor.Q
open Go Go.Proofs Go.Shelf Go.RowKit Go.Lib Go.Sort Go.Proofs.YtkflalaocnghcaaDoorP Go.Proofs.YtkflalaocnghcaaDoorK Go.Proofs.YtkflalaocnghcaaDoorW.PrintWords Go.Proofs.YtkflalaocnghcaaDoorW.PrintLast Go.Proofs.YtkflalaocnghcaaDoorW.PrintMore
set_option linter.unusedSimpArgs false
set_option linter.unusedVariables false
/-! ### The document's own answers for paths: Names, Compare, Kind -/
theorem wr (i : Nat) (h : i < 1048576) : wrap64 ((i : Int) + 1) = ((i + 1 : Nat) : Int) := by unfold wrap64; omega
def lastApp (c : UInt8) : List (List UInt8) → List (List UInt8)
  | [] => [[c]]
  | [n] => [n ++ [c]]
  | n :: m :: ns => n :: lastApp c (m :: ns)
theorem names_snoc (l : List UInt8) (c : UInt8) : names (l ++ [c]) = if c = 47 then names l ++ [[]] else lastApp c (names l) := by
  induction l with
  | nil =>
    simp only [List.nil_append, names]
    split <;> rfl
  | cons b l ih =>
    rw [List.cons_append]
    have hne := names_ne l
    by_cases hb : b = 47
    · simp only [names, if_pos hb]
      rw [ih]
      by_cases hc : c = 47
      · rw [if_pos hc, if_pos hc]
        rfl
      · rw [if_neg hc, if_neg hc]
        cases hn : names l with
        | nil => exact absurd hn hne
        | cons n ns => rfl
    · simp only [names, if_neg hb]
      rw [ih]
      cases hn : names l with
      | nil => exact absurd hn hne
      | cons n ns =>
        by_cases hc : c = 47
        · rw [if_pos hc, if_pos hc]
          rfl
        · rw [if_neg hc, if_neg hc]
          cases ns <;> rfl
theorem lastApp_set (c : UInt8) : ∀ l : List (List UInt8), l ≠ [] → lastApp c l = l.set (l.length - 1) (l.getD (l.length - 1) [] ++ [c])
  | [], h => absurd rfl h
  | [n], _ => rfl
  | n :: m :: ns, _ => by
    have ih := lastApp_set c (m :: ns) (by simp)
    show n :: lastApp c (m :: ns) = _
    rw [ih]
    simp
theorem bt_47 (s : ByteArray) (i : Nat) (h : i < s.size) : bt s (i : Int) = 47 ↔ s.data.toList[i]'h = 47 := by
  have h1 : bt s (i : Int) = ((s[i]'h).toNat : Int) := by simp [bt, h]
  have h2 : s.data.toList[i]'h = s[i]'h := rfl
  rw [h1, h2]
  constructor
  · intro e
    apply UInt8.toNat_inj.1
    have e2 : (s[i]'h).toNat = 47 := by omega
    rw [e2]
    rfl
  · intro e
    rw [e]
    rfl
theorem map_data_len {L : List ByteArray} {M : List (List UInt8)} (h : L.map (·.data.toList) = M) : L.length = M.length := by
  rw [← h, List.length_map]
theorem names_len (l : List UInt8) : (names l).length ≤ l.length + 1 := by
  induction l with
  | nil => simp [names]
  | cons c l ih =>
    unfold names
    split
    · simp only [List.length_cons]; omega
    · split
      · simp
      · rename_i h
        rw [h] at ih
        simp only [List.length_cons] at ih ⊢
        omega
theorem flat_size : ∀ (L : List (List UInt8)) (j : Nat), (L.getD j []).length ≤ (L.map List.length).sum
  | [], j => by simp
  | n :: L, 0 => by simp
  | n :: L, j + 1 => by
    have := flat_size L j
    simp only [List.getD_cons_succ, List.map_cons, List.sum_cons]
    omega
theorem names_sum (l : List UInt8) : ((names l).map List.length).sum ≤ l.length := by
  induction l with
  | nil => simp [names]
  | cons c l ih =>
    unfold names
    split
    · simp only [List.map_cons, List.sum_cons, List.length_nil, List.length_cons]; omega
    · split
      · simp
      · rename_i h
        rw [h] at ih
        simp only [List.map_cons, List.sum_cons, List.length_cons] at ih ⊢
        omega
theorem names_loop (s : ByteArray) (hs : s.size ≤ 65536) (d : Nat) : ∀ (i k : Nat) (L : List ByteArray), i + d = s.size → d < k → L.map (·.data.toList) = names (s.data.toList.take i) → ∃ M, aquiferref05_Names.l0 k s L (i : Int) = some M ∧ M.map (·.data.toList) = names s.data.toList := by
  have hsz : s.data.toList.length = s.size := rfl
  induction d with
  | zero =>
    intro i k L h hk hL
    obtain ⟨k, rfl⟩ : ∃ q, k = q + 1 := ⟨k - 1, by omega⟩
    refine ⟨L, ?_, ?_⟩
    · unfold aquiferref05_Names.l0
      rw [if_neg (by omega)]
    · rw [hL, List.take_of_length_le (by omega)]
  | succ d ih =>
    intro i k L h hk hL
    obtain ⟨k, rfl⟩ : ∃ q, k = q + 1 := ⟨k - 1, by omega⟩
    have hi : i < s.size := by omega
    have hi' : i < s.data.toList.length := by omega
    have hl := map_data_len hL
    have hln := names_len (s.data.toList.take i)
    have hne := names_ne (s.data.toList.take i)
    have hpos : 0 < L.length := by
      rw [hl]
      exact List.length_pos_iff.2 hne
    have hlt : (s.data.toList.take i).length ≤ 65536 := by rw [List.length_take]; omega
    have hsn := names_snoc (s.data.toList.take i) (s.data.toList[i]'hi')
    rw [← List.take_succ_eq_append_getElem hi'] at hsn
    unfold aquiferref05_Names.l0
    rw [if_pos (by omega), if_pos (by omega), wr i (by omega)]
    by_cases hc : bt s (i : Int) = 47
    · rw [if_pos hc, if_pos (by omega)]
      refine ih (i + 1) k _ (by omega) (by omega) ?_
      rw [hsn, if_pos ((bt_47 s i hi).1 hc), List.map_append, hL]
      rfl
    · have hw : wrap64 ((L.length : Int) - 1) = ((L.length - 1 : Nat) : Int) := by unfold wrap64; omega
      rw [if_neg hc, hw, if_pos (by omega), if_pos (by omega), if_pos (by omega), if_pos (by omega)]
      have hrd : (rdOf ByteArray.empty L ((L.length - 1 : Nat) : Int)).data.toList = (names (s.data.toList.take i)).getD (L.length - 1) [] := by
        unfold rdOf
        rw [← hL]
        simp [List.getD_eq_getElem?_getD]
        cases L[L.length - 1]? <;> rfl
      have hex : (s.extract ((i : Nat) : Int).toNat (((i + 1 : Nat) : Int)).toNat).data.toList = [s.data.toList[i]'hi'] := by
        simp only [Int.toNat_natCast, ByteArray.data_extract, Array.toList_extract]
        rw [List.extract_eq_take_drop, show i + 1 - i = 1 by omega, List.drop_eq_getElem_cons hi']
        rfl
      have hsz1 : (rdOf ByteArray.empty L ((L.length - 1 : Nat) : Int)).size ≤ 65536 := by
        have h1 := flat_size (names (s.data.toList.take i)) (L.length - 1)
        have h2 := names_sum (s.data.toList.take i)
        have h3 : (rdOf ByteArray.empty L ((L.length - 1 : Nat) : Int)).size = (rdOf ByteArray.empty L ((L.length - 1 : Nat) : Int)).data.toList.length := rfl
        rw [h3, hrd]
        omega
      have hsz2 : (s.extract ((i : Nat) : Int).toNat (((i + 1 : Nat) : Int)).toNat).size = 1 := by
        have h3 : (s.extract ((i : Nat) : Int).toNat (((i + 1 : Nat) : Int)).toNat).size = (s.extract ((i : Nat) : Int).toNat (((i + 1 : Nat) : Int)).toNat).data.toList.length := rfl
        rw [h3, hex]
        rfl
      rw [if_pos (by omega)]
      refine ih (i + 1) k _ (by omega) (by omega) ?_
      rw [hsn, if_neg (fun e => hc ((bt_47 s i hi).2 e)), lastApp_set _ _ hne, List.map_set, hL, ByteArray.data_append, Array.toList_append, hrd, hex, ← hl]
      rfl
theorem refnames (s : ByteArray) (hs : s.size ≤ 65536) (k : Nat) (hk : s.size < k) : ∃ M, aquiferref05_Names.f k s = some M ∧ M.map (·.data.toList) = names s.data.toList :=
  names_loop s hs s.size 0 k [⟨#[]⟩] (by omega) hk rfl
theorem cmp_less : ∀ x y : List UInt8, Lib.compareBytes x y = if Op.bytesLess x y = true then -1 else if Op.bytesLess y x = true then 1 else 0
  | [], [] => rfl
  | [], _ :: _ => rfl
  | _ :: _, [] => rfl
  | a :: x, b :: y => by
    have ih := cmp_less x y
    simp only [Lib.compareBytes, Op.bytesLess, Bool.or_eq_true, decide_eq_true_eq, Bool.and_eq_true, beq_iff_eq]
    by_cases h1 : a < b
    · rw [if_pos h1, if_pos (.inl h1)]
    · rw [if_neg h1]
      by_cases h2 : b < a
      · have hn : a ≠ b := fun e => by subst e; exact UInt8.lt_irrefl _ h2
        rw [if_pos h2, if_neg (by rintro (h | h); · exact h1 h
                                  · exact hn h.1), if_pos (.inl h2)]
      · have he : a = b := UInt8.le_antisymm (UInt8.not_lt.1 h2) (UInt8.not_lt.1 h1)
        subst he
        rw [if_neg h1, ih]
        simp [UInt8.lt_irrefl]
theorem cmp_loop (x y : List ByteArray) (hx : x.length ≤ 100000) (d : Nat) : ∀ (i k : Nat), min x.length y.length ≤ i + d → i ≤ x.length → i ≤ y.length → 2 * d + 1 < k → aquiferref05_Compare.l0 k x y (i : Int) = some (cmpN ((x.map (·.data.toList)).drop i) ((y.map (·.data.toList)).drop i)) := by
  have hend : ∀ (i k : Nat), i ≤ x.length → i ≤ y.length → (i = x.length ∨ i = y.length) → aquiferref05_Compare.j1 (k + 1) x y (i : Int) false = some (cmpN ((x.map (·.data.toList)).drop i) ((y.map (·.data.toList)).drop i)) := by
    intro i k h1 h2 h3
    have he := lex_end Lib.compareBytes (x.map (·.data.toList)) (y.map (·.data.toList)) i (by rw [List.length_map]; exact h1) (by rw [List.length_map]; exact h2) (by rw [List.length_map, List.length_map]; exact h3)
    unfold aquiferref05_Compare.j1 cmpN
    rw [he, if_neg (by decide), List.length_map, List.length_map]
    unfold Lib.compareInt
    split
    · rfl
    · split <;> rfl
  have hstop : ∀ (i k : Nat), i ≤ x.length → i ≤ y.length → (i = x.length ∨ i = y.length) → aquiferref05_Compare.l0 (k + 1 + 1) x y (i : Int) = some (cmpN ((x.map (·.data.toList)).drop i) ((y.map (·.data.toList)).drop i)) := by
    intro i k h1 h2 h3
    unfold aquiferref05_Compare.l0
    by_cases h4 : (i : Int) < (x.length : Int)
    · rw [if_pos h4, decide_eq_false (by omega)]
      exact hend i k h1 h2 h3
    · rw [if_neg h4]
      exact hend i k h1 h2 h3
  induction d with
  | zero =>
    intro i k h h1 h2 hk
    obtain ⟨k, rfl⟩ : ∃ q, k = q + 1 + 1 := ⟨k - 2, by omega⟩
    exact hstop i k h1 h2 (by omega)
  | succ d ih =>
    intro i k h h1 h2 hk
    obtain ⟨k, rfl⟩ : ∃ q, k = q + 1 + 1 := ⟨k - 2, by omega⟩
    by_cases h3 : i = x.length ∨ i = y.length
    · exact hstop i k h1 h2 h3
    · have hix : i < x.length := by omega
      have hiy : i < y.length := by omega
      have ih' := ih (i + 1) k (by omega) (by omega) (by omega) (by omega)
      have rx : rdOf ByteArray.empty x (i : Int) = x[i] := by unfold rdOf; simp [hix]
      have ry : rdOf ByteArray.empty y (i : Int) = y[i] := by unfold rdOf; simp [hiy]
      unfold aquiferref05_Compare.l0
      rw [if_pos (by omega), decide_eq_true (by omega)]
      unfold aquiferref05_Compare.j1
      rw [if_pos rfl, if_pos (by omega), if_pos (by omega), if_pos (by omega), rx, ry, wr i (by omega), ih']
      rw [List.drop_eq_getElem_cons (show i < (x.map (·.data.toList)).length by rw [List.length_map]; exact hix), List.drop_eq_getElem_cons (show i < (y.map (·.data.toList)).length by rw [List.length_map]; exact hiy)]
      simp only [cmpN, lexC, List.getElem_map]
      rw [cmp_less, ← Lib.toList_data, ← Lib.toList_data]
      by_cases h4 : Op.bytesLess x[i].toList y[i].toList = true
      · rw [if_pos h4, if_pos h4, if_neg (by decide)]
      · rw [if_neg h4, if_neg h4]
        by_cases h5 : Op.bytesLess y[i].toList x[i].toList = true
        · rw [if_pos h5, if_pos h5, if_neg (by decide)]
        · rw [if_neg h5, if_neg h5, if_pos rfl]
theorem refcompare (a b : ByteArray) (ha : a.size ≤ 65536) (hb : b.size ≤ 65536) (k : Nat) (hk : 2 * a.size + 4 ≤ k) (hk2 : b.size < k) : aquiferref05_Compare.f k a b = some (pcmp a b) := by
  obtain ⟨M, h1, h2⟩ := refnames a ha k (by omega)
  obtain ⟨N, h3, h4⟩ := refnames b hb k hk2
  have hm := map_data_len h2
  have hl := names_len a.data.toList
  have hsz : a.data.toList.length = a.size := rfl
  unfold aquiferref05_Compare.f
  rw [h1, Option.bind_some, h3, Option.bind_some]
  have := cmp_loop M N (by omega) M.length 0 k (by omega) (by omega) (by omega) (by omega)
  unfold pcmp
  rw [← h2, ← h4]
  simpa using this
end Go.Proofs.YtkflalaocnghcaaDoor.Q

namespace Go.Proofs.YtkflalaocnghcaaDoor.Q
open Go.RowKit Go.Proofs.YtkflalaocnghcaaDoorW.PrintWords Go.Proofs.YtkflalaocnghcaaDoorW.PrintLast Go.Proofs.YtkflalaocnghcaaDoorW.PrintMore Go.Proofs.YtkflalaocnghcaaDoorK
attribute [local go_sem] max2_int min2_int max_two min_two max_three min_three max_four min_four   -- for this text's walks alone
attribute [local go_sem ↓] Go.Proofs.YtkflalaocnghcaaDoorK.isSome_setCell
set_option linter.unusedVariables false
set_option linter.unusedSimpArgs false

/-! ### aquiferref06_dir: function 30 -/
def aquiferref06_dir.f (k : Nat) (a0 : ByteArray) : Option (Int) := (aquiferref05_Kind.f k a0).bind fun bt132 => (if bt132.2 = 0 then (if bt132.1 = 2 then (some 13) else (some bt132.2)) else (some bt132.2))
theorem aquiferref06_dir.mono : ∀ a0 k, LeO (aquiferref06_dir.f k a0) (aquiferref06_dir.f (k + 1) a0) := by
  intro a0 k
  unfold aquiferref06_dir.f
  repeat' first
      | (with_reducible exact aquiferref05_Kind.mono _ _)
      | (with_reducible exact LeO.refl _)
      | (with_reducible exact LeO.none _)
      | (with_reducible refine LeO.ite ?_ ?_)
      | (with_reducible refine LeO.bind ?_ (fun _ => ?_))
      | exact aquiferref05_Kind.mono _ _
      | exact LeO.none _
      | refine LeO.ite ?_ ?_
      | refine LeO.bind ?_ (fun _ => ?_)
set_option maxHeartbeats 8000000 in
set_option maxRecDepth 100000 in
theorem aquiferref06_dir.calls (k : Nat) (a0 : ByteArray) (r : Int) (w : World) (h : aquiferref06_dir.f k a0 = some r) :
    Calls Tryd.prog 30 #[.string a0] w fun e w' => e = .returned (.int .i64 r) ∧ Below w.heap.size w w' := by
  have HB := Aside0.mk (Below.refl w.heap.size w)
  have H : ((aquiferref05_Kind.f k a0).bind fun bt132 => (if bt132.2 = 0 then (if bt132.1 = 2 then (some 13) else (some bt132.2)) else (some bt132.2))) = some r := h
  clear h
  replace H := Option.bind_eq_some_iff.mp H
  obtain ⟨⟨t132, t133⟩, A20, H⟩ := H
  replace H : (if t133 = 0 then (if t132 = 2 then (some 13) else (some t133)) else (some t133)) = some r := H
  have A2 := Aside0.mk A20
  clear A20
  by_cases c3 : t133 = 0
  · rw [if_pos c3] at H
    have c3b0 : (t133 == 0) = true := beq_iff_eq.mpr c3
    have c3b1 : (t133 != 0) = false := bne_eq_false_iff_eq.mpr c3
    clear c3
    by_cases c4 : t132 = 2
    · rw [if_pos c4] at H
      have c4b0 : (t132 == 2) = true := beq_iff_eq.mpr c4
      have c4b1 : (t132 != 2) = false := bne_eq_false_iff_eq.mpr c4
      clear c4
      obtain rfl := Option.some.inj H
      go_enter Tryd.func30, Tryd.ntmps30
      go_wp2_with (first | ((with_reducible refine gate_callee (f := 45) rfl ?_); refine goesL_ (some 7) rfl rfl Tryd.func45 (by kernel_rfl) rfl #[.string a0] rfl (by (try simp only [List.map_toArray, List.map_cons, List.map_nil]); first | done | rfl | (simp only [List.length_drop, List.length_take]; rfl)) ?_; (with_reducible refine (aquiferref05_Kind.calls k a0 t132 t133 _ A2.out).mono ?_); rintro e w5 ⟨rfl, hb⟩; refine ⟨_, rfl, ?_⟩; have n0_ := Aside0.mk (below_step (belU HB.out) hb); clear HB; have HB := n0_; clear n0_; (try clear hb); (try clear hb2); (try clear hk); (try clear hi)))
      go_ret
      exact ⟨by first | rfl | (simp [errW_none, errW_some] <;> rfl) | (simp [*, errW_none, errW_some] <;> rfl), belU HB.out⟩
    · rw [if_neg c4] at H
      have c4b0 : (t132 == 2) = false := beq_eq_false_iff_ne.mpr c4
      have c4b1 : (t132 != 2) = true := bne_iff_ne.mpr c4
      obtain rfl := Option.some.inj H
      go_enter Tryd.func30, Tryd.ntmps30
      go_wp2_with (first | ((with_reducible refine gate_callee (f := 45) rfl ?_); refine goesL_ (some 7) rfl rfl Tryd.func45 (by kernel_rfl) rfl #[.string a0] rfl (by (try simp only [List.map_toArray, List.map_cons, List.map_nil]); first | done | rfl | (simp only [List.length_drop, List.length_take]; rfl)) ?_; (with_reducible refine (aquiferref05_Kind.calls k a0 t132 t133 _ A2.out).mono ?_); rintro e w6 ⟨rfl, hb⟩; refine ⟨_, rfl, ?_⟩; have n0_ := Aside0.mk (below_step (belU HB.out) hb); clear HB; have HB := n0_; clear n0_; (try clear hb); (try clear hb2); (try clear hk); (try clear hi)))
      go_ret
      exact ⟨by first | rfl | (simp [errW_none, errW_some] <;> rfl) | (simp [*, errW_none, errW_some] <;> rfl), belU HB.out⟩
  · rw [if_neg c3] at H
    have c3b0 : (t133 == 0) = false := beq_eq_false_iff_ne.mpr c3
    have c3b1 : (t133 != 0) = true := bne_iff_ne.mpr c3
    obtain rfl := Option.some.inj H
    go_enter Tryd.func30, Tryd.ntmps30
    go_wp2_with (first | ((with_reducible refine gate_callee (f := 45) rfl ?_); refine goesL_ (some 7) rfl rfl Tryd.func45 (by kernel_rfl) rfl #[.string a0] rfl (by (try simp only [List.map_toArray, List.map_cons, List.map_nil]); first | done | rfl | (simp only [List.length_drop, List.length_take]; rfl)) ?_; (with_reducible refine (aquiferref05_Kind.calls k a0 t132 t133 _ A2.out).mono ?_); rintro e w7 ⟨rfl, hb⟩; refine ⟨_, rfl, ?_⟩; have n0_ := Aside0.mk (below_step (belU HB.out) hb); clear HB; have HB := n0_; clear n0_; (try clear hb); (try clear hb2); (try clear hk); (try clear hi)))
    go_ret
    exact ⟨by first | rfl | (simp [errW_none, errW_some] <;> rfl) | (simp [*, errW_none, errW_some] <;> rfl), belU HB.out⟩

end Go.Proofs.YtkflalaocnghcaaDoor.Q

namespace Go.Proofs.YtkflalaocnghcaaDoor.Q
open Go.RowKit Go.Proofs.YtkflalaocnghcaaDoorW.PrintWords Go.Proofs.YtkflalaocnghcaaDoorW.PrintLast Go.Proofs.YtkflalaocnghcaaDoorW.PrintMore Go.Proofs.YtkflalaocnghcaaDoorK
attribute [local go_sem] max2_int min2_int max_two min_two max_three min_three max_four min_four   -- for this text's walks alone
attribute [local go_sem ↓] Go.Proofs.YtkflalaocnghcaaDoorK.isSome_setCell
set_option linter.unusedVariables false
set_option linter.unusedSimpArgs false

/-! ### aquiferref05_Is: function 52 -/
def aquiferref05_Is.f (k : Nat) (a0 : ByteArray) : Option (Bool) := (aquiferref05_Kind.f k a0).bind fun bt134 => (some (bt134.2 == 0))
theorem aquiferref05_Is.mono : ∀ a0 k, LeO (aquiferref05_Is.f k a0) (aquiferref05_Is.f (k + 1) a0) := by
  intro a0 k
  unfold aquiferref05_Is.f
  repeat' first
      | (with_reducible exact aquiferref05_Kind.mono _ _)
      | (with_reducible exact LeO.refl _)
      | (with_reducible exact LeO.none _)
      | (with_reducible refine LeO.ite ?_ ?_)
      | (with_reducible refine LeO.bind ?_ (fun _ => ?_))
      | exact aquiferref05_Kind.mono _ _
      | exact LeO.none _
      | refine LeO.ite ?_ ?_
      | refine LeO.bind ?_ (fun _ => ?_)
set_option maxHeartbeats 8000000 in
set_option maxRecDepth 100000 in
theorem aquiferref05_Is.calls (k : Nat) (a0 : ByteArray) (r : Bool) (w : World) (h : aquiferref05_Is.f k a0 = some r) :
    Calls Tryd.prog 52 #[.string a0] w fun e w' => e = .returned (.bool r) ∧ Below w.heap.size w w' := by
  have HB := Aside0.mk (Below.refl w.heap.size w)
  have H : ((aquiferref05_Kind.f k a0).bind fun bt134 => (some (bt134.2 == 0))) = some r := h
  clear h
  replace H := Option.bind_eq_some_iff.mp H
  obtain ⟨⟨t134, t135⟩, A20, H⟩ := H
  replace H : (some (t135 == 0)) = some r := H
  have A2 := Aside0.mk A20
  clear A20
  obtain rfl := Option.some.inj H
  go_enter Tryd.func52, Tryd.ntmps52
  go_wp2_with (first | ((with_reducible refine gate_callee (f := 45) rfl ?_); refine goesL_ (some 7) rfl rfl Tryd.func45 (by kernel_rfl) rfl #[.string a0] rfl (by (try simp only [List.map_toArray, List.map_cons, List.map_nil]); first | done | rfl | (simp only [List.length_drop, List.length_take]; rfl)) ?_; (with_reducible refine (aquiferref05_Kind.calls k a0 t134 t135 _ A2.out).mono ?_); rintro e w3 ⟨rfl, hb⟩; refine ⟨_, rfl, ?_⟩; have n0_ := Aside0.mk (below_step (belU HB.out) hb); clear HB; have HB := n0_; clear n0_; (try clear hb); (try clear hb2); (try clear hk); (try clear hi)))
  go_ret
  exact ⟨by first | rfl | (simp [errW_none, errW_some] <;> rfl) | (simp [*, errW_none, errW_some] <;> rfl), belU HB.out⟩

end Go.Proofs.YtkflalaocnghcaaDoor.Q

namespace Go.Proofs.YtkflalaocnghcaaDoor.Q
open Go.RowKit Go.Proofs.YtkflalaocnghcaaDoorW.PrintWords Go.Proofs.YtkflalaocnghcaaDoorW.PrintLast Go.Proofs.YtkflalaocnghcaaDoorW.PrintMore Go.Proofs.YtkflalaocnghcaaDoorK
attribute [local go_sem] max2_int min2_int max_two min_two max_three min_three max_four min_four   -- for this text's walks alone
attribute [local go_sem ↓] Go.Proofs.YtkflalaocnghcaaDoorK.isSome_setCell
set_option linter.unusedVariables false
set_option linter.unusedSimpArgs false

/-! ### aquiferref05_Split: function 66 -/
def aquiferref05_Split.f (k : Nat) (a0 : ByteArray) : Option (List ByteArray) := (aquiferref05_Is.f k a0).bind fun t136 => (if t136 = true then (if a0.toList = ([] : List UInt8) then (some ([] : List ByteArray)) else ((aquiferref05_Names.f k a0).bind fun t137 => (some t137))) else (some ([] : List ByteArray)))
theorem aquiferref05_Split.mono : ∀ a0 k, LeO (aquiferref05_Split.f k a0) (aquiferref05_Split.f (k + 1) a0) := by
  intro a0 k
  unfold aquiferref05_Split.f
  repeat' first
      | (with_reducible exact aquiferref05_Is.mono _ _)
      | (with_reducible exact aquiferref05_Names.mono _ _)
      | (with_reducible exact LeO.refl _)
      | (with_reducible exact LeO.none _)
      | (with_reducible refine LeO.ite ?_ ?_)
      | (with_reducible refine LeO.bind ?_ (fun _ => ?_))
      | exact aquiferref05_Is.mono _ _
      | exact aquiferref05_Names.mono _ _
      | exact LeO.none _
      | refine LeO.ite ?_ ?_
      | refine LeO.bind ?_ (fun _ => ?_)
set_option maxHeartbeats 8000000 in
set_option maxRecDepth 100000 in
theorem aquiferref05_Split.calls (k : Nat) (a0 : ByteArray) (r : List ByteArray) (w : World) (h : aquiferref05_Split.f k a0 = some r) :
    Calls Tryd.prog 66 #[.string a0] w fun e w' => ∃ v0_ : Value, e = .returned (v0_) ∧ Kd.R Kd.string 9 w' w.heap.size (fun _ => True) v0_ r ∧ Below w.heap.size w w' := by
  have HB := Aside0.mk (Below.refl w.heap.size w)
  have H : ((aquiferref05_Is.f k a0).bind fun t136 => (if t136 = true then (if a0.toList = ([] : List UInt8) then (some ([] : List ByteArray)) else ((aquiferref05_Names.f k a0).bind fun t137 => (some t137))) else (some ([] : List ByteArray)))) = some r := h
  clear h
  replace H := Option.bind_eq_some_iff.mp H
  obtain ⟨t136, A20, H⟩ := H
  replace H : (if t136 = true then (if a0.toList = ([] : List UInt8) then (some ([] : List ByteArray)) else ((aquiferref05_Names.f k a0).bind fun t137 => (some t137))) else (some ([] : List ByteArray))) = some r := H
  have A2 := Aside0.mk A20
  clear A20
  by_cases c3 : t136 = true
  · subst c3
    have H1 : (if a0.toList = ([] : List UInt8) then (some ([] : List ByteArray)) else ((aquiferref05_Names.f k a0).bind fun t137 => (some t137))) = some r := by rw [if_pos rfl] at H; exact H
    clear H
    have H := H1
    clear H1
    by_cases c4 : a0.toList = ([] : List UInt8)
    · rw [if_pos c4] at H
      have c4b0 : (a0.toList == ([] : List UInt8)) = true := beq_iff_eq.mpr c4
      have c4b1 : (a0.toList != ([] : List UInt8)) = false := bne_eq_false_iff_eq.mpr c4
      clear c4
      obtain rfl := Option.some.inj H
      go_enter Tryd.func66, Tryd.ntmps66
      go_wp2_with (first | ((with_reducible refine gate_callee (f := 52) rfl ?_); refine goesL_ (some 4) rfl rfl Tryd.func52 (by kernel_rfl) rfl #[.string a0] rfl (by (try simp only [List.map_toArray, List.map_cons, List.map_nil]); first | done | rfl | (simp only [List.length_drop, List.length_take]; rfl)) ?_; (with_reducible refine (aquiferref05_Is.calls k a0 true _ A2.out).mono ?_); rintro e w5 ⟨rfl, hb⟩; refine ⟨_, rfl, ?_⟩; have n0_ := Aside0.mk (below_step (belU HB.out) hb); clear HB; have HB := n0_; clear n0_; (try clear hb); (try clear hb2); (try clear hk); (try clear hi)))
      go_ret
      exact ⟨_, by first | rfl | (simp [errW_none, errW_some] <;> rfl) | (simp [*, errW_none, errW_some] <;> rfl), by first | exact Kd.R_nil _ _ _ _ _ | exact Kd.N_nil _ _ _ _ _ | exact Kd.V_nil _ _ _ _ _ | exact Kd.Q_nil _ _ _ _ _ | exact Kd.S_nil _ _ _ _ _, belU HB.out⟩
    · rw [if_neg c4] at H
      have c4b0 : (a0.toList == ([] : List UInt8)) = false := beq_eq_false_iff_ne.mpr c4
      have c4b1 : (a0.toList != ([] : List UInt8)) = true := bne_iff_ne.mpr c4
      replace H := Option.bind_eq_some_iff.mp H
      obtain ⟨t137, A60, H⟩ := H
      replace H : (some t137) = some r := H
      have A6 := Aside0.mk A60
      clear A60
      obtain rfl := Option.some.inj H
      go_enter Tryd.func66, Tryd.ntmps66
      go_wp2_with (first | ((with_reducible refine gate_callee (f := 52) rfl ?_); refine goesL_ (some 4) rfl rfl Tryd.func52 (by kernel_rfl) rfl #[.string a0] rfl (by (try simp only [List.map_toArray, List.map_cons, List.map_nil]); first | done | rfl | (simp only [List.length_drop, List.length_take]; rfl)) ?_; (with_reducible refine (aquiferref05_Is.calls k a0 true _ A2.out).mono ?_); rintro e w7 ⟨rfl, hb⟩; refine ⟨_, rfl, ?_⟩; have n0_ := Aside0.mk (below_step (belU HB.out) hb); clear HB; have HB := n0_; clear n0_; (try clear hb); (try clear hb2); (try clear hk); (try clear hi)) | ((with_reducible refine gate_callee (f := 59) rfl ?_); refine goesL_ (some 11) rfl rfl Tryd.func59 (by kernel_rfl) rfl #[.string a0] rfl (by (try simp only [List.map_toArray, List.map_cons, List.map_nil]); first | done | rfl | (simp only [List.length_drop, List.length_take]; rfl)) ?_; (with_reducible refine (aquiferref05_Names.calls k a0 t137 _ A6.out).mono ?_); rintro e w8 ⟨v138, rfl, ho0, hb⟩; refine ⟨_, rfl, ?_⟩; have n0_ := Aside0.mk (Kd.R_lower ho0 (sizU HB.out)); have n1_ := Aside0.mk (below_step (belU HB.out) hb); clear HB; have HO139 := n0_; have HB := n1_; clear n0_ n1_; (try clear hb); (try clear hb2); (try clear hk); (try clear hi); (try clear ho0)))
      go_ret
      exact ⟨_, by first | rfl | (simp [errW_none, errW_some] <;> rfl) | (simp [*, errW_none, errW_some] <;> rfl), by (with_reducible repeat (first | apply Kd.R_alloc | apply Kd.R_drewN | apply Kd.R_drew)); exact HO139.out, belU HB.out⟩
  · replace c3 := Bool.eq_false_iff.mpr c3
    subst c3
    have H1 : (some ([] : List ByteArray)) = some r := by rw [if_neg (show ¬ (false = true) by decide)] at H; exact H
    clear H
    have H := H1
    clear H1
    obtain rfl := Option.some.inj H
    go_enter Tryd.func66, Tryd.ntmps66
    go_wp2_with (first | ((with_reducible refine gate_callee (f := 52) rfl ?_); refine goesL_ (some 4) rfl rfl Tryd.func52 (by kernel_rfl) rfl #[.string a0] rfl (by (try simp only [List.map_toArray, List.map_cons, List.map_nil]); first | done | rfl | (simp only [List.length_drop, List.length_take]; rfl)) ?_; (with_reducible refine (aquiferref05_Is.calls k a0 false _ A2.out).mono ?_); rintro e w9 ⟨rfl, hb⟩; refine ⟨_, rfl, ?_⟩; have n0_ := Aside0.mk (below_step (belU HB.out) hb); clear HB; have HB := n0_; clear n0_; (try clear hb); (try clear hb2); (try clear hk); (try clear hi)))
    go_ret
    exact ⟨_, by first | rfl | (simp [errW_none, errW_some] <;> rfl) | (simp [*, errW_none, errW_some] <;> rfl), by first | exact Kd.R_nil _ _ _ _ _ | exact Kd.N_nil _ _ _ _ _ | exact Kd.V_nil _ _ _ _ _ | exact Kd.Q_nil _ _ _ _ _ | exact Kd.S_nil _ _ _ _ _, belU HB.out⟩

end Go.Proofs.YtkflalaocnghcaaDoor.Q

namespace Go.Proofs.YtkflalaocnghcaaDoor.Q
open Go Go.Proofs Go.Shelf Go.RowKit Go.Lib Go.Sort Go.Proofs.YtkflalaocnghcaaDoorP Go.Proofs.YtkflalaocnghcaaDoorK Go.Proofs.YtkflalaocnghcaaDoorW.PrintWords Go.Proofs.YtkflalaocnghcaaDoorW.PrintLast Go.Proofs.YtkflalaocnghcaaDoorW.PrintMore
set_option linter.unusedSimpArgs false
set_option linter.unusedVariables false
/-! ### The document's kinds -/
theorem btl_at (s : ByteArray) (i : Nat) (h : i < s.data.toList.length) : bt s (i : Int) = ((s.data.toList[i]).toNat : Int) := by
  have h' : i < s.size := h
  unfold bt
  simp [h']
  rfl
theorem sign_fn (c : UInt8) : aquiferref05_sign.f (c.toNat : Int) = some (signB c) := by
  unfold aquiferref05_sign.f signB
  have e1 : ∀ m : UInt8, (decide (m ≤ c)) = decide ((m.toNat : Int) ≤ (c.toNat : Int)) := fun m => by rw [decide_eq_decide, UInt8.le_iff_toNat_le]; omega
  have e2 : ∀ m : UInt8, (decide (c ≤ m)) = decide ((c.toNat : Int) ≤ (m.toNat : Int)) := fun m => by rw [decide_eq_decide, UInt8.le_iff_toNat_le]; omega
  have e3 : ∀ m : UInt8, (c == m) = decide ((c.toNat : Int) = (m.toNat : Int)) := fun m => by
    rw [Bool.eq_iff_iff, beq_iff_eq, decide_eq_true_eq]
    exact ⟨fun h => by rw [h], fun h => UInt8.toNat.inj (by omega)⟩
  have e4 : ((c.toNat : Int) == 126) = decide ((c.toNat : Int) = 126) := by rw [Bool.eq_iff_iff, beq_iff_eq, decide_eq_true_eq]
  rw [e1, e2, e1, e2, e3, e3, e3, e4]
  show _ = some ((decide ((97 : Int) ≤ (c.toNat : Int)) && decide ((c.toNat : Int) ≤ 122)) || ((decide ((48 : Int) ≤ (c.toNat : Int)) && decide ((c.toNat : Int) ≤ 57)) || (decide ((c.toNat : Int) = 95) || (decide ((c.toNat : Int) = 45) || decide ((c.toNat : Int) = 126)))))
  generalize (c.toNat : Int) = z
  by_cases h1 : z ≥ 97 <;> by_cases h2 : z ≤ 122 <;> by_cases h3 : z ≥ 48 <;> by_cases h4 : z ≤ 57 <;> by_cases h5 : z = 95 <;> by_cases h6 : z = 45 <;> simp [h1, h2, h3, h4, h5, h6, ge_iff_le] <;> omega
/-- The points of a name, byte by byte. -/
def nm : Bool → Nat → List UInt8 → Option Nat
  | _, p, [] => some p
  | first, p, c :: l => if c = 46 then (if first = true ∨ l = [] then none else nm false (p + 1) l) else if signB c = true then nm false p l else none
def nmEnd (len : Nat) : Option Nat → Int
  | none => 0
  | some p => if len = 0 then 0 else if 24 < len then 0 else if 1 < p then 0 else 1 + (p : Int)
theorem name_loop (s : ByteArray) (hs : s.size ≤ 65536) (d : Nat) : ∀ (i k p : Nat), i + d = s.data.toList.length → d < k → p ≤ i → aquiferref05_name.l0 k s (p : Int) (i : Int) = some (nmEnd s.size (nm (i == 0) p (s.data.toList.drop i))) := by
  have hsz : s.data.toList.length = s.size := rfl
  induction d with
  | zero =>
    intro i k p h hk hp
    obtain ⟨k, rfl⟩ : ∃ q, k = q + 1 := ⟨k - 1, by omega⟩
    unfold aquiferref05_name.l0
    rw [if_neg (by omega), List.drop_of_length_le (by omega)]
    simp only [nm, nmEnd]
    by_cases h0 : s.size = 0
    · rw [if_pos (by omega), if_pos h0]
    · rw [if_neg (by omega), if_neg h0]
      by_cases h1 : 24 < s.size
      · rw [if_pos (by omega), if_pos h1]
      · rw [if_neg (by omega), if_neg h1]
        by_cases h2 : 1 < p
        · rw [if_pos (by omega), if_pos h2]
        · rw [if_neg (by omega), if_neg h2]
          congr 1
          unfold wrap64
          omega
  | succ d ih =>
    intro i k p h hk hp
    obtain ⟨k, rfl⟩ : ∃ q, k = q + 1 := ⟨k - 1, by omega⟩
    have hi : i < s.data.toList.length := by omega
    unfold aquiferref05_name.l0
    rw [if_pos (by omega), if_pos (by omega), btl_at s i hi, wr1 i (by omega), sign_fn, Option.bind_some, List.drop_eq_getElem_cons hi]
    have hw : wrap64 ((s.size : Int) - 1) = (s.size : Int) - 1 := by unfold wrap64; omega
    have hwp : wrap64 ((p : Int) + 1) = ((p + 1 : Nat) : Int) := wr1 p (by omega)
    rw [hw, hwp]
    have hz : (((i + 1 : Nat)) == 0) = false := rfl
    have i1 := ih (i + 1) k (p + 1) (by omega) (by omega) (by omega)
    have i2 := ih (i + 1) k p (by omega) (by omega) (by omega)
    rw [hz] at i1 i2
    simp only [nm]
    by_cases hc : s.data.toList[i] = 46
    · have hc' : ((s.data.toList[i]).toNat : Int) = 46 := by rw [hc]; rfl
      rw [if_pos hc', if_pos hc]
      by_cases h0 : i = 0
      · subst h0
        rw [if_pos (by omega), if_pos (.inl rfl)]
        rfl
      · rw [if_neg (by omega)]
        by_cases hl : i + 1 = s.data.toList.length
        · rw [if_pos (by omega), if_pos (.inr (List.drop_of_length_le (by omega)))]
          rfl
        · have hne : s.data.toList.drop (i + 1) ≠ [] := fun e => by
            have := congrArg List.length e
            rw [List.length_drop, List.length_nil] at this
            omega
          rw [if_neg (by omega), if_neg (by simp [h0, hne]), i1]
    · have hc' : ¬ ((s.data.toList[i]).toNat : Int) = 46 := fun e => hc (UInt8.toNat.inj (by have : (46 : UInt8).toNat = 46 := rfl; omega))
      rw [if_neg hc', if_neg hc]
      cases hsg : signB s.data.toList[i] with
      | true => rw [if_pos rfl, if_pos rfl, i2]
      | false => rw [if_neg (by decide), if_neg (by decide)]; rfl
theorem not_sign_46 : signB 46 = false := rfl
theorem nm_more (l : List UInt8) : ∀ p, (l.all signB = true → nm false p l = some p) ∧ (l.all signB = false → nm false p l = none ∨ ∃ q, p < q ∧ nm false p l = some q) := by
  induction l with
  | nil => intro p; exact ⟨fun _ => rfl, fun h => by simp at h⟩
  | cons c l ih =>
    intro p
    simp only [List.all_cons, nm]
    by_cases hc : c = 46
    · subst hc
      rw [if_pos rfl, not_sign_46]
      refine ⟨fun h => by simp at h, fun _ => ?_⟩
      by_cases hl : l = []
      · rw [if_pos (.inr hl)]; exact .inl rfl
      · rw [if_neg (by simp [hl])]
        cases ha : l.all signB with
        | true => exact .inr ⟨p + 1, by omega, (ih (p + 1)).1 ha⟩
        | false =>
          rcases (ih (p + 1)).2 ha with h | ⟨q, hq, h⟩
          · exact .inl h
          · exact .inr ⟨q, by omega, h⟩
    · rw [if_neg hc]
      cases hs : signB c with
      | true => rw [if_pos rfl, Bool.true_and]; exact ih p
      | false => rw [if_neg (by decide)]; exact ⟨fun h => by simp at h, fun _ => .inl rfl⟩
theorem nm_free (l : List UInt8) (h : 46 ∉ l) : ∀ f p, nm f p l = if l.all signB = true then some p else none := by
  induction l with
  | nil => intro f p; rfl
  | cons c l ih =>
    intro f p
    simp only [List.all_cons, nm]
    rw [if_neg (fun e => h (by rw [e]; exact List.mem_cons_self)), ih (fun hm => h (List.mem_cons_of_mem _ hm))]
    rcases Bool.eq_false_or_eq_true (signB c) with hs | hs <;> simp [hs]
theorem nm_point (a b : List UInt8) (h : 46 ∉ a) : ∀ f p, nm f p (a ++ 46 :: b) = if a.all signB = true ∧ (f = true → a ≠ []) ∧ b ≠ [] then nm false (p + 1) b else none := by
  induction a with
  | nil =>
    intro f p
    simp only [List.nil_append, nm, if_pos]
    by_cases hf : f = true
    · subst hf
      rw [if_pos (.inl rfl), if_neg (fun h => h.2.1 rfl rfl)]
    · by_cases hb : b = []
      · rw [if_pos (.inr hb), if_neg (fun h => h.2.2 hb)]
      · rw [if_neg (by simp [hf, hb]), if_pos ⟨rfl, fun e => absurd e hf, hb⟩]
  | cons c a ih =>
    intro f p
    rw [List.cons_append]
    simp only [List.all_cons, nm]
    rw [if_neg (fun e => h (by rw [e]; exact List.mem_cons_self)), ih (fun hm => h (List.mem_cons_of_mem _ hm))]
    rcases Bool.eq_false_or_eq_true (signB c) with hs | hs <;> simp [hs]
theorem split_first (c : UInt8) (l : List UInt8) (h : c ∈ l) : ∃ a b, l = a ++ c :: b ∧ c ∉ a := by
  induction l with
  | nil => simp at h
  | cons x l ih =>
    by_cases hx : x = c
    · exact ⟨[], l, by rw [hx]; rfl, by simp⟩
    · obtain ⟨a, b, h1, h2⟩ := ih ((List.mem_cons.1 h).resolve_left (fun e => hx e.symm))
      exact ⟨x :: a, b, by rw [h1, List.cons_append], by simp [h2, Ne.symm hx]⟩
theorem index_first (c : UInt8) (a b : List UInt8) (h : c ∉ a) : index (a ++ c :: b) [c] = (a.length : Int) := by
  induction a with
  | nil => rw [List.nil_append, index_cons_eq]; rfl
  | cons x a ih =>
    have hx : x ≠ c := fun e => h (by rw [e]; exact List.mem_cons_self)
    rw [List.cons_append, index_cons_ne _ x c hx, ih (fun hm => h (List.mem_cons_of_mem _ hm)), if_neg (by simp), List.length_cons]
    omega
theorem index_free (c : UInt8) (a : List UInt8) (h : c ∉ a) : index a [c] = -1 := by
  induction a with
  | nil => rfl
  | cons x a ih =>
    have hx : x ≠ c := fun e => h (by rw [e]; exact List.mem_cons_self)
    rw [index_cons_ne _ x c hx, ih (fun hm => h (List.mem_cons_of_mem _ hm))]
    rfl
theorem kind_nm (l : List UInt8) : nmEnd l.length (nm true 0 l) = kindL l := by
  unfold kindL
  by_cases hm : 46 ∈ l
  · obtain ⟨a, b, rfl, ha⟩ := split_first 46 l hm
    have hc : cut (a ++ 46 :: b) [46] = (a, b, true) := by
      unfold cut
      rw [index_first 46 a b ha, if_pos (by omega)]
      simp
    rw [hc, nm_point a b ha]
    dsimp only
    by_cases h24 : 24 < (a ++ 46 :: b).length
    · rw [if_pos h24]
      split
      · cases nm false (0 + 1) b with
        | none => rfl
        | some p => unfold nmEnd; dsimp only; rw [if_neg (by omega), if_pos h24]
      · rfl
    · rw [if_neg h24]
      have h0 : (a ++ 46 :: b).length ≠ 0 := by simp
      by_cases hpa : plainL a = true
      · have hpa' := hpa
        unfold plainL at hpa'
        simp only [Bool.and_eq_true, Bool.not_eq_true', List.isEmpty_eq_false_iff] at hpa'
        have hR : (if plainL a = false then (0 : Int) else if true = false then 1 else if plainL b = true then 2 else 0) = if plainL b = true then 2 else 0 := by rw [if_neg (by rw [hpa]; decide), if_neg (by decide)]
        rw [hR]
        by_cases hb : b = []
        · subst hb
          rw [if_neg (fun h => h.2.2 rfl)]
          rfl
        · rw [if_pos ⟨hpa'.1, fun _ => hpa'.2, hb⟩]
          have hbe : b.isEmpty = false := List.isEmpty_eq_false_iff.2 hb
          cases hab : b.all signB with
          | true =>
            rw [(nm_more b (0 + 1)).1 hab, if_pos (by unfold plainL; rw [hab, hbe]; rfl)]
            unfold nmEnd
            dsimp only
            rw [if_neg h0, if_neg h24, if_neg (by omega)]
            rfl
          | false =>
            rw [if_neg (by unfold plainL; rw [hab]; simp)]
            rcases (nm_more b (0 + 1)).2 hab with h | ⟨q, hq, h⟩
            · rw [h]; rfl
            · rw [h]
              unfold nmEnd
              dsimp only
              rw [if_neg h0, if_neg h24, if_pos (by omega)]
      · have hpf : plainL a = false := Bool.eq_false_iff.2 hpa
        have hR : (if plainL a = false then (0 : Int) else if true = false then 1 else if plainL b = true then 2 else 0) = 0 := if_pos hpf
        rw [hR, if_neg]
        · rfl
        · intro h
          apply hpa
          unfold plainL
          rw [h.1, List.isEmpty_eq_false_iff.2 (h.2.1 rfl)]
          rfl
  · have hc : cut l [46] = (l, [], false) := by
      unfold cut
      rw [index_free 46 l hm, if_neg (by decide)]
    rw [hc, nm_free l hm]
    dsimp only
    by_cases h24 : 24 < l.length
    · rw [if_pos h24]
      split
      · unfold nmEnd; dsimp only; rw [if_neg (by omega), if_pos h24]
      · rfl
    · rw [if_neg h24]
      by_cases h0 : l = []
      · subst h0; rfl
      · have hl : l.length ≠ 0 := fun e => h0 (List.eq_nil_of_length_eq_zero e)
        have he : l.isEmpty = false := List.isEmpty_eq_false_iff.2 h0
        unfold plainL
        rw [he]
        cases ha : l.all signB with
        | true =>
          rw [if_pos rfl, if_neg (by decide), if_pos rfl]
          unfold nmEnd
          dsimp only
          rw [if_neg hl, if_neg h24, if_neg (by omega)]
          rfl
        | false => rw [if_neg (by decide), if_pos rfl]; rfl
theorem refname (s : ByteArray) (hs : s.size ≤ 65536) (k : Nat) (hk : s.size < k) : aquiferref05_name.f k s = some (kindL s.data.toList) := by
  have h := name_loop s hs s.data.toList.length 0 k 0 (by omega) (by have : s.data.toList.length = s.size := rfl; omega) (Nat.le_refl _)
  rw [List.drop_zero] at h
  unfold aquiferref05_name.f
  rw [← kind_nm]
  exact h
theorem kindsL_cons (n : List UInt8) (l : List (List UInt8)) (k : Int) : kindsL (n :: l) k = if kindL n = 0 then none else if kindL n = 2 ∧ l ≠ [] then none else kindsL l (kindL n) := rfl
theorem kindsL_last (l : List (List UInt8)) : ∀ k r, kindsL l k = some r → r = match l.getLast? with | none => k | some n => kindL n := by
  induction l with
  | nil => intro k r h; simp [kindsL] at h; simp [h]
  | cons n l ih =>
    intro k r h
    unfold kindsL at h
    split at h
    · cases h
    · split at h
      · cases h
      · have := ih _ _ h
        rw [this]
        cases l with
        | nil => rfl
        | cons m l => rw [List.getLast?_cons_cons]; cases hg : (m :: l).getLast? with
          | none => simp at hg
          | some x => rfl
theorem kind_loop (p : ByteArray) (hp : p.size ≤ 65536) (M : List ByteArray) (hM : M.map (·.data.toList) = names p.data.toList) (d : Nat) : ∀ (i k : Nat) (last : Int), i + d = M.length → p.size + d + 1 < k → (i = 0 ∨ ∃ h : i - 1 < M.length, last = kindL M[i - 1].data.toList) → kindsL ((M.drop i).map (·.data.toList)) last = kindsL (names p.data.toList) 0 → aquiferref05_Kind.l0 k M (i : Int) = some (match kindsL (names p.data.toList) 0 with
    | none => (0, 18)
    | some r => if 8 < (names p.data.toList).length then (0, 7) else (r, 0)) := by
  have hne := names_ne p.data.toList
  have hml : M.length = (names p.data.toList).length := by rw [← hM, List.length_map]
  have hpos : 0 < M.length := by rw [hml]; exact List.length_pos_iff.2 hne
  have hnl := names_len p.data.toList
  have hps : p.data.toList.length = p.size := rfl
  have hsz : ∀ x ∈ M, x.size ≤ p.size := fun x hx => by
    have h1 := names_size p.data.toList x.data.toList (by rw [← hM]; exact List.mem_map_of_mem hx)
    have h3 : x.data.toList.length = x.size := rfl
    omega
  induction d with
  | zero =>
    intro i k last h hk hl hr
    obtain ⟨k, rfl⟩ : ∃ q, k = q + 1 := ⟨k - 1, by omega⟩
    rw [List.drop_of_length_le (by omega)] at hr
    simp only [List.map_nil, kindsL] at hr
    rw [← hr]
    unfold aquiferref05_Kind.l0
    dsimp only
    rw [if_neg (by omega)]
    by_cases h8 : 8 < (names p.data.toList).length
    · rw [if_pos (by omega), if_pos h8]
    · have hw : wrap64 ((M.length : Int) - 1) = ((M.length - 1 : Nat) : Int) := by unfold wrap64; omega
      rw [if_neg (by omega), if_neg h8, hw, if_pos (by omega), if_pos (by omega), rdB M (M.length - 1) (by omega), refname _ (by have := hsz _ (List.getElem_mem (show M.length - 1 < M.length by omega)); omega) k (by have := hsz _ (List.getElem_mem (show M.length - 1 < M.length by omega)); omega), Option.bind_some]
      rcases hl with hl | ⟨hi, hl⟩
      · omega
      · have : i = M.length := by omega
        subst this
        rw [hl]
  | succ d ih =>
    intro i k last h hk hl hr
    obtain ⟨k, rfl⟩ : ∃ q, k = q + 1 := ⟨k - 1, by omega⟩
    have hi : i < M.length := by omega
    have hsi := hsz _ (List.getElem_mem hi)
    rw [List.drop_eq_getElem_cons hi, List.map_cons] at hr
    rw [kindsL_cons] at hr
    unfold aquiferref05_Kind.l0
    rw [if_pos (by omega), if_pos (by omega), rdB M i hi, refname _ (by omega) k (by omega), Option.bind_some, wr1 i (by omega), Option.bind_some]
    by_cases h0 : kindL M[i].data.toList = 0
    · rw [if_pos h0] at hr ⊢
      rw [← hr]
    · rw [if_neg h0] at hr ⊢
      by_cases h2 : kindL M[i].data.toList = 2
      · rw [if_pos h2]
        by_cases hlast : i + 1 < M.length
        · rw [if_pos ⟨h2, fun e => by
            have := congrArg List.length e
            rw [List.length_map, List.length_drop, List.length_nil] at this
            omega⟩] at hr
          rw [if_pos (by omega), ← hr]
        · rw [if_neg (fun hh => hh.2 (by rw [List.drop_of_length_le (by omega)]; rfl))] at hr
          rw [if_neg (by omega)]
          exact ih (i + 1) k _ (by omega) (by omega) (.inr ⟨by omega, rfl⟩) hr
      · rw [if_neg (fun hh => h2 hh.1)] at hr
        rw [if_neg h2]
        exact ih (i + 1) k _ (by omega) (by omega) (.inr ⟨by omega, rfl⟩) hr
theorem refkind (p : ByteArray) (hp : p.size ≤ 65536) (k : Nat) (hk : 300 ≤ k) : aquiferref05_Kind.f k p = some (kindS p) := by
  unfold aquiferref05_Kind.f kindS
  by_cases h96 : 96 < p.size
  · rw [if_pos (by omega), if_pos h96]
  · rw [if_neg (by omega), if_neg h96]
    by_cases h0 : p.size = 0
    · rw [if_pos ((size_zero_list p).2 h0), if_pos h0]
    · rw [if_neg (fun e => h0 ((size_zero_list p).1 e)), if_neg h0]
      obtain ⟨M, hf, hM⟩ := refnames p hp k (by omega)
      have hnl := names_len p.data.toList
      have hml : M.length = (names p.data.toList).length := by rw [← hM, List.length_map]
      have hps : p.data.toList.length = p.size := rfl
      rw [hf, Option.bind_some]
      exact kind_loop p hp M hM M.length 0 k 0 (by omega) (by omega) (.inl rfl) (by rw [List.drop_zero, hM])
theorem refis (p : ByteArray) (hp : p.size ≤ 65536) (k : Nat) (hk : 300 ≤ k) : aquiferref05_Is.f k p = some (isP p) := by
  unfold aquiferref05_Is.f isP
  rw [refkind p hp k hk, Option.bind_some]
theorem refdir (p : ByteArray) (hp : p.size ≤ 65536) (k : Nat) (hk : 300 ≤ k) : aquiferref06_dir.f k p = some (dirS p) := by
  unfold aquiferref06_dir.f dirS
  rw [refkind p hp k hk, Option.bind_some]
  by_cases h1 : (kindS p).2 = 0
  · rw [if_pos h1]
    by_cases h2 : (kindS p).1 = 2
    · rw [if_pos h2, if_pos ⟨h1, h2⟩]
    · rw [if_neg h2, if_neg (fun h => h2 h.2)]
  · rw [if_neg h1, if_neg (fun h => h1 h.1)]
end Go.Proofs.YtkflalaocnghcaaDoor.Q

namespace Go.Proofs.YtkflalaocnghcaaDoor.Q
open Go.RowKit Go.Proofs.YtkflalaocnghcaaDoorW.PrintWords Go.Proofs.YtkflalaocnghcaaDoorW.PrintLast Go.Proofs.YtkflalaocnghcaaDoorW.PrintMore Go.Proofs.YtkflalaocnghcaaDoorK
attribute [local go_sem] max2_int min2_int max_two min_two max_three min_three max_four min_four   -- for this text's walks alone
attribute [local go_sem ↓] Go.Proofs.YtkflalaocnghcaaDoorK.isSome_setCell
set_option linter.unusedVariables false
set_option linter.unusedSimpArgs false

/-! ### aquiferref05_Below: function 53 -/
mutual
def aquiferref05_Below.j0 : Nat → ByteArray → ByteArray → Bool → Option (Bool)
  | 0, _, _, _ => none
  | k + 1, x0, x1, x25 => if x25 = true then (some false) else ((aquiferref05_Split.f k x0).bind fun t143 => ((aquiferref05_Split.f k x1).bind fun t146 => (if (t146.length : Int) ≤ (t143.length : Int) then (some false) else (aquiferref05_Below.l0 k t143 t146 0))))
def aquiferref05_Below.l0 : Nat → List ByteArray → List ByteArray → Int → Option (Bool)
  | 0, _, _, _ => none
  | k + 1, x7, x8, x9 => if x9 < (x7.length : Int) then (if 0 ≤ x9 then (if x9 < (x8.length : Int) then (if (rdOf ByteArray.empty x7 x9).toList = (rdOf ByteArray.empty x8 x9).toList then (aquiferref05_Below.l0 k x7 x8 (wrap64 (x9 + 1))) else (some false)) else (none)) else (none)) else (some true)
end
def aquiferref05_Below.f (k : Nat) (a0 : ByteArray) (a1 : ByteArray) : Option (Bool) := (aquiferref05_Kind.f k a0).bind fun bt140 => (if bt140.2 = 0 then (if bt140.1 = 1 then ((aquiferref05_Is.f k a1).bind fun t142 => (aquiferref05_Below.j0 k a0 a1 (!t142))) else (aquiferref05_Below.j0 k a0 a1 true)) else (aquiferref05_Below.j0 k a0 a1 true))
theorem aquiferref05_Below.mono_l : ∀ k, (∀ y0 y1 y2, LeO (aquiferref05_Below.j0 k y0 y1 y2) (aquiferref05_Below.j0 (k + 1) y0 y1 y2)) ∧ (∀ y0 y1 y2, LeO (aquiferref05_Below.l0 k y0 y1 y2) (aquiferref05_Below.l0 (k + 1) y0 y1 y2))
  | 0 => ⟨fun _ _ _ r h => by simp [aquiferref05_Below.j0] at h, fun _ _ _ r h => by simp [aquiferref05_Below.l0] at h⟩
  | k + 1 => by
    obtain ⟨ih0, ih1⟩ := aquiferref05_Below.mono_l k
    refine ⟨?_, ?_⟩
    · intro y0 y1 y2
      unfold aquiferref05_Below.j0
      repeat' first
      | (with_reducible exact ih0 _ _ _)
      | (with_reducible exact ih1 _ _ _)
      | (with_reducible exact aquiferref05_Is.mono _ _)
      | (with_reducible exact aquiferref05_Kind.mono _ _)
      | (with_reducible exact aquiferref05_Split.mono _ _)
      | (with_reducible exact LeO.refl _)
      | (with_reducible exact LeO.none _)
      | (with_reducible refine LeO.ite ?_ ?_)
      | (with_reducible refine LeO.bind ?_ (fun _ => ?_))
      | exact ih0 _ _ _
      | exact ih1 _ _ _
      | exact aquiferref05_Is.mono _ _
      | exact aquiferref05_Kind.mono _ _
      | exact aquiferref05_Split.mono _ _
      | exact LeO.none _
      | refine LeO.ite ?_ ?_
      | refine LeO.bind ?_ (fun _ => ?_)
    · intro y0 y1 y2
      unfold aquiferref05_Below.l0
      repeat' first
      | (with_reducible exact ih0 _ _ _)
      | (with_reducible exact ih1 _ _ _)
      | (with_reducible exact aquiferref05_Is.mono _ _)
      | (with_reducible exact aquiferref05_Kind.mono _ _)
      | (with_reducible exact aquiferref05_Split.mono _ _)
      | (with_reducible exact LeO.refl _)
      | (with_reducible exact LeO.none _)
      | (with_reducible refine LeO.ite ?_ ?_)
      | (with_reducible refine LeO.bind ?_ (fun _ => ?_))
      | exact ih0 _ _ _
      | exact ih1 _ _ _
      | exact aquiferref05_Is.mono _ _
      | exact aquiferref05_Kind.mono _ _
      | exact aquiferref05_Split.mono _ _
      | exact LeO.none _
      | refine LeO.ite ?_ ?_
      | refine LeO.bind ?_ (fun _ => ?_)
theorem aquiferref05_Below.mono : ∀ a0 a1 k, LeO (aquiferref05_Below.f k a0 a1) (aquiferref05_Below.f (k + 1) a0 a1) := by
  intro a0 a1 k
  obtain ⟨ih0, ih1⟩ := aquiferref05_Below.mono_l k
  unfold aquiferref05_Below.f
  repeat' first
      | (with_reducible exact ih0 _ _ _)
      | (with_reducible exact ih1 _ _ _)
      | (with_reducible exact aquiferref05_Is.mono _ _)
      | (with_reducible exact aquiferref05_Kind.mono _ _)
      | (with_reducible exact aquiferref05_Split.mono _ _)
      | (with_reducible exact LeO.refl _)
      | (with_reducible exact LeO.none _)
      | (with_reducible refine LeO.ite ?_ ?_)
      | (with_reducible refine LeO.bind ?_ (fun _ => ?_))
      | exact ih0 _ _ _
      | exact ih1 _ _ _
      | exact aquiferref05_Is.mono _ _
      | exact aquiferref05_Kind.mono _ _
      | exact aquiferref05_Split.mono _ _
      | exact LeO.none _
      | refine LeO.ite ?_ ?_
      | refine LeO.bind ?_ (fun _ => ?_)
set_option maxHeartbeats 8000000 in
set_option maxRecDepth 100000 in
theorem aquiferref05_Below.calls (k : Nat) (a0 : ByteArray) (a1 : ByteArray) (r : Bool) (w : World) (h : aquiferref05_Below.f k a0 a1 = some r) :
    Calls Tryd.prog 53 #[.string a0, .string a1] w fun e w' => e = .returned (.bool r) ∧ Below w.heap.size w w' := by
  have HB := Aside0.mk (Below.refl w.heap.size w)
  have H : ((aquiferref05_Kind.f k a0).bind fun bt140 => (if bt140.2 = 0 then (if bt140.1 = 1 then ((aquiferref05_Is.f k a1).bind fun t142 => (aquiferref05_Below.j0 k a0 a1 (!t142))) else (aquiferref05_Below.j0 k a0 a1 true)) else (aquiferref05_Below.j0 k a0 a1 true))) = some r := h
  clear h
  replace H := Option.bind_eq_some_iff.mp H
  obtain ⟨⟨t140, t141⟩, A30, H⟩ := H
  replace H : (if t141 = 0 then (if t140 = 1 then ((aquiferref05_Is.f k a1).bind fun t142 => (aquiferref05_Below.j0 k a0 a1 (!t142))) else (aquiferref05_Below.j0 k a0 a1 true)) else (aquiferref05_Below.j0 k a0 a1 true)) = some r := H
  have A3 := Aside0.mk A30
  clear A30
  have HC4 := Aside0.mk H
  clear H
  go_enter Tryd.func53, Tryd.ntmps53
  go_upto_region 2 with (first | (go_at_call 45; (with_reducible refine (aquiferref05_Kind.calls k a0 t140 t141 _ A3.out).mono ?_); rintro e w5 ⟨rfl, hb⟩; have n0_ := Aside0.mk (below_step (belU HB.out) hb); clear HB; have HB := n0_; clear n0_; (try clear hb); (try clear hb2); (try clear hk); (try clear hi)))
  repeat (go_quiet (first | (go_at_call 45; (with_reducible refine (aquiferref05_Kind.calls k a0 t140 t141 _ A3.out).mono ?_); rintro e w5 ⟨rfl, hb⟩; have n0_ := Aside0.mk (below_step (belU HB.out) hb); clear HB; have HB := n0_; clear n0_; (try clear hb); (try clear hb2); (try clear hk); (try clear hi))); go_upto_region 2 with (first | (go_at_call 45; (with_reducible refine (aquiferref05_Kind.calls k a0 t140 t141 _ A3.out).mono ?_); rintro e w5 ⟨rfl, hb⟩; have n0_ := Aside0.mk (below_step (belU HB.out) hb); clear HB; have HB := n0_; clear n0_; (try clear hb); (try clear hb2); (try clear hk); (try clear hi))))
  (try simp only [Act.put, List.setIfInBounds_toArray, List.set_cons_zero, List.set_cons_succ])
  go_cut [25] (fun v25 wc => ∃ (kq : Nat) (x25_3 : Bool), v25 = .bool x25_3 ∧ Aside0 (aquiferref05_Below.j0 kq a0 a1 x25_3 = some r) ∧ Aside0 (kq ≤ k) ∧ Aside0 (Below w.heap.size w wc))
  case first =>
    have H := HC4.out
    clear HC4
    by_cases c6 : t141 = 0
    · rw [if_pos c6] at H
      have c6b0 : (t141 == 0) = true := beq_iff_eq.mpr c6
      have c6b1 : (t141 != 0) = false := bne_eq_false_iff_eq.mpr c6
      clear c6
      (first | rw [c6b0] | (simp only [i64_w, i32_w]; rw [c6b0]) | skip)
      by_cases c7 : t140 = 1
      · rw [if_pos c7] at H
        have c7b0 : (t140 == 1) = true := beq_iff_eq.mpr c7
        have c7b1 : (t140 != 1) = false := bne_eq_false_iff_eq.mpr c7
        clear c7
        replace H := Option.bind_eq_some_iff.mp H
        obtain ⟨t142, A80, H⟩ := H
        replace H : (aquiferref05_Below.j0 k a0 a1 (!t142)) = some r := H
        have A8 := Aside0.mk A80
        clear A80
        have H' := Aside0.mk H
        clear H
        go_wp2_with (first | (go_at_call 52; (with_reducible refine (aquiferref05_Is.calls k a1 t142 _ A8.out).mono ?_); rintro e w9 ⟨rfl, hb⟩; have n0_ := Aside0.mk (below_step (belU HB.out) hb); clear HB; have HB := n0_; clear n0_; (try clear hb); (try clear hb2); (try clear hk); (try clear hi)))
        repeat (go_quiet (first | (go_at_call 52; (with_reducible refine (aquiferref05_Is.calls k a1 t142 _ A8.out).mono ?_); rintro e w9 ⟨rfl, hb⟩; have n0_ := Aside0.mk (below_step (belU HB.out) hb); clear HB; have HB := n0_; clear n0_; (try clear hb); (try clear hb2); (try clear hk); (try clear hi))); try go_wp2_with (first | (go_at_call 52; (with_reducible refine (aquiferref05_Is.calls k a1 t142 _ A8.out).mono ?_); rintro e w9 ⟨rfl, hb⟩; have n0_ := Aside0.mk (below_step (belU HB.out) hb); clear HB; have HB := n0_; clear n0_; (try clear hb); (try clear hb2); (try clear hk); (try clear hi))))
        go_meet
        case rel => exact ⟨_, (!t142), (by first | rfl | (simp; done) | (simp [*]; done)), H', ⟨by first | omega | exact Nat.le_refl _⟩, ⟨belU HB.out⟩⟩
      · rw [if_neg c7] at H
        have c7b0 : (t140 == 1) = false := beq_eq_false_iff_ne.mpr c7
        have c7b1 : (t140 != 1) = true := bne_iff_ne.mpr c7
        have H' := Aside0.mk H
        clear H
        go_wp2
        repeat (go_quiet (fail); try go_wp2)
        go_meet
        case rel => exact ⟨_, (true), (by first | rfl | (simp; done) | (simp [*]; done)), H', ⟨by first | omega | exact Nat.le_refl _⟩, ⟨belU HB.out⟩⟩
    · rw [if_neg c6] at H
      have c6b0 : (t141 == 0) = false := beq_eq_false_iff_ne.mpr c6
      have c6b1 : (t141 != 0) = true := bne_iff_ne.mpr c6
      (first | rw [c6b0] | (simp only [i64_w, i32_w]; rw [c6b0]) | skip)
      have H' := Aside0.mk H
      clear H
      go_wp2
      repeat (go_quiet (fail); try go_wp2)
      go_meet
      case rel => exact ⟨_, (true), (by first | rfl | (simp; done) | (simp [*]; done)), H', ⟨by first | omega | exact Nat.le_refl _⟩, ⟨belU HB.out⟩⟩
  case rest =>
    clear HC4
    try clear p2
    try clear c5
    try clear c6
    try clear c6b0
    try clear c6b1
    try clear c7
    try clear c7b0
    try clear c7b1
    obtain ⟨kq, x25_3, rfl, HA, HJ3, HB⟩ := hcut
    cases kq with
    | zero => exact absurd HA.out (by simp [aquiferref05_Below.j0])
    | succ kj3 =>
      have H := HA.out
      clear HA
      simp only [aquiferref05_Below.j0] at H
      by_cases c10 : x25_3 = true
      · subst c10
        have H1 : (some false) = some r := by rw [if_pos rfl] at H; exact H
        clear H
        have H := H1
        clear H1
        obtain rfl := Option.some.inj H
        go_wp2
        repeat (go_quiet (fail); try go_wp2)
        go_ret
        exact ⟨by first | rfl | (simp [errW_none, errW_some] <;> rfl) | (simp [*, errW_none, errW_some] <;> rfl), belU HB.out⟩
      · replace c10 := Bool.eq_false_iff.mpr c10
        subst c10
        have H1 : ((aquiferref05_Split.f kj3 a0).bind fun t143 => ((aquiferref05_Split.f kj3 a1).bind fun t146 => (if (t146.length : Int) ≤ (t143.length : Int) then (some false) else (aquiferref05_Below.l0 kj3 t143 t146 0)))) = some r := by rw [if_neg (show ¬ (false = true) by decide)] at H; exact H
        clear H
        have H := H1
        clear H1
        replace H := Option.bind_eq_some_iff.mp H
        obtain ⟨t143, A110, H⟩ := H
        replace H : ((aquiferref05_Split.f kj3 a1).bind fun t146 => (if (t146.length : Int) ≤ (t143.length : Int) then (some false) else (aquiferref05_Below.l0 kj3 t143 t146 0))) = some r := H
        have A11 := Aside0.mk A110
        clear A110
        replace H := Option.bind_eq_some_iff.mp H
        obtain ⟨t146, A120, H⟩ := H
        replace H : (if (t146.length : Int) ≤ (t143.length : Int) then (some false) else (aquiferref05_Below.l0 kj3 t143 t146 0)) = some r := H
        have A12 := Aside0.mk A120
        clear A120
        by_cases c13 : (t146.length : Int) ≤ (t143.length : Int)
        · rw [if_pos c13] at H
          have c13b0 : decide ((t146.length : Int) ≤ (t143.length : Int)) = true := decide_eq_true c13
          have c13b1 : decide (t146.length ≤ t143.length) = true := decide_eq_true (Int.ofNat_le.mp c13)
          clear c13
          obtain rfl := Option.some.inj H
          go_wp2_with (first | (go_at_call 66; (with_reducible refine (aquiferref05_Split.calls kj3 a0 t143 _ A11.out).mono ?_); rintro e w14 ⟨v144, rfl, ho0, hb⟩; have n0_ := Aside0.mk (Kd.R_lower ho0 (sizU HB.out)); have n1_ := Aside0.mk (below_step (belU HB.out) hb); clear HB; have HO145 := n0_; have HB := n1_; clear n0_ n1_; (try clear hb); (try clear hb2); (try clear hk); (try clear hi); (try clear ho0)) | (go_at_call 66; (with_reducible refine (aquiferref05_Split.calls kj3 a1 t146 _ A12.out).mono ?_); rintro e w15 ⟨v147, rfl, ho0, hb⟩; have n0_ := Aside0.mk (Kd.R_elder' (RU HO145.out) (Kd.R_base ho0) hb); have n1_ := Aside0.mk (Kd.R_lower (Kd.R_new' ho0 (Kd.R_lt (RU HO145.out))) (sizU HB.out)); have n2_ := Aside0.mk (below_step (belU HB.out) hb); clear HO145; clear HB; have HO145 := n0_; have HO148 := n1_; have HB := n2_; clear n0_ n1_ n2_; (try clear hb); (try clear hb2); (try clear hk); (try clear hi); (try clear ho0); obtain ⟨Ao16, co16, eo16⟩ := Kd.R_slice HO148.out; subst eo16; obtain ⟨Ao17, co17, eo17⟩ := Kd.R_slice HO145.out; subst eo17))
          repeat (go_quiet (first | (go_at_call 66; (with_reducible refine (aquiferref05_Split.calls kj3 a0 t143 _ A11.out).mono ?_); rintro e w14 ⟨v144, rfl, ho0, hb⟩; have n0_ := Aside0.mk (Kd.R_lower ho0 (sizU HB.out)); have n1_ := Aside0.mk (below_step (belU HB.out) hb); clear HB; have HO145 := n0_; have HB := n1_; clear n0_ n1_; (try clear hb); (try clear hb2); (try clear hk); (try clear hi); (try clear ho0)) | (go_at_call 66; (with_reducible refine (aquiferref05_Split.calls kj3 a1 t146 _ A12.out).mono ?_); rintro e w15 ⟨v147, rfl, ho0, hb⟩; have n0_ := Aside0.mk (Kd.R_elder' (RU HO145.out) (Kd.R_base ho0) hb); have n1_ := Aside0.mk (Kd.R_lower (Kd.R_new' ho0 (Kd.R_lt (RU HO145.out))) (sizU HB.out)); have n2_ := Aside0.mk (below_step (belU HB.out) hb); clear HO145; clear HB; have HO145 := n0_; have HO148 := n1_; have HB := n2_; clear n0_ n1_ n2_; (try clear hb); (try clear hb2); (try clear hk); (try clear hi); (try clear ho0); obtain ⟨Ao16, co16, eo16⟩ := Kd.R_slice HO148.out; subst eo16; obtain ⟨Ao17, co17, eo17⟩ := Kd.R_slice HO145.out; subst eo17)); try go_wp2_with (first | (go_at_call 66; (with_reducible refine (aquiferref05_Split.calls kj3 a0 t143 _ A11.out).mono ?_); rintro e w14 ⟨v144, rfl, ho0, hb⟩; have n0_ := Aside0.mk (Kd.R_lower ho0 (sizU HB.out)); have n1_ := Aside0.mk (below_step (belU HB.out) hb); clear HB; have HO145 := n0_; have HB := n1_; clear n0_ n1_; (try clear hb); (try clear hb2); (try clear hk); (try clear hi); (try clear ho0)) | (go_at_call 66; (with_reducible refine (aquiferref05_Split.calls kj3 a1 t146 _ A12.out).mono ?_); rintro e w15 ⟨v147, rfl, ho0, hb⟩; have n0_ := Aside0.mk (Kd.R_elder' (RU HO145.out) (Kd.R_base ho0) hb); have n1_ := Aside0.mk (Kd.R_lower (Kd.R_new' ho0 (Kd.R_lt (RU HO145.out))) (sizU HB.out)); have n2_ := Aside0.mk (below_step (belU HB.out) hb); clear HO145; clear HB; have HO145 := n0_; have HO148 := n1_; have HB := n2_; clear n0_ n1_ n2_; (try clear hb); (try clear hb2); (try clear hk); (try clear hi); (try clear ho0); obtain ⟨Ao16, co16, eo16⟩ := Kd.R_slice HO148.out; subst eo16; obtain ⟨Ao17, co17, eo17⟩ := Kd.R_slice HO145.out; subst eo17)))
          go_ret
          exact ⟨by first | rfl | (simp [errW_none, errW_some] <;> rfl) | (simp [*, errW_none, errW_some] <;> rfl), belU HB.out⟩
        · rw [if_neg c13] at H
          have c13b0 : decide ((t146.length : Int) ≤ (t143.length : Int)) = false := decide_eq_false c13
          have c13b1 : decide (t146.length ≤ t143.length) = false := decide_eq_false (fun h => c13 (Int.ofNat_le.mpr h))
          clear c13
          have H' := Aside0.mk H
          clear H
          go_wp2_with (first | (go_at_call 66; (with_reducible refine (aquiferref05_Split.calls kj3 a0 t143 _ A11.out).mono ?_); rintro e w18 ⟨v144, rfl, ho0, hb⟩; have n0_ := Aside0.mk (Kd.R_lower ho0 (sizU HB.out)); have n1_ := Aside0.mk (below_step (belU HB.out) hb); clear HB; have HO145 := n0_; have HB := n1_; clear n0_ n1_; (try clear hb); (try clear hb2); (try clear hk); (try clear hi); (try clear ho0)) | (go_at_call 66; (with_reducible refine (aquiferref05_Split.calls kj3 a1 t146 _ A12.out).mono ?_); rintro e w19 ⟨v147, rfl, ho0, hb⟩; have n0_ := Aside0.mk (Kd.R_elder' (RU HO145.out) (Kd.R_base ho0) hb); have n1_ := Aside0.mk (Kd.R_lower (Kd.R_new' ho0 (Kd.R_lt (RU HO145.out))) (sizU HB.out)); have n2_ := Aside0.mk (below_step (belU HB.out) hb); clear HO145; clear HB; have HO145 := n0_; have HO148 := n1_; have HB := n2_; clear n0_ n1_ n2_; (try clear hb); (try clear hb2); (try clear hk); (try clear hi); (try clear ho0); obtain ⟨Ao20, co20, eo20⟩ := Kd.R_slice HO148.out; subst eo20; obtain ⟨Ao21, co21, eo21⟩ := Kd.R_slice HO145.out; subst eo21))
          repeat (go_quiet (first | (go_at_call 66; (with_reducible refine (aquiferref05_Split.calls kj3 a0 t143 _ A11.out).mono ?_); rintro e w18 ⟨v144, rfl, ho0, hb⟩; have n0_ := Aside0.mk (Kd.R_lower ho0 (sizU HB.out)); have n1_ := Aside0.mk (below_step (belU HB.out) hb); clear HB; have HO145 := n0_; have HB := n1_; clear n0_ n1_; (try clear hb); (try clear hb2); (try clear hk); (try clear hi); (try clear ho0)) | (go_at_call 66; (with_reducible refine (aquiferref05_Split.calls kj3 a1 t146 _ A12.out).mono ?_); rintro e w19 ⟨v147, rfl, ho0, hb⟩; have n0_ := Aside0.mk (Kd.R_elder' (RU HO145.out) (Kd.R_base ho0) hb); have n1_ := Aside0.mk (Kd.R_lower (Kd.R_new' ho0 (Kd.R_lt (RU HO145.out))) (sizU HB.out)); have n2_ := Aside0.mk (below_step (belU HB.out) hb); clear HO145; clear HB; have HO145 := n0_; have HO148 := n1_; have HB := n2_; clear n0_ n1_ n2_; (try clear hb); (try clear hb2); (try clear hk); (try clear hi); (try clear ho0); obtain ⟨Ao20, co20, eo20⟩ := Kd.R_slice HO148.out; subst eo20; obtain ⟨Ao21, co21, eo21⟩ := Kd.R_slice HO145.out; subst eo21)); try go_wp2_with (first | (go_at_call 66; (with_reducible refine (aquiferref05_Split.calls kj3 a0 t143 _ A11.out).mono ?_); rintro e w18 ⟨v144, rfl, ho0, hb⟩; have n0_ := Aside0.mk (Kd.R_lower ho0 (sizU HB.out)); have n1_ := Aside0.mk (below_step (belU HB.out) hb); clear HB; have HO145 := n0_; have HB := n1_; clear n0_ n1_; (try clear hb); (try clear hb2); (try clear hk); (try clear hi); (try clear ho0)) | (go_at_call 66; (with_reducible refine (aquiferref05_Split.calls kj3 a1 t146 _ A12.out).mono ?_); rintro e w19 ⟨v147, rfl, ho0, hb⟩; have n0_ := Aside0.mk (Kd.R_elder' (RU HO145.out) (Kd.R_base ho0) hb); have n1_ := Aside0.mk (Kd.R_lower (Kd.R_new' ho0 (Kd.R_lt (RU HO145.out))) (sizU HB.out)); have n2_ := Aside0.mk (below_step (belU HB.out) hb); clear HO145; clear HB; have HO145 := n0_; have HO148 := n1_; have HB := n2_; clear n0_ n1_ n2_; (try clear hb); (try clear hb2); (try clear hk); (try clear hi); (try clear ho0); obtain ⟨Ao20, co20, eo20⟩ := Kd.R_slice HO148.out; subst eo20; obtain ⟨Ao21, co21, eo21⟩ := Kd.R_slice HO145.out; subst eo21)))
          go_loopg [9] kj3 (fun kq v9 w' => ∃ (x9_2 : Int), v9 = .int .i64 x9_2 ∧ Aside0 (aquiferref05_Below.l0 kq t143 t146 x9_2 = some r) ∧ Aside0 (kq ≤ kj3) ∧ Aside0 (Kd.R Kd.string 9 w' w.heap.size (fun k_ => some k_ ≠ ((.slice Ao20 t146.length co20) : Value).ownBlock) (.slice Ao21 t143.length co21) t143) ∧ Aside0 (Kd.R Kd.string 9 w' w.heap.size (fun k_ => some k_ ≠ ((.slice Ao21 t143.length co21) : Value).ownBlock) (.slice Ao20 t146.length co20) t146) ∧ Aside0 (Below w.heap.size w w'))
          case atStart => exact ⟨(0), (by first | rfl | (simp; done) | (simp [*]; done)), H', ⟨Nat.le_refl _⟩, ⟨by (with_reducible repeat (first | apply Kd.R_alloc | apply Kd.R_drewN | apply Kd.R_drew)); exact Kd.R_mono HO145.out (fun _ hk => hk.2)⟩, ⟨by (with_reducible repeat (first | apply Kd.R_alloc | apply Kd.R_drewN | apply Kd.R_drew)); exact Kd.R_mono HO148.out (fun _ hk => hk.2)⟩, ⟨belU HB.out⟩⟩
          case round =>
            clear H'
            try clear c1
            try clear p2
            try clear c5
            try clear c6
            try clear c6b0
            try clear c6b1
            try clear c7
            try clear c7b0
            try clear c7b1
            try clear c10
            try clear c13
            try clear c13b0
            try clear c13b1
            try clear p2
            obtain ⟨x9_2, rfl, HA, HK2, HO_7, HO_8, HB⟩ := hrel
            cases gk with
            | zero => exact absurd HA.out (by simp [aquiferref05_Below.l0])
            | succ k2 =>
              have H := HA.out
              clear HA
              simp only [aquiferref05_Below.l0] at H
              by_cases c22 : x9_2 < (t143.length : Int)
              · rw [if_pos c22] at H
                have c22b0 : decide (x9_2 < (t143.length : Int)) = true := decide_eq_true c22
                clear c22
                by_cases c23 : 0 ≤ x9_2
                · rw [if_pos c23] at H
                  have c23b0 : decide (0 ≤ x9_2) = true := decide_eq_true c23
                  clear c23
                  by_cases c24 : x9_2 < (t146.length : Int)
                  · rw [if_pos c24] at H
                    have c24b0 : decide (x9_2 < (t146.length : Int)) = true := decide_eq_true c24
                    clear c24
                    by_cases c25 : (rdOf ByteArray.empty t143 x9_2).toList = (rdOf ByteArray.empty t146 x9_2).toList
                    · rw [if_pos c25] at H
                      have c25b0 : ((rdOf ByteArray.empty t143 x9_2).toList == (rdOf ByteArray.empty t146 x9_2).toList) = true := beq_iff_eq.mpr c25
                      have c25b1 : ((rdOf ByteArray.empty t143 x9_2).toList != (rdOf ByteArray.empty t146 x9_2).toList) = false := bne_eq_false_iff_eq.mpr c25
                      clear c25
                      have H' := Aside0.mk H
                      clear H
                      have p149 : 0 ≤ (x9_2 : Int) := of_decide_eq_true (by first | (with_reducible assumption) | assumption)
                      have q149 : x9_2 < (t143.length : Int) := of_decide_eq_true (by first | (with_reducible assumption) | assumption)
                      obtain ⟨ad149, e149, hx149_0⟩ := Kd.at_string (Kd.R_reads' HO_7.out).2.2 x9_2 p149 q149
                      cases e149
                      replace p149 := eq_true p149
                      replace q149 := eq_true q149
                      have p150 : 0 ≤ (x9_2 : Int) := of_decide_eq_true (by first | (with_reducible assumption) | assumption)
                      have q150 : x9_2 < (t146.length : Int) := of_decide_eq_true (by first | (with_reducible assumption) | assumption)
                      obtain ⟨ad150, e150, hx150_0⟩ := Kd.at_string (Kd.R_reads' HO_8.out).2.2 x9_2 p150 q150
                      cases e150
                      replace p150 := eq_true p150
                      replace q150 := eq_true q150
                      go_wp2
                      repeat (go_quiet (fail); try go_wp2)
                      go_roundg k2
                      case measure => have := HJ3.out; have := HK2.out; omega
                      case rel => exact ⟨(wrap64 (x9_2 + 1)), (by first | rfl | (simp; done) | (simp [*]; done)), H', ⟨by have := HJ3.out; have := HK2.out; omega⟩, ⟨RU HO_7.out⟩, ⟨RU HO_8.out⟩, ⟨belU HB.out⟩⟩
                    · rw [if_neg c25] at H
                      have c25b0 : ((rdOf ByteArray.empty t143 x9_2).toList == (rdOf ByteArray.empty t146 x9_2).toList) = false := beq_eq_false_iff_ne.mpr c25
                      have c25b1 : ((rdOf ByteArray.empty t143 x9_2).toList != (rdOf ByteArray.empty t146 x9_2).toList) = true := bne_iff_ne.mpr c25
                      obtain rfl := Option.some.inj H
                      have p149 : 0 ≤ (x9_2 : Int) := of_decide_eq_true (by first | (with_reducible assumption) | assumption)
                      have q149 : x9_2 < (t143.length : Int) := of_decide_eq_true (by first | (with_reducible assumption) | assumption)
                      obtain ⟨ad149, e149, hx149_0⟩ := Kd.at_string (Kd.R_reads' HO_7.out).2.2 x9_2 p149 q149
                      cases e149
                      replace p149 := eq_true p149
                      replace q149 := eq_true q149
                      have p150 : 0 ≤ (x9_2 : Int) := of_decide_eq_true (by first | (with_reducible assumption) | assumption)
                      have q150 : x9_2 < (t146.length : Int) := of_decide_eq_true (by first | (with_reducible assumption) | assumption)
                      obtain ⟨ad150, e150, hx150_0⟩ := Kd.at_string (Kd.R_reads' HO_8.out).2.2 x9_2 p150 q150
                      cases e150
                      replace p150 := eq_true p150
                      replace q150 := eq_true q150
                      go_wp2
                      repeat (go_quiet (fail); try go_wp2)
                      go_ret
                      exact ⟨by first | rfl | (simp [errW_none, errW_some] <;> rfl) | (simp [*, errW_none, errW_some] <;> rfl), belU HB.out⟩
                  · rw [if_neg c24] at H
                    exact absurd H (by simp)
                · rw [if_neg c23] at H
                  exact absurd H (by simp)
              · rw [if_neg c22] at H
                have c22b0 : decide (x9_2 < (t143.length : Int)) = false := decide_eq_false c22
                clear c22
                obtain rfl := Option.some.inj H
                go_wp2
                repeat (go_quiet (fail); try go_wp2)
                go_ret
                exact ⟨by first | rfl | (simp [errW_none, errW_some] <;> rfl) | (simp [*, errW_none, errW_some] <;> rfl), belU HB.out⟩

end Go.Proofs.YtkflalaocnghcaaDoor.Q
