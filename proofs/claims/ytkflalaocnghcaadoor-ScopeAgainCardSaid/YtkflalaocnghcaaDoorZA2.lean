/- Parts of the proof: Q26, PMay, HUni, PL, HTxt, Q1, Q22, Q27, Q42, KG, Q9, Q10. -/
import Derived.Test.YtkflalaocnghcaaDoorZA1
import Derived.Test.YtkflalaocnghcaaDoorWZeros
import Derived.Shelf.Strings.BuilderK
namespace Go.Proofs.YtkflalaocnghcaaDoor.Q
open Go.RowKit Go.Proofs.YtkflalaocnghcaaDoorW.PrintWords Go.Proofs.YtkflalaocnghcaaDoorW.PrintLast Go.Proofs.YtkflalaocnghcaaDoorW.PrintMore Go.Proofs.YtkflalaocnghcaaDoorK
attribute [local go_sem] max2_int min2_int max_two min_two max_three min_three max_four min_four   -- for this text's walks alone
attribute [local go_sem ↓] Go.Proofs.YtkflalaocnghcaaDoorK.isSome_setCell
set_option linter.unusedVariables false
set_option linter.unusedSimpArgs false

/-! ### scope_Meet: function 22 -/
mutual
def scope_Meet.j0 : Nat → List ByteArray → List ByteArray → Bool → Option (List ByteArray)
  | 0, _, _, _ => none
  | k + 1, x0, x1, x17 => if x17 = true then (some ([] : List ByteArray)) else (scope_Meet.l0 k x1 ([] : List ByteArray) x0 (x0.length : Int) 0)
def scope_Meet.l0 : Nat → List ByteArray → List ByteArray → List ByteArray → Int → Int → Option (List ByteArray)
  | 0, _, _, _, _, _ => none
  | k + 1, x1, x5, x18, x19, x20 => if x20 < x19 then (if 0 ≤ x20 then (if x20 < (x18.length : Int) then (scope_Meet.l1 k x1 x5 (rdOf ByteArray.empty x18 x20) x18 x19 x20 x1 (x1.length : Int) 0) else (none)) else (none)) else ((scope_reduce.f x5).bind fun t195 => (some t195))
def scope_Meet.l1 : Nat → List ByteArray → List ByteArray → ByteArray → List ByteArray → Int → Int → List ByteArray → Int → Int → Option (List ByteArray)
  | 0, _, _, _, _, _, _, _, _, _ => none
  | k + 1, x1, x5, x7, x18, x19, x20, x24, x25, x26 => if x26 < x25 then (if 0 ≤ x26 then (if x26 < (x24.length : Int) then ((scope_within.f x7 (rdOf ByteArray.empty x24 x26)).bind fun t200 => (if t200 = true then (if x5.length < 8796093022208 then (scope_Meet.l1 k x1 (x5 ++ [rdOf ByteArray.empty x24 x26]) x7 x18 x19 x20 x24 x25 (wrap64 (x26 + 1))) else (none)) else ((scope_within.f (rdOf ByteArray.empty x24 x26) x7).bind fun t204 => (if t204 = true then (if x5.length < 8796093022208 then (scope_Meet.l1 k x1 (x5 ++ [x7]) x7 x18 x19 x20 x24 x25 (wrap64 (x26 + 1))) else (none)) else (scope_Meet.l1 k x1 x5 x7 x18 x19 x20 x24 x25 (wrap64 (x26 + 1))))))) else (none)) else (none)) else (scope_Meet.l0 k x1 x5 x18 x19 (wrap64 (x20 + 1)))
end
def scope_Meet.f (k : Nat) (l0 : List ByteArray) (l1 : List ByteArray) : Option (List ByteArray) := (scope_May.f k l0).bind fun t193 => (if t193 = true then ((scope_May.f k l1).bind fun t194 => (scope_Meet.j0 k l0 l1 (!t194))) else (scope_Meet.j0 k l0 l1 true))
theorem scope_Meet.mono_l : ∀ k, (∀ y0 y1 y2, LeO (scope_Meet.j0 k y0 y1 y2) (scope_Meet.j0 (k + 1) y0 y1 y2)) ∧ (∀ y0 y1 y2 y3 y4, LeO (scope_Meet.l0 k y0 y1 y2 y3 y4) (scope_Meet.l0 (k + 1) y0 y1 y2 y3 y4)) ∧ (∀ y0 y1 y2 y3 y4 y5 y6 y7 y8, LeO (scope_Meet.l1 k y0 y1 y2 y3 y4 y5 y6 y7 y8) (scope_Meet.l1 (k + 1) y0 y1 y2 y3 y4 y5 y6 y7 y8))
  | 0 => ⟨fun _ _ _ r h => by simp [scope_Meet.j0] at h, fun _ _ _ _ _ r h => by simp [scope_Meet.l0] at h, fun _ _ _ _ _ _ _ _ _ r h => by simp [scope_Meet.l1] at h⟩
  | k + 1 => by
    obtain ⟨ih0, ih1, ih2⟩ := scope_Meet.mono_l k
    refine ⟨?_, ?_, ?_⟩
    · intro y0 y1 y2
      unfold scope_Meet.j0
      repeat' first
      | (with_reducible exact ih0 _ _ _)
      | (with_reducible exact ih1 _ _ _ _ _)
      | (with_reducible exact ih2 _ _ _ _ _ _ _ _ _)
      | (with_reducible exact scope_May.mono _ _)
      | (with_reducible exact LeO.refl _)
      | (with_reducible exact LeO.none _)
      | (with_reducible refine LeO.ite ?_ ?_)
      | (with_reducible refine LeO.bind ?_ (fun _ => ?_))
      | exact ih0 _ _ _
      | exact ih1 _ _ _ _ _
      | exact ih2 _ _ _ _ _ _ _ _ _
      | exact scope_May.mono _ _
      | exact LeO.none _
      | refine LeO.ite ?_ ?_
      | refine LeO.bind ?_ (fun _ => ?_)
    · intro y0 y1 y2 y3 y4
      unfold scope_Meet.l0
      repeat' first
      | (with_reducible exact ih0 _ _ _)
      | (with_reducible exact ih1 _ _ _ _ _)
      | (with_reducible exact ih2 _ _ _ _ _ _ _ _ _)
      | (with_reducible exact scope_May.mono _ _)
      | (with_reducible exact LeO.refl _)
      | (with_reducible exact LeO.none _)
      | (with_reducible refine LeO.ite ?_ ?_)
      | (with_reducible refine LeO.bind ?_ (fun _ => ?_))
      | exact ih0 _ _ _
      | exact ih1 _ _ _ _ _
      | exact ih2 _ _ _ _ _ _ _ _ _
      | exact scope_May.mono _ _
      | exact LeO.none _
      | refine LeO.ite ?_ ?_
      | refine LeO.bind ?_ (fun _ => ?_)
    · intro y0 y1 y2 y3 y4 y5 y6 y7 y8
      unfold scope_Meet.l1
      repeat' first
      | (with_reducible exact ih0 _ _ _)
      | (with_reducible exact ih1 _ _ _ _ _)
      | (with_reducible exact ih2 _ _ _ _ _ _ _ _ _)
      | (with_reducible exact scope_May.mono _ _)
      | (with_reducible exact LeO.refl _)
      | (with_reducible exact LeO.none _)
      | (with_reducible refine LeO.ite ?_ ?_)
      | (with_reducible refine LeO.bind ?_ (fun _ => ?_))
      | exact ih0 _ _ _
      | exact ih1 _ _ _ _ _
      | exact ih2 _ _ _ _ _ _ _ _ _
      | exact scope_May.mono _ _
      | exact LeO.none _
      | refine LeO.ite ?_ ?_
      | refine LeO.bind ?_ (fun _ => ?_)
theorem scope_Meet.mono : ∀ a0 a1 k, LeO (scope_Meet.f k a0 a1) (scope_Meet.f (k + 1) a0 a1) := by
  intro a0 a1 k
  obtain ⟨ih0, ih1, ih2⟩ := scope_Meet.mono_l k
  unfold scope_Meet.f
  repeat' first
      | (with_reducible exact ih0 _ _ _)
      | (with_reducible exact ih1 _ _ _ _ _)
      | (with_reducible exact ih2 _ _ _ _ _ _ _ _ _)
      | (with_reducible exact scope_May.mono _ _)
      | (with_reducible exact LeO.refl _)
      | (with_reducible exact LeO.none _)
      | (with_reducible refine LeO.ite ?_ ?_)
      | (with_reducible refine LeO.bind ?_ (fun _ => ?_))
      | exact ih0 _ _ _
      | exact ih1 _ _ _ _ _
      | exact ih2 _ _ _ _ _ _ _ _ _
      | exact scope_May.mono _ _
      | exact LeO.none _
      | refine LeO.ite ?_ ?_
      | refine LeO.bind ?_ (fun _ => ?_)
set_option maxHeartbeats 8000000 in
set_option maxRecDepth 100000 in
theorem scope_Meet.calls (k : Nat) (A0 : Option Addr) (c0 : Nat) (l0 : List ByteArray) (A1 : Option Addr) (c1 : Nat) (l1 : List ByteArray) (r : List ByteArray) (w : World) (hr0 : Kd.C Kd.string w A0 l0.length l0) (hc0 : l0.length ≤ c0) (hr1 : Kd.C Kd.string w A1 l1.length l1) (hc1 : l1.length ≤ c1) (h : scope_Meet.f k l0 l1 = some r) :
    Calls Tryd.prog 22 #[.slice A0 l0.length c0, .slice A1 l1.length c1] w fun e w' => ∃ v0_ : Value, e = .returned (v0_) ∧ SR Kd.string 9 w' w.heap.size (fun _ => True) v0_ r ∧ Below w.heap.size w w' := by
  have HR0 := Aside0.mk hr0
  have HC0 := Aside0.mk hc0
  clear hr0 hc0
  have HR1 := Aside0.mk hr1
  have HC1 := Aside0.mk hc1
  clear hr1 hc1
  have HB := Aside0.mk (Below.refl w.heap.size w)
  have H : ((scope_May.f k l0).bind fun t193 => (if t193 = true then ((scope_May.f k l1).bind fun t194 => (scope_Meet.j0 k l0 l1 (!t194))) else (scope_Meet.j0 k l0 l1 true))) = some r := h
  clear h
  have HC3 := Aside0.mk H
  clear H
  go_enter Tryd.func22, Tryd.ntmps22
  go_upto_region 1 with (fail)
  go_cut [17] (fun v17 wc => ∃ (kq : Nat) (x17_2 : Bool), v17 = .bool x17_2 ∧ Aside0 (scope_Meet.j0 kq l0 l1 x17_2 = some r) ∧ Aside0 (kq ≤ k) ∧ Aside0 (Below w.heap.size w wc))
  case first =>
    have H := HC3.out
    clear HC3
    replace H := Option.bind_eq_some_iff.mp H
    obtain ⟨t193, A40, H⟩ := H
    replace H : (if t193 = true then ((scope_May.f k l1).bind fun t194 => (scope_Meet.j0 k l0 l1 (!t194))) else (scope_Meet.j0 k l0 l1 true)) = some r := H
    have A4 := Aside0.mk A40
    clear A40
    by_cases c5 : t193 = true
    · subst c5
      have H1 : ((scope_May.f k l1).bind fun t194 => (scope_Meet.j0 k l0 l1 (!t194))) = some r := by rw [if_pos rfl] at H; exact H
      clear H
      have H := H1
      clear H1
      replace H := Option.bind_eq_some_iff.mp H
      obtain ⟨t194, A60, H⟩ := H
      replace H : (scope_Meet.j0 k l0 l1 (!t194)) = some r := H
      have A6 := Aside0.mk A60
      clear A60
      have H' := Aside0.mk H
      clear H
      go_wp2_with (first | ((with_reducible refine gate_callee (f := 13) rfl ?_); refine goesL_ (some 11) rfl rfl Tryd.func13 (by kernel_rfl) rfl #[.slice A0 l0.length c0] rfl (by (try simp only [List.map_toArray, List.map_cons, List.map_nil]); first | done | rfl | (simp only [List.length_drop, List.length_take]; rfl)) ?_; (with_reducible refine (scope_May.calls k _ _ l0 true _ ?side1 ?side2 A4.out).mono ?_); (case side1 => exact CU (Kd.C_below HR0.out HB.out)); (case side2 => exact HC0.out); rintro e w7 ⟨rfl, hb⟩; refine ⟨_, rfl, ?_⟩; have n0_ := Aside0.mk (below_step (belU HB.out) hb); clear HB; have HB := n0_; clear n0_; (try clear hb); (try clear hb2); (try clear hk); (try clear hi)) | (go_at_call 13; (with_reducible refine (scope_May.calls k _ _ l1 t194 _ ?side1 ?side2 A6.out).mono ?_); (case side1 => exact CU (Kd.C_below HR1.out HB.out)); (case side2 => exact HC1.out); rintro e w8 ⟨rfl, hb⟩; have n0_ := Aside0.mk (below_step (belU HB.out) hb); clear HB; have HB := n0_; clear n0_; (try clear hb); (try clear hb2); (try clear hk); (try clear hi)))
      go_meet
      case rel => exact ⟨_, (!t194), (by first | rfl | (simp; done) | (simp [*]; done)), H', ⟨by first | omega | exact Nat.le_refl _⟩, ⟨belU HB.out⟩⟩
    · replace c5 := Bool.eq_false_iff.mpr c5
      subst c5
      have H1 : (scope_Meet.j0 k l0 l1 true) = some r := by rw [if_neg (show ¬ (false = true) by decide)] at H; exact H
      clear H
      have H := H1
      clear H1
      have H' := Aside0.mk H
      clear H
      go_wp2_with (first | ((with_reducible refine gate_callee (f := 13) rfl ?_); refine goesL_ (some 11) rfl rfl Tryd.func13 (by kernel_rfl) rfl #[.slice A0 l0.length c0] rfl (by (try simp only [List.map_toArray, List.map_cons, List.map_nil]); first | done | rfl | (simp only [List.length_drop, List.length_take]; rfl)) ?_; (with_reducible refine (scope_May.calls k _ _ l0 false _ ?side1 ?side2 A4.out).mono ?_); (case side1 => exact CU (Kd.C_below HR0.out HB.out)); (case side2 => exact HC0.out); rintro e w9 ⟨rfl, hb⟩; refine ⟨_, rfl, ?_⟩; have n0_ := Aside0.mk (below_step (belU HB.out) hb); clear HB; have HB := n0_; clear n0_; (try clear hb); (try clear hb2); (try clear hk); (try clear hi)))
      go_meet
      case rel => exact ⟨_, (true), (by first | rfl | (simp; done) | (simp [*]; done)), H', ⟨by first | omega | exact Nat.le_refl _⟩, ⟨belU HB.out⟩⟩
  case rest =>
    clear HC3
    try clear c1
    try clear c2
    try clear p2
    try clear c5
    obtain ⟨kq, x17_2, rfl, HA, HJ2, HB⟩ := hcut
    cases kq with
    | zero => exact absurd HA.out (by simp [scope_Meet.j0])
    | succ kj2 =>
      have H := HA.out
      clear HA
      simp only [scope_Meet.j0] at H
      by_cases c10 : x17_2 = true
      · subst c10
        have H1 : (some ([] : List ByteArray)) = some r := by rw [if_pos rfl] at H; exact H
        clear H
        have H := H1
        clear H1
        obtain rfl := Option.some.inj H
        go_wp2
        go_ret
        exact ⟨_, by first | rfl | (simp [errW_none, errW_some] <;> rfl) | (simp [*, errW_none, errW_some] <;> rfl), by first | exact SR_nil _ _ _ _ _ | exact Kd.N_nil _ _ _ _ _ | exact Kd.V_nil _ _ _ _ _ | exact Kd.Q_nil _ _ _ _ _ | exact Kd.S_nil _ _ _ _ _, belU HB.out⟩
      · replace c10 := Bool.eq_false_iff.mpr c10
        subst c10
        have H1 : (scope_Meet.l0 kj2 l1 ([] : List ByteArray) l0 (l0.length : Int) 0) = some r := by rw [if_neg (show ¬ (false = true) by decide)] at H; exact H
        clear H
        have H := H1
        clear H1
        have H' := Aside0.mk H
        clear H
        go_wp2
        go_loopg [5, 20] kj2 (fun kq v5 v20 w' => ∃ (x5_2 : List ByteArray) (x20_2 : Int), v20 = .int .i64 x20_2 ∧ Aside0 (scope_Meet.l0 kq l1 x5_2 l0 (l0.length : Int) x20_2 = some r) ∧ Aside0 (kq ≤ kj2) ∧ Aside0 (Kd.R Kd.string 9 w' w.heap.size (fun _ => True) v5 x5_2) ∧ Aside0 (Below w.heap.size w w'))
        case atStart => exact ⟨(([] : List ByteArray)), (0), (by first | rfl | (simp; done) | (simp [*]; done)), H', ⟨Nat.le_refl _⟩, ⟨by first | exact Kd.R_nil _ _ _ _ _ | exact Kd.N_nil _ _ _ _ _ | exact Kd.V_nil _ _ _ _ _ | exact Kd.Q_nil _ _ _ _ _ | exact Kd.S_nil _ _ _ _ _⟩, ⟨belU HB.out⟩⟩
        case round =>
          clear H'
          try clear c1
          try clear c2
          try clear p2
          try clear c5
          try clear c10
          try clear p2
          obtain ⟨x5_2, x20_2, rfl, HA, HK2, HO_5, HB⟩ := hrel
          cases gk with
          | zero => exact absurd HA.out (by simp [scope_Meet.l0])
          | succ k2 =>
            have H := HA.out
            clear HA
            simp only [scope_Meet.l0] at H
            by_cases c11 : x20_2 < (l0.length : Int)
            · rw [if_pos c11] at H
              have c11b0 : decide (x20_2 < (l0.length : Int)) = true := decide_eq_true c11
              clear c11
              by_cases c12 : 0 ≤ x20_2
              · rw [if_pos c12] at H
                have c12b0 : decide (0 ≤ x20_2) = true := decide_eq_true c12
                clear c12
                by_cases c13 : x20_2 < (l0.length : Int)
                · rw [if_pos c13] at H
                  have c13b0 : decide (x20_2 < (l0.length : Int)) = true := decide_eq_true c13
                  clear c13
                  have H' := Aside0.mk H
                  clear H
                  have p198 : 0 ≤ (x20_2 : Int) := of_decide_eq_true (by first | (with_reducible assumption) | assumption)
                  have q198 : x20_2 < (l0.length : Int) := of_decide_eq_true (by first | (with_reducible assumption) | assumption)
                  obtain ⟨ad198, e198, hx198_0⟩ := Kd.at_string HR0.out x20_2 p198 q198
                  cases e198
                  replace hx198_0 := (HB.out.cell (World.block_lt_of_cell? w _ hx198_0)).trans hx198_0
                  replace p198 := eq_true p198
                  replace q198 := eq_true q198
                  go_wp2
                  go_loopg [5, 26] k2 (fun kq v5 v26 w' => ∃ (x5_3 : List ByteArray) (x26_3 : Int), v26 = .int .i64 x26_3 ∧ Aside0 (scope_Meet.l1 kq l1 x5_3 (rdOf ByteArray.empty l0 x20_2) l0 (l0.length : Int) x20_2 l1 (l1.length : Int) x26_3 = some r) ∧ Aside0 (kq ≤ k2) ∧ Aside0 (Kd.R Kd.string 9 w' w.heap.size (fun _ => True) v5 x5_3) ∧ Aside0 (Below w.heap.size w w'))
                  case atStart => exact ⟨(x5_2), (0), (by first | rfl | (simp; done) | (simp [*]; done)), H', ⟨Nat.le_refl _⟩, ⟨RU HO_5.out⟩, ⟨belU HB.out⟩⟩
                  case round =>
                    clear H'
                    try clear c1
                    try clear p1
                    try clear q1
                    try clear hx1
                    try clear c2
                    try clear p2
                    try clear c5
                    try clear c10
                    try clear c11
                    try clear c11b0
                    try clear c12
                    try clear c12b0
                    try clear c13
                    try clear c13b0
                    try clear hx198_0
                    try clear p198
                    try clear p2
                    try clear q198
                    obtain ⟨x5_3, x26_3, rfl, HA, HK3, HO_5, HB⟩ := hrel
                    cases gk with
                    | zero => exact absurd HA.out (by simp [scope_Meet.l1])
                    | succ k3 =>
                      have H := HA.out
                      clear HA
                      simp only [scope_Meet.l1] at H
                      by_cases c14 : x26_3 < (l1.length : Int)
                      · rw [if_pos c14] at H
                        have c14b0 : decide (x26_3 < (l1.length : Int)) = true := decide_eq_true c14
                        clear c14
                        by_cases c15 : 0 ≤ x26_3
                        · rw [if_pos c15] at H
                          have c15b0 : decide (0 ≤ x26_3) = true := decide_eq_true c15
                          clear c15
                          by_cases c16 : x26_3 < (l1.length : Int)
                          · rw [if_pos c16] at H
                            have c16b0 : decide (x26_3 < (l1.length : Int)) = true := decide_eq_true c16
                            clear c16
                            replace H := Option.bind_eq_some_iff.mp H
                            obtain ⟨t200, A170, H⟩ := H
                            replace H : (if t200 = true then (if x5_3.length < 8796093022208 then (scope_Meet.l1 k3 l1 (x5_3 ++ [rdOf ByteArray.empty l1 x26_3]) (rdOf ByteArray.empty l0 x20_2) l0 (l0.length : Int) x20_2 l1 (l1.length : Int) (wrap64 (x26_3 + 1))) else (none)) else ((scope_within.f (rdOf ByteArray.empty l1 x26_3) (rdOf ByteArray.empty l0 x20_2)).bind fun t204 => (if t204 = true then (if x5_3.length < 8796093022208 then (scope_Meet.l1 k3 l1 (x5_3 ++ [(rdOf ByteArray.empty l0 x20_2)]) (rdOf ByteArray.empty l0 x20_2) l0 (l0.length : Int) x20_2 l1 (l1.length : Int) (wrap64 (x26_3 + 1))) else (none)) else (scope_Meet.l1 k3 l1 x5_3 (rdOf ByteArray.empty l0 x20_2) l0 (l0.length : Int) x20_2 l1 (l1.length : Int) (wrap64 (x26_3 + 1)))))) = some r := H
                            have A17 := Aside0.mk A170
                            clear A170
                            by_cases c18 : t200 = true
                            · subst c18
                              have H1 : (if x5_3.length < 8796093022208 then (scope_Meet.l1 k3 l1 (x5_3 ++ [rdOf ByteArray.empty l1 x26_3]) (rdOf ByteArray.empty l0 x20_2) l0 (l0.length : Int) x20_2 l1 (l1.length : Int) (wrap64 (x26_3 + 1))) else (none)) = some r := by rw [if_pos rfl] at H; exact H
                              clear H
                              have H := H1
                              clear H1
                              by_cases c19 : x5_3.length < 8796093022208
                              · rw [if_pos c19] at H
                                have LMc19 := Aside0.mk c19
                                clear c19
                                obtain ⟨y201, hy201⟩ : ∃ y_ : List ByteArray, y_ = (x5_3 ++ [rdOf ByteArray.empty l1 x26_3]) := ⟨_, rfl⟩
                                replace H : (scope_Meet.l1 k3 l1 y201 (rdOf ByteArray.empty l0 x20_2) l0 (l0.length : Int) x20_2 l1 (l1.length : Int) (wrap64 (x26_3 + 1))) = some r := by first | (rw [hy201]; with_reducible exact H) | (have H2_ := (Option.bind_some _ _).symm.trans H; rw [hy201]; with_reducible exact H2_) | (have H2_ := (Option.bind_some _ _).symm.trans H; with_reducible exact H2_) | with_reducible exact H | (rw [hy201]; exact H) | exact H
                                have Ny201 := Aside0.mk hy201
                                clear hy201
                                have H' := Aside0.mk H
                                clear H
                                have p199 : 0 ≤ (x26_3 : Int) := of_decide_eq_true (by first | (with_reducible assumption) | assumption)
                                have q199 : x26_3 < (l1.length : Int) := of_decide_eq_true (by first | (with_reducible assumption) | assumption)
                                obtain ⟨ad199, e199, hx199_0⟩ := Kd.at_string HR1.out x26_3 p199 q199
                                cases e199
                                replace hx199_0 := (HB.out.cell (World.block_lt_of_cell? w _ hx199_0)).trans hx199_0
                                replace p199 := eq_true p199
                                replace q199 := eq_true q199
                                go_wp2_with (first | ((with_reducible refine gate_callee (f := 33) rfl ?_); refine goesL_ (some 33) rfl rfl Tryd.func33 (by kernel_rfl) rfl #[.string (rdOf ByteArray.empty l0 x20_2), .string (rdOf ByteArray.empty l1 x26_3)] rfl (by (try simp only [List.map_toArray, List.map_cons, List.map_nil]); first | done | rfl | (simp only [List.length_drop, List.length_take]; rfl)) ?_; (with_reducible refine (scope_within.calls (rdOf ByteArray.empty l0 x20_2) (rdOf ByteArray.empty l1 x26_3) true _ A17.out).mono ?_); rintro e w20 ⟨rfl, hb⟩; refine ⟨_, rfl, ?_⟩; have n0_ := Aside0.mk (Kd.R_below (RU HO_5.out) hb); have n1_ := Aside0.mk (below_step (belU HB.out) hb); clear HO_5; clear HB; have HO_5 := n0_; have HB := n1_; clear n0_ n1_; (try clear hb); (try clear hb2); (try clear hk); (try clear hi)) | ((with_reducible refine gate_builtin (b := .append) (xs := #[.tmp 34, .tmp 36]) rfl ?_); at_builtin; refine Kd.R_append Kd.string (w0 := w) w.heap.size rfl (.tmp 34) (.tmp 36) 22 9 (.string ⟨#[]⟩) 16 rfl Tryd.underlying22 info9 rfl (by decide) (by omega) u5 x5_3 (rdOf ByteArray.empty l1 x26_3) [.string (rdOf ByteArray.empty l1 x26_3)] (fun _ => True) (fun _ => False) rfl rfl ?aP (fun _ hk => hk.elim) ?aF ?aO ?aB ?aS ?aL ?_; (case aP => exact rfl); (case aB => exact (belU HB.out)); (case aF => exact (fun _ _ => trivial)); (case aO => exact (RU HO_5.out)); (case aS => exact (sizU HB.out)); (case aL => have := LMc19.out; omega); intro v202 w21 ho hb hg hat; rw [← Ny201.out] at ho; have n0_ := Aside0.mk (hb); have n1_ := Aside0.mk (ho); clear HB; clear HO_5; have HB := n0_; have HO203 := n1_; clear n0_ n1_; clear ho hb hg hat))
                                go_roundg k3
                                case measure => have := HJ2.out; have := HK2.out; have := HK3.out; omega
                                case rel => exact ⟨(y201), (wrap64 (x26_3 + 1)), (by first | rfl | (simp; done) | (simp [*]; done)), H', ⟨by have := HJ2.out; have := HK2.out; have := HK3.out; omega⟩, ⟨RU HO203.out⟩, ⟨belU HB.out⟩⟩
                              · rw [if_neg c19] at H
                                exact absurd H (by simp)
                            · replace c18 := Bool.eq_false_iff.mpr c18
                              subst c18
                              have H1 : ((scope_within.f (rdOf ByteArray.empty l1 x26_3) (rdOf ByteArray.empty l0 x20_2)).bind fun t204 => (if t204 = true then (if x5_3.length < 8796093022208 then (scope_Meet.l1 k3 l1 (x5_3 ++ [(rdOf ByteArray.empty l0 x20_2)]) (rdOf ByteArray.empty l0 x20_2) l0 (l0.length : Int) x20_2 l1 (l1.length : Int) (wrap64 (x26_3 + 1))) else (none)) else (scope_Meet.l1 k3 l1 x5_3 (rdOf ByteArray.empty l0 x20_2) l0 (l0.length : Int) x20_2 l1 (l1.length : Int) (wrap64 (x26_3 + 1))))) = some r := by rw [if_neg (show ¬ (false = true) by decide)] at H; exact H
                              clear H
                              have H := H1
                              clear H1
                              replace H := Option.bind_eq_some_iff.mp H
                              obtain ⟨t204, A220, H⟩ := H
                              replace H : (if t204 = true then (if x5_3.length < 8796093022208 then (scope_Meet.l1 k3 l1 (x5_3 ++ [(rdOf ByteArray.empty l0 x20_2)]) (rdOf ByteArray.empty l0 x20_2) l0 (l0.length : Int) x20_2 l1 (l1.length : Int) (wrap64 (x26_3 + 1))) else (none)) else (scope_Meet.l1 k3 l1 x5_3 (rdOf ByteArray.empty l0 x20_2) l0 (l0.length : Int) x20_2 l1 (l1.length : Int) (wrap64 (x26_3 + 1)))) = some r := H
                              have A22 := Aside0.mk A220
                              clear A220
                              by_cases c23 : t204 = true
                              · subst c23
                                have H1 : (if x5_3.length < 8796093022208 then (scope_Meet.l1 k3 l1 (x5_3 ++ [(rdOf ByteArray.empty l0 x20_2)]) (rdOf ByteArray.empty l0 x20_2) l0 (l0.length : Int) x20_2 l1 (l1.length : Int) (wrap64 (x26_3 + 1))) else (none)) = some r := by rw [if_pos rfl] at H; exact H
                                clear H
                                have H := H1
                                clear H1
                                by_cases c24 : x5_3.length < 8796093022208
                                · rw [if_pos c24] at H
                                  have LMc24 := Aside0.mk c24
                                  clear c24
                                  obtain ⟨y205, hy205⟩ : ∃ y_ : List ByteArray, y_ = (x5_3 ++ [(rdOf ByteArray.empty l0 x20_2)]) := ⟨_, rfl⟩
                                  replace H : (scope_Meet.l1 k3 l1 y205 (rdOf ByteArray.empty l0 x20_2) l0 (l0.length : Int) x20_2 l1 (l1.length : Int) (wrap64 (x26_3 + 1))) = some r := by first | (rw [hy205]; with_reducible exact H) | (have H2_ := (Option.bind_some _ _).symm.trans H; rw [hy205]; with_reducible exact H2_) | (have H2_ := (Option.bind_some _ _).symm.trans H; with_reducible exact H2_) | with_reducible exact H | (rw [hy205]; exact H) | exact H
                                  have Ny205 := Aside0.mk hy205
                                  clear hy205
                                  have H' := Aside0.mk H
                                  clear H
                                  have p199 : 0 ≤ (x26_3 : Int) := of_decide_eq_true (by first | (with_reducible assumption) | assumption)
                                  have q199 : x26_3 < (l1.length : Int) := of_decide_eq_true (by first | (with_reducible assumption) | assumption)
                                  obtain ⟨ad199, e199, hx199_0⟩ := Kd.at_string HR1.out x26_3 p199 q199
                                  cases e199
                                  replace hx199_0 := (HB.out.cell (World.block_lt_of_cell? w _ hx199_0)).trans hx199_0
                                  replace p199 := eq_true p199
                                  replace q199 := eq_true q199
                                  go_wp2_with (first | ((with_reducible refine gate_callee (f := 33) rfl ?_); refine goesL_ (some 33) rfl rfl Tryd.func33 (by kernel_rfl) rfl #[.string (rdOf ByteArray.empty l0 x20_2), .string (rdOf ByteArray.empty l1 x26_3)] rfl (by (try simp only [List.map_toArray, List.map_cons, List.map_nil]); first | done | rfl | (simp only [List.length_drop, List.length_take]; rfl)) ?_; (with_reducible refine (scope_within.calls (rdOf ByteArray.empty l0 x20_2) (rdOf ByteArray.empty l1 x26_3) false _ A17.out).mono ?_); rintro e w25 ⟨rfl, hb⟩; refine ⟨_, rfl, ?_⟩; have n0_ := Aside0.mk (Kd.R_below (RU HO_5.out) hb); have n1_ := Aside0.mk (below_step (belU HB.out) hb); clear HO_5; clear HB; have HO_5 := n0_; have HB := n1_; clear n0_ n1_; (try clear hb); (try clear hb2); (try clear hk); (try clear hi)) | ((with_reducible refine gate_callee (f := 33) rfl ?_); refine goesL_ (some 41) rfl rfl Tryd.func33 (by kernel_rfl) rfl #[.string (rdOf ByteArray.empty l1 x26_3), .string (rdOf ByteArray.empty l0 x20_2)] rfl (by (try simp only [List.map_toArray, List.map_cons, List.map_nil]); first | done | rfl | (simp only [List.length_drop, List.length_take]; rfl)) ?_; (with_reducible refine (scope_within.calls (rdOf ByteArray.empty l1 x26_3) (rdOf ByteArray.empty l0 x20_2) true _ A22.out).mono ?_); rintro e w26 ⟨rfl, hb⟩; refine ⟨_, rfl, ?_⟩; have n0_ := Aside0.mk (Kd.R_below (RU HO_5.out) hb); have n1_ := Aside0.mk (below_step (belU HB.out) hb); clear HO_5; clear HB; have HO_5 := n0_; have HB := n1_; clear n0_ n1_; (try clear hb); (try clear hb2); (try clear hk); (try clear hi)) | ((with_reducible refine gate_builtin (b := .append) (xs := #[.tmp 42, .tmp 44]) rfl ?_); at_builtin; refine Kd.R_append Kd.string (w0 := w) w.heap.size rfl (.tmp 42) (.tmp 44) 22 9 (.string ⟨#[]⟩) 16 rfl Tryd.underlying22 info9 rfl (by decide) (by omega) u5 x5_3 (rdOf ByteArray.empty l0 x20_2) [.string (rdOf ByteArray.empty l0 x20_2)] (fun _ => True) (fun _ => False) rfl rfl ?aP (fun _ hk => hk.elim) ?aF ?aO ?aB ?aS ?aL ?_; (case aP => exact rfl); (case aB => exact (belU HB.out)); (case aF => exact (fun _ _ => trivial)); (case aO => exact (RU HO_5.out)); (case aS => exact (sizU HB.out)); (case aL => have := LMc24.out; omega); intro v206 w27 ho hb hg hat; rw [← Ny205.out] at ho; have n0_ := Aside0.mk (hb); have n1_ := Aside0.mk (ho); clear HB; clear HO_5; have HB := n0_; have HO207 := n1_; clear n0_ n1_; clear ho hb hg hat))
                                  go_roundg k3
                                  case measure => have := HJ2.out; have := HK2.out; have := HK3.out; omega
                                  case rel => exact ⟨(y205), (wrap64 (x26_3 + 1)), (by first | rfl | (simp; done) | (simp [*]; done)), H', ⟨by have := HJ2.out; have := HK2.out; have := HK3.out; omega⟩, ⟨RU HO207.out⟩, ⟨belU HB.out⟩⟩
                                · rw [if_neg c24] at H
                                  exact absurd H (by simp)
                              · replace c23 := Bool.eq_false_iff.mpr c23
                                subst c23
                                have H1 : (scope_Meet.l1 k3 l1 x5_3 (rdOf ByteArray.empty l0 x20_2) l0 (l0.length : Int) x20_2 l1 (l1.length : Int) (wrap64 (x26_3 + 1))) = some r := by rw [if_neg (show ¬ (false = true) by decide)] at H; exact H
                                clear H
                                have H := H1
                                clear H1
                                have H' := Aside0.mk H
                                clear H
                                have p199 : 0 ≤ (x26_3 : Int) := of_decide_eq_true (by first | (with_reducible assumption) | assumption)
                                have q199 : x26_3 < (l1.length : Int) := of_decide_eq_true (by first | (with_reducible assumption) | assumption)
                                obtain ⟨ad199, e199, hx199_0⟩ := Kd.at_string HR1.out x26_3 p199 q199
                                cases e199
                                replace hx199_0 := (HB.out.cell (World.block_lt_of_cell? w _ hx199_0)).trans hx199_0
                                replace p199 := eq_true p199
                                replace q199 := eq_true q199
                                go_wp2_with (first | ((with_reducible refine gate_callee (f := 33) rfl ?_); refine goesL_ (some 33) rfl rfl Tryd.func33 (by kernel_rfl) rfl #[.string (rdOf ByteArray.empty l0 x20_2), .string (rdOf ByteArray.empty l1 x26_3)] rfl (by (try simp only [List.map_toArray, List.map_cons, List.map_nil]); first | done | rfl | (simp only [List.length_drop, List.length_take]; rfl)) ?_; (with_reducible refine (scope_within.calls (rdOf ByteArray.empty l0 x20_2) (rdOf ByteArray.empty l1 x26_3) false _ A17.out).mono ?_); rintro e w28 ⟨rfl, hb⟩; refine ⟨_, rfl, ?_⟩; have n0_ := Aside0.mk (Kd.R_below (RU HO_5.out) hb); have n1_ := Aside0.mk (below_step (belU HB.out) hb); clear HO_5; clear HB; have HO_5 := n0_; have HB := n1_; clear n0_ n1_; (try clear hb); (try clear hb2); (try clear hk); (try clear hi)) | ((with_reducible refine gate_callee (f := 33) rfl ?_); refine goesL_ (some 41) rfl rfl Tryd.func33 (by kernel_rfl) rfl #[.string (rdOf ByteArray.empty l1 x26_3), .string (rdOf ByteArray.empty l0 x20_2)] rfl (by (try simp only [List.map_toArray, List.map_cons, List.map_nil]); first | done | rfl | (simp only [List.length_drop, List.length_take]; rfl)) ?_; (with_reducible refine (scope_within.calls (rdOf ByteArray.empty l1 x26_3) (rdOf ByteArray.empty l0 x20_2) false _ A22.out).mono ?_); rintro e w29 ⟨rfl, hb⟩; refine ⟨_, rfl, ?_⟩; have n0_ := Aside0.mk (Kd.R_below (RU HO_5.out) hb); have n1_ := Aside0.mk (below_step (belU HB.out) hb); clear HO_5; clear HB; have HO_5 := n0_; have HB := n1_; clear n0_ n1_; (try clear hb); (try clear hb2); (try clear hk); (try clear hi)))
                                go_roundg k3
                                case measure => have := HJ2.out; have := HK2.out; have := HK3.out; omega
                                case rel => exact ⟨(x5_3), (wrap64 (x26_3 + 1)), (by first | rfl | (simp; done) | (simp [*]; done)), H', ⟨by have := HJ2.out; have := HK2.out; have := HK3.out; omega⟩, ⟨RU HO_5.out⟩, ⟨belU HB.out⟩⟩
                          · rw [if_neg c16] at H
                            exact absurd H (by simp)
                        · rw [if_neg c15] at H
                          exact absurd H (by simp)
                      · rw [if_neg c14] at H
                        have c14b0 : decide (x26_3 < (l1.length : Int)) = false := decide_eq_false c14
                        clear c14
                        have H' := Aside0.mk H
                        clear H
                        go_wp2
                        go_roundg k3
                        case measure => have := HJ2.out; have := HK2.out; have := HK3.out; omega
                        case rel => exact ⟨(x5_3), (wrap64 (x20_2 + 1)), (by first | rfl | (simp; done) | (simp [*]; done)), H', ⟨by have := HJ2.out; have := HK2.out; have := HK3.out; omega⟩, ⟨RU HO_5.out⟩, ⟨belU HB.out⟩⟩
                · rw [if_neg c13] at H
                  exact absurd H (by simp)
              · rw [if_neg c12] at H
                exact absurd H (by simp)
            · rw [if_neg c11] at H
              have c11b0 : decide (x20_2 < (l0.length : Int)) = false := decide_eq_false c11
              clear c11
              replace H := Option.bind_eq_some_iff.mp H
              obtain ⟨t195, A300, H⟩ := H
              replace H : (some t195) = some r := H
              have A30 := Aside0.mk A300
              clear A300
              obtain rfl := Option.some.inj H
              obtain ⟨Ao31, co31, eo31⟩ := Kd.R_slice HO_5.out
              subst eo31
              go_wp2_with (first | ((with_reducible refine gate_callee (f := 29) rfl ?_); refine goesL_ (some 49) rfl rfl Tryd.func29 (by kernel_rfl) rfl #[.slice Ao31 x5_2.length co31] rfl (by (try simp only [List.map_toArray, List.map_cons, List.map_nil]); first | done | rfl | (simp only [List.length_drop, List.length_take]; rfl)) ?_; (with_reducible refine (scope_reduce.calls _ _ x5_2 t195 _ ?side1 ?side2 A30.out).mono ?_); (case side1 => exact CU (S_reads' HO_5.out).2.2); (case side2 => exact (S_reads' HO_5.out).2.1); rintro e w32 ⟨v196, rfl, ho0, hb⟩; refine ⟨_, rfl, ?_⟩; have n0_ := Aside0.mk (S_elder' (SU HO_5.out) (S_base ho0) hb); have n1_ := Aside0.mk (S_lower (S_new' ho0 (S_lt (SU HO_5.out))) (sizU HB.out)); have n2_ := Aside0.mk (below_step (belU HB.out) hb); clear HO_5; clear HB; have HO_5 := n0_; have HO197 := n1_; have HB := n2_; clear n0_ n1_ n2_; (try clear hb); (try clear hb2); (try clear hk); (try clear hi); (try clear ho0)))
              go_ret
              exact ⟨_, by first | rfl | (simp [errW_none, errW_some] <;> rfl) | (simp [*, errW_none, errW_some] <;> rfl), by exact S_mono (SU HO197.out) (fun _ hk => trivial), belU HB.out⟩

end Go.Proofs.YtkflalaocnghcaaDoor.Q

namespace Go.Proofs.YtkflalaocnghcaaDoor.Q
open Go Go.Proofs Go.Shelf Go.RowKit Go.Lib Go.Sort Go.Proofs.YtkflalaocnghcaaDoorP Go.Proofs.YtkflalaocnghcaaDoorK Go.Proofs.YtkflalaocnghcaaDoorW.PrintWords Go.Proofs.YtkflalaocnghcaaDoorW.PrintLast Go.Proofs.YtkflalaocnghcaaDoorW.PrintMore
set_option linter.unusedSimpArgs false
set_option linter.unusedVariables false
/-! ### scope.Make, May, Meet: what the printed functions compute -/
theorem wr1 (i : Nat) (h : i < 1048577) : wrap64 ((i : Int) + 1) = ((i + 1 : Nat) : Int) := by unfold wrap64; omega
theorem wr0 (i : Nat) (h : i < 1048577) (h0 : 0 < i) : wrap64 ((i : Int) - 1) = ((i - 1 : Nat) : Int) := by unfold wrap64; omega
theorem rdB (l : List ByteArray) (i : Nat) (h : i < l.length) : rdOf ByteArray.empty l (i : Int) = l[i] := by unfold rdOf; simp [h]
theorem tlB (a b : ByteArray) : a.toList = b.toList ↔ a = b := by
  rw [ByteArray.toList_eq, ByteArray.toList_eq]
  exact ⟨fun h => ByteArray.ext (Array.ext' h), fun h => by rw [h]⟩
/-- Why a path is no directory's. -/
def dirS (p : ByteArray) : Int := if (kindS p).2 = 0 ∧ (kindS p).1 = 2 then 13 else (kindS p).2
theorem dir_fn {p : ByteArray} (h : p.size ≤ 65536) : scope_dir.f p = some (dirS p) := by
  unfold scope_dir.f path_Kind.f dirS
  rw [if_pos h, Option.bind_some]
  by_cases h1 : (kindS p).2 = 0
  · rw [if_pos h1]
    by_cases h2 : (kindS p).1 = 2
    · rw [if_pos h2, if_pos ⟨h1, h2⟩]
    · rw [if_neg h2, if_neg (fun h => h2 h.2)]
  · rw [if_neg h1, if_neg (fun h => h1 h.1)]
theorem within_fn {d p : ByteArray} (h : p.size ≤ 65536) : scope_within.f d p = some (withinS d p) := by
  unfold scope_within.f path_Below.f withinS
  rw [if_pos h]
  by_cases h1 : p.toList = d.toList
  · rw [if_pos h1, beq_iff_eq.mpr h1]
    rfl
  · rw [if_neg h1, beq_eq_false_iff_ne.mpr h1]
    rfl
def makeS (l : List ByteArray) : List ByteArray × Int := match l.find? (fun p => dirS p != 0) with
  | some p => ([], dirS p)
  | none => if 16 < (reduceS l).length then ([], 7) else (reduceS l, 0)
theorem make_loop (l : List ByteArray) (hs : shortP l = true) (d : Nat) : ∀ (i k : Nat), i + d = l.length → d < k → scope_Make.l0 k l l (l.length : Int) (i : Int) = some (match (l.drop i).find? (fun p => dirS p != 0) with
  | some p => ([], dirS p)
  | none => if 16 < (reduceS l).length then ([], 7) else (reduceS l, 0)) := by
  obtain ⟨hl, hm⟩ := shortP_mem hs
  induction d with
  | zero =>
    intro i k h hk
    obtain ⟨k, rfl⟩ : ∃ q, k = q + 1 := ⟨k - 1, by omega⟩
    unfold scope_Make.l0 scope_reduce.f
    rw [if_neg (by omega), List.drop_of_length_le (by omega), if_pos hs, Option.bind_some, List.find?_nil]
    dsimp only
    by_cases h16 : 16 < (reduceS l).length
    · rw [if_pos (by omega), if_pos h16]
    · rw [if_neg (by omega), if_neg h16]
  | succ d ih =>
    intro i k h hk
    obtain ⟨k, rfl⟩ : ∃ q, k = q + 1 := ⟨k - 1, by omega⟩
    have hi : i < l.length := by omega
    unfold scope_Make.l0
    rw [if_pos (by omega), if_pos (by omega), if_pos (by omega), rdB l i hi, dir_fn (hm _ (List.getElem_mem hi)), Option.bind_some, List.drop_eq_getElem_cons hi, List.find?_cons, wr1 i (by omega)]
    by_cases h0 : dirS l[i] = 0
    · rw [if_pos h0, ih (i + 1) k (by omega) (by omega)]
      simp [h0]
    · rw [if_neg h0]
      have : (dirS l[i] != 0) = true := bne_iff_ne.mpr h0
      rw [this]
theorem make_fn {l : List ByteArray} (hs : shortP l = true) (k : Nat) (hk : l.length < k) : scope_Make.f k l = some (makeS l) := by
  have h := make_loop l hs l.length 0 k (by omega) hk
  unfold scope_Make.f makeS
  simpa using h
/-- Is a list a scope? -/
def mayA : Option ByteArray → List ByteArray → Bool
  | _, [] => true
  | none, p :: l => dirS p == 0 && mayA (some p) l
  | some q, p :: l => dirS p == 0 && (decide (pcmp q p < 0) && (!withinS q p && mayA (some p) l))
def mayS (l : List ByteArray) : Bool := mayA none l && decide (l.length ≤ 16)
def prevB (l : List ByteArray) (i : Nat) : Option ByteArray := if i = 0 then none else l[i - 1]?
theorem may_loop (l : List ByteArray) (hs : shortP l = true) (d : Nat) : ∀ (i k : Nat), i + d = l.length → d < k → scope_May.l0 k l l (l.length : Int) (i : Int) = some (mayA (prevB l i) (l.drop i) && decide (l.length ≤ 16)) := by
  obtain ⟨hl, hm⟩ := shortP_mem hs
  induction d with
  | zero =>
    intro i k h hk
    obtain ⟨k, rfl⟩ : ∃ q, k = q + 1 := ⟨k - 1, by omega⟩
    unfold scope_May.l0
    rw [if_neg (by omega), List.drop_of_length_le (by omega)]
    have e : mayA (prevB l i) [] = true := by cases prevB l i <;> rfl
    rw [e, Bool.true_and]
    congr 1
    rw [decide_eq_decide]
    omega
  | succ d ih =>
    intro i k h hk
    obtain ⟨k, rfl⟩ : ∃ q, k = q + 1 := ⟨k - 1, by omega⟩
    have hi : i < l.length := by omega
    have hn : prevB l (i + 1) = some l[i] := by unfold prevB; rw [if_neg (by omega)]; simp [hi]
    unfold scope_May.l0
    rw [if_pos (by omega), if_pos (by omega), if_pos (by omega), rdB l i hi, dir_fn (hm _ (List.getElem_mem hi)), Option.bind_some, List.drop_eq_getElem_cons hi, wr1 i (by omega), ih (i + 1) k (by omega) (by omega), hn]
    by_cases h0 : dirS l[i] = 0
    · rw [if_pos h0]
      by_cases hi0 : i = 0
      · subst hi0
        have e : prevB l 0 = none := rfl
        rw [if_neg (by omega), e]
        simp [mayA, h0]
      · have hp : i - 1 < l.length := by omega
        have e : prevB l i = some l[i - 1] := by unfold prevB; rw [if_neg hi0]; simp [hp]
        rw [if_pos (by omega), wr0 i (by omega) (by omega), if_pos (by omega), if_pos (by omega), rdB l (i - 1) hp, e, within_fn (hm _ (List.getElem_mem hi)), Option.bind_some]
        unfold path_Compare.f
        rw [if_pos ⟨hm _ (List.getElem_mem hp), hm _ (List.getElem_mem hi)⟩, Option.bind_some]
        simp only [mayA, h0, beq_self_eq_true, Bool.true_and]
        by_cases hc : pcmp l[i - 1] l[i] < 0
        · rw [if_neg (by omega), decide_eq_true hc, Bool.true_and]
          cases withinS l[i - 1] l[i] <;> simp
        · rw [if_pos (by omega), decide_eq_false hc]
          simp
    · rw [if_neg h0]
      have e : (dirS l[i] == 0) = false := beq_eq_false_iff_ne.mpr h0
      cases prevB l i <;> simp [mayA, e]
theorem may_fn {l : List ByteArray} (hs : shortP l = true) (k : Nat) (hk : l.length < k) : scope_May.f k l = some (mayS l) := by
  have h := may_loop l hs l.length 0 k (by omega) hk
  unfold scope_May.f mayS
  simpa [prevB] using h
theorem may_len {l : List ByteArray} (h : mayS l = true) : l.length ≤ 16 := by
  unfold mayS at h
  simp only [Bool.and_eq_true, decide_eq_true_eq] at h
  exact h.2
def meetP (p : ByteArray) (b : List ByteArray) : List ByteArray := b.filterMap fun q => if withinS p q = true then some q else if withinS q p = true then some p else none
def meetL (a b : List ByteArray) : List ByteArray := (a.map fun p => meetP p b).flatten
def meetS (a b : List ByteArray) : List ByteArray := if mayS a = true ∧ mayS b = true then reduceS (meetL a b) else []
theorem meetP_len (p : ByteArray) (b : List ByteArray) : (meetP p b).length ≤ b.length := List.length_filterMap_le _ _
theorem meet_in (a b : List ByteArray) (ha : shortP a = true) (hb : shortP b = true) (p : ByteArray) (hp : p.size ≤ 65536) (i : Int) (d : Nat) : ∀ (j k : Nat) (out : List ByteArray), j + d = b.length → out.length + d < 8000000 → scope_Meet.l1 (k + d + 1) b out p a (a.length : Int) i b (b.length : Int) (j : Int) = scope_Meet.l0 k b (out ++ meetP p (b.drop j)) a (a.length : Int) (wrap64 (i + 1)) := by
  obtain ⟨hl, hm⟩ := shortP_mem hb
  induction d with
  | zero =>
    intro j k out h ho
    unfold scope_Meet.l1
    rw [if_neg (by omega), List.drop_of_length_le (by omega)]
    simp [meetP]
  | succ d ih =>
    intro j k out h ho
    have hj : j < b.length := by omega
    rw [show k + (d + 1) + 1 = (k + d + 1) + 1 by omega]
    unfold scope_Meet.l1
    rw [if_pos (by omega), if_pos (by omega), if_pos (by omega), rdB b j hj, within_fn (hm _ (List.getElem_mem hj)), Option.bind_some, within_fn hp, Option.bind_some, wr1 j (by omega), List.drop_eq_getElem_cons hj]
    unfold meetP
    rw [List.filterMap_cons]
    by_cases h1 : withinS p b[j] = true
    · rw [if_pos h1, if_pos h1, if_pos (by omega), ih (j + 1) k _ (by omega) (by rw [List.length_append, List.length_singleton]; omega)]
      simp [meetP]
    · rw [if_neg h1, if_neg h1]
      by_cases h2 : withinS b[j] p = true
      · rw [if_pos h2, if_pos h2, if_pos (by omega), ih (j + 1) k _ (by omega) (by rw [List.length_append, List.length_singleton]; omega)]
        simp [meetP]
      · rw [if_neg h2, if_neg h2, ih (j + 1) k _ (by omega) (by omega)]
        rfl
theorem within_mem_short (a b : List ByteArray) (ha : ∀ p ∈ a, p.size ≤ 65536) (hb : ∀ p ∈ b, p.size ≤ 65536) : ∀ q ∈ meetL a b, q.size ≤ 65536 := by
  intro q hq
  unfold meetL at hq
  rw [List.mem_flatten] at hq
  obtain ⟨m, hm, hq⟩ := hq
  obtain ⟨p, hp, rfl⟩ := List.mem_map.1 hm
  unfold meetP at hq
  obtain ⟨x, hx, he⟩ := List.mem_filterMap.1 hq
  split at he
  · cases he
    exact hb _ hx
  · split at he
    · cases he
      exact ha _ hp
    · cases he
theorem meetL_len (a b : List ByteArray) : (meetL a b).length ≤ a.length * b.length := by
  unfold meetL
  induction a with
  | nil => simp
  | cons p a ih =>
    rw [List.map_cons, List.flatten_cons, List.length_append, List.length_cons, Nat.succ_mul]
    have := meetP_len p b
    omega
theorem meet_loop (a b : List ByteArray) (ha : shortP a = true) (hb : shortP b = true) (hn : a.length ≤ 16 ∧ b.length ≤ 16) (d : Nat) : ∀ (i k : Nat) (out : List ByteArray), i + d = a.length → (b.length + 2) * d < k → out.length + d * 16 ≤ 1000 → (∀ q ∈ out, q.size ≤ 65536) → scope_Meet.l0 k b out a (a.length : Int) (i : Int) = some (reduceS (out ++ meetL (a.drop i) b)) := by
  obtain ⟨hl, hm⟩ := shortP_mem ha
  obtain ⟨hl2, hm2⟩ := shortP_mem hb
  induction d with
  | zero =>
    intro i k out h hk ho hsz
    obtain ⟨k, rfl⟩ : ∃ q, k = q + 1 := ⟨k - 1, by omega⟩
    unfold scope_Meet.l0 scope_reduce.f
    rw [if_neg (by omega), List.drop_of_length_le (by omega), if_pos (shortP_mk (by omega) hsz), Option.bind_some]
    simp [meetL]
  | succ d ih =>
    intro i k out h hk ho hsz
    have hi : i < a.length := by omega
    rw [Nat.mul_succ] at hk
    obtain ⟨k, rfl⟩ : ∃ q, k = q + b.length + 1 + 1 := ⟨k - b.length - 2, by omega⟩
    have hpl := meetP_len a[i] b
    unfold scope_Meet.l0
    rw [if_pos (by omega), if_pos (by omega), if_pos (by omega), rdB a i hi]
    have := meet_in a b ha hb a[i] (hm _ (List.getElem_mem hi)) (i : Int) b.length 0 k out (by omega) (by omega)
    simp only [Int.natCast_zero, List.drop_zero] at this
    rw [this, wr1 i (by omega), ih (i + 1) k _ (by omega) (by omega) (by rw [List.length_append]; omega) (fun q hq => by
      rcases List.mem_append.1 hq with hq | hq
      · exact hsz q hq
      · exact within_mem_short [a[i]] b (fun p hp => by rw [List.mem_singleton.1 hp]; exact hm _ (List.getElem_mem hi)) hm2 q (by unfold meetL; simpa using hq))]
    rw [List.drop_eq_getElem_cons hi]
    unfold meetL
    rw [List.map_cons, List.flatten_cons, List.append_assoc]
theorem meet_fn {a b : List ByteArray} (ha : shortP a = true) (hb : shortP b = true) (k : Nat) (hk1 : a.length < k) (hk2 : b.length < k) (hk : 400 ≤ k) : scope_Meet.f k a b = some (meetS a b) := by
  obtain ⟨k, rfl⟩ : ∃ q, k = q + 1 := ⟨k - 1, by omega⟩
  unfold scope_Meet.f meetS
  rw [may_fn ha _ hk1, Option.bind_some]
  have hj : ∀ t, scope_Meet.j0 (k + 1) a b t = if t = true then some [] else scope_Meet.l0 k b [] a (a.length : Int) 0 := fun _ => rfl
  by_cases h1 : mayS a = true
  · rw [if_pos h1, may_fn hb _ hk2, Option.bind_some, hj]
    by_cases h2 : mayS b = true
    · rw [if_neg (by rw [h2]; decide), if_pos ⟨h1, h2⟩]
      have l1 := may_len h1
      have l2 := may_len h2
      have hle : (b.length + 2) * a.length ≤ 18 * 16 := Nat.mul_le_mul (by omega) l1
      have := meet_loop a b ha hb ⟨l1, l2⟩ a.length 0 k [] (by omega) (by omega) (by simp; omega) (by simp)
      simpa using this
    · rw [if_pos (by simp [h2]), if_neg (fun h => h2 h.2)]
  · rw [if_neg h1, if_neg (fun h => h1 h.1), hj, if_pos rfl]
end Go.Proofs.YtkflalaocnghcaaDoor.Q

namespace Go.Proofs.YtkflalaocnghcaaDoor.Q
open Go Go.Proofs Go.Shelf Go.RowKit Go.Lib Go.Sort Go.Proofs.YtkflalaocnghcaaDoorP Go.Proofs.YtkflalaocnghcaaDoorK Go.Proofs.YtkflalaocnghcaaDoorW.PrintWords Go.Proofs.YtkflalaocnghcaaDoorW.PrintLast Go.Proofs.YtkflalaocnghcaaDoorW.PrintMore
set_option linter.unusedSimpArgs false
set_option linter.unusedVariables false
/-! ### slices.Concat at texts; scope.Union -/
set_option maxRecDepth 100000 in
theorem grow_nil (w : World) (n : Nat) (hn : n ≤ 3145728) :
    Calls Tryd.prog 54 #[.slice none 0 0, .int .i64 (n : Int)] w fun e w' => ∃ v : Value, e = .returned v ∧ Kd.R Kd.string 9 w' w.heap.size (fun _ => True) v [] ∧ Below w.heap.size w w' := by
  have HB0 := Aside0.mk (Below.refl w.heap.size w)
  by_cases h0 : n = 0
  · subst h0
    go_enter Tryd.func54, Tryd.ntmps54
    go_wp2_with fail
    go_ret
    exact ⟨_, rfl, Kd.R_nil _ _ _ _ _, HB0.out⟩
  · go_enter Tryd.func54, Tryd.ntmps54
    go_wp2_with ((with_reducible refine gate_builtin (b := .append) (xs := #[.tmp 20, .tmp 21]) rfl ?_); go_loud (at_builtin; refine Kd.R_append_zeros Kd.string (w0 := w) w.heap.size rfl (.tmp 20) (.tmp 21) 22 3 9 (.string ⟨#[]⟩) 16 rfl Tryd.underlying22 Tryd.underlying3 info9 rfl (by decide) (by decide) (.slice none 0 0) [] (⟨#[]⟩ : ByteArray) (kx := .i64) (n : Int) (fun _ => True) rfl rfl ?hz (fun _ _ => trivial) (Kd.R_nil _ _ _ _ _) (by omega) HB0.out (Nat.le_refl _) (by simp; omega) ?_; (case hz => rfl); intro v1 w1 h1 hb1 hg1 hat1; obtain ⟨ad, c, rfl⟩ := Kd.R_slice1 h1 (by simp; omega); have H1 := Aside0.mk h1; have HB1 := Aside0.mk hb1; clear h1 hb1 hg1 hat1))
    go_ret
    exact ⟨_, rfl, by have := Kd.R_take H1.out (Nat.zero_le _); simpa using this, HB1.out⟩
theorem flat_take (ls : List (List ByteArray)) (k : Nat) (h : k < ls.length) : (ls.take (k + 1)).flatten = (ls.take k).flatten ++ ls[k] := by
  rw [List.take_succ_eq_append_getElem h, List.flatten_append]
  simp
theorem flat_le (ls : List (List ByteArray)) (k : Nat) : (ls.take k).flatten.length ≤ ls.flatten.length := by
  conv => rhs; rw [← List.take_append_drop k ls, List.flatten_append, List.length_append]
  omega
set_option maxRecDepth 100000 in
theorem concat_any (w : World) (b c : Nat) (ls : List (List ByteArray)) (hl : ls.flatten.length ≤ 3145728) (hll : ls.length ≤ 1048576)
    (hc : ∀ j (h : j < ls.length), ∃ A' c', w.cell? ⟨b, j, none⟩ = some (.slice A' ls[j].length c') ∧ Kd.C Kd.string w A' ls[j].length ls[j]) :
    Calls Tryd.prog 39 #[.slice (some ⟨b, 0, none⟩) ls.length c] w fun e w' => ∃ v : Value, e = .returned v ∧ Kd.R Kd.string 9 w' w.heap.size (fun _ => True) v ls.flatten ∧ Below w.heap.size w w' := by
  have HC := Aside0.mk hc
  clear hc
  have HB0 := Aside0.mk (Below.refl w.heap.size w)
  have hG := fun W n hn => grow_nil W n hn
  have HG := Aside0.mk hG
  clear hG
  go_enter Tryd.func39, Tryd.ntmps39
  go_wp2_with fail
  go_loopw [3, 11] (fun s i wr => ∃ j : Nat, j ≤ ls.length ∧ i = .int .i64 (j : Int) ∧ s = .int .i64 (((ls.take j).flatten.length : Nat) : Int) ∧ wr = w) (fun s i _ => ls.length - (intOf i).toNat)
  case atStart => exact ⟨0, Nat.zero_le _, rfl, rfl, rfl⟩
  case round =>
    obtain ⟨j, hj, rfl, rfl, hw⟩ := hrel
    obtain rfl : w = wr := hw.symm
    by_cases hlt : j < ls.length
    · obtain ⟨A', c', x0, hr⟩ := HC.out j hlt
      have h1 := flat_take ls j hlt
      have h2 := flat_le ls (j + 1)
      rw [h1, List.length_append] at h2
      have H1 := Aside0.mk h1
      clear h1
      generalize hq : (ls.take j).flatten.length = q at h2
      have h3 : ((ls.take (j + 1)).flatten.length : Nat) = q + ls[j].length := by rw [H1.out, List.length_append, hq]
      have H3 := Aside0.mk h3
      clear h3 hq H1
      generalize ls[j].length = m at x0 h2 H3
      go_wp2_with fail
      go_roundw
      case rel => exact ⟨j + 1, by omega, by go_num, by rw [H3.out]; go_num, trivial⟩
      case measure => simp [intOf]; omega
    · obtain rfl : j = ls.length := by omega
      have h2 := flat_le ls ls.length
      generalize hq : (ls.take ls.length).flatten.length = q at h2
      clear hq
      go_wp2_with fail
      refine (HG.out _ q (by omega)).mono ?_
      rintro e w2 ⟨v, rfl, hv, hb⟩
      have HV := Aside0.mk hv
      have HB := Aside0.mk hb
      clear hv hb
      go_wp2_with fail
      go_loopw [6, 27] (fun u i w3 => ∃ j : Nat, j ≤ ls.length ∧ i = .int .i64 (j : Int) ∧ Aside0 (Kd.R Kd.string 9 w3 w.heap.size (fun _ => True) u (ls.take j).flatten) ∧ Aside0 (Below w.heap.size w w3)) (fun u i _ => ls.length - (intOf i).toNat)
      case atStart => exact ⟨0, Nat.zero_le _, rfl, HV, HB⟩
      case round =>
        obtain ⟨j, hj, rfl, HU, HB3⟩ := hrel
        by_cases hlt : j < ls.length
        · obtain ⟨A', c', x0, hr⟩ := HC.out j hlt
          replace x0 := (HB3.out.cell (World.block_lt_of_cell? w _ x0)).trans x0
          have hr := Kd.C_below hr HB3.out
          have h1 := flat_take ls j hlt
          have h2 := flat_le ls (j + 1)
          rw [h1, List.length_append] at h2
          have H1 := Aside0.mk h1
          clear h1
          have HR := Aside0.mk hr
          clear hr
          generalize ls[j] = y at x0 h2 H1 HR
          generalize (ls.take j).flatten = xs at HU h2 H1
          obtain ⟨A3, c3, rfl⟩ := Kd.R_slice HU.out
          go_wp2_with ((with_reducible refine gate_builtin (b := .append) (xs := #[.tmp 31, .tmp 32]) rfl ?_); at_builtin; refine Kd.R_append_rows Kd.string (w0 := w) w.heap.size rfl (.tmp 31) (.tmp 32) 22 9 (.string ⟨#[]⟩) 16 rfl Tryd.underlying22 info9 rfl (by decide) (by decide) _ _ y _ _ _ (fun _ => True) (fun _ => False) rfl rfl HU.out HR.out (fun x cs h => h) (fun _ h => h.elim) (fun _ _ => trivial) HB3.out (by have := HB3.out.size; omega) (by omega) ?_; intro v1 w4 h4 hb4 hg4 hat4; obtain ⟨A4, c4, rfl⟩ := Kd.R_slice h4; have H4 := Aside0.mk h4; have HB4 := Aside0.mk hb4; clear h4 hb4 hg4 hat4)
          go_roundw
          case rel => exact ⟨j + 1, by omega, by go_num, ⟨by rw [H1.out]; have h4 := H4.out; rw [List.length_append] at h4; exact h4⟩, HB4⟩
          case measure => simp [intOf]; omega
        · obtain rfl : j = ls.length := by omega
          have hu := HU.out
          rw [List.take_length] at hu
          have HU' := Aside0.mk hu
          clear hu HU
          go_wp2_with fail
          go_ret
          exact ⟨_, rfl, HU'.out, HB3.out⟩
theorem May_any (w : World) (A : Option Addr) (c : Nat) (l : List ByteArray) (hC : Kd.C Kd.string w A l.length l) (hc : l.length ≤ c) (hs : shortP l = true) :
    Calls Tryd.prog 13 #[.slice A l.length c] w fun e w' => e = .returned (.bool (mayS l)) ∧ Below w.heap.size w w' :=
  scope_May.calls (l.length + 1) A c l (mayS l) w hC hc (may_fn hs _ (Nat.lt_succ_self _))
theorem Make_any (w : World) (A : Option Addr) (c : Nat) (l : List ByteArray) (hC : Kd.C Kd.string w A l.length l) (hc : l.length ≤ c) (hs : shortP l = true) :
    Calls Tryd.prog 10 #[.slice A l.length c] w fun e w' => ∃ v, e = .returned (.tuple #[v, .int .i64 (makeS l).2]) ∧ SR Kd.string 9 w' w.heap.size (fun _ => True) v (makeS l).1 ∧ Below w.heap.size w w' :=
  scope_Make.calls (l.length + 1) A c l (makeS l).1 (makeS l).2 w hC hc (make_fn hs _ (Nat.lt_succ_self _))
def unionS (a b : List ByteArray) : List ByteArray × Int := if mayS a = true ∧ mayS b = true then makeS (a ++ b) else ([], 2)
set_option maxRecDepth 100000 in
set_option maxHeartbeats 2000000 in
theorem Union_any (w : World) (A : Option Addr) (c : Nat) (a : List ByteArray) (B : Option Addr) (d : Nat) (b : List ByteArray) (hC : Kd.C Kd.string w A a.length a) (hc : a.length ≤ c) (ha : shortP a = true) (hD : Kd.C Kd.string w B b.length b) (hd : b.length ≤ d) (hb : shortP b = true) :
    Calls Tryd.prog 20 #[.slice A a.length c, .slice B b.length d] w fun e w' => ∃ v, e = .returned (.tuple #[v, .int .i64 (unionS a b).2]) ∧ SR Kd.string 9 w' w.heap.size (fun _ => True) v (unionS a b).1 ∧ Below w.heap.size w w' := by
  have HA := Aside0.mk (May_any w A c a hC hc ha)
  have HBM := Aside0.mk (fun W (hw : Below w.heap.size w W) => May_any W B d b (Kd.C_below hD hw) hd hb)
  have HC := Aside0.mk hC
  have HD := Aside0.mk hD
  have HSA := Aside0.mk ha
  have HSB := Aside0.mk hb
  unfold unionS
  cases h1 : mayS a with
  | false =>
    rw [if_neg (fun h => absurd h.1 (by decide))]
    have HA := HA.out
    rw [h1] at HA
    have HA := Aside0.mk HA
    clear h1 hC hD ha hb
    go_enter Tryd.func20, Tryd.ntmps20
    go_wp2_with fail
    refine HA.out.mono ?_
    rintro e w1 ⟨rfl, hb1⟩
    go_wp2_with fail
    go_ret2
    exact ⟨_, rfl, SR_nil _ _ _ _ _, hb1⟩
  | true =>
    cases h2 : mayS b with
    | false =>
      rw [if_neg (fun h => absurd h.2 (by decide))]
      have HA := HA.out
      rw [h1] at HA
      have HA := Aside0.mk HA
      have HBM := HBM.out
      rw [h2] at HBM
      have HBM := Aside0.mk HBM
      clear h1 h2 hC hD ha hb
      go_enter Tryd.func20, Tryd.ntmps20
      go_wp2_with fail
      refine HA.out.mono ?_
      rintro e w1 ⟨rfl, hb1⟩
      have p1 := prev_call hb1
      go_wp2_with fail
      refine (HBM.out _ (bel _ _)).mono ?_
      rintro e w2 ⟨rfl, hb2⟩
      have p2 := prev_call hb2
      go_wp2_with fail
      go_ret2
      exact ⟨_, rfl, SR_nil _ _ _ _ _, bel _ _⟩
    | true =>
      rw [if_pos ⟨rfl, rfl⟩]
      have la := may_len h1
      have lb := may_len h2
      have HA := HA.out
      rw [h1] at HA
      have HA := Aside0.mk HA
      have HBM := HBM.out
      rw [h2] at HBM
      have HBM := Aside0.mk HBM
      have hsab := shortP_app ha hb (by omega)
      obtain ⟨ab, hab⟩ : ∃ ab, a ++ b = ab := ⟨_, rfl⟩
      rw [hab] at hsab ⊢
      have HAB := Aside0.mk hab
      clear hab
      have HSAB := Aside0.mk hsab
      obtain ⟨R, hR⟩ : ∃ R, makeS ab = R := ⟨_, rfl⟩
      rw [hR]
      have HR := Aside0.mk hR
      have HLA := Aside0.mk la
      have HLB := Aside0.mk lb
      clear h1 h2 hC hD ha hb hsab hR
      go_enter Tryd.func20, Tryd.ntmps20
      go_wp2_with fail
      refine HA.out.mono ?_
      rintro e w1 ⟨rfl, hb1⟩
      have p1 := prev_call hb1
      go_wp2_with fail
      refine (HBM.out _ (bel _ _)).mono ?_
      rintro e w2 ⟨rfl, hb2⟩
      have p2 := prev_call hb2
      go_wp2_with fail
      refine (concat_any (w2.alloc (.cells #[.slice A a.length c, .slice B b.length d] 22)) w2.heap.size 2 [a, b] (by simp; omega) (by simp) (fun j hj => ?_)).mono ?_
      · rcases j with _ | _ | j
        · exact ⟨A, c, cell_held.trans rfl, Kd.C_below HC.out (bel _ _)⟩
        · exact ⟨B, d, cell_held.trans rfl, Kd.C_below HD.out (bel _ _)⟩
        · exact absurd hj (by simp)
      rintro e w3 ⟨v, rfl, hv, hb3⟩
      have p3 := prev_call hb3
      rw [show [a, b].flatten = ab by simp [HAB.out]] at hv
      obtain ⟨A3, c3, rfl, h3, hC3⟩ := Kd.R_reads hv
      have HC3 := Aside0.mk hC3
      have HL3 := Aside0.mk h3
      clear hC3 hv h3
      go_wp2_with fail
      refine (Make_any w3 A3 c3 ab HC3.out HL3.out HSAB.out).mono ?_
      rintro e w4 ⟨v, rfl, hv, hb4⟩
      rw [HR.out] at hv ⊢
      have p4 := prev_call hb4
      have HV := Aside0.mk (S_lower hv (siz w w3))
      clear hv
      go_wp2_with fail
      go_ret2
      exact ⟨_, rfl, HV.out, bel _ _⟩
def scope_Union.f (a b : List ByteArray) : Option (List ByteArray × Int) := if shortP a = true ∧ shortP b = true then some (unionS a b) else none
theorem scope_Union.calls (A0 : Option Addr) (c0 : Nat) (l0 : List ByteArray) (A1 : Option Addr) (c1 : Nat) (l1 : List ByteArray) (r1 : List ByteArray) (r2 : Int) (w : World) (hr0 : Kd.C Kd.string w A0 l0.length l0) (hc0 : l0.length ≤ c0) (hr1 : Kd.C Kd.string w A1 l1.length l1) (hc1 : l1.length ≤ c1) (h : scope_Union.f l0 l1 = some (r1, r2)) :
    Calls Tryd.prog 20 #[.slice A0 l0.length c0, .slice A1 l1.length c1] w fun e w' => ∃ v0_ : Value, e = .returned (.tuple #[v0_, .int .i64 r2]) ∧ SR Kd.string 9 w' w.heap.size (fun _ => True) v0_ r1 ∧ Below w.heap.size w w' := by
  unfold scope_Union.f at h
  split at h
  · rename_i hs
    injection h with h
    have k := Union_any w A0 c0 l0 A1 c1 l1 hr0 hc0 hs.1 hr1 hc1 hs.2
    rw [h] at k
    exact k
  · simp at h
end Go.Proofs.YtkflalaocnghcaaDoor.Q

namespace Go.Proofs.YtkflalaocnghcaaDoorP
open Go Go.Lib
/-! A text, parted at each byte c. -/
def sepC (c : UInt8) : List UInt8 → List (List UInt8)
  | [] => [[]]
  | b :: l => if b = c then [] :: sepC c l else match sepC c l with
    | [] => [[b]]
    | n :: ns => (b :: n) :: ns
theorem sepC_ne (c : UInt8) (l : List UInt8) : sepC c l ≠ [] := by
  cases l with
  | nil => simp [sepC]
  | cons b l =>
    unfold sepC
    split
    · simp
    · split <;> simp
theorem split_sepC (c : UInt8) (l : List UInt8) : splitK [c] 0 (count l [c]) l = sepC c l := by
  induction l with
  | nil => rfl
  | cons b l ih =>
    by_cases h : b = c
    · subst h
      rw [count_cons_eq, Nat.add_comm, splitK, index_cons_eq, if_neg (by decide)]
      simp only [sepC, if_pos]
      simpa using ih
    · rw [count_cons_ne b c l h]
      simp only [sepC, if_neg h]
      rw [← ih]
      cases hk : count l [c] with
      | zero => simp [splitK]
      | succ k =>
        have hi : index l [c] ≠ -1 := fun e => by have := (index_none l c).1 e; omega
        have hg := index_ge l c
        obtain ⟨i, hii⟩ : ∃ i : Nat, index l [c] = (i : Int) := ⟨(index l [c]).toNat, by omega⟩
        rw [splitK, splitK, index_cons_ne l b c h, hii]
        have e1 : ¬ ((i : Int) == -1) = true := by simp <;> omega
        have e2 : ¬ ((i : Int) + 1 == -1) = true := by simp <;> omega
        rw [if_neg e1, if_neg e2, if_neg e1]
        have e3 : ((i : Int) + 1).toNat = i + 1 := by omega
        have e4 : (i : Int).toNat = i := by omega
        rw [e3, e4]
        simp
theorem names_sepC (l : List UInt8) : names l = sepC 47 l := by
  induction l with
  | nil => rfl
  | cons b l ih =>
    rw [names, sepC, ih]
    by_cases h : b = 47
    · rw [if_pos h, if_pos h]
    · rw [if_neg h, if_neg h]
      cases sepC 47 l <;> rfl
theorem sepC_size (c : UInt8) (l : List UInt8) : ∀ n ∈ sepC c l, n.length ≤ l.length := by
  induction l with
  | nil => intro n hn; simp [sepC] at hn; simp [hn]
  | cons b l ih =>
    intro n hn
    unfold sepC at hn
    split at hn
    · rcases List.mem_cons.1 hn with e | hn
      · rw [e]; exact Nat.zero_le _
      · exact Nat.le_succ_of_le (ih n hn)
    · split at hn
      · rename_i he
        exact absurd he (sepC_ne c l)
      · rename_i m ms he
        rcases List.mem_cons.1 hn with e | hn
        · rw [e, List.length_cons, List.length_cons]
          exact Nat.succ_le_succ (ih m (by rw [he]; exact List.mem_cons_self))
        · exact Nat.le_succ_of_le (ih n (by rw [he]; exact List.mem_cons_of_mem _ hn))
theorem sepC_len (c : UInt8) (l : List UInt8) : (sepC c l).length ≤ l.length + 1 := by
  induction l with
  | nil => simp [sepC]
  | cons b l ih =>
    unfold sepC
    split
    · simp only [List.length_cons]; omega
    · split
      · simp
      · rename_i m ms he
        rw [he] at ih
        simp only [List.length_cons] at ih ⊢
        omega
/-- Two texts with the byte between. -/
theorem sepC_app (c : UInt8) (a b : List UInt8) : sepC c (a ++ c :: b) = sepC c a ++ sepC c b := by
  induction a with
  | nil => simp [sepC]
  | cons x a ih =>
    rw [List.cons_append, sepC, sepC, ih]
    by_cases h : x = c
    · rw [if_pos h, if_pos h]; rfl
    · rw [if_neg h, if_neg h]
      cases hs : sepC c a with
      | nil => exact absurd hs (sepC_ne c a)
      | cons n ns => rfl
theorem sepC_free (c : UInt8) (a : List UInt8) (h : c ∉ a) : sepC c a = [a] := by
  induction a with
  | nil => rfl
  | cons x a ih =>
    unfold sepC
    rw [if_neg (fun e => h (by rw [e]; exact List.mem_cons_self)), ih (fun hm => h (List.mem_cons_of_mem _ hm))]
end Go.Proofs.YtkflalaocnghcaaDoorP

namespace Go.Proofs.YtkflalaocnghcaaDoor.Q
open Go Go.Proofs Go.Shelf Go.RowKit Go.Lib Go.Sort Go.Proofs.YtkflalaocnghcaaDoorP Go.Proofs.YtkflalaocnghcaaDoorK Go.Proofs.YtkflalaocnghcaaDoorW.PrintWords Go.Proofs.YtkflalaocnghcaaDoorW.PrintLast Go.Proofs.YtkflalaocnghcaaDoorW.PrintMore
set_option linter.unusedSimpArgs false
set_option linter.unusedVariables false
/-! ### scope.Text, scope.Parse -/
def textL (l : List ByteArray) : List UInt8 := (l.map fun p => p.data.toList ++ [10]).flatten
def textS (l : List ByteArray) : ByteArray × Int := if mayS l = true then (⟨(textL l).toArray⟩, 0) else (⟨#[]⟩, 2)
theorem textL_len (l : List ByteArray) (h : ∀ p ∈ l, p.size ≤ 65536) : (textL l).length ≤ l.length * 65537 := by
  induction l with
  | nil => simp [textL]
  | cons p l ih =>
    unfold textL at ih ⊢
    have h1 := ih (fun q hq => h q (List.mem_cons_of_mem _ hq))
    have h2 := h p List.mem_cons_self
    have h3 : p.data.toList.length = p.size := by simp
    simp only [List.map_cons, List.flatten_cons, List.length_append, List.length_cons, List.length_nil]
    omega
theorem textL_take (l : List ByteArray) (k : Nat) (h : k < l.length) : textL (l.take (k + 1)) = textL (l.take k) ++ (l[k].data.toList ++ [10]) := by
  unfold textL
  rw [List.take_succ_eq_append_getElem h, List.map_append, List.flatten_append]
  simp
theorem ws_c (b : Nat) (l : List UInt8) (s : ByteArray) (W : World) (h : Lib.IsBuilderF 55 5 b b (Lib.byteCells l) W) (hlen : l.length + s.size ≤ 140737488355328) (hb : b ≤ W.heap.size) :
    Calls Tryd.prog 40 #[.pointer (some ⟨b, 0, none⟩), .string s] W fun e w' => e = .returned (.tuple #[.int .i64 s.size, .nilIface]) ∧ Lib.IsBuilderF 55 5 b b (Lib.byteCells (l ++ s.data.toList)) w' ∧ Below b W w' := by
  refine Calls.mono (Any.Builder_WriteString_k layWriteString layWriteStringX b b (Lib.byteCells l) s W h (by rw [Lib.byteCells_length]; exact hlen) hb) ?_
  rintro e w' ⟨he, h1, h2, _⟩
  refine ⟨he, ?_, h2⟩
  have e1 : Lib.byteCells (l ++ s.data.toList) = Lib.byteCells l ++ Lib.strCells s := by rw [Lib.byteCells_append]; rfl
  rw [e1]
  exact .inr h1
theorem bs_c (b : Nat) (l : List UInt8) (W : World) (h : Lib.IsBuilderF 55 5 b b (Lib.byteCells l) W) (hb : b ≤ W.heap.size) :
    Calls Tryd.prog 41 #[.pointer (some ⟨b, 0, none⟩)] W fun e w' => e = .returned (.string ⟨l.toArray⟩) ∧ Below b W w' := by
  refine Calls.mono (Any.Builder_String_any_k layBString layBStringX b b l W h hb) ?_
  rintro e w' ⟨he, _, h2, _⟩
  exact ⟨he, h2⟩
set_option maxRecDepth 100000 in
set_option maxHeartbeats 2000000 in
theorem Text_any (w : World) (A : Option Addr) (c : Nat) (l : List ByteArray) (hC : Kd.C Kd.string w A l.length l) (hc : l.length ≤ c) (hs : shortP l = true) :
    Calls Tryd.prog 24 #[.slice A l.length c] w fun e w' => e = .returned (.tuple #[.string (textS l).1, .int .i64 (textS l).2]) ∧ Below w.heap.size w w' := by
  have HM := Aside0.mk (May_any w A c l hC hc hs)
  have HC := Aside0.mk hC
  have HSM := Aside0.mk (shortP_mem hs).2
  unfold textS
  cases h1 : mayS l with
  | false =>
    rw [if_neg (by decide)]
    have HM := HM.out
    rw [h1] at HM
    have HM := Aside0.mk HM
    clear h1 hC hs
    go_enter Tryd.func24, Tryd.ntmps24
    go_wp2_with fail
    refine HM.out.mono ?_
    rintro e w1 ⟨rfl, hb1⟩
    go_wp2_with fail
    go_ret2
    exact ⟨rfl, hb1⟩
  | true =>
    rw [if_pos rfl]
    have HM := HM.out
    rw [h1] at HM
    have HM := Aside0.mk HM
    have hll := may_len h1
    have htl := textL_len l HSM.out
    have HTL := Aside0.mk (show (textL l).length ≤ 1048592 by omega)
    clear h1 hC hs htl
    go_enter Tryd.func24, Tryd.ntmps24
    go_wp2_with fail
    refine HM.out.mono ?_
    rintro e w1 ⟨rfl, hb1⟩
    have HB1 := Aside0.mk hb1
    clear hb1
    go_wp2_with fail
    have hfresh : Aside0 (Lib.IsBuilderF 55 5 w1.heap.size w1.heap.size (Lib.byteCells (textL (l.take 0))) (w1.alloc (.cells #[.pointer none, .slice none 0 0] 55))) := ⟨Lib.IsBuilderF.of (Lib.fresh_isBuilder 55 5 w1)⟩
    have HB2 : Aside0 (Below w1.heap.size w1 (w1.alloc (.cells #[.pointer none, .slice none 0 0] 55))) := ⟨bel _ _⟩
    go_loopw [12] (fun i wr => ∃ k : Nat, k ≤ l.length ∧ i = .int .i64 (k : Int) ∧ Aside0 (Lib.IsBuilderF 55 5 w1.heap.size w1.heap.size (Lib.byteCells (textL (l.take k))) wr) ∧ Aside0 (Below w1.heap.size w1 wr)) (fun i _ => l.length - (intOf i).toNat)
    case atStart => exact ⟨0, Nat.zero_le _, rfl, hfresh, HB2⟩
    case round =>
      clear hfresh HB2
      obtain ⟨k, hk, rfl, HBD, HB⟩ := hrel
      by_cases hlt : k < l.length
      · obtain ⟨ad, e, x0⟩ := C_str HC.out k hlt
        subst e
        replace x0 := (HB1.out.cell (World.block_lt_of_cell? w _ x0)).trans x0
        replace x0 := (HB.out.cell (World.block_lt_of_cell? w1 _ x0)).trans x0
        have htk := textL_take l k hlt
        have hpk := HSM.out _ (List.getElem_mem hlt)
        have htlk : (textL (l.take (k + 1))).length ≤ 1048592 := by
          have h2 := textL_len (l.take (k + 1)) (fun p hp => HSM.out p (List.mem_of_mem_take hp))
          have h3 := List.length_take_le (k + 1) l
          have h4 : (l.take (k + 1)).length ≤ 16 := by rw [List.length_take]; omega
          omega
        generalize l[k] = p at x0 htk hpk
        rw [htk, List.length_append] at htlk
        have HTK := Aside0.mk htk
        have HTL2 := Aside0.mk htlk
        have hpm : p.size + 1 ≤ maxLen := by unfold maxLen; omega
        clear htk htlk
        have hsz1 := HB.out.size
        go_wp2_with fail
        have hsz3 : (textL (l.take k)).length + (p ++ (⟨#[10]⟩ : ByteArray)).size ≤ 140737488355328 := by
          have := HTL2.out
          have h1 : (⟨#[10]⟩ : ByteArray).size = 1 := rfl
          simp at this ⊢
          omega
        refine (ws_c w1.heap.size (textL (l.take k)) (p ++ (⟨#[10]⟩ : ByteArray)) wr HBD.out hsz3 hsz1).mono ?_
        rintro e w3 ⟨rfl, hBD, hb3⟩
        have HB3 := Aside0.mk (HB.out.trans hb3)
        have HBD3 : Aside0 (Lib.IsBuilderF 55 5 w1.heap.size w1.heap.size (Lib.byteCells (textL (l.take (k + 1)))) w3) := ⟨by
          rw [HTK.out]
          simpa using hBD⟩
        clear hBD hb3
        go_wp2_with fail
        go_roundw
        case rel => exact ⟨k + 1, by omega, by go_num, HBD3, HB3⟩
        case measure => simp [intOf]; omega
      · have hsz1 := HB.out.size
        have hbd := HBD.out
        rw [List.take_of_length_le (by omega)] at hbd
        have HBD := Aside0.mk hbd
        clear hbd
        go_wp2_with fail
        refine (bs_c w1.heap.size _ _ HBD.out hsz1).mono ?_
        rintro e w3 ⟨rfl, hb3⟩
        go_wp2_with fail
        go_ret2
        exact ⟨rfl, HB1.out.trans ((HB.out.trans hb3).mono HB1.out.size)⟩
def linesB (t : ByteArray) : List ByteArray := (sepC 10 t.data.toList).map fun x => ⟨x.toArray⟩
theorem split10_c (W : World) (s : ByteArray) (hs : s.size < 4294967281) : Calls Tryd.prog 42 #[.string s, .string ⟨#[10]⟩] W fun e w' => e = .returned (.slice (some ⟨W.heap.size, 0, none⟩) (linesB s).length (linesB s).length) ∧ w' = W.alloc (.cells ((linesB s).map Value.string).toArray 9) := by
  have h := split_one laySplit (by kernel_rfl) s 10 W hs
  have hl := Lib.splitB_all ⟨#[10]⟩ (Nat.le_refl 1) 0 _ s rfl
  have hn : (Lib.splitB ⟨#[10]⟩ 0 (Lib.countB s ⟨#[10]⟩) s).map (·.data.toList) = sepC 10 s.data.toList := by
    rw [Lib.splitB_data]
    exact split_sepC 10 s.data.toList
  have hb : Lib.splitB ⟨#[10]⟩ 0 (Lib.countB s ⟨#[10]⟩) s = linesB s := by
    unfold linesB
    rw [← hn, List.map_map]
    have : ((fun x : List UInt8 => (⟨x.toArray⟩ : ByteArray)) ∘ fun x : ByteArray => x.data.toList) = id := by funext x; simp
    rw [this, List.map_id]
  refine Calls.mono h ?_
  rintro e w' ⟨rfl, rfl⟩
  rw [hb] at hl ⊢
  exact ⟨by rw [hl], rfl⟩
def parseS (t : ByteArray) : List ByteArray × Int := if t.size = 0 then ([], 0) else if (linesB t).getLast? = some ⟨#[]⟩ ∧ mayS (linesB t).dropLast = true then ((linesB t).dropLast, 0) else ([], 5)
theorem linesB_size (t : ByteArray) : ∀ p ∈ linesB t, p.size ≤ t.size := by
  intro p hp
  unfold linesB at hp
  obtain ⟨x, hx, rfl⟩ := List.mem_map.1 hp
  have h1 := sepC_size 10 _ x hx
  have h2 : t.data.toList.length = t.size := by simp
  rw [bsize]
  omega
theorem linesB_len (t : ByteArray) : 0 < (linesB t).length ∧ (linesB t).length ≤ t.size + 1 := by
  unfold linesB
  rw [List.length_map]
  have h1 := sepC_len 10 t.data.toList
  have h2 : t.data.toList.length = t.size := by simp
  exact ⟨List.length_pos_iff.2 (sepC_ne 10 _), by omega⟩
attribute [local go_sem] cell_held frozen_held
theorem C_row (W : World) (l : List ByteArray) (m : Nat) (hm : m ≤ l.length) (hl : l.length ≤ 1048576) : Kd.C Kd.string (W.alloc (.cells (l.map Value.string).toArray 9)) (some ⟨W.heap.size, 0, none⟩) (l.take m).length (l.take m) := by
  have hg : (W.alloc (.cells (l.map Value.string).toArray 9)).heap[W.heap.size]? = some (.cells (l.map Value.string).toArray 9 (0, 0)) := World.alloc_heap_new W _
  refine ⟨rfl, by rw [List.length_take]; omega, fun _ => ⟨_, rfl, fun j p hj => ⟨[.string p], rfl, rfl, fun i u hi => ?_⟩⟩⟩
  cases i with
  | zero =>
    simp at hi
    subst hi
    rw [Addr.add_lit, blk_cell hg]
    rw [List.getElem?_take] at hj
    split at hj
    · show (l.map Value.string).toArray[0 + (j * 1 + 0)]? = _
      simp [hj]
    · cases hj
  | succ i => simp at hi
set_option maxRecDepth 100000 in
set_option maxHeartbeats 2000000 in
theorem Parse_any (w : World) (t : ByteArray) (ht : t.size ≤ 65536) :
    Calls Tryd.prog 26 #[.string t] w fun e w' => ∃ v, e = .returned (.tuple #[v, .int .i64 (parseS t).2]) ∧ SR Kd.string 9 w' w.heap.size (fun _ => True) v (parseS t).1 ∧ Below w.heap.size w w' := by
  obtain ⟨R, hR⟩ : ∃ R, parseS t = R := ⟨_, rfl⟩
  rw [hR]
  unfold parseS at hR
  by_cases h0 : t.size = 0
  · rw [if_pos h0] at hR
    subst hR
    have hz := (size_zero_list t).2 h0
    have hz1 : (t.toList == []) = true := by rw [hz]; rfl
    clear h0 hz
    go_enter Tryd.func26, Tryd.ntmps26
    go_wp2_with fail
    go_ret2
    exact ⟨_, rfl, SR_nil _ _ _ _ _, bel _ _⟩
  · rw [if_neg h0] at hR
    have hz1 : (t.toList == []) = false := beq_eq_false_iff_ne.mpr (fun e => h0 ((size_zero_list t).1 e))
    have hsp := fun W => split10_c W t (by omega)
    have hls := linesB_size t
    have hln := linesB_len t
    generalize linesB t = l at hR hsp hls hln
    rw [List.dropLast_eq_take, List.getLast?_eq_getElem?] at hR
    obtain ⟨m, hm⟩ : ∃ m, l.length - 1 = m := ⟨_, rfl⟩
    have hlen : l.length = m + 1 := by omega
    rw [hm] at hR
    obtain ⟨q, hq⟩ : ∃ q, l[m]? = some q := ⟨l[m]'(by omega), List.getElem?_eq_getElem (by omega)⟩
    rw [hq] at hR
    have hsh : shortP (l.take m) = true := shortP_mk (by rw [List.length_take]; omega) (fun p hp => by have := hls p (List.mem_of_mem_take hp); omega)
    have htl : (l.take m).length = m := by rw [List.length_take]; omega
    have hmy := fun W A c hC hc => May_any W A c (l.take m) hC hc hsh
    have hcr := fun W => C_row W l m (by omega) (by omega)
    rw [htl] at hmy hcr
    rw [hlen] at hsp
    have x0 : (l.map Value.string).toArray[m]? = some (.string q) := by simp [hq]
    have hmb : m ≤ 65536 := by omega
    have hrow : ∀ (j : Nat) (p : ByteArray), (l.take m)[j]? = some p → (l.map Value.string).toArray[j]? = some (Value.string p) := by
      intro j p hj
      rw [List.getElem?_take] at hj
      split at hj
      · simp [hj]
      · cases hj
    generalize (l.map Value.string).toArray = cells at x0 hsp hcr hrow
    generalize l.take m = lm at hR hmy hcr hrow htl hsh
    have HSP := Aside0.mk hsp
    have HMY := Aside0.mk hmy
    have HCR := Aside0.mk hcr
    have HROW := Aside0.mk hrow
    have HTL := Aside0.mk htl
    clear hsp hls hln hm hlen hq hmy hcr hrow htl hsh h0
    by_cases hq0 : q = ⟨#[]⟩
    · subst hq0
      cases hmay : mayS lm with
      | true =>
        rw [if_pos ⟨rfl, hmay⟩] at hR
        subst hR
        have HMY := HMY.out
        rw [hmay] at HMY
        have HMY := Aside0.mk HMY
        clear hmay
        go_enter Tryd.func26, Tryd.ntmps26
        go_wp2_with fail
        refine (HSP.out _).mono ?_
        rintro e w1 ⟨rfl, rfl⟩
        go_wp2_with fail
        refine (HMY.out _ _ _ (HCR.out _) (by omega)).mono ?_
        rintro e w2 ⟨rfl, hb2⟩
        have p2 := prev_call hb2
        have hg2 : w2.heap[w.heap.size]? = some (.cells cells 9 (0, 0)) := held
        have HG2 := Aside0.mk hg2
        clear hg2
        go_wp2_with fail
        go_ret2
        exact ⟨_, rfl, sr_mk (Nat.le_refl _) HG2.out HTL.out.symm (Nat.le_refl _) (by rw [HTL.out]; omega) HROW.out, bel _ _⟩
      | false =>
        rw [if_neg (by rw [hmay]; simp)] at hR
        subst hR
        have HMY := HMY.out
        rw [hmay] at HMY
        have HMY := Aside0.mk HMY
        clear hmay
        go_enter Tryd.func26, Tryd.ntmps26
        go_wp2_with fail
        refine (HSP.out _).mono ?_
        rintro e w1 ⟨rfl, rfl⟩
        go_wp2_with fail
        refine (HMY.out _ _ _ (HCR.out _) (by omega)).mono ?_
        rintro e w2 ⟨rfl, hb2⟩
        have p2 := prev_call hb2
        go_wp2_with fail
        go_ret2
        exact ⟨_, rfl, SR_nil _ _ _ _ _, bel _ _⟩
    · rw [if_neg (fun h => hq0 (Option.some.inj h.1))] at hR
      subst hR
      have hq1 : (q.toList == []) = false := beq_eq_false_iff_ne.mpr (fun e => hq0 ((tlB q ⟨#[]⟩).1 (by rw [e, ByteArray.toList_eq])))
      have hq2 : (q.toList != []) = true := bne_iff_ne.mpr (fun e => hq0 ((tlB q ⟨#[]⟩).1 (by rw [e, ByteArray.toList_eq])))
      clear hq0
      go_enter Tryd.func26, Tryd.ntmps26
      go_wp2_with fail
      refine (HSP.out _).mono ?_
      rintro e w1 ⟨rfl, rfl⟩
      go_wp2_with fail
      go_ret2
      exact ⟨_, rfl, SR_nil _ _ _ _ _, bel _ _⟩
def scope_Text.f (l : List ByteArray) : Option (ByteArray × Int) := if shortP l = true then some (textS l) else none
theorem scope_Text.calls (A0 : Option Addr) (c0 : Nat) (l0 : List ByteArray) (r1 : ByteArray) (r2 : Int) (w : World) (hr0 : Kd.C Kd.string w A0 l0.length l0) (hc0 : l0.length ≤ c0) (h : scope_Text.f l0 = some (r1, r2)) :
    Calls Tryd.prog 24 #[.slice A0 l0.length c0] w fun e w' => e = .returned (.tuple #[.string r1, .int .i64 r2]) ∧ Below w.heap.size w w' := by
  unfold scope_Text.f at h
  split at h
  · rename_i hs
    injection h with h
    have k := Text_any w A0 c0 l0 hr0 hc0 hs
    rw [h] at k
    exact k
  · simp at h
def scope_Parse.f (t : ByteArray) : Option (List ByteArray × Int) := if t.size ≤ 65536 then some (parseS t) else none
theorem scope_Parse.calls (a0 : ByteArray) (r1 : List ByteArray) (r2 : Int) (w : World) (h : scope_Parse.f a0 = some (r1, r2)) :
    Calls Tryd.prog 26 #[.string a0] w fun e w' => ∃ v0_ : Value, e = .returned (.tuple #[v0_, .int .i64 r2]) ∧ SR Kd.string 9 w' w.heap.size (fun _ => True) v0_ r1 ∧ Below w.heap.size w w' := by
  unfold scope_Parse.f at h
  split at h
  · rename_i hs
    injection h with h
    have k := Parse_any w a0 hs
    rw [h] at k
    exact k
  · simp at h
end Go.Proofs.YtkflalaocnghcaaDoor.Q

namespace Go.Proofs.YtkflalaocnghcaaDoor.Q
open Go.RowKit Go.Proofs.YtkflalaocnghcaaDoorW.PrintWords Go.Proofs.YtkflalaocnghcaaDoorW.PrintLast Go.Proofs.YtkflalaocnghcaaDoorW.PrintMore Go.Proofs.YtkflalaocnghcaaDoorK
attribute [local go_sem] max2_int min2_int max_two min_two max_three min_three max_four min_four   -- for this text's walks alone
attribute [local go_sem ↓] Go.Proofs.YtkflalaocnghcaaDoorK.isSome_setCell
set_option linter.unusedVariables false
set_option linter.unusedSimpArgs false

/-! ### aquiferlaw06_few: function 9 -/
def aquiferlaw06_few.l0 : Nat → List ByteArray → List ByteArray → Int → Option (List ByteArray)
  | 0, _, _, _ => none
  | k + 1, x0, x3, x4 => if x4 < (x0.length : Int) then (if x4 < 20 then (if 0 ≤ x4 then (if 0 ≤ (mn ((rdOf ByteArray.empty x0 x4).size : Int) 150) then (if (mn ((rdOf ByteArray.empty x0 x4).size : Int) 150) ≤ ((rdOf ByteArray.empty x0 x4).size : Int) then (if x3.length < 8796093022208 then (aquiferlaw06_few.l0 k x0 (x3 ++ [(rdOf ByteArray.empty x0 x4).extract 0 ((mn ((rdOf ByteArray.empty x0 x4).size : Int) 150) : Int).toNat]) (wrap64 (x4 + 1))) else (none)) else (none)) else (none)) else (none)) else (some x3)) else (some x3)
def aquiferlaw06_few.f (k : Nat) (l0 : List ByteArray) : Option (List ByteArray) := aquiferlaw06_few.l0 k l0 ([] : List ByteArray) 0
theorem aquiferlaw06_few.mono_l : ∀ k, (∀ y0 y1 y2, LeO (aquiferlaw06_few.l0 k y0 y1 y2) (aquiferlaw06_few.l0 (k + 1) y0 y1 y2))
  | 0 => fun _ _ _ r h => by simp [aquiferlaw06_few.l0] at h
  | k + 1 => by
    have ih0 := aquiferlaw06_few.mono_l k
    · intro y0 y1 y2
      unfold aquiferlaw06_few.l0
      repeat' first
      | (with_reducible exact ih0 _ _ _)
      | (with_reducible exact LeO.refl _)
      | (with_reducible exact LeO.none _)
      | (with_reducible refine LeO.ite ?_ ?_)
      | (with_reducible refine LeO.bind ?_ (fun _ => ?_))
      | exact ih0 _ _ _
      | exact LeO.none _
      | refine LeO.ite ?_ ?_
      | refine LeO.bind ?_ (fun _ => ?_)
theorem aquiferlaw06_few.mono : ∀ a0 k, LeO (aquiferlaw06_few.f k a0) (aquiferlaw06_few.f (k + 1) a0) := by
  intro a0 k
  have ih0 := aquiferlaw06_few.mono_l k
  unfold aquiferlaw06_few.f
  repeat' first
      | (with_reducible exact ih0 _ _ _)
      | (with_reducible exact LeO.refl _)
      | (with_reducible exact LeO.none _)
      | (with_reducible refine LeO.ite ?_ ?_)
      | (with_reducible refine LeO.bind ?_ (fun _ => ?_))
      | exact ih0 _ _ _
      | exact LeO.none _
      | refine LeO.ite ?_ ?_
      | refine LeO.bind ?_ (fun _ => ?_)
def aquiferlaw06_few.T5 : Bool × List (List Nat × List Nat) := (true, [([], []), ([], []), ([], []), ([1, 2], [1, 2]), ([3], [3]), ([], []), ([], []), ([5, 6], [5, 6]), ([7], [7]), ([8], [8]), ([9], [9]), ([4, 10], [4, 10]), ([11], [11]), ([0, 12], [0, 12]), ([13, 13, 0, 1, 2, 3, 4, 5, 6, 7, 8, 9, 10, 11, 12, 13], [0, 13])])
def aquiferlaw06_few.B5 : List Nat := [0, 0, 0, 6, 14, 0, 0, 96, 224, 480, 992, 2046, 4094, 8191, 16383]
theorem aquiferlaw06_few.tab5 : rtab .any (opsOf Tryd.f9 5) = aquiferlaw06_few.T5 := by kernel_rfl
theorem aquiferlaw06_few.bits5 : waitsOk aquiferlaw06_few.T5.2 aquiferlaw06_few.B5 = true := by kernel_rfl
set_option maxHeartbeats 8000000 in
set_option maxRecDepth 100000 in
theorem aquiferlaw06_few.calls (k : Nat) (A0 : Option Addr) (c0 : Nat) (l0 : List ByteArray) (r : List ByteArray) (w : World) (hr0 : Kd.C Kd.string w A0 l0.length l0) (hc0 : l0.length ≤ c0) (h : aquiferlaw06_few.f k l0 = some r) :
    Calls Tryd.prog 9 #[.slice A0 l0.length c0] w fun e w' => ∃ v0_ : Value, e = .returned (v0_) ∧ Kd.R Kd.string 9 w' w.heap.size (fun _ => True) v0_ r ∧ Below w.heap.size w w' := by
  have HR0 := Aside0.mk hr0
  have HC0 := Aside0.mk hc0
  clear hr0 hc0
  have HB := Aside0.mk (Below.refl w.heap.size w)
  have H : (aquiferlaw06_few.l0 k l0 ([] : List ByteArray) 0) = some r := h
  clear h
  have H' := Aside0.mk H
  clear H
  go_enter Tryd.func9, Tryd.ntmps9
  go_wp2
  go_loopg [3, 4] k (fun kq v3 v4 w' => ∃ (x3_1 : List ByteArray) (x4_1 : Int), v4 = .int .i64 x4_1 ∧ Aside0 (aquiferlaw06_few.l0 kq l0 x3_1 x4_1 = some r) ∧ Aside0 (kq ≤ k) ∧ Aside0 (Kd.R Kd.string 9 w' w.heap.size (fun _ => True) v3 x3_1) ∧ Aside0 (Below w.heap.size w w'))
  case atStart => exact ⟨(([] : List ByteArray)), (0), (by first | rfl | (simp; done) | (simp [*]; done)), H', ⟨Nat.le_refl _⟩, ⟨by first | exact Kd.R_nil _ _ _ _ _ | exact Kd.N_nil _ _ _ _ _ | exact Kd.V_nil _ _ _ _ _ | exact Kd.Q_nil _ _ _ _ _ | exact Kd.S_nil _ _ _ _ _⟩, ⟨belU HB.out⟩⟩
  case round =>
    clear H'
    obtain ⟨x3_1, x4_1, rfl, HA, HK1, HO_3, HB⟩ := hrel
    cases gk with
    | zero => exact absurd HA.out (by simp [aquiferlaw06_few.l0])
    | succ k1 =>
      have H := HA.out
      clear HA
      simp only [aquiferlaw06_few.l0] at H
      by_cases c2 : x4_1 < (l0.length : Int)
      · rw [if_pos c2] at H
        have c2b0 : decide (x4_1 < (l0.length : Int)) = true := decide_eq_true c2
        clear c2
        by_cases c3 : x4_1 < 20
        · rw [if_pos c3] at H
          have c3b0 : decide (x4_1 < 20) = true := decide_eq_true c3
          clear c3
          by_cases c4 : 0 ≤ x4_1
          · rw [if_pos c4] at H
            have c4b0 : decide (0 ≤ x4_1) = true := decide_eq_true c4
            clear c4
            obtain ⟨ji5, hji5⟩ : ∃ j_ : Int, (mn ((rdOf ByteArray.empty l0 x4_1).size : Int) 150) = j_ := ⟨_, rfl⟩
            replace H : (if 0 ≤ (ji5) then (if (ji5) ≤ ((rdOf ByteArray.empty l0 x4_1).size : Int) then (if x3_1.length < 8796093022208 then (aquiferlaw06_few.l0 k1 l0 (x3_1 ++ [(rdOf ByteArray.empty l0 x4_1).extract 0 ((ji5) : Int).toNat]) (wrap64 (x4_1 + 1))) else (none)) else (none)) else (none)) = some r := by first | (rw [hji5] at H; exact H) | (simp only [hji5] at H ⊢; exact H)
            have hji5_ : (if 150 < ((rdOf ByteArray.empty l0 x4_1).size : Int) then 150 else ((rdOf ByteArray.empty l0 x4_1).size : Int)) = ji5 := hji5
            by_cases c6 : 0 ≤ (ji5)
            · rw [if_pos c6] at H
              have c6b0 := eq_true c6
              have c6b1 : decide (0 ≤ (ji5)) = true := decide_eq_true c6
              clear c6
              by_cases c7 : (ji5) ≤ ((rdOf ByteArray.empty l0 x4_1).size : Int)
              · rw [if_pos c7] at H
                have c7b0 := eq_true c7
                have c7b1 : decide ((ji5) ≤ ((rdOf ByteArray.empty l0 x4_1).size : Int)) = true := decide_eq_true c7
                clear c7
                by_cases c8 : x3_1.length < 8796093022208
                · rw [if_pos c8] at H
                  have LMc8 := Aside0.mk c8
                  clear c8
                  obtain ⟨y103, hy103⟩ : ∃ y_ : List ByteArray, y_ = (x3_1 ++ [(rdOf ByteArray.empty l0 x4_1).extract 0 ((ji5) : Int).toNat]) := ⟨_, rfl⟩
                  replace H : (aquiferlaw06_few.l0 k1 l0 y103 (wrap64 (x4_1 + 1))) = some r := by first | (rw [hy103]; with_reducible exact H) | (have H2_ := (Option.bind_some _ _).symm.trans H; rw [hy103]; with_reducible exact H2_) | (have H2_ := (Option.bind_some _ _).symm.trans H; with_reducible exact H2_) | with_reducible exact H | (rw [hy103]; exact H) | exact H
                  have Ny103 := Aside0.mk hy103
                  clear hy103
                  have H' := Aside0.mk H
                  clear H
                  try go_wp2
                  have n0_ := Aside0.mk (Kd.R_drew HO_3.out)
                  have n1_ := Aside0.mk (below_drew1 HB.out)
                  clear HO_3
                  clear HB
                  have HO_3 := n0_
                  have HB := n1_
                  clear n0_ n1_
                  have p101 : 0 ≤ (x4_1 : Int) := of_decide_eq_true (by first | (with_reducible assumption) | assumption)
                  have q101 : x4_1 < (l0.length : Int) := of_decide_eq_true (by first | (with_reducible assumption) | assumption)
                  obtain ⟨ad101, e101, hx101_0⟩ := Kd.at_string HR0.out x4_1 p101 q101
                  have hw101_0 := hx101_0
                  cases e101
                  replace hx101_0 := (HB.out.cell (World.block_lt_of_cell? w _ hx101_0)).trans hx101_0
                  replace p101 := eq_true p101
                  replace q101 := eq_true q101
                  have p102 : 0 ≤ (x4_1 : Int) := of_decide_eq_true (by first | (with_reducible assumption) | assumption)
                  have q102 : x4_1 < (l0.length : Int) := of_decide_eq_true (by first | (with_reducible assumption) | assumption)
                  obtain ⟨ad102, e102, hx102_0⟩ := Kd.at_string HR0.out x4_1 p102 q102
                  have hw102_0 := hx102_0
                  obtain rfl : ad101 = ad102 := (by injection e102)
                  replace hx102_0 := (HB.out.cell (World.block_lt_of_cell? w _ hx102_0)).trans hx102_0
                  replace p102 := eq_true p102
                  replace q102 := eq_true q102
                  refine start_ (n := 15) (S := fun w' => w'.cell? (ad101.add (x4_1).toNat) = some (.string (rdOf ByteArray.empty l0 x4_1)) ∧ w'.cell? (ad101.add (x4_1).toNat) = some (.string (rdOf ByteArray.empty l0 x4_1))) (ds := []) #[false, false, false, false, false, false, false, false, false, false, false, false, false, false, false] (by kernel_rfl) rfl rfl ⟨((HB.out.cell (World.block_lt_of_cell? w _ hw101_0)).trans hw101_0), ((HB.out.cell (World.block_lt_of_cell? w _ hw102_0)).trans hw102_0)⟩ (fun hHeld => ?_); refine with_tabW aquiferlaw06_few.tab5 aquiferlaw06_few.bits5 (fun HT_ HW_ => ?_)
                  generalize wr.drew = w9 at HO_3 HB hx101_0 hx102_0 hHeld ⊢
                  refine pure_ (i := 0) (N := some 15) (v := ?_) (a' := ?_) #[true, false, false, false, false, false, false, false, false, false, false, false, false, false, false] rfl rfl (any_of HT_.out (by kernel_rfl)) (fun _ _ _ h => h) (Or.inl ⟨by rfl, ?_⟩) ?_ ?_
                  rotate_left
                  · intro w'
                    go_simp
                    with_reducible rfl
                  rotate_left
                  · simp only [Act.put, List.setIfInBounds_toArray, List.set_cons_zero, List.set_cons_succ, i64_w, i32_w]
                    rfl
                  refine pure_ (i := 1) (N := some 16) (v := ?_) (a' := ?_) #[true, true, false, false, false, false, false, false, false, false, false, false, false, false, false] rfl rfl (any_of HT_.out (by kernel_rfl)) (fun _ _ _ h => h) (Or.inl ⟨by rfl, ?_⟩) ?_ ?_
                  rotate_left
                  · intro w'
                    go_simp
                    with_reducible rfl
                  rotate_left
                  · simp only [Act.put, List.setIfInBounds_toArray, List.set_cons_zero, List.set_cons_succ, i64_w, i32_w]
                    rfl
                  refine pure_ (i := 2) (N := some 17) (v := ?_) (a' := ?_) #[true, true, true, false, false, false, false, false, false, false, false, false, false, false, false] rfl rfl (any_of HT_.out (by kernel_rfl)) (fun _ _ _ h => h) (Or.inl ⟨by rfl, ?_⟩) ?_ ?_
                  rotate_left
                  · intro w'
                    go_simp
                    with_reducible rfl
                  rotate_left
                  · simp only [Act.put, List.setIfInBounds_toArray, List.set_cons_zero, List.set_cons_succ, i64_w, i32_w]
                    rfl
                  refine pure_ (i := 3) (N := some 18) (v := ?_) (a' := ?_) #[true, true, true, true, false, false, false, false, false, false, false, false, false, false, false] rfl rfl (any_of HT_.out (by kernel_rfl)) (fun _ _ _ h => h) (Or.inl ⟨by rfl, ?_⟩) ?_ ?_
                  rotate_left
                  · intro w'
                    go_simp
                    with_reducible rfl
                  rotate_left
                  · simp only [Act.put, List.setIfInBounds_toArray, List.set_cons_zero, List.set_cons_succ, i64_w, i32_w]
                    rfl
                  refine pure_ (i := 5) (N := some 20) (v := ?_) (a' := ?_) #[true, true, true, true, false, true, false, false, false, false, false, false, false, false, false] rfl rfl (any_of HT_.out (by kernel_rfl)) (fun _ _ _ h => h) (Or.inl ⟨by rfl, ?_⟩) ?_ ?_
                  rotate_left
                  · intro w'
                    go_simp
                    with_reducible rfl
                  rotate_left
                  · simp only [Act.put, List.setIfInBounds_toArray, List.set_cons_zero, List.set_cons_succ, i64_w, i32_w]
                    rfl
                  refine pure_ (i := 6) (N := some 21) (v := ?_) (a' := ?_) #[true, true, true, true, false, true, true, false, false, false, false, false, false, false, false] rfl rfl (any_of HT_.out (by kernel_rfl)) (fun _ _ _ h => h) (Or.inl ⟨by rfl, ?_⟩) ?_ ?_
                  rotate_left
                  · intro w'
                    go_simp
                    with_reducible rfl
                  rotate_left
                  · simp only [Act.put, List.setIfInBounds_toArray, List.set_cons_zero, List.set_cons_succ, i64_w, i32_w]
                    rfl
                  refine pure_ (i := 7) (N := some 22) (v := ?_) (a' := ?_) #[true, true, true, true, false, true, true, true, false, false, false, false, false, false, false] rfl rfl (any_of HT_.out (by kernel_rfl)) (fun _ _ _ h => h) (Or.inl ⟨by rfl, ?_⟩) ?_ ?_
                  rotate_left
                  · intro w'
                    go_simp
                    with_reducible rfl
                  rotate_left
                  · simp only [Act.put, List.setIfInBounds_toArray, List.set_cons_zero, List.set_cons_succ, i64_w, i32_w]
                    rfl
                  refine take_ (i := 4) (N := some 19) (v := ?_) (a' := ?_) #[true, true, true, true, true, true, true, true, false, false, false, false, false, false, false] rfl rfl (take_ofW HT_.out HW_.out (by kernel_rfl)) (fun _ _ _ h => h) (Or.inl ⟨by rfl, ?_⟩) hHeld ?_ ?_
                  rotate_left
                  · rintro w' ⟨s0, s1⟩
                    go_simp
                    with_reducible rfl
                  rotate_left
                  · simp only [Act.put, List.setIfInBounds_toArray, List.set_cons_zero, List.set_cons_succ, i64_w, i32_w]
                    rfl
                  refine take_ (i := 8) (N := some 23) (v := ?_) (a' := ?_) #[true, true, true, true, true, true, true, true, true, false, false, false, false, false, false] rfl rfl (take_ofW HT_.out HW_.out (by kernel_rfl)) (fun _ _ _ h => h) (Or.inl ⟨by rfl, ?_⟩) hHeld ?_ ?_
                  rotate_left
                  · rintro w' ⟨s0, s1⟩
                    go_simp
                    with_reducible rfl
                  rotate_left
                  · simp only [Act.put, List.setIfInBounds_toArray, List.set_cons_zero, List.set_cons_succ, i64_w, i32_w]
                    rfl
                  refine pure_ (i := 9) (N := some 24) (v := ?_) (a' := ?_) #[true, true, true, true, true, true, true, true, true, true, false, false, false, false, false] rfl rfl (any_of HT_.out (by kernel_rfl)) (fun _ _ _ h => h) (Or.inl ⟨by rfl, ?_⟩) ?_ ?_
                  rotate_left
                  · intro w'
                    go_simp
                    with_reducible rfl
                  rotate_left
                  · simp only [Act.put, List.setIfInBounds_toArray, List.set_cons_zero, List.set_cons_succ, i64_w, i32_w]
                    rfl
                  refine pure_ (i := 10) (N := some 25) (v := ?_) (a' := ?_) #[true, true, true, true, true, true, true, true, true, true, true, false, false, false, false] rfl rfl (any_of HT_.out (by kernel_rfl)) (fun _ _ _ h => h) (Or.inl ⟨by rfl, ?_⟩) ?_ ?_
                  rotate_left
                  · intro w'
                    go_simp
                    with_reducible rfl
                  rotate_left
                  · simp only [Act.put, List.setIfInBounds_toArray, List.set_cons_zero, List.set_cons_succ, i64_w, i32_w]
                    rfl
                  refine pure_ (i := 11) (N := some 26) (v := ?_) (a' := ?_) #[true, true, true, true, true, true, true, true, true, true, true, true, false, false, false] rfl rfl (any_of HT_.out (by kernel_rfl)) (fun _ _ _ h => h) (Or.inl ⟨by rfl, ?_⟩) ?_ ?_
                  rotate_left
                  · intro w'
                    go_simp
                    with_reducible rfl
                  rotate_left
                  · simp only [Act.put, List.setIfInBounds_toArray, List.set_cons_zero, List.set_cons_succ, i64_w, i32_w]
                    rfl
                  refine one_ (i := 12) (N := some 27) #[true, true, true, true, true, true, true, true, true, true, true, true, true, false, false] rfl rfl (one_of HT_.out (by kernel_rfl)) (by decide) (fun K hK => ?_)
                  refine value_ (w1 := ?_) (v := ?_) (by rfl) rfl ?_ ?_
                  rotate_left 2
                  · go_simp
                    constructor
                    · rfl
                    · rfl
                  refine hK.out _ _ ⟨(World.cell?_alloc_lt _ _ _ (World.block_lt_of_cell? _ _ (((HB.out.cell (World.block_lt_of_cell? w _ hw101_0)).trans hw101_0)))).trans (((HB.out.cell (World.block_lt_of_cell? w _ hw101_0)).trans hw101_0)), (World.cell?_alloc_lt _ _ _ (World.block_lt_of_cell? _ _ (((HB.out.cell (World.block_lt_of_cell? w _ hw102_0)).trans hw102_0)))).trans (((HB.out.cell (World.block_lt_of_cell? w _ hw102_0)).trans hw102_0))⟩ (fun hHeld => ?_)
                  clear hK K
                  refine norm_ (a' := ?_) ?_ ?_
                  rotate_left
                  · show Act.put _ (some 27) _ = _
                    simp only [Act.put, List.setIfInBounds_toArray, List.set_cons_zero, List.set_cons_succ, i64_w, i32_w]
                    rfl
                  refine one_ (i := 13) (N := some 28) #[true, true, true, true, true, true, true, true, true, true, true, true, true, true, false] rfl rfl (one_of HT_.out (by kernel_rfl)) (by decide) (fun K hK => ?_)
                  refine Kd.R_append_step Kd.string (w0 := w) w.heap.size (by rfl) (.tmp 15) (.tmp 27) 22 9 (.string ⟨#[]⟩) 16 rfl Tryd.underlying22 info9 rfl (by decide) (by omega) u3 x3_1 ((rdOf ByteArray.empty l0 x4_1).extract 0 ((ji5) : Int).toNat) [.string ((rdOf ByteArray.empty l0 x4_1).extract 0 ((ji5) : Int).toNat)] (fun _ => True) (fun _ => False) rfl rfl ?aP (fun _ hk => hk.elim) ?aF ?aO ?aB ?aS ?aL ?_
                  (case aP => exact rfl)
                  (case aB => exact (belU HB.out))
                  (case aF => exact (fun _ _ => trivial))
                  (case aO => exact (RU HO_3.out))
                  (case aS => exact (sizU HB.out))
                  (case aL => have := LMc8.out; omega)
                  intro v104 w10 ho hb hg hat
                  rw [← Ny103.out] at ho
                  have n0_ := Aside0.mk (hb)
                  have n1_ := Aside0.mk (ho)
                  clear HB
                  clear HO_3
                  have HB := n0_
                  have HO105 := n1_
                  clear n0_ n1_
                  clear ho hb hg hat
                  refine hK.out _ _ ⟨((HB.out.cell (World.block_lt_of_cell? w _ hw101_0)).trans hw101_0), ((HB.out.cell (World.block_lt_of_cell? w _ hw102_0)).trans hw102_0)⟩ (fun hHeld => ?_)
                  clear hK K
                  refine norm_ (a' := ?_) ?_ ?_
                  rotate_left
                  · show Act.put _ (some 28) _ = _
                    simp only [Act.put, List.setIfInBounds_toArray, List.set_cons_zero, List.set_cons_succ, i64_w, i32_w]
                    rfl
                  refine pure_ (i := 14) (N := some 3) (v := ?_) (a' := ?_) #[true, true, true, true, true, true, true, true, true, true, true, true, true, true, true] rfl rfl (any_of HT_.out (by kernel_rfl)) (fun _ _ _ h => h) (Or.inl ⟨by rfl, ?_⟩) ?_ ?_
                  rotate_left
                  · intro w'
                    go_simp
                    with_reducible rfl
                  rotate_left
                  · simp only [Act.put, List.setIfInBounds_toArray, List.set_cons_zero, List.set_cons_succ, i64_w, i32_w]
                    rfl
                  refine done_ (done_of HT_.out (by kernel_rfl)) ?_
                  try go_wp2
                  go_roundg k1
                  case measure => have := HK1.out; omega
                  case rel => exact ⟨(y103), (wrap64 (x4_1 + 1)), (by first | rfl | (simp; done) | (simp [*]; done)), H', ⟨by have := HK1.out; omega⟩, ⟨RU HO105.out⟩, ⟨belU HB.out⟩⟩
                · rw [if_neg c8] at H
                  exact absurd H (by simp)
              · rw [if_neg c7] at H
                exact absurd H (by simp)
            · rw [if_neg c6] at H
              exact absurd H (by simp)
          · rw [if_neg c4] at H
            exact absurd H (by simp)
        · rw [if_neg c3] at H
          have c3b0 : decide (x4_1 < 20) = false := decide_eq_false c3
          clear c3
          obtain rfl := Option.some.inj H
          go_wp2
          go_ret
          exact ⟨_, by first | rfl | (simp [errW_none, errW_some] <;> rfl) | (simp [*, errW_none, errW_some] <;> rfl), by (with_reducible repeat (first | apply Kd.R_alloc | apply Kd.R_drewN | apply Kd.R_drew)); exact HO_3.out, belU HB.out⟩
      · rw [if_neg c2] at H
        have c2b0 : decide (x4_1 < (l0.length : Int)) = false := decide_eq_false c2
        clear c2
        obtain rfl := Option.some.inj H
        go_wp2
        go_ret
        exact ⟨_, by first | rfl | (simp [errW_none, errW_some] <;> rfl) | (simp [*, errW_none, errW_some] <;> rfl), by (with_reducible repeat (first | apply Kd.R_alloc | apply Kd.R_drewN | apply Kd.R_drew)); exact HO_3.out, belU HB.out⟩

end Go.Proofs.YtkflalaocnghcaaDoor.Q

namespace Go.Proofs.YtkflalaocnghcaaDoor.Q
open Go.RowKit Go.Proofs.YtkflalaocnghcaaDoorW.PrintWords Go.Proofs.YtkflalaocnghcaaDoorW.PrintLast Go.Proofs.YtkflalaocnghcaaDoorW.PrintMore
attribute [local go_sem] max2_int min2_int max_two min_two max_three min_three max_four min_four   -- for this text's walks alone
attribute [local go_sem ↓] Go.Proofs.YtkflalaocnghcaaDoorK.isSome_setCell
set_option linter.unusedVariables false
set_option linter.unusedSimpArgs false

/-! ### aquiferref05_SameTexts: function 12 -/
def aquiferref05_SameTexts.l0 : Nat → List ByteArray → List ByteArray → Int → Option (Bool)
  | 0, _, _, _ => none
  | k + 1, x0, x1, x5 => if x5 < (x0.length : Int) then (if 0 ≤ x5 then (if x5 < (x1.length : Int) then (if (rdOf ByteArray.empty x0 x5).toList = (rdOf ByteArray.empty x1 x5).toList then (aquiferref05_SameTexts.l0 k x0 x1 (wrap64 (x5 + 1))) else (some false)) else (none)) else (none)) else (some true)
def aquiferref05_SameTexts.f (k : Nat) (l0 : List ByteArray) (l1 : List ByteArray) : Option (Bool) := if (l0.length : Int) = (l1.length : Int) then (aquiferref05_SameTexts.l0 k l0 l1 0) else (some false)
theorem aquiferref05_SameTexts.mono_l : ∀ k, (∀ y0 y1 y2, LeO (aquiferref05_SameTexts.l0 k y0 y1 y2) (aquiferref05_SameTexts.l0 (k + 1) y0 y1 y2))
  | 0 => fun _ _ _ r h => by simp [aquiferref05_SameTexts.l0] at h
  | k + 1 => by
    have ih0 := aquiferref05_SameTexts.mono_l k
    · intro y0 y1 y2
      unfold aquiferref05_SameTexts.l0
      repeat' first
      | (with_reducible exact ih0 _ _ _)
      | (with_reducible exact LeO.refl _)
      | (with_reducible exact LeO.none _)
      | (with_reducible refine LeO.ite ?_ ?_)
      | (with_reducible refine LeO.bind ?_ (fun _ => ?_))
      | exact ih0 _ _ _
      | exact LeO.none _
      | refine LeO.ite ?_ ?_
      | refine LeO.bind ?_ (fun _ => ?_)
theorem aquiferref05_SameTexts.mono : ∀ a0 a1 k, LeO (aquiferref05_SameTexts.f k a0 a1) (aquiferref05_SameTexts.f (k + 1) a0 a1) := by
  intro a0 a1 k
  have ih0 := aquiferref05_SameTexts.mono_l k
  unfold aquiferref05_SameTexts.f
  repeat' first
      | (with_reducible exact ih0 _ _ _)
      | (with_reducible exact LeO.refl _)
      | (with_reducible exact LeO.none _)
      | (with_reducible refine LeO.ite ?_ ?_)
      | (with_reducible refine LeO.bind ?_ (fun _ => ?_))
      | exact ih0 _ _ _
      | exact LeO.none _
      | refine LeO.ite ?_ ?_
      | refine LeO.bind ?_ (fun _ => ?_)
set_option maxHeartbeats 8000000 in
set_option maxRecDepth 100000 in
theorem aquiferref05_SameTexts.calls (k : Nat) (A0 : Option Addr) (c0 : Nat) (l0 : List ByteArray) (A1 : Option Addr) (c1 : Nat) (l1 : List ByteArray) (r : Bool) (w : World) (hr0 : Kd.C Kd.string w A0 l0.length l0) (hc0 : l0.length ≤ c0) (hr1 : Kd.C Kd.string w A1 l1.length l1) (hc1 : l1.length ≤ c1) (h : aquiferref05_SameTexts.f k l0 l1 = some r) :
    Calls Tryd.prog 12 #[.slice A0 l0.length c0, .slice A1 l1.length c1] w fun e w' => e = .returned (.bool r) ∧ Drawn0 w w' := by
  have HR0 := Aside0.mk hr0
  have HC0 := Aside0.mk hc0
  clear hr0 hc0
  have HR1 := Aside0.mk hr1
  have HC1 := Aside0.mk hc1
  clear hr1 hc1
  have H : (if (l0.length : Int) = (l1.length : Int) then (aquiferref05_SameTexts.l0 k l0 l1 0) else (some false)) = some r := h
  clear h
  by_cases c3 : (l0.length : Int) = (l1.length : Int)
  · rw [if_pos c3] at H
    have c3b0 : ((l0.length : Int) == (l1.length : Int)) = true := beq_iff_eq.mpr c3
    have c3b1 : ((l0.length : Int) != (l1.length : Int)) = false := bne_eq_false_iff_eq.mpr c3
    have c3b2 : (l0.length == l1.length) = true := by first | simpa using c3 | (simp at c3 ⊢; omega)
    clear c3
    have H' := Aside0.mk H
    clear H
    go_enter Tryd.func12, Tryd.ntmps12
    go_wp2
    repeat (go_quiet (fail); try go_wp2)
    go_loopg [5] k (fun kq v5 w' => ∃ (x5_1 : Int), v5 = .int .i64 x5_1 ∧ Aside0 (aquiferref05_SameTexts.l0 kq l0 l1 x5_1 = some r) ∧ Aside0 (kq ≤ k) ∧ Drawn0 w w')
    case atStart => exact ⟨(0), (by first | rfl | (simp; done) | (simp [*]; done)), H', ⟨Nat.le_refl _⟩, by repeat (first | exact Drawn0.refl _ | apply Drawn0.step)⟩
    case round =>
      clear H'
      try clear c1
      try clear p2
      try clear c3
      try clear c3b0
      try clear c3b1
      try clear c3b2
      obtain ⟨x5_1, rfl, HA, HK1, ⟨m1, rfl⟩⟩ := hrel
      cases gk with
      | zero => exact absurd HA.out (by simp [aquiferref05_SameTexts.l0])
      | succ k1 =>
        have H := HA.out
        clear HA
        simp only [aquiferref05_SameTexts.l0] at H
        by_cases c4 : x5_1 < (l0.length : Int)
        · rw [if_pos c4] at H
          have c4b0 : decide (x5_1 < (l0.length : Int)) = true := decide_eq_true c4
          clear c4
          by_cases c5 : 0 ≤ x5_1
          · rw [if_pos c5] at H
            have c5b0 : decide (0 ≤ x5_1) = true := decide_eq_true c5
            clear c5
            by_cases c6 : x5_1 < (l1.length : Int)
            · rw [if_pos c6] at H
              have c6b0 : decide (x5_1 < (l1.length : Int)) = true := decide_eq_true c6
              clear c6
              by_cases c7 : (rdOf ByteArray.empty l0 x5_1).toList = (rdOf ByteArray.empty l1 x5_1).toList
              · rw [if_pos c7] at H
                have c7b0 : ((rdOf ByteArray.empty l0 x5_1).toList == (rdOf ByteArray.empty l1 x5_1).toList) = true := beq_iff_eq.mpr c7
                have c7b1 : ((rdOf ByteArray.empty l0 x5_1).toList != (rdOf ByteArray.empty l1 x5_1).toList) = false := bne_eq_false_iff_eq.mpr c7
                clear c7
                have H' := Aside0.mk H
                clear H
                have p180 : 0 ≤ (x5_1 : Int) := of_decide_eq_true (by first | (with_reducible assumption) | assumption)
                have q180 : x5_1 < (l0.length : Int) := of_decide_eq_true (by first | (with_reducible assumption) | assumption)
                obtain ⟨ad180, e180, hx180_0⟩ := Kd.at_string HR0.out x5_1 p180 q180
                cases e180
                replace p180 := eq_true p180
                replace q180 := eq_true q180
                have p181 : 0 ≤ (x5_1 : Int) := of_decide_eq_true (by first | (with_reducible assumption) | assumption)
                have q181 : x5_1 < (l1.length : Int) := of_decide_eq_true (by first | (with_reducible assumption) | assumption)
                obtain ⟨ad181, e181, hx181_0⟩ := Kd.at_string HR1.out x5_1 p181 q181
                cases e181
                replace p181 := eq_true p181
                replace q181 := eq_true q181
                go_wp2
                repeat (go_quiet (fail); try go_wp2)
                go_roundg k1
                case measure => have := HK1.out; omega
                case rel => exact ⟨(wrap64 (x5_1 + 1)), (by first | rfl | (simp; done) | (simp [*]; done)), H', ⟨by have := HK1.out; omega⟩, by repeat (first | exact Drawn0.refl _ | apply Drawn0.step)⟩
              · rw [if_neg c7] at H
                have c7b0 : ((rdOf ByteArray.empty l0 x5_1).toList == (rdOf ByteArray.empty l1 x5_1).toList) = false := beq_eq_false_iff_ne.mpr c7
                have c7b1 : ((rdOf ByteArray.empty l0 x5_1).toList != (rdOf ByteArray.empty l1 x5_1).toList) = true := bne_iff_ne.mpr c7
                obtain rfl := Option.some.inj H
                have p180 : 0 ≤ (x5_1 : Int) := of_decide_eq_true (by first | (with_reducible assumption) | assumption)
                have q180 : x5_1 < (l0.length : Int) := of_decide_eq_true (by first | (with_reducible assumption) | assumption)
                obtain ⟨ad180, e180, hx180_0⟩ := Kd.at_string HR0.out x5_1 p180 q180
                cases e180
                replace p180 := eq_true p180
                replace q180 := eq_true q180
                have p181 : 0 ≤ (x5_1 : Int) := of_decide_eq_true (by first | (with_reducible assumption) | assumption)
                have q181 : x5_1 < (l1.length : Int) := of_decide_eq_true (by first | (with_reducible assumption) | assumption)
                obtain ⟨ad181, e181, hx181_0⟩ := Kd.at_string HR1.out x5_1 p181 q181
                cases e181
                replace p181 := eq_true p181
                replace q181 := eq_true q181
                go_wp2
                repeat (go_quiet (fail); try go_wp2)
                go_ret
                exact ⟨by first | rfl | (simp; done) | (simp [*]; done), by repeat (first | exact Drawn0.refl _ | apply Drawn0.step)⟩
            · rw [if_neg c6] at H
              exact absurd H (by simp)
          · rw [if_neg c5] at H
            exact absurd H (by simp)
        · rw [if_neg c4] at H
          have c4b0 : decide (x5_1 < (l0.length : Int)) = false := decide_eq_false c4
          clear c4
          obtain rfl := Option.some.inj H
          go_wp2
          repeat (go_quiet (fail); try go_wp2)
          go_ret
          exact ⟨by first | rfl | (simp; done) | (simp [*]; done), by repeat (first | exact Drawn0.refl _ | apply Drawn0.step)⟩
  · rw [if_neg c3] at H
    have c3b0 : ((l0.length : Int) == (l1.length : Int)) = false := beq_eq_false_iff_ne.mpr c3
    have c3b1 : ((l0.length : Int) != (l1.length : Int)) = true := bne_iff_ne.mpr c3
    have c3b2 : (l0.length == l1.length) = false := by first | simpa using c3 | (simp at c3 ⊢; omega)
    obtain rfl := Option.some.inj H
    go_enter Tryd.func12, Tryd.ntmps12
    go_wp2
    repeat (go_quiet (fail); try go_wp2)
    go_ret
    exact ⟨by first | rfl | (simp; done) | (simp [*]; done), by repeat (first | exact Drawn0.refl _ | apply Drawn0.step)⟩

end Go.Proofs.YtkflalaocnghcaaDoor.Q

namespace Go.Proofs.YtkflalaocnghcaaDoor.Q
open Go.RowKit Go.Proofs.YtkflalaocnghcaaDoorW.PrintWords Go.Proofs.YtkflalaocnghcaaDoorW.PrintLast Go.Proofs.YtkflalaocnghcaaDoorW.PrintMore Go.Proofs.YtkflalaocnghcaaDoorK
attribute [local go_sem] max2_int min2_int max_two min_two max_three min_three max_four min_four   -- for this text's walks alone
attribute [local go_sem ↓] Go.Proofs.YtkflalaocnghcaaDoorK.isSome_setCell
set_option linter.unusedVariables false
set_option linter.unusedSimpArgs false

/-! ### aquiferlaw06_works: function 15 -/
def aquiferlaw06_works.f (k : Nat)  : Option (Bool) := (scope_Make.f k (([(⟨#[98]⟩ : ByteArray), (⟨#[97, 47, 99]⟩ : ByteArray), (⟨#[97]⟩ : ByteArray)] : List ByteArray))).bind fun bt211 => ((aquiferref05_SameTexts.f k bt211.1 (([(⟨#[97]⟩ : ByteArray), (⟨#[98]⟩ : ByteArray)] : List ByteArray))).bind fun t218 => (if t218 = true then (if bt211.2 = 0 then ((scope_Has.f bt211.1 (⟨#[97, 47, 99, 47, 100, 46, 116, 120, 116]⟩ : ByteArray)).bind fun t219 => (if t219 = true then ((scope_Meet.f k bt211.1 (([(⟨#[97, 47, 120]⟩ : ByteArray), (⟨#[99]⟩ : ByteArray)] : List ByteArray))).bind fun t223 => ((aquiferref05_SameTexts.f k t223 (([(⟨#[97, 47, 120]⟩ : ByteArray)] : List ByteArray))).bind fun t229 => (some t229))) else (some false))) else (some false)) else (some false)))
theorem aquiferlaw06_works.mono : ∀ k, LeO (aquiferlaw06_works.f k ) (aquiferlaw06_works.f (k + 1) ) := by
  intro  k
  unfold aquiferlaw06_works.f
  repeat' first
      | (with_reducible exact aquiferref05_SameTexts.mono _ _ _)
      | (with_reducible exact scope_Make.mono _ _)
      | (with_reducible exact scope_Meet.mono _ _ _)
      | (with_reducible exact LeO.refl _)
      | (with_reducible exact LeO.none _)
      | (with_reducible refine LeO.ite ?_ ?_)
      | (with_reducible refine LeO.bind ?_ (fun _ => ?_))
      | exact aquiferref05_SameTexts.mono _ _ _
      | exact scope_Make.mono _ _
      | exact scope_Meet.mono _ _ _
      | exact LeO.none _
      | refine LeO.ite ?_ ?_
      | refine LeO.bind ?_ (fun _ => ?_)
set_option maxHeartbeats 8000000 in
set_option maxRecDepth 100000 in
theorem aquiferlaw06_works.calls (k : Nat)  (r : Bool) (w : World) (h : aquiferlaw06_works.f k  = some r) :
    Calls Tryd.prog 15 #[] w fun e w' => e = .returned (.bool r) ∧ Below w.heap.size w w' := by
  have HB := Aside0.mk (Below.refl w.heap.size w)
  have H : ((scope_Make.f k (([(⟨#[98]⟩ : ByteArray), (⟨#[97, 47, 99]⟩ : ByteArray), (⟨#[97]⟩ : ByteArray)] : List ByteArray))).bind fun bt211 => ((aquiferref05_SameTexts.f k bt211.1 (([(⟨#[97]⟩ : ByteArray), (⟨#[98]⟩ : ByteArray)] : List ByteArray))).bind fun t218 => (if t218 = true then (if bt211.2 = 0 then ((scope_Has.f bt211.1 (⟨#[97, 47, 99, 47, 100, 46, 116, 120, 116]⟩ : ByteArray)).bind fun t219 => (if t219 = true then ((scope_Meet.f k bt211.1 (([(⟨#[97, 47, 120]⟩ : ByteArray), (⟨#[99]⟩ : ByteArray)] : List ByteArray))).bind fun t223 => ((aquiferref05_SameTexts.f k t223 (([(⟨#[97, 47, 120]⟩ : ByteArray)] : List ByteArray))).bind fun t229 => (some t229))) else (some false))) else (some false)) else (some false)))) = some r := h
  clear h
  obtain ⟨y208, hy208⟩ : ∃ y_ : List ByteArray, y_ = (([(⟨#[98]⟩ : ByteArray), (⟨#[97, 47, 99]⟩ : ByteArray), (⟨#[97]⟩ : ByteArray)] : List ByteArray)) := ⟨_, rfl⟩
  replace H : ((scope_Make.f k y208).bind fun bt211 => ((aquiferref05_SameTexts.f k bt211.1 (([(⟨#[97]⟩ : ByteArray), (⟨#[98]⟩ : ByteArray)] : List ByteArray))).bind fun t218 => (if t218 = true then (if bt211.2 = 0 then ((scope_Has.f bt211.1 (⟨#[97, 47, 99, 47, 100, 46, 116, 120, 116]⟩ : ByteArray)).bind fun t219 => (if t219 = true then ((scope_Meet.f k bt211.1 (([(⟨#[97, 47, 120]⟩ : ByteArray), (⟨#[99]⟩ : ByteArray)] : List ByteArray))).bind fun t223 => ((aquiferref05_SameTexts.f k t223 (([(⟨#[97, 47, 120]⟩ : ByteArray)] : List ByteArray))).bind fun t229 => (some t229))) else (some false))) else (some false)) else (some false)))) = some r := by first | (rw [hy208]; with_reducible exact H) | (have H2_ := (Option.bind_some _ _).symm.trans H; rw [hy208]; with_reducible exact H2_) | (have H2_ := (Option.bind_some _ _).symm.trans H; with_reducible exact H2_) | with_reducible exact H | (rw [hy208]; exact H) | exact H
  have Ny208 := Aside0.mk hy208
  clear hy208
  replace H := Option.bind_eq_some_iff.mp H
  obtain ⟨⟨t211, t212⟩, A10, H⟩ := H
  replace H : ((aquiferref05_SameTexts.f k t211 (([(⟨#[97]⟩ : ByteArray), (⟨#[98]⟩ : ByteArray)] : List ByteArray))).bind fun t218 => (if t218 = true then (if t212 = 0 then ((scope_Has.f t211 (⟨#[97, 47, 99, 47, 100, 46, 116, 120, 116]⟩ : ByteArray)).bind fun t219 => (if t219 = true then ((scope_Meet.f k t211 (([(⟨#[97, 47, 120]⟩ : ByteArray), (⟨#[99]⟩ : ByteArray)] : List ByteArray))).bind fun t223 => ((aquiferref05_SameTexts.f k t223 (([(⟨#[97, 47, 120]⟩ : ByteArray)] : List ByteArray))).bind fun t229 => (some t229))) else (some false))) else (some false)) else (some false))) = some r := H
  have A1 := Aside0.mk A10
  clear A10
  obtain ⟨y215, hy215⟩ : ∃ y_ : List ByteArray, y_ = (([(⟨#[97]⟩ : ByteArray), (⟨#[98]⟩ : ByteArray)] : List ByteArray)) := ⟨_, rfl⟩
  replace H : ((aquiferref05_SameTexts.f k t211 y215).bind fun t218 => (if t218 = true then (if t212 = 0 then ((scope_Has.f t211 (⟨#[97, 47, 99, 47, 100, 46, 116, 120, 116]⟩ : ByteArray)).bind fun t219 => (if t219 = true then ((scope_Meet.f k t211 (([(⟨#[97, 47, 120]⟩ : ByteArray), (⟨#[99]⟩ : ByteArray)] : List ByteArray))).bind fun t223 => ((aquiferref05_SameTexts.f k t223 (([(⟨#[97, 47, 120]⟩ : ByteArray)] : List ByteArray))).bind fun t229 => (some t229))) else (some false))) else (some false)) else (some false))) = some r := by first | (rw [hy215]; with_reducible exact H) | (have H2_ := (Option.bind_some _ _).symm.trans H; rw [hy215]; with_reducible exact H2_) | (have H2_ := (Option.bind_some _ _).symm.trans H; with_reducible exact H2_) | with_reducible exact H | (rw [hy215]; exact H) | exact H
  have Ny215 := Aside0.mk hy215
  clear hy215
  replace H := Option.bind_eq_some_iff.mp H
  obtain ⟨t218, A20, H⟩ := H
  replace H : (if t218 = true then (if t212 = 0 then ((scope_Has.f t211 (⟨#[97, 47, 99, 47, 100, 46, 116, 120, 116]⟩ : ByteArray)).bind fun t219 => (if t219 = true then ((scope_Meet.f k t211 (([(⟨#[97, 47, 120]⟩ : ByteArray), (⟨#[99]⟩ : ByteArray)] : List ByteArray))).bind fun t223 => ((aquiferref05_SameTexts.f k t223 (([(⟨#[97, 47, 120]⟩ : ByteArray)] : List ByteArray))).bind fun t229 => (some t229))) else (some false))) else (some false)) else (some false)) = some r := H
  have A2 := Aside0.mk A20
  clear A20
  by_cases c3 : t218 = true
  · subst c3
    have H1 : (if t212 = 0 then ((scope_Has.f t211 (⟨#[97, 47, 99, 47, 100, 46, 116, 120, 116]⟩ : ByteArray)).bind fun t219 => (if t219 = true then ((scope_Meet.f k t211 (([(⟨#[97, 47, 120]⟩ : ByteArray), (⟨#[99]⟩ : ByteArray)] : List ByteArray))).bind fun t223 => ((aquiferref05_SameTexts.f k t223 (([(⟨#[97, 47, 120]⟩ : ByteArray)] : List ByteArray))).bind fun t229 => (some t229))) else (some false))) else (some false)) = some r := by rw [if_pos rfl] at H; exact H
    clear H
    have H := H1
    clear H1
    by_cases c4 : t212 = 0
    · rw [if_pos c4] at H
      have c4b0 : (t212 == 0) = true := beq_iff_eq.mpr c4
      have c4b1 : (t212 != 0) = false := bne_eq_false_iff_eq.mpr c4
      clear c4
      replace H := Option.bind_eq_some_iff.mp H
      obtain ⟨t219, A50, H⟩ := H
      replace H : (if t219 = true then ((scope_Meet.f k t211 (([(⟨#[97, 47, 120]⟩ : ByteArray), (⟨#[99]⟩ : ByteArray)] : List ByteArray))).bind fun t223 => ((aquiferref05_SameTexts.f k t223 (([(⟨#[97, 47, 120]⟩ : ByteArray)] : List ByteArray))).bind fun t229 => (some t229))) else (some false)) = some r := H
      have A5 := Aside0.mk A50
      clear A50
      by_cases c6 : t219 = true
      · subst c6
        have H1 : ((scope_Meet.f k t211 (([(⟨#[97, 47, 120]⟩ : ByteArray), (⟨#[99]⟩ : ByteArray)] : List ByteArray))).bind fun t223 => ((aquiferref05_SameTexts.f k t223 (([(⟨#[97, 47, 120]⟩ : ByteArray)] : List ByteArray))).bind fun t229 => (some t229))) = some r := by rw [if_pos rfl] at H; exact H
        clear H
        have H := H1
        clear H1
        obtain ⟨y220, hy220⟩ : ∃ y_ : List ByteArray, y_ = (([(⟨#[97, 47, 120]⟩ : ByteArray), (⟨#[99]⟩ : ByteArray)] : List ByteArray)) := ⟨_, rfl⟩
        replace H : ((scope_Meet.f k t211 y220).bind fun t223 => ((aquiferref05_SameTexts.f k t223 (([(⟨#[97, 47, 120]⟩ : ByteArray)] : List ByteArray))).bind fun t229 => (some t229))) = some r := by first | (rw [hy220]; with_reducible exact H) | (have H2_ := (Option.bind_some _ _).symm.trans H; rw [hy220]; with_reducible exact H2_) | (have H2_ := (Option.bind_some _ _).symm.trans H; with_reducible exact H2_) | with_reducible exact H | (rw [hy220]; exact H) | exact H
        have Ny220 := Aside0.mk hy220
        clear hy220
        replace H := Option.bind_eq_some_iff.mp H
        obtain ⟨t223, A70, H⟩ := H
        replace H : ((aquiferref05_SameTexts.f k t223 (([(⟨#[97, 47, 120]⟩ : ByteArray)] : List ByteArray))).bind fun t229 => (some t229)) = some r := H
        have A7 := Aside0.mk A70
        clear A70
        obtain ⟨y226, hy226⟩ : ∃ y_ : List ByteArray, y_ = (([(⟨#[97, 47, 120]⟩ : ByteArray)] : List ByteArray)) := ⟨_, rfl⟩
        replace H : ((aquiferref05_SameTexts.f k t223 y226).bind fun t229 => (some t229)) = some r := by first | (rw [hy226]; with_reducible exact H) | (have H2_ := (Option.bind_some _ _).symm.trans H; rw [hy226]; with_reducible exact H2_) | (have H2_ := (Option.bind_some _ _).symm.trans H; with_reducible exact H2_) | with_reducible exact H | (rw [hy226]; exact H) | exact H
        have Ny226 := Aside0.mk hy226
        clear hy226
        replace H := Option.bind_eq_some_iff.mp H
        obtain ⟨t229, A80, H⟩ := H
        replace H : (some t229) = some r := H
        have A8 := Aside0.mk A80
        clear A80
        obtain rfl := Option.some.inj H
        go_enter Tryd.func15, Tryd.ntmps15
        go_wp2_with (first | ((with_reducible refine gate_dst (N := 4) rfl ?_); (try (refine gate_guard (by rfl) ?_; dsimp only)); refine Kd.R_lit Kd.string _ 9 ?hg (N := 4) ?hd (xs := ([(⟨#[98]⟩ : ByteArray), (⟨#[97, 47, 99]⟩ : ByteArray), (⟨#[97]⟩ : ByteArray)] : List ByteArray)) (inner := [.string (⟨#[98]⟩ : ByteArray), .string (⟨#[97, 47, 99]⟩ : ByteArray), .string (⟨#[97]⟩ : ByteArray)]) (ok := fun _ => True) (okp := fun _ => True) ?hr ?hp (fun _ hk => hk) trivial (Below.refl _ _) (Nat.le_refl _) (by simp) ?_; (case hd => rfl); (case hg => rfl); (case hr => first | (go_simp; done) | (go_simp; rfl)); (case hp => exact (Reps.one (show Kd.M Kd.string _ _ _ (⟨#[98]⟩ : ByteArray) [.string (⟨#[98]⟩ : ByteArray)] from rfl) (Reps.one (show Kd.M Kd.string _ _ _ (⟨#[97, 47, 99]⟩ : ByteArray) [.string (⟨#[97, 47, 99]⟩ : ByteArray)] from rfl) (Reps.one (show Kd.M Kd.string _ _ _ (⟨#[97]⟩ : ByteArray) [.string (⟨#[97]⟩ : ByteArray)] from rfl) (Reps.none _ _))))); intro v209 w9 ho10 hb hg_ hnew_; clear hg_ hnew_; (first | rw [← Ny208.out] at ho10 | (simp only [Int.reduceToNat] at ho10; rw [← Ny208.out] at ho10)); have n0_ := Aside0.mk (S_lower ho10 (sizU HB.out)); have n1_ := Aside0.mk (below_step (belU HB.out) hb); clear HB; have HO210 := n0_; have HB := n1_; clear n0_ n1_; clear hb ho10; obtain ⟨Ao11, co11, eo11⟩ := S_slice HO210.out; subst eo11) | ((with_reducible refine gate_callee (f := 10) rfl ?_); refine goesL_ (some 5) rfl rfl Tryd.func10 (by kernel_rfl) rfl #[.slice Ao11 y208.length co11] rfl (by (try simp only [List.map_toArray, List.map_cons, List.map_nil]); first | done | rfl | (simp only [List.length_drop, List.length_take]; rfl)) ?_; (with_reducible refine (scope_Make.calls k _ _ y208 t211 t212 _ ?side1 ?side2 A1.out).mono ?_); (case side1 => exact CU (S_reads' HO210.out).2.2); (case side2 => exact (S_reads' HO210.out).2.1); rintro e w12 ⟨v213, rfl, ho0, hb⟩; refine ⟨_, rfl, ?_⟩; have n0_ := Aside0.mk (S_elder' (SU HO210.out) (S_base ho0) hb); have n1_ := Aside0.mk (S_lower (S_new' ho0 (S_lt (SU HO210.out))) (sizU HB.out)); have n2_ := Aside0.mk (below_step (belU HB.out) hb); clear HO210; clear HB; have HO210 := n0_; have HO214 := n1_; have HB := n2_; clear n0_ n1_ n2_; (try clear hb); (try clear hb2); (try clear hk); (try clear hi); (try clear ho0)) | ((with_reducible refine gate_dst (N := 9) rfl ?_); (try (refine gate_guard (by rfl) ?_; dsimp only)); refine Kd.R_lit Kd.string _ 9 ?hg (N := 9) ?hd (xs := ([(⟨#[97]⟩ : ByteArray), (⟨#[98]⟩ : ByteArray)] : List ByteArray)) (inner := [.string (⟨#[97]⟩ : ByteArray), .string (⟨#[98]⟩ : ByteArray)]) (ok := fun _ => True) (okp := fun _ => True) ?hr ?hp (fun _ hk => hk) trivial (Below.refl _ _) (Nat.le_refl _) (by simp) ?_; (case hd => rfl); (case hg => rfl); (case hr => first | (go_simp; done) | (go_simp; rfl)); (case hp => exact (Reps.one (show Kd.M Kd.string _ _ _ (⟨#[97]⟩ : ByteArray) [.string (⟨#[97]⟩ : ByteArray)] from rfl) (Reps.one (show Kd.M Kd.string _ _ _ (⟨#[98]⟩ : ByteArray) [.string (⟨#[98]⟩ : ByteArray)] from rfl) (Reps.none _ _)))); intro v216 w13 ho14 hb hg_ hnew_; clear hg_ hnew_; (first | rw [← Ny215.out] at ho14 | (simp only [Int.reduceToNat] at ho14; rw [← Ny215.out] at ho14)); have n0_ := Aside0.mk (S_elder' (SU HO210.out) (S_base ho14) hb); have n1_ := Aside0.mk (S_elder' (SU HO214.out) (S_base ho14) hb); have n2_ := Aside0.mk (S_lower (S_new' (S_new' ho14 (S_lt (SU HO210.out))) (S_lt (SU HO214.out))) (sizU HB.out)); have n3_ := Aside0.mk (below_step (belU HB.out) hb); clear HO210; clear HO214; clear HB; have HO210 := n0_; have HO214 := n1_; have HO217 := n2_; have HB := n3_; clear n0_ n1_ n2_ n3_; clear hb ho14; obtain ⟨Ao15, co15, eo15⟩ := S_slice HO214.out; subst eo15; obtain ⟨Ao16, co16, eo16⟩ := S_slice HO217.out; subst eo16) | ((with_reducible refine gate_callee (f := 12) rfl ?_); refine goesL_ (some 10) rfl rfl Tryd.func12 (by kernel_rfl) rfl #[.slice Ao15 t211.length co15, .slice Ao16 y215.length co16] rfl (by (try simp only [List.map_toArray, List.map_cons, List.map_nil]); first | done | rfl | (simp only [List.length_drop, List.length_take]; rfl)) ?_; (with_reducible refine (aquiferref05_SameTexts.calls k _ _ t211 _ _ y215 true _ ?side1 ?side2 ?side3 ?side4 A2.out).mono ?_); (case side1 => exact CU (S_reads' HO214.out).2.2); (case side2 => exact (S_reads' HO214.out).2.1); (case side3 => exact CU (S_reads' HO217.out).2.2); (case side4 => exact (S_reads' HO217.out).2.1); rintro e w' ⟨rfl, ⟨nd, rfl⟩⟩; refine ⟨_, rfl, ?_⟩) | (go_at_call 16; (with_reducible refine (scope_Has.calls _ _ t211 (⟨#[97, 47, 99, 47, 100, 46, 116, 120, 116]⟩ : ByteArray) true _ ?side1 ?side2 A5.out).mono ?_); (case side1 => exact CU (S_reads' HO214.out).2.2); (case side2 => exact (S_reads' HO214.out).2.1); rintro e w17 ⟨rfl, hb⟩; have n0_ := Aside0.mk (S_below (SU HO210.out) hb); have n1_ := Aside0.mk (S_below (SU HO214.out) hb); have n2_ := Aside0.mk (S_below (SU HO217.out) hb); have n3_ := Aside0.mk (below_step (belU HB.out) hb); clear HO210; clear HO214; clear HO217; clear HB; have HO210 := n0_; have HO214 := n1_; have HO217 := n2_; have HB := n3_; clear n0_ n1_ n2_ n3_; (try clear hb); (try clear hb2); (try clear hk); (try clear hi)) | ((with_reducible refine gate_dst (N := 21) rfl ?_); (try (refine gate_guard (by rfl) ?_; dsimp only)); refine Kd.R_lit Kd.string _ 9 ?hg (N := 21) ?hd (xs := ([(⟨#[97, 47, 120]⟩ : ByteArray), (⟨#[99]⟩ : ByteArray)] : List ByteArray)) (inner := [.string (⟨#[97, 47, 120]⟩ : ByteArray), .string (⟨#[99]⟩ : ByteArray)]) (ok := fun _ => True) (okp := fun _ => True) ?hr ?hp (fun _ hk => hk) trivial (Below.refl _ _) (Nat.le_refl _) (by simp) ?_; (case hd => rfl); (case hg => rfl); (case hr => first | (go_simp; done) | (go_simp; rfl)); (case hp => exact (Reps.one (show Kd.M Kd.string _ _ _ (⟨#[97, 47, 120]⟩ : ByteArray) [.string (⟨#[97, 47, 120]⟩ : ByteArray)] from rfl) (Reps.one (show Kd.M Kd.string _ _ _ (⟨#[99]⟩ : ByteArray) [.string (⟨#[99]⟩ : ByteArray)] from rfl) (Reps.none _ _)))); intro v221 w18 ho19 hb hg_ hnew_; clear hg_ hnew_; (first | rw [← Ny220.out] at ho19 | (simp only [Int.reduceToNat] at ho19; rw [← Ny220.out] at ho19)); have n0_ := Aside0.mk (S_elder' (SU HO210.out) (S_base ho19) hb); have n1_ := Aside0.mk (S_elder' (SU HO214.out) (S_base ho19) hb); have n2_ := Aside0.mk (S_elder' (SU HO217.out) (S_base ho19) hb); have n3_ := Aside0.mk (S_lower (S_new' (S_new' (S_new' ho19 (S_lt (SU HO210.out))) (S_lt (SU HO214.out))) (S_lt (SU HO217.out))) (sizU HB.out)); have n4_ := Aside0.mk (below_step (belU HB.out) hb); clear HO210; clear HO214; clear HO217; clear HB; have HO210 := n0_; have HO214 := n1_; have HO217 := n2_; have HO222 := n3_; have HB := n4_; clear n0_ n1_ n2_ n3_ n4_; clear hb ho19; obtain ⟨Ao20, co20, eo20⟩ := S_slice HO222.out; subst eo20) | (go_at_call 22; (with_reducible refine (scope_Meet.calls k _ _ t211 _ _ y220 t223 _ ?side1 ?side2 ?side3 ?side4 A7.out).mono ?_); (case side1 => exact CU (S_reads' HO214.out).2.2); (case side2 => exact (S_reads' HO214.out).2.1); (case side3 => exact CU (S_reads' HO222.out).2.2); (case side4 => exact (S_reads' HO222.out).2.1); rintro e w21 ⟨v224, rfl, ho0, hb⟩; have n0_ := Aside0.mk (S_elder' (SU HO210.out) (S_base ho0) hb); have n1_ := Aside0.mk (S_elder' (SU HO214.out) (S_base ho0) hb); have n2_ := Aside0.mk (S_elder' (SU HO217.out) (S_base ho0) hb); have n3_ := Aside0.mk (S_elder' (SU HO222.out) (S_base ho0) hb); have n4_ := Aside0.mk (S_lower (S_new' (S_new' (S_new' (S_new' ho0 (S_lt (SU HO210.out))) (S_lt (SU HO214.out))) (S_lt (SU HO217.out))) (S_lt (SU HO222.out))) (sizU HB.out)); have n5_ := Aside0.mk (below_step (belU HB.out) hb); clear HO210; clear HO214; clear HO217; clear HO222; clear HB; have HO210 := n0_; have HO214 := n1_; have HO217 := n2_; have HO222 := n3_; have HO225 := n4_; have HB := n5_; clear n0_ n1_ n2_ n3_ n4_ n5_; (try clear hb); (try clear hb2); (try clear hk); (try clear hi); (try clear ho0)) | ((with_reducible refine gate_dst (N := 23) rfl ?_); (try (refine gate_guard (by rfl) ?_; dsimp only)); refine Kd.R_lit Kd.string _ 9 ?hg (N := 23) ?hd (xs := ([(⟨#[97, 47, 120]⟩ : ByteArray)] : List ByteArray)) (inner := [.string (⟨#[97, 47, 120]⟩ : ByteArray)]) (ok := fun _ => True) (okp := fun _ => True) ?hr ?hp (fun _ hk => hk) trivial (Below.refl _ _) (Nat.le_refl _) (by simp) ?_; (case hd => rfl); (case hg => rfl); (case hr => first | (go_simp; done) | (go_simp; rfl)); (case hp => exact (Reps.one (show Kd.M Kd.string _ _ _ (⟨#[97, 47, 120]⟩ : ByteArray) [.string (⟨#[97, 47, 120]⟩ : ByteArray)] from rfl) (Reps.none _ _))); intro v227 w22 ho23 hb hg_ hnew_; clear hg_ hnew_; (first | rw [← Ny226.out] at ho23 | (simp only [Int.reduceToNat] at ho23; rw [← Ny226.out] at ho23)); have n0_ := Aside0.mk (S_elder' (SU HO210.out) (S_base ho23) hb); have n1_ := Aside0.mk (S_elder' (SU HO214.out) (S_base ho23) hb); have n2_ := Aside0.mk (S_elder' (SU HO217.out) (S_base ho23) hb); have n3_ := Aside0.mk (S_elder' (SU HO222.out) (S_base ho23) hb); have n4_ := Aside0.mk (S_elder' (SU HO225.out) (S_base ho23) hb); have n5_ := Aside0.mk (S_lower (S_new' (S_new' (S_new' (S_new' (S_new' ho23 (S_lt (SU HO210.out))) (S_lt (SU HO214.out))) (S_lt (SU HO217.out))) (S_lt (SU HO222.out))) (S_lt (SU HO225.out))) (sizU HB.out)); have n6_ := Aside0.mk (below_step (belU HB.out) hb); clear HO210; clear HO214; clear HO217; clear HO222; clear HO225; clear HB; have HO210 := n0_; have HO214 := n1_; have HO217 := n2_; have HO222 := n3_; have HO225 := n4_; have HO228 := n5_; have HB := n6_; clear n0_ n1_ n2_ n3_ n4_ n5_ n6_; clear hb ho23; obtain ⟨Ao24, co24, eo24⟩ := S_slice HO225.out; subst eo24; obtain ⟨Ao25, co25, eo25⟩ := S_slice HO228.out; subst eo25) | (go_at_call 12; (with_reducible refine (aquiferref05_SameTexts.calls k _ _ t223 _ _ y226 t229 _ ?side1 ?side2 ?side3 ?side4 A8.out).mono ?_); (case side1 => exact CU (S_reads' HO225.out).2.2); (case side2 => exact (S_reads' HO225.out).2.1); (case side3 => exact CU (S_reads' HO228.out).2.2); (case side4 => exact (S_reads' HO228.out).2.1); rintro e w' ⟨rfl, ⟨nd, rfl⟩⟩))
        go_ret
        exact ⟨by first | rfl | (simp [errW_none, errW_some] <;> rfl) | (simp [*, errW_none, errW_some] <;> rfl), belU HB.out⟩
      · replace c6 := Bool.eq_false_iff.mpr c6
        subst c6
        have H1 : (some false) = some r := by rw [if_neg (show ¬ (false = true) by decide)] at H; exact H
        clear H
        have H := H1
        clear H1
        obtain rfl := Option.some.inj H
        go_enter Tryd.func15, Tryd.ntmps15
        go_wp2_with (first | ((with_reducible refine gate_dst (N := 4) rfl ?_); (try (refine gate_guard (by rfl) ?_; dsimp only)); refine Kd.R_lit Kd.string _ 9 ?hg (N := 4) ?hd (xs := ([(⟨#[98]⟩ : ByteArray), (⟨#[97, 47, 99]⟩ : ByteArray), (⟨#[97]⟩ : ByteArray)] : List ByteArray)) (inner := [.string (⟨#[98]⟩ : ByteArray), .string (⟨#[97, 47, 99]⟩ : ByteArray), .string (⟨#[97]⟩ : ByteArray)]) (ok := fun _ => True) (okp := fun _ => True) ?hr ?hp (fun _ hk => hk) trivial (Below.refl _ _) (Nat.le_refl _) (by simp) ?_; (case hd => rfl); (case hg => rfl); (case hr => first | (go_simp; done) | (go_simp; rfl)); (case hp => exact (Reps.one (show Kd.M Kd.string _ _ _ (⟨#[98]⟩ : ByteArray) [.string (⟨#[98]⟩ : ByteArray)] from rfl) (Reps.one (show Kd.M Kd.string _ _ _ (⟨#[97, 47, 99]⟩ : ByteArray) [.string (⟨#[97, 47, 99]⟩ : ByteArray)] from rfl) (Reps.one (show Kd.M Kd.string _ _ _ (⟨#[97]⟩ : ByteArray) [.string (⟨#[97]⟩ : ByteArray)] from rfl) (Reps.none _ _))))); intro v209 w26 ho27 hb hg_ hnew_; clear hg_ hnew_; (first | rw [← Ny208.out] at ho27 | (simp only [Int.reduceToNat] at ho27; rw [← Ny208.out] at ho27)); have n0_ := Aside0.mk (S_lower ho27 (sizU HB.out)); have n1_ := Aside0.mk (below_step (belU HB.out) hb); clear HB; have HO210 := n0_; have HB := n1_; clear n0_ n1_; clear hb ho27; obtain ⟨Ao28, co28, eo28⟩ := S_slice HO210.out; subst eo28) | ((with_reducible refine gate_callee (f := 10) rfl ?_); refine goesL_ (some 5) rfl rfl Tryd.func10 (by kernel_rfl) rfl #[.slice Ao28 y208.length co28] rfl (by (try simp only [List.map_toArray, List.map_cons, List.map_nil]); first | done | rfl | (simp only [List.length_drop, List.length_take]; rfl)) ?_; (with_reducible refine (scope_Make.calls k _ _ y208 t211 t212 _ ?side1 ?side2 A1.out).mono ?_); (case side1 => exact CU (S_reads' HO210.out).2.2); (case side2 => exact (S_reads' HO210.out).2.1); rintro e w29 ⟨v213, rfl, ho0, hb⟩; refine ⟨_, rfl, ?_⟩; have n0_ := Aside0.mk (S_elder' (SU HO210.out) (S_base ho0) hb); have n1_ := Aside0.mk (S_lower (S_new' ho0 (S_lt (SU HO210.out))) (sizU HB.out)); have n2_ := Aside0.mk (below_step (belU HB.out) hb); clear HO210; clear HB; have HO210 := n0_; have HO214 := n1_; have HB := n2_; clear n0_ n1_ n2_; (try clear hb); (try clear hb2); (try clear hk); (try clear hi); (try clear ho0)) | ((with_reducible refine gate_dst (N := 9) rfl ?_); (try (refine gate_guard (by rfl) ?_; dsimp only)); refine Kd.R_lit Kd.string _ 9 ?hg (N := 9) ?hd (xs := ([(⟨#[97]⟩ : ByteArray), (⟨#[98]⟩ : ByteArray)] : List ByteArray)) (inner := [.string (⟨#[97]⟩ : ByteArray), .string (⟨#[98]⟩ : ByteArray)]) (ok := fun _ => True) (okp := fun _ => True) ?hr ?hp (fun _ hk => hk) trivial (Below.refl _ _) (Nat.le_refl _) (by simp) ?_; (case hd => rfl); (case hg => rfl); (case hr => first | (go_simp; done) | (go_simp; rfl)); (case hp => exact (Reps.one (show Kd.M Kd.string _ _ _ (⟨#[97]⟩ : ByteArray) [.string (⟨#[97]⟩ : ByteArray)] from rfl) (Reps.one (show Kd.M Kd.string _ _ _ (⟨#[98]⟩ : ByteArray) [.string (⟨#[98]⟩ : ByteArray)] from rfl) (Reps.none _ _)))); intro v216 w30 ho31 hb hg_ hnew_; clear hg_ hnew_; (first | rw [← Ny215.out] at ho31 | (simp only [Int.reduceToNat] at ho31; rw [← Ny215.out] at ho31)); have n0_ := Aside0.mk (S_elder' (SU HO210.out) (S_base ho31) hb); have n1_ := Aside0.mk (S_elder' (SU HO214.out) (S_base ho31) hb); have n2_ := Aside0.mk (S_lower (S_new' (S_new' ho31 (S_lt (SU HO210.out))) (S_lt (SU HO214.out))) (sizU HB.out)); have n3_ := Aside0.mk (below_step (belU HB.out) hb); clear HO210; clear HO214; clear HB; have HO210 := n0_; have HO214 := n1_; have HO217 := n2_; have HB := n3_; clear n0_ n1_ n2_ n3_; clear hb ho31; obtain ⟨Ao32, co32, eo32⟩ := S_slice HO214.out; subst eo32; obtain ⟨Ao33, co33, eo33⟩ := S_slice HO217.out; subst eo33) | ((with_reducible refine gate_callee (f := 12) rfl ?_); refine goesL_ (some 10) rfl rfl Tryd.func12 (by kernel_rfl) rfl #[.slice Ao32 t211.length co32, .slice Ao33 y215.length co33] rfl (by (try simp only [List.map_toArray, List.map_cons, List.map_nil]); first | done | rfl | (simp only [List.length_drop, List.length_take]; rfl)) ?_; (with_reducible refine (aquiferref05_SameTexts.calls k _ _ t211 _ _ y215 true _ ?side1 ?side2 ?side3 ?side4 A2.out).mono ?_); (case side1 => exact CU (S_reads' HO214.out).2.2); (case side2 => exact (S_reads' HO214.out).2.1); (case side3 => exact CU (S_reads' HO217.out).2.2); (case side4 => exact (S_reads' HO217.out).2.1); rintro e w' ⟨rfl, ⟨nd, rfl⟩⟩; refine ⟨_, rfl, ?_⟩) | (go_at_call 16; (with_reducible refine (scope_Has.calls _ _ t211 (⟨#[97, 47, 99, 47, 100, 46, 116, 120, 116]⟩ : ByteArray) false _ ?side1 ?side2 A5.out).mono ?_); (case side1 => exact CU (S_reads' HO214.out).2.2); (case side2 => exact (S_reads' HO214.out).2.1); rintro e w34 ⟨rfl, hb⟩; have n0_ := Aside0.mk (S_below (SU HO210.out) hb); have n1_ := Aside0.mk (S_below (SU HO214.out) hb); have n2_ := Aside0.mk (S_below (SU HO217.out) hb); have n3_ := Aside0.mk (below_step (belU HB.out) hb); clear HO210; clear HO214; clear HO217; clear HB; have HO210 := n0_; have HO214 := n1_; have HO217 := n2_; have HB := n3_; clear n0_ n1_ n2_ n3_; (try clear hb); (try clear hb2); (try clear hk); (try clear hi)))
        go_ret
        exact ⟨by first | rfl | (simp [errW_none, errW_some] <;> rfl) | (simp [*, errW_none, errW_some] <;> rfl), belU HB.out⟩
    · rw [if_neg c4] at H
      have c4b0 : (t212 == 0) = false := beq_eq_false_iff_ne.mpr c4
      have c4b1 : (t212 != 0) = true := bne_iff_ne.mpr c4
      obtain rfl := Option.some.inj H
      go_enter Tryd.func15, Tryd.ntmps15
      go_wp2_with (first | ((with_reducible refine gate_dst (N := 4) rfl ?_); (try (refine gate_guard (by rfl) ?_; dsimp only)); refine Kd.R_lit Kd.string _ 9 ?hg (N := 4) ?hd (xs := ([(⟨#[98]⟩ : ByteArray), (⟨#[97, 47, 99]⟩ : ByteArray), (⟨#[97]⟩ : ByteArray)] : List ByteArray)) (inner := [.string (⟨#[98]⟩ : ByteArray), .string (⟨#[97, 47, 99]⟩ : ByteArray), .string (⟨#[97]⟩ : ByteArray)]) (ok := fun _ => True) (okp := fun _ => True) ?hr ?hp (fun _ hk => hk) trivial (Below.refl _ _) (Nat.le_refl _) (by simp) ?_; (case hd => rfl); (case hg => rfl); (case hr => first | (go_simp; done) | (go_simp; rfl)); (case hp => exact (Reps.one (show Kd.M Kd.string _ _ _ (⟨#[98]⟩ : ByteArray) [.string (⟨#[98]⟩ : ByteArray)] from rfl) (Reps.one (show Kd.M Kd.string _ _ _ (⟨#[97, 47, 99]⟩ : ByteArray) [.string (⟨#[97, 47, 99]⟩ : ByteArray)] from rfl) (Reps.one (show Kd.M Kd.string _ _ _ (⟨#[97]⟩ : ByteArray) [.string (⟨#[97]⟩ : ByteArray)] from rfl) (Reps.none _ _))))); intro v209 w35 ho36 hb hg_ hnew_; clear hg_ hnew_; (first | rw [← Ny208.out] at ho36 | (simp only [Int.reduceToNat] at ho36; rw [← Ny208.out] at ho36)); have n0_ := Aside0.mk (S_lower ho36 (sizU HB.out)); have n1_ := Aside0.mk (below_step (belU HB.out) hb); clear HB; have HO210 := n0_; have HB := n1_; clear n0_ n1_; clear hb ho36; obtain ⟨Ao37, co37, eo37⟩ := S_slice HO210.out; subst eo37) | ((with_reducible refine gate_callee (f := 10) rfl ?_); refine goesL_ (some 5) rfl rfl Tryd.func10 (by kernel_rfl) rfl #[.slice Ao37 y208.length co37] rfl (by (try simp only [List.map_toArray, List.map_cons, List.map_nil]); first | done | rfl | (simp only [List.length_drop, List.length_take]; rfl)) ?_; (with_reducible refine (scope_Make.calls k _ _ y208 t211 t212 _ ?side1 ?side2 A1.out).mono ?_); (case side1 => exact CU (S_reads' HO210.out).2.2); (case side2 => exact (S_reads' HO210.out).2.1); rintro e w38 ⟨v213, rfl, ho0, hb⟩; refine ⟨_, rfl, ?_⟩; have n0_ := Aside0.mk (S_elder' (SU HO210.out) (S_base ho0) hb); have n1_ := Aside0.mk (S_lower (S_new' ho0 (S_lt (SU HO210.out))) (sizU HB.out)); have n2_ := Aside0.mk (below_step (belU HB.out) hb); clear HO210; clear HB; have HO210 := n0_; have HO214 := n1_; have HB := n2_; clear n0_ n1_ n2_; (try clear hb); (try clear hb2); (try clear hk); (try clear hi); (try clear ho0)) | ((with_reducible refine gate_dst (N := 9) rfl ?_); (try (refine gate_guard (by rfl) ?_; dsimp only)); refine Kd.R_lit Kd.string _ 9 ?hg (N := 9) ?hd (xs := ([(⟨#[97]⟩ : ByteArray), (⟨#[98]⟩ : ByteArray)] : List ByteArray)) (inner := [.string (⟨#[97]⟩ : ByteArray), .string (⟨#[98]⟩ : ByteArray)]) (ok := fun _ => True) (okp := fun _ => True) ?hr ?hp (fun _ hk => hk) trivial (Below.refl _ _) (Nat.le_refl _) (by simp) ?_; (case hd => rfl); (case hg => rfl); (case hr => first | (go_simp; done) | (go_simp; rfl)); (case hp => exact (Reps.one (show Kd.M Kd.string _ _ _ (⟨#[97]⟩ : ByteArray) [.string (⟨#[97]⟩ : ByteArray)] from rfl) (Reps.one (show Kd.M Kd.string _ _ _ (⟨#[98]⟩ : ByteArray) [.string (⟨#[98]⟩ : ByteArray)] from rfl) (Reps.none _ _)))); intro v216 w39 ho40 hb hg_ hnew_; clear hg_ hnew_; (first | rw [← Ny215.out] at ho40 | (simp only [Int.reduceToNat] at ho40; rw [← Ny215.out] at ho40)); have n0_ := Aside0.mk (S_elder' (SU HO210.out) (S_base ho40) hb); have n1_ := Aside0.mk (S_elder' (SU HO214.out) (S_base ho40) hb); have n2_ := Aside0.mk (S_lower (S_new' (S_new' ho40 (S_lt (SU HO210.out))) (S_lt (SU HO214.out))) (sizU HB.out)); have n3_ := Aside0.mk (below_step (belU HB.out) hb); clear HO210; clear HO214; clear HB; have HO210 := n0_; have HO214 := n1_; have HO217 := n2_; have HB := n3_; clear n0_ n1_ n2_ n3_; clear hb ho40; obtain ⟨Ao41, co41, eo41⟩ := S_slice HO214.out; subst eo41; obtain ⟨Ao42, co42, eo42⟩ := S_slice HO217.out; subst eo42) | ((with_reducible refine gate_callee (f := 12) rfl ?_); refine goesL_ (some 10) rfl rfl Tryd.func12 (by kernel_rfl) rfl #[.slice Ao41 t211.length co41, .slice Ao42 y215.length co42] rfl (by (try simp only [List.map_toArray, List.map_cons, List.map_nil]); first | done | rfl | (simp only [List.length_drop, List.length_take]; rfl)) ?_; (with_reducible refine (aquiferref05_SameTexts.calls k _ _ t211 _ _ y215 true _ ?side1 ?side2 ?side3 ?side4 A2.out).mono ?_); (case side1 => exact CU (S_reads' HO214.out).2.2); (case side2 => exact (S_reads' HO214.out).2.1); (case side3 => exact CU (S_reads' HO217.out).2.2); (case side4 => exact (S_reads' HO217.out).2.1); rintro e w' ⟨rfl, ⟨nd, rfl⟩⟩; refine ⟨_, rfl, ?_⟩))
      go_ret
      exact ⟨by first | rfl | (simp [errW_none, errW_some] <;> rfl) | (simp [*, errW_none, errW_some] <;> rfl), belU HB.out⟩
  · replace c3 := Bool.eq_false_iff.mpr c3
    subst c3
    have H1 : (some false) = some r := by rw [if_neg (show ¬ (false = true) by decide)] at H; exact H
    clear H
    have H := H1
    clear H1
    obtain rfl := Option.some.inj H
    go_enter Tryd.func15, Tryd.ntmps15
    go_wp2_with (first | ((with_reducible refine gate_dst (N := 4) rfl ?_); (try (refine gate_guard (by rfl) ?_; dsimp only)); refine Kd.R_lit Kd.string _ 9 ?hg (N := 4) ?hd (xs := ([(⟨#[98]⟩ : ByteArray), (⟨#[97, 47, 99]⟩ : ByteArray), (⟨#[97]⟩ : ByteArray)] : List ByteArray)) (inner := [.string (⟨#[98]⟩ : ByteArray), .string (⟨#[97, 47, 99]⟩ : ByteArray), .string (⟨#[97]⟩ : ByteArray)]) (ok := fun _ => True) (okp := fun _ => True) ?hr ?hp (fun _ hk => hk) trivial (Below.refl _ _) (Nat.le_refl _) (by simp) ?_; (case hd => rfl); (case hg => rfl); (case hr => first | (go_simp; done) | (go_simp; rfl)); (case hp => exact (Reps.one (show Kd.M Kd.string _ _ _ (⟨#[98]⟩ : ByteArray) [.string (⟨#[98]⟩ : ByteArray)] from rfl) (Reps.one (show Kd.M Kd.string _ _ _ (⟨#[97, 47, 99]⟩ : ByteArray) [.string (⟨#[97, 47, 99]⟩ : ByteArray)] from rfl) (Reps.one (show Kd.M Kd.string _ _ _ (⟨#[97]⟩ : ByteArray) [.string (⟨#[97]⟩ : ByteArray)] from rfl) (Reps.none _ _))))); intro v209 w43 ho44 hb hg_ hnew_; clear hg_ hnew_; (first | rw [← Ny208.out] at ho44 | (simp only [Int.reduceToNat] at ho44; rw [← Ny208.out] at ho44)); have n0_ := Aside0.mk (S_lower ho44 (sizU HB.out)); have n1_ := Aside0.mk (below_step (belU HB.out) hb); clear HB; have HO210 := n0_; have HB := n1_; clear n0_ n1_; clear hb ho44; obtain ⟨Ao45, co45, eo45⟩ := S_slice HO210.out; subst eo45) | ((with_reducible refine gate_callee (f := 10) rfl ?_); refine goesL_ (some 5) rfl rfl Tryd.func10 (by kernel_rfl) rfl #[.slice Ao45 y208.length co45] rfl (by (try simp only [List.map_toArray, List.map_cons, List.map_nil]); first | done | rfl | (simp only [List.length_drop, List.length_take]; rfl)) ?_; (with_reducible refine (scope_Make.calls k _ _ y208 t211 t212 _ ?side1 ?side2 A1.out).mono ?_); (case side1 => exact CU (S_reads' HO210.out).2.2); (case side2 => exact (S_reads' HO210.out).2.1); rintro e w46 ⟨v213, rfl, ho0, hb⟩; refine ⟨_, rfl, ?_⟩; have n0_ := Aside0.mk (S_elder' (SU HO210.out) (S_base ho0) hb); have n1_ := Aside0.mk (S_lower (S_new' ho0 (S_lt (SU HO210.out))) (sizU HB.out)); have n2_ := Aside0.mk (below_step (belU HB.out) hb); clear HO210; clear HB; have HO210 := n0_; have HO214 := n1_; have HB := n2_; clear n0_ n1_ n2_; (try clear hb); (try clear hb2); (try clear hk); (try clear hi); (try clear ho0)) | ((with_reducible refine gate_dst (N := 9) rfl ?_); (try (refine gate_guard (by rfl) ?_; dsimp only)); refine Kd.R_lit Kd.string _ 9 ?hg (N := 9) ?hd (xs := ([(⟨#[97]⟩ : ByteArray), (⟨#[98]⟩ : ByteArray)] : List ByteArray)) (inner := [.string (⟨#[97]⟩ : ByteArray), .string (⟨#[98]⟩ : ByteArray)]) (ok := fun _ => True) (okp := fun _ => True) ?hr ?hp (fun _ hk => hk) trivial (Below.refl _ _) (Nat.le_refl _) (by simp) ?_; (case hd => rfl); (case hg => rfl); (case hr => first | (go_simp; done) | (go_simp; rfl)); (case hp => exact (Reps.one (show Kd.M Kd.string _ _ _ (⟨#[97]⟩ : ByteArray) [.string (⟨#[97]⟩ : ByteArray)] from rfl) (Reps.one (show Kd.M Kd.string _ _ _ (⟨#[98]⟩ : ByteArray) [.string (⟨#[98]⟩ : ByteArray)] from rfl) (Reps.none _ _)))); intro v216 w47 ho48 hb hg_ hnew_; clear hg_ hnew_; (first | rw [← Ny215.out] at ho48 | (simp only [Int.reduceToNat] at ho48; rw [← Ny215.out] at ho48)); have n0_ := Aside0.mk (S_elder' (SU HO210.out) (S_base ho48) hb); have n1_ := Aside0.mk (S_elder' (SU HO214.out) (S_base ho48) hb); have n2_ := Aside0.mk (S_lower (S_new' (S_new' ho48 (S_lt (SU HO210.out))) (S_lt (SU HO214.out))) (sizU HB.out)); have n3_ := Aside0.mk (below_step (belU HB.out) hb); clear HO210; clear HO214; clear HB; have HO210 := n0_; have HO214 := n1_; have HO217 := n2_; have HB := n3_; clear n0_ n1_ n2_ n3_; clear hb ho48; obtain ⟨Ao49, co49, eo49⟩ := S_slice HO214.out; subst eo49; obtain ⟨Ao50, co50, eo50⟩ := S_slice HO217.out; subst eo50) | ((with_reducible refine gate_callee (f := 12) rfl ?_); refine goesL_ (some 10) rfl rfl Tryd.func12 (by kernel_rfl) rfl #[.slice Ao49 t211.length co49, .slice Ao50 y215.length co50] rfl (by (try simp only [List.map_toArray, List.map_cons, List.map_nil]); first | done | rfl | (simp only [List.length_drop, List.length_take]; rfl)) ?_; (with_reducible refine (aquiferref05_SameTexts.calls k _ _ t211 _ _ y215 false _ ?side1 ?side2 ?side3 ?side4 A2.out).mono ?_); (case side1 => exact CU (S_reads' HO214.out).2.2); (case side2 => exact (S_reads' HO214.out).2.1); (case side3 => exact CU (S_reads' HO217.out).2.2); (case side4 => exact (S_reads' HO217.out).2.1); rintro e w' ⟨rfl, ⟨nd, rfl⟩⟩; refine ⟨_, rfl, ?_⟩))
    go_ret
    exact ⟨by first | rfl | (simp [errW_none, errW_some] <;> rfl) | (simp [*, errW_none, errW_some] <;> rfl), belU HB.out⟩

end Go.Proofs.YtkflalaocnghcaaDoor.Q

namespace Go.Proofs.YtkflalaocnghcaaDoor.Q
open Go.RowKit Go.Proofs.YtkflalaocnghcaaDoorW.PrintWords Go.Proofs.YtkflalaocnghcaaDoorW.PrintLast Go.Proofs.YtkflalaocnghcaaDoorW.PrintMore Go.Proofs.YtkflalaocnghcaaDoorK
attribute [local go_sem] max2_int min2_int max_two min_two max_three min_three max_four min_four   -- for this text's walks alone
attribute [local go_sem ↓] Go.Proofs.YtkflalaocnghcaaDoorK.isSome_setCell
set_option linter.unusedVariables false
set_option linter.unusedSimpArgs false

/-! ### aquiferlaw06_ScopeAgain: function 8 -/
def aquiferlaw06_ScopeAgain.f (k : Nat) (l0 : List ByteArray) (a1 : ByteArray) : Option (Bool) := (aquiferlaw06_few.f k l0).bind fun t374 => (if 0 ≤ (mn (a1.size : Int) 150) then (if (mn (a1.size : Int) 150) ≤ (a1.size : Int) then ((scope_Make.f k t374).bind fun bt377 => (if bt377.2 = 0 then ((scope_Make.f k bt377.1).bind fun bt382 => ((scope_Text.f bt377.1).bind fun bt386 => ((scope_Parse.f bt386.1).bind fun bt388 => (if bt382.2 = 0 then ((aquiferref05_SameTexts.f k bt377.1 bt382.1).bind fun t392 => (if t392 = true then ((scope_May.f k bt377.1).bind fun t393 => (if t393 = true then (if bt386.2 = 0 then (if bt388.2 = 0 then ((aquiferref05_SameTexts.f k bt388.1 bt377.1).bind fun t394 => (if t394 = true then ((scope_Has.f bt377.1 (a1.extract 0 ((mn (a1.size : Int) 150) : Int).toNat)).bind fun t395 => ((scope_Has.f t374 (a1.extract 0 ((mn (a1.size : Int) 150) : Int).toNat)).bind fun t396 => (if (t395 == t396) = true then ((aquiferlaw06_works.f k).bind fun t397 => (some t397)) else (none)))) else (none))) else (none)) else (none)) else (none))) else (none))) else (none))))) else (if (bt377.1.length : Int) = 0 then ((aquiferlaw06_works.f k).bind fun t381 => (some t381)) else (none)))) else (none)) else (none))
theorem aquiferlaw06_ScopeAgain.mono : ∀ a0 a1 k, LeO (aquiferlaw06_ScopeAgain.f k a0 a1) (aquiferlaw06_ScopeAgain.f (k + 1) a0 a1) := by
  intro a0 a1 k
  unfold aquiferlaw06_ScopeAgain.f
  repeat' first
      | (with_reducible exact aquiferlaw06_few.mono _ _)
      | (with_reducible exact aquiferlaw06_works.mono _)
      | (with_reducible exact aquiferref05_SameTexts.mono _ _ _)
      | (with_reducible exact scope_Make.mono _ _)
      | (with_reducible exact scope_May.mono _ _)
      | (with_reducible exact LeO.refl _)
      | (with_reducible exact LeO.none _)
      | (with_reducible refine LeO.ite ?_ ?_)
      | (with_reducible refine LeO.bind ?_ (fun _ => ?_))
      | exact aquiferlaw06_few.mono _ _
      | exact aquiferlaw06_works.mono _
      | exact aquiferref05_SameTexts.mono _ _ _
      | exact scope_Make.mono _ _
      | exact scope_May.mono _ _
      | exact LeO.none _
      | refine LeO.ite ?_ ?_
      | refine LeO.bind ?_ (fun _ => ?_)
def aquiferlaw06_ScopeAgain.T1 : Bool × List (List Nat × List Nat) := (true, [([], []), ([0], [0]), ([], []), ([], []), ([3], [3]), ([4], [4]), ([2, 5], [2, 5]), ([1, 1, 0, 1], [0, 1]), ([6, 7, 0, 1, 2, 3, 4, 5, 6, 7], [2, 3, 6])])
def aquiferlaw06_ScopeAgain.B1 : List Nat := [0, 1, 0, 0, 8, 24, 60, 3, 255]
theorem aquiferlaw06_ScopeAgain.tab1 : rtab .any (opsOf Tryd.f8 1) = aquiferlaw06_ScopeAgain.T1 := by kernel_rfl
theorem aquiferlaw06_ScopeAgain.bits1 : waitsOk aquiferlaw06_ScopeAgain.T1.2 aquiferlaw06_ScopeAgain.B1 = true := by kernel_rfl
set_option maxHeartbeats 8000000 in
set_option maxRecDepth 100000 in
theorem aquiferlaw06_ScopeAgain.calls (k : Nat) (A0 : Option Addr) (c0 : Nat) (l0 : List ByteArray) (a1 : ByteArray) (r : Bool) (w : World) (hr0 : Kd.C Kd.string w A0 l0.length l0) (hc0 : l0.length ≤ c0) (h : aquiferlaw06_ScopeAgain.f k l0 a1 = some r) :
    Calls Tryd.prog 8 #[.slice A0 l0.length c0, .string a1] w fun e w' => e = .returned (.bool r) ∧ Below w.heap.size w w' := by
  have HR0 := Aside0.mk hr0
  have HC0 := Aside0.mk hc0
  clear hr0 hc0
  have HB := Aside0.mk (Below.refl w.heap.size w)
  have H : ((aquiferlaw06_few.f k l0).bind fun t374 => (if 0 ≤ (mn (a1.size : Int) 150) then (if (mn (a1.size : Int) 150) ≤ (a1.size : Int) then ((scope_Make.f k t374).bind fun bt377 => (if bt377.2 = 0 then ((scope_Make.f k bt377.1).bind fun bt382 => ((scope_Text.f bt377.1).bind fun bt386 => ((scope_Parse.f bt386.1).bind fun bt388 => (if bt382.2 = 0 then ((aquiferref05_SameTexts.f k bt377.1 bt382.1).bind fun t392 => (if t392 = true then ((scope_May.f k bt377.1).bind fun t393 => (if t393 = true then (if bt386.2 = 0 then (if bt388.2 = 0 then ((aquiferref05_SameTexts.f k bt388.1 bt377.1).bind fun t394 => (if t394 = true then ((scope_Has.f bt377.1 (a1.extract 0 ((mn (a1.size : Int) 150) : Int).toNat)).bind fun t395 => ((scope_Has.f t374 (a1.extract 0 ((mn (a1.size : Int) 150) : Int).toNat)).bind fun t396 => (if (t395 == t396) = true then ((aquiferlaw06_works.f k).bind fun t397 => (some t397)) else (none)))) else (none))) else (none)) else (none)) else (none))) else (none))) else (none))))) else (if (bt377.1.length : Int) = 0 then ((aquiferlaw06_works.f k).bind fun t381 => (some t381)) else (none)))) else (none)) else (none))) = some r := h
  clear h
  replace H := Option.bind_eq_some_iff.mp H
  obtain ⟨t374, A30, H⟩ := H
  replace H : (if 0 ≤ (mn (a1.size : Int) 150) then (if (mn (a1.size : Int) 150) ≤ (a1.size : Int) then ((scope_Make.f k t374).bind fun bt377 => (if bt377.2 = 0 then ((scope_Make.f k bt377.1).bind fun bt382 => ((scope_Text.f bt377.1).bind fun bt386 => ((scope_Parse.f bt386.1).bind fun bt388 => (if bt382.2 = 0 then ((aquiferref05_SameTexts.f k bt377.1 bt382.1).bind fun t392 => (if t392 = true then ((scope_May.f k bt377.1).bind fun t393 => (if t393 = true then (if bt386.2 = 0 then (if bt388.2 = 0 then ((aquiferref05_SameTexts.f k bt388.1 bt377.1).bind fun t394 => (if t394 = true then ((scope_Has.f bt377.1 (a1.extract 0 ((mn (a1.size : Int) 150) : Int).toNat)).bind fun t395 => ((scope_Has.f t374 (a1.extract 0 ((mn (a1.size : Int) 150) : Int).toNat)).bind fun t396 => (if (t395 == t396) = true then ((aquiferlaw06_works.f k).bind fun t397 => (some t397)) else (none)))) else (none))) else (none)) else (none)) else (none))) else (none))) else (none))))) else (if (bt377.1.length : Int) = 0 then ((aquiferlaw06_works.f k).bind fun t381 => (some t381)) else (none)))) else (none)) else (none)) = some r := H
  have A3 := Aside0.mk A30
  clear A30
  obtain ⟨ji4, hji4⟩ : ∃ j_ : Int, (mn (a1.size : Int) 150) = j_ := ⟨_, rfl⟩
  replace H : (if 0 ≤ (ji4) then (if (ji4) ≤ (a1.size : Int) then ((scope_Make.f k t374).bind fun bt377 => (if bt377.2 = 0 then ((scope_Make.f k bt377.1).bind fun bt382 => ((scope_Text.f bt377.1).bind fun bt386 => ((scope_Parse.f bt386.1).bind fun bt388 => (if bt382.2 = 0 then ((aquiferref05_SameTexts.f k bt377.1 bt382.1).bind fun t392 => (if t392 = true then ((scope_May.f k bt377.1).bind fun t393 => (if t393 = true then (if bt386.2 = 0 then (if bt388.2 = 0 then ((aquiferref05_SameTexts.f k bt388.1 bt377.1).bind fun t394 => (if t394 = true then ((scope_Has.f bt377.1 (a1.extract 0 ((ji4) : Int).toNat)).bind fun t395 => ((scope_Has.f t374 (a1.extract 0 ((ji4) : Int).toNat)).bind fun t396 => (if (t395 == t396) = true then ((aquiferlaw06_works.f k).bind fun t397 => (some t397)) else (none)))) else (none))) else (none)) else (none)) else (none))) else (none))) else (none))))) else (if (bt377.1.length : Int) = 0 then ((aquiferlaw06_works.f k).bind fun t381 => (some t381)) else (none)))) else (none)) else (none)) = some r := by first | (rw [hji4] at H; exact H) | (simp only [hji4] at H ⊢; exact H)
  (try rw [hji4] at A3)
  (try (have hji4h : ji4 ≤ 150 := by (rw [← hji4]; unfold mn; (repeat' split) <;> omega)))
  (try (have hji4g : ji4 ≤ 64 := by omega))
  (try (have hji4l : 0 ≤ ji4 := by (rw [← hji4]; unfold mn; (repeat' split) <;> omega)))
  (try (have hji4m : 0 ≤ ji4 := by omega))
  have hji4_ : (if 150 < (a1.size : Int) then 150 else (a1.size : Int)) = ji4 := hji4
  by_cases c5 : 0 ≤ (ji4)
  · rw [if_pos c5] at H
    have c5b0 := eq_true c5
    have c5b1 : decide (0 ≤ (ji4)) = true := decide_eq_true c5
    clear c5
    by_cases c6 : (ji4) ≤ (a1.size : Int)
    · rw [if_pos c6] at H
      have c6b0 := eq_true c6
      have c6b1 : decide ((ji4) ≤ (a1.size : Int)) = true := decide_eq_true c6
      clear c6
      replace H := Option.bind_eq_some_iff.mp H
      obtain ⟨⟨t377, t378⟩, A70, H⟩ := H
      replace H : (if t378 = 0 then ((scope_Make.f k t377).bind fun bt382 => ((scope_Text.f t377).bind fun bt386 => ((scope_Parse.f bt386.1).bind fun bt388 => (if bt382.2 = 0 then ((aquiferref05_SameTexts.f k t377 bt382.1).bind fun t392 => (if t392 = true then ((scope_May.f k t377).bind fun t393 => (if t393 = true then (if bt386.2 = 0 then (if bt388.2 = 0 then ((aquiferref05_SameTexts.f k bt388.1 t377).bind fun t394 => (if t394 = true then ((scope_Has.f t377 (a1.extract 0 ((ji4) : Int).toNat)).bind fun t395 => ((scope_Has.f t374 (a1.extract 0 ((ji4) : Int).toNat)).bind fun t396 => (if (t395 == t396) = true then ((aquiferlaw06_works.f k).bind fun t397 => (some t397)) else (none)))) else (none))) else (none)) else (none)) else (none))) else (none))) else (none))))) else (if (t377.length : Int) = 0 then ((aquiferlaw06_works.f k).bind fun t381 => (some t381)) else (none))) = some r := H
      have A7 := Aside0.mk A70
      clear A70
      by_cases c8 : t378 = 0
      · rw [if_pos c8] at H
        have c8b0 : (t378 == 0) = true := beq_iff_eq.mpr c8
        have c8b1 : (t378 != 0) = false := bne_eq_false_iff_eq.mpr c8
        clear c8
        replace H := Option.bind_eq_some_iff.mp H
        obtain ⟨⟨t382, t383⟩, A90, H⟩ := H
        replace H : ((scope_Text.f t377).bind fun bt386 => ((scope_Parse.f bt386.1).bind fun bt388 => (if t383 = 0 then ((aquiferref05_SameTexts.f k t377 t382).bind fun t392 => (if t392 = true then ((scope_May.f k t377).bind fun t393 => (if t393 = true then (if bt386.2 = 0 then (if bt388.2 = 0 then ((aquiferref05_SameTexts.f k bt388.1 t377).bind fun t394 => (if t394 = true then ((scope_Has.f t377 (a1.extract 0 ((ji4) : Int).toNat)).bind fun t395 => ((scope_Has.f t374 (a1.extract 0 ((ji4) : Int).toNat)).bind fun t396 => (if (t395 == t396) = true then ((aquiferlaw06_works.f k).bind fun t397 => (some t397)) else (none)))) else (none))) else (none)) else (none)) else (none))) else (none))) else (none)))) = some r := H
        have A9 := Aside0.mk A90
        clear A90
        replace H := Option.bind_eq_some_iff.mp H
        obtain ⟨⟨t386, t387⟩, A100, H⟩ := H
        replace H : ((scope_Parse.f t386).bind fun bt388 => (if t383 = 0 then ((aquiferref05_SameTexts.f k t377 t382).bind fun t392 => (if t392 = true then ((scope_May.f k t377).bind fun t393 => (if t393 = true then (if t387 = 0 then (if bt388.2 = 0 then ((aquiferref05_SameTexts.f k bt388.1 t377).bind fun t394 => (if t394 = true then ((scope_Has.f t377 (a1.extract 0 ((ji4) : Int).toNat)).bind fun t395 => ((scope_Has.f t374 (a1.extract 0 ((ji4) : Int).toNat)).bind fun t396 => (if (t395 == t396) = true then ((aquiferlaw06_works.f k).bind fun t397 => (some t397)) else (none)))) else (none))) else (none)) else (none)) else (none))) else (none))) else (none))) = some r := H
        have A10 := Aside0.mk A100
        clear A100
        replace H := Option.bind_eq_some_iff.mp H
        obtain ⟨⟨t388, t389⟩, A110, H⟩ := H
        replace H : (if t383 = 0 then ((aquiferref05_SameTexts.f k t377 t382).bind fun t392 => (if t392 = true then ((scope_May.f k t377).bind fun t393 => (if t393 = true then (if t387 = 0 then (if t389 = 0 then ((aquiferref05_SameTexts.f k t388 t377).bind fun t394 => (if t394 = true then ((scope_Has.f t377 (a1.extract 0 ((ji4) : Int).toNat)).bind fun t395 => ((scope_Has.f t374 (a1.extract 0 ((ji4) : Int).toNat)).bind fun t396 => (if (t395 == t396) = true then ((aquiferlaw06_works.f k).bind fun t397 => (some t397)) else (none)))) else (none))) else (none)) else (none)) else (none))) else (none))) else (none)) = some r := H
        have A11 := Aside0.mk A110
        clear A110
        by_cases c12 : t383 = 0
        · rw [if_pos c12] at H
          have c12b0 : (t383 == 0) = true := beq_iff_eq.mpr c12
          have c12b1 : (t383 != 0) = false := bne_eq_false_iff_eq.mpr c12
          clear c12
          replace H := Option.bind_eq_some_iff.mp H
          obtain ⟨t392, A130, H⟩ := H
          replace H : (if t392 = true then ((scope_May.f k t377).bind fun t393 => (if t393 = true then (if t387 = 0 then (if t389 = 0 then ((aquiferref05_SameTexts.f k t388 t377).bind fun t394 => (if t394 = true then ((scope_Has.f t377 (a1.extract 0 ((ji4) : Int).toNat)).bind fun t395 => ((scope_Has.f t374 (a1.extract 0 ((ji4) : Int).toNat)).bind fun t396 => (if (t395 == t396) = true then ((aquiferlaw06_works.f k).bind fun t397 => (some t397)) else (none)))) else (none))) else (none)) else (none)) else (none))) else (none)) = some r := H
          have A13 := Aside0.mk A130
          clear A130
          by_cases c14 : t392 = true
          · subst c14
            have H1 : ((scope_May.f k t377).bind fun t393 => (if t393 = true then (if t387 = 0 then (if t389 = 0 then ((aquiferref05_SameTexts.f k t388 t377).bind fun t394 => (if t394 = true then ((scope_Has.f t377 (a1.extract 0 ((ji4) : Int).toNat)).bind fun t395 => ((scope_Has.f t374 (a1.extract 0 ((ji4) : Int).toNat)).bind fun t396 => (if (t395 == t396) = true then ((aquiferlaw06_works.f k).bind fun t397 => (some t397)) else (none)))) else (none))) else (none)) else (none)) else (none))) = some r := by rw [if_pos rfl] at H; exact H
            clear H
            have H := H1
            clear H1
            replace H := Option.bind_eq_some_iff.mp H
            obtain ⟨t393, A150, H⟩ := H
            replace H : (if t393 = true then (if t387 = 0 then (if t389 = 0 then ((aquiferref05_SameTexts.f k t388 t377).bind fun t394 => (if t394 = true then ((scope_Has.f t377 (a1.extract 0 ((ji4) : Int).toNat)).bind fun t395 => ((scope_Has.f t374 (a1.extract 0 ((ji4) : Int).toNat)).bind fun t396 => (if (t395 == t396) = true then ((aquiferlaw06_works.f k).bind fun t397 => (some t397)) else (none)))) else (none))) else (none)) else (none)) else (none)) = some r := H
            have A15 := Aside0.mk A150
            clear A150
            by_cases c16 : t393 = true
            · subst c16
              have H1 : (if t387 = 0 then (if t389 = 0 then ((aquiferref05_SameTexts.f k t388 t377).bind fun t394 => (if t394 = true then ((scope_Has.f t377 (a1.extract 0 ((ji4) : Int).toNat)).bind fun t395 => ((scope_Has.f t374 (a1.extract 0 ((ji4) : Int).toNat)).bind fun t396 => (if (t395 == t396) = true then ((aquiferlaw06_works.f k).bind fun t397 => (some t397)) else (none)))) else (none))) else (none)) else (none)) = some r := by rw [if_pos rfl] at H; exact H
              clear H
              have H := H1
              clear H1
              by_cases c17 : t387 = 0
              · rw [if_pos c17] at H
                have c17b0 : (t387 == 0) = true := beq_iff_eq.mpr c17
                have c17b1 : (t387 != 0) = false := bne_eq_false_iff_eq.mpr c17
                clear c17
                by_cases c18 : t389 = 0
                · rw [if_pos c18] at H
                  have c18b0 : (t389 == 0) = true := beq_iff_eq.mpr c18
                  have c18b1 : (t389 != 0) = false := bne_eq_false_iff_eq.mpr c18
                  clear c18
                  replace H := Option.bind_eq_some_iff.mp H
                  obtain ⟨t394, A190, H⟩ := H
                  replace H : (if t394 = true then ((scope_Has.f t377 (a1.extract 0 ((ji4) : Int).toNat)).bind fun t395 => ((scope_Has.f t374 (a1.extract 0 ((ji4) : Int).toNat)).bind fun t396 => (if (t395 == t396) = true then ((aquiferlaw06_works.f k).bind fun t397 => (some t397)) else (none)))) else (none)) = some r := H
                  have A19 := Aside0.mk A190
                  clear A190
                  by_cases c20 : t394 = true
                  · subst c20
                    have H1 : ((scope_Has.f t377 (a1.extract 0 ((ji4) : Int).toNat)).bind fun t395 => ((scope_Has.f t374 (a1.extract 0 ((ji4) : Int).toNat)).bind fun t396 => (if (t395 == t396) = true then ((aquiferlaw06_works.f k).bind fun t397 => (some t397)) else (none)))) = some r := by rw [if_pos rfl] at H; exact H
                    clear H
                    have H := H1
                    clear H1
                    replace H := Option.bind_eq_some_iff.mp H
                    obtain ⟨t395, A210, H⟩ := H
                    replace H : ((scope_Has.f t374 (a1.extract 0 ((ji4) : Int).toNat)).bind fun t396 => (if (t395 == t396) = true then ((aquiferlaw06_works.f k).bind fun t397 => (some t397)) else (none))) = some r := H
                    have A21 := Aside0.mk A210
                    clear A210
                    replace H := Option.bind_eq_some_iff.mp H
                    obtain ⟨t396, A220, H⟩ := H
                    replace H : (if (t395 == t396) = true then ((aquiferlaw06_works.f k).bind fun t397 => (some t397)) else (none)) = some r := H
                    have A22 := Aside0.mk A220
                    clear A220
                    by_cases c23 : (t395 == t396) = true
                    · rw [if_pos c23] at H
                      have c23b0 : (t395 == t396) = true := c23
                      (try (have c23b1 : decide (t395 = t396) = true := by simpa using c23))
                      (try (have c23b2 : (t395 == t396) = true := by simpa using c23))
                      clear c23
                      replace H := Option.bind_eq_some_iff.mp H
                      obtain ⟨t397, A240, H⟩ := H
                      replace H : (some t397) = some r := H
                      have A24 := Aside0.mk A240
                      clear A240
                      obtain rfl := Option.some.inj H
                      go_enter Tryd.func8, Tryd.ntmps8
                      try go_wp2
                      have n0_ := Aside0.mk (below_drew1 HB.out)
                      clear HB
                      have HB := n0_
                      clear n0_
                      refine start_ (n := 9) (S := fun w' => True) (ds := []) #[false, false, false, false, false, false, false, false, false] (by kernel_rfl) rfl rfl trivial (fun hHeld => ?_); refine with_tabW aquiferlaw06_ScopeAgain.tab1 aquiferlaw06_ScopeAgain.bits1 (fun HT_ HW_ => ?_)
                      generalize w.drew = w25 at HB hHeld ⊢
                      refine pure_ (i := 0) (N := some 13) (v := ?_) (a' := ?_) #[true, false, false, false, false, false, false, false, false] rfl rfl (any_of HT_.out (by kernel_rfl)) (fun _ _ _ h => h) (Or.inl ⟨by rfl, ?_⟩) ?_ ?_
                      rotate_left
                      · intro w'
                        go_simp
                        with_reducible rfl
                      rotate_left
                      · simp only [Act.put, List.setIfInBounds_toArray, List.set_cons_zero, List.set_cons_succ, i64_w, i32_w]
                        rfl
                      refine pure_ (i := 2) (N := some 15) (v := ?_) (a' := ?_) #[true, false, true, false, false, false, false, false, false] rfl rfl (any_of HT_.out (by kernel_rfl)) (fun _ _ _ h => h) (Or.inl ⟨by rfl, ?_⟩) ?_ ?_
                      rotate_left
                      · intro w'
                        go_simp
                        with_reducible rfl
                      rotate_left
                      · simp only [Act.put, List.setIfInBounds_toArray, List.set_cons_zero, List.set_cons_succ, i64_w, i32_w]
                        rfl
                      refine pure_ (i := 3) (N := some 16) (v := ?_) (a' := ?_) #[true, false, true, true, false, false, false, false, false] rfl rfl (any_of HT_.out (by kernel_rfl)) (fun _ _ _ h => h) (Or.inl ⟨by rfl, ?_⟩) ?_ ?_
                      rotate_left
                      · intro w'
                        go_simp
                        with_reducible rfl
                      rotate_left
                      · simp only [Act.put, List.setIfInBounds_toArray, List.set_cons_zero, List.set_cons_succ, i64_w, i32_w]
                        rfl
                      refine pure_ (i := 4) (N := some 17) (v := ?_) (a' := ?_) #[true, false, true, true, true, false, false, false, false] rfl rfl (any_of HT_.out (by kernel_rfl)) (fun _ _ _ h => h) (Or.inl ⟨by rfl, ?_⟩) ?_ ?_
                      rotate_left
                      · intro w'
                        go_simp
                        with_reducible rfl
                      rotate_left
                      · simp only [Act.put, List.setIfInBounds_toArray, List.set_cons_zero, List.set_cons_succ, i64_w, i32_w]
                        rfl
                      refine pure_ (i := 5) (N := some 18) (v := ?_) (a' := ?_) #[true, false, true, true, true, true, false, false, false] rfl rfl (any_of HT_.out (by kernel_rfl)) (fun _ _ _ h => h) (Or.inl ⟨by rfl, ?_⟩) ?_ ?_
                      rotate_left
                      · intro w'
                        go_simp
                        with_reducible rfl
                      rotate_left
                      · simp only [Act.put, List.setIfInBounds_toArray, List.set_cons_zero, List.set_cons_succ, i64_w, i32_w]
                        rfl
                      refine pure_ (i := 6) (N := some 19) (v := ?_) (a' := ?_) #[true, false, true, true, true, true, true, false, false] rfl rfl (any_of HT_.out (by kernel_rfl)) (fun _ _ _ h => h) (Or.inl ⟨by rfl, ?_⟩) ?_ ?_
                      rotate_left
                      · intro w'
                        go_simp
                        with_reducible rfl
                      rotate_left
                      · simp only [Act.put, List.setIfInBounds_toArray, List.set_cons_zero, List.set_cons_succ, i64_w, i32_w]
                        rfl
                      refine one_ (i := 1) (N := some 14) #[true, true, true, true, true, true, true, false, false] rfl rfl (one_of HT_.out (by kernel_rfl)) (by decide) (fun K hK => ?_)
                      refine goes_ Tryd.func9 (by kernel_rfl) rfl #[.slice A0 l0.length c0] (by rfl) rfl rfl (by (try simp only [List.map_toArray, List.map_cons, List.map_nil]); first | done | rfl | (simp only [List.length_drop, List.length_take]; rfl)) ?_
                      with_reducible refine (aquiferlaw06_few.calls k _ _ l0 t374 _ ?side1 ?side2 A3.out).mono ?_
                      (case side1 => exact CU (Kd.C_below HR0.out HB.out))
                      (case side2 => exact HC0.out)
                      rintro e w26 ⟨v375, rfl, ho0, hb⟩
                      refine ⟨_, rfl, ?_⟩
                      have n0_ := Aside0.mk (S_lower ho0 (sizU HB.out))
                      have n1_ := Aside0.mk (below_step (belU HB.out) hb)
                      clear HB
                      have HO376 := n0_
                      have HB := n1_
                      clear n0_ n1_
                      (try clear hb)
                      (try clear hb2)
                      (try clear hk)
                      (try clear hi)
                      (try clear ho0)
                      refine hK.out _ _ trivial (fun hHeld => ?_)
                      clear hK K
                      refine norm_ (a' := ?_) ?_ ?_
                      rotate_left
                      · show Act.put _ (some 14) _ = _
                        simp only [Act.put, List.setIfInBounds_toArray, List.set_cons_zero, List.set_cons_succ, i64_w, i32_w]
                        rfl
                      refine pure_ (i := 7) (N := some 0) (v := ?_) (a' := ?_) #[true, true, true, true, true, true, true, true, false] rfl rfl (any_of HT_.out (by kernel_rfl)) (fun _ _ _ h => h) (Or.inl ⟨by rfl, ?_⟩) ?_ ?_
                      rotate_left
                      · intro w'
                        go_simp
                        with_reducible rfl
                      rotate_left
                      · simp only [Act.put, List.setIfInBounds_toArray, List.set_cons_zero, List.set_cons_succ, i64_w, i32_w]
                        rfl
                      refine pure_ (i := 8) (N := some 1) (v := ?_) (a' := ?_) #[true, true, true, true, true, true, true, true, true] rfl rfl (any_of HT_.out (by kernel_rfl)) (fun _ _ _ h => h) (Or.inl ⟨by rfl, ?_⟩) ?_ ?_
                      rotate_left
                      · intro w'
                        go_simp
                        with_reducible rfl
                      rotate_left
                      · simp only [Act.put, List.setIfInBounds_toArray, List.set_cons_zero, List.set_cons_succ, i64_w, i32_w]
                        rfl
                      refine done_ (done_of HT_.out (by kernel_rfl)) ?_
                      obtain ⟨Ao27, co27, eo27⟩ := S_slice HO376.out
                      subst eo27
                      try go_wp2_with (first | ((with_reducible refine gate_callee (f := 10) rfl ?_); refine goesL_ (some 22) rfl rfl Tryd.func10 (by kernel_rfl) rfl #[.slice Ao27 t374.length co27] rfl (by (try simp only [List.map_toArray, List.map_cons, List.map_nil]); first | done | rfl | (simp only [List.length_drop, List.length_take]; rfl)) ?_; (with_reducible refine (scope_Make.calls k _ _ t374 t377 t378 _ ?side1 ?side2 A7.out).mono ?_); (case side1 => exact CU (S_reads' HO376.out).2.2); (case side2 => exact (S_reads' HO376.out).2.1); rintro e w28 ⟨v379, rfl, ho0, hb⟩; refine ⟨_, rfl, ?_⟩; have n0_ := Aside0.mk (S_elder' (SU HO376.out) (S_base ho0) hb); have n1_ := Aside0.mk (S_lower (S_new' ho0 (S_lt (SU HO376.out))) (sizU HB.out)); have n2_ := Aside0.mk (below_step (belU HB.out) hb); clear HO376; clear HB; have HO376 := n0_; have HO380 := n1_; have HB := n2_; clear n0_ n1_ n2_; (try clear hb); (try clear hb2); (try clear hk); (try clear hi); (try clear ho0); obtain ⟨Ao29, co29, eo29⟩ := S_slice HO380.out; subst eo29) | ((with_reducible refine gate_callee (f := 10) rfl ?_); refine goesL_ (some 35) rfl rfl Tryd.func10 (by kernel_rfl) rfl #[.slice Ao29 t377.length co29] rfl (by (try simp only [List.map_toArray, List.map_cons, List.map_nil]); first | done | rfl | (simp only [List.length_drop, List.length_take]; rfl)) ?_; (with_reducible refine (scope_Make.calls k _ _ t377 t382 t383 _ ?side1 ?side2 A9.out).mono ?_); (case side1 => exact CU (S_reads' HO380.out).2.2); (case side2 => exact (S_reads' HO380.out).2.1); rintro e w30 ⟨v384, rfl, ho0, hb⟩; refine ⟨_, rfl, ?_⟩; have n0_ := Aside0.mk (S_elder' (SU HO376.out) (S_base ho0) hb); have n1_ := Aside0.mk (S_elder' (SU HO380.out) (S_base ho0) hb); have n2_ := Aside0.mk (S_lower (S_new' (S_new' ho0 (S_lt (SU HO376.out))) (S_lt (SU HO380.out))) (sizU HB.out)); have n3_ := Aside0.mk (below_step (belU HB.out) hb); clear HO376; clear HO380; clear HB; have HO376 := n0_; have HO380 := n1_; have HO385 := n2_; have HB := n3_; clear n0_ n1_ n2_ n3_; (try clear hb); (try clear hb2); (try clear hk); (try clear hi); (try clear ho0)) | ((with_reducible refine gate_callee (f := 24) rfl ?_); refine goesL_ (some 40) rfl rfl Tryd.func24 (by kernel_rfl) rfl #[.slice Ao29 t377.length co29] rfl (by (try simp only [List.map_toArray, List.map_cons, List.map_nil]); first | done | rfl | (simp only [List.length_drop, List.length_take]; rfl)) ?_; (with_reducible refine (scope_Text.calls _ _ t377 t386 t387 _ ?side1 ?side2 A10.out).mono ?_); (case side1 => exact CU (S_reads' HO380.out).2.2); (case side2 => exact (S_reads' HO380.out).2.1); rintro e w31 ⟨rfl, hb⟩; refine ⟨_, rfl, ?_⟩; have n0_ := Aside0.mk (S_below (SU HO376.out) hb); have n1_ := Aside0.mk (S_below (SU HO380.out) hb); have n2_ := Aside0.mk (S_below (SU HO385.out) hb); have n3_ := Aside0.mk (below_step (belU HB.out) hb); clear HO376; clear HO380; clear HO385; clear HB; have HO376 := n0_; have HO380 := n1_; have HO385 := n2_; have HB := n3_; clear n0_ n1_ n2_ n3_; (try clear hb); (try clear hb2); (try clear hk); (try clear hi)) | ((with_reducible refine gate_callee (f := 26) rfl ?_); refine goesL_ (some 45) rfl rfl Tryd.func26 (by kernel_rfl) rfl #[.string t386] rfl (by (try simp only [List.map_toArray, List.map_cons, List.map_nil]); first | done | rfl | (simp only [List.length_drop, List.length_take]; rfl)) ?_; (with_reducible refine (scope_Parse.calls t386 t388 t389 _ A11.out).mono ?_); rintro e w32 ⟨v390, rfl, ho0, hb⟩; refine ⟨_, rfl, ?_⟩; have n0_ := Aside0.mk (S_elder' (SU HO376.out) (S_base ho0) hb); have n1_ := Aside0.mk (S_elder' (SU HO380.out) (S_base ho0) hb); have n2_ := Aside0.mk (S_elder' (SU HO385.out) (S_base ho0) hb); have n3_ := Aside0.mk (S_lower (S_new' (S_new' (S_new' ho0 (S_lt (SU HO376.out))) (S_lt (SU HO380.out))) (S_lt (SU HO385.out))) (sizU HB.out)); have n4_ := Aside0.mk (below_step (belU HB.out) hb); clear HO376; clear HO380; clear HO385; clear HB; have HO376 := n0_; have HO380 := n1_; have HO385 := n2_; have HO391 := n3_; have HB := n4_; clear n0_ n1_ n2_ n3_ n4_; (try clear hb); (try clear hb2); (try clear hk); (try clear hi); (try clear ho0); obtain ⟨Ao33, co33, eo33⟩ := S_slice HO385.out; subst eo33) | (go_at_call 12; (with_reducible refine (aquiferref05_SameTexts.calls k _ _ t377 _ _ t382 true _ ?side1 ?side2 ?side3 ?side4 A13.out).mono ?_); (case side1 => exact CU (S_reads' HO380.out).2.2); (case side2 => exact (S_reads' HO380.out).2.1); (case side3 => exact CU (S_reads' HO385.out).2.2); (case side4 => exact (S_reads' HO385.out).2.1); rintro e w' ⟨rfl, ⟨nd, rfl⟩⟩) | (go_at_call 13; (with_reducible refine (scope_May.calls k _ _ t377 true _ ?side1 ?side2 A15.out).mono ?_); (case side1 => exact CU (S_reads' HO380.out).2.2); (case side2 => exact (S_reads' HO380.out).2.1); rintro e w34 ⟨rfl, hb⟩; have n0_ := Aside0.mk (S_below (SU HO376.out) hb); have n1_ := Aside0.mk (S_below (SU HO380.out) hb); have n2_ := Aside0.mk (S_below (SU HO385.out) hb); have n3_ := Aside0.mk (S_below (SU HO391.out) hb); have n4_ := Aside0.mk (below_step (belU HB.out) hb); clear HO376; clear HO380; clear HO385; clear HO391; clear HB; have HO376 := n0_; have HO380 := n1_; have HO385 := n2_; have HO391 := n3_; have HB := n4_; clear n0_ n1_ n2_ n3_ n4_; (try clear hb); (try clear hb2); (try clear hk); (try clear hi); obtain ⟨Ao35, co35, eo35⟩ := S_slice HO391.out; subst eo35) | (go_at_call 12; (with_reducible refine (aquiferref05_SameTexts.calls k _ _ t388 _ _ t377 true _ ?side1 ?side2 ?side3 ?side4 A19.out).mono ?_); (case side1 => exact CU (S_reads' HO391.out).2.2); (case side2 => exact (S_reads' HO391.out).2.1); (case side3 => exact CU (S_reads' HO380.out).2.2); (case side4 => exact (S_reads' HO380.out).2.1); rintro e w' ⟨rfl, ⟨nd, rfl⟩⟩) | (go_at_call 16; (with_reducible refine (scope_Has.calls _ _ t377 (a1.extract 0 ((ji4) : Int).toNat) t395 _ ?side1 ?side2 A21.out).mono ?_); (case side1 => exact CU (S_reads' HO380.out).2.2); (case side2 => exact (S_reads' HO380.out).2.1); rintro e w36 ⟨rfl, hb⟩; have n0_ := Aside0.mk (S_below (SU HO376.out) hb); have n1_ := Aside0.mk (S_below (SU HO380.out) hb); have n2_ := Aside0.mk (S_below (SU HO385.out) hb); have n3_ := Aside0.mk (S_below (SU HO391.out) hb); have n4_ := Aside0.mk (below_step (belU HB.out) hb); clear HO376; clear HO380; clear HO385; clear HO391; clear HB; have HO376 := n0_; have HO380 := n1_; have HO385 := n2_; have HO391 := n3_; have HB := n4_; clear n0_ n1_ n2_ n3_ n4_; (try clear hb); (try clear hb2); (try clear hk); (try clear hi)) | (go_at_call 16; (with_reducible refine (scope_Has.calls _ _ t374 (a1.extract 0 ((ji4) : Int).toNat) t396 _ ?side1 ?side2 A22.out).mono ?_); (case side1 => exact CU (S_reads' HO376.out).2.2); (case side2 => exact (S_reads' HO376.out).2.1); rintro e w37 ⟨rfl, hb⟩; have n0_ := Aside0.mk (S_below (SU HO376.out) hb); have n1_ := Aside0.mk (S_below (SU HO380.out) hb); have n2_ := Aside0.mk (S_below (SU HO385.out) hb); have n3_ := Aside0.mk (S_below (SU HO391.out) hb); have n4_ := Aside0.mk (below_step (belU HB.out) hb); clear HO376; clear HO380; clear HO385; clear HO391; clear HB; have HO376 := n0_; have HO380 := n1_; have HO385 := n2_; have HO391 := n3_; have HB := n4_; clear n0_ n1_ n2_ n3_ n4_; (try clear hb); (try clear hb2); (try clear hk); (try clear hi)) | (go_at_call 15; (with_reducible refine (aquiferlaw06_works.calls k  t397 _ A24.out).mono ?_); rintro e w38 ⟨rfl, hb⟩; have n0_ := Aside0.mk (S_below (SU HO376.out) hb); have n1_ := Aside0.mk (S_below (SU HO380.out) hb); have n2_ := Aside0.mk (S_below (SU HO385.out) hb); have n3_ := Aside0.mk (S_below (SU HO391.out) hb); have n4_ := Aside0.mk (below_step (belU HB.out) hb); clear HO376; clear HO380; clear HO385; clear HO391; clear HB; have HO376 := n0_; have HO380 := n1_; have HO385 := n2_; have HO391 := n3_; have HB := n4_; clear n0_ n1_ n2_ n3_ n4_; (try clear hb); (try clear hb2); (try clear hk); (try clear hi)))
                      go_ret
                      exact ⟨by first | rfl | (simp [errW_none, errW_some] <;> rfl) | (simp only [← hji4]; first | rfl | (simp [errW_none, errW_some] <;> rfl)) | (simp [*, errW_none, errW_some] <;> rfl), belU HB.out⟩
                    · rw [if_neg c23] at H
                      exact absurd H (by simp)
                  · replace c20 := Bool.eq_false_iff.mpr c20
                    subst c20
                    have H1 : (none) = some r := by rw [if_neg (show ¬ (false = true) by decide)] at H; exact H
                    clear H
                    have H := H1
                    clear H1
                    exact absurd H (by simp)
                · rw [if_neg c18] at H
                  exact absurd H (by simp)
              · rw [if_neg c17] at H
                exact absurd H (by simp)
            · replace c16 := Bool.eq_false_iff.mpr c16
              subst c16
              have H1 : (none) = some r := by rw [if_neg (show ¬ (false = true) by decide)] at H; exact H
              clear H
              have H := H1
              clear H1
              exact absurd H (by simp)
          · replace c14 := Bool.eq_false_iff.mpr c14
            subst c14
            have H1 : (none) = some r := by rw [if_neg (show ¬ (false = true) by decide)] at H; exact H
            clear H
            have H := H1
            clear H1
            exact absurd H (by simp)
        · rw [if_neg c12] at H
          exact absurd H (by simp)
      · rw [if_neg c8] at H
        have c8b0 : (t378 == 0) = false := beq_eq_false_iff_ne.mpr c8
        have c8b1 : (t378 != 0) = true := bne_iff_ne.mpr c8
        by_cases c39 : (t377.length : Int) = 0
        · rw [if_pos c39] at H
          have c39b0 : ((t377.length : Int) == 0) = true := beq_iff_eq.mpr c39
          have c39b1 : ((t377.length : Int) != 0) = false := bne_eq_false_iff_eq.mpr c39
          clear c39
          replace H := Option.bind_eq_some_iff.mp H
          obtain ⟨t381, A400, H⟩ := H
          replace H : (some t381) = some r := H
          have A40 := Aside0.mk A400
          clear A400
          obtain rfl := Option.some.inj H
          go_enter Tryd.func8, Tryd.ntmps8
          try go_wp2
          have n0_ := Aside0.mk (below_drew1 HB.out)
          clear HB
          have HB := n0_
          clear n0_
          refine start_ (n := 9) (S := fun w' => True) (ds := []) #[false, false, false, false, false, false, false, false, false] (by kernel_rfl) rfl rfl trivial (fun hHeld => ?_); refine with_tabW aquiferlaw06_ScopeAgain.tab1 aquiferlaw06_ScopeAgain.bits1 (fun HT_ HW_ => ?_)
          generalize w.drew = w41 at HB hHeld ⊢
          refine pure_ (i := 0) (N := some 13) (v := ?_) (a' := ?_) #[true, false, false, false, false, false, false, false, false] rfl rfl (any_of HT_.out (by kernel_rfl)) (fun _ _ _ h => h) (Or.inl ⟨by rfl, ?_⟩) ?_ ?_
          rotate_left
          · intro w'
            go_simp
            with_reducible rfl
          rotate_left
          · simp only [Act.put, List.setIfInBounds_toArray, List.set_cons_zero, List.set_cons_succ, i64_w, i32_w]
            rfl
          refine pure_ (i := 2) (N := some 15) (v := ?_) (a' := ?_) #[true, false, true, false, false, false, false, false, false] rfl rfl (any_of HT_.out (by kernel_rfl)) (fun _ _ _ h => h) (Or.inl ⟨by rfl, ?_⟩) ?_ ?_
          rotate_left
          · intro w'
            go_simp
            with_reducible rfl
          rotate_left
          · simp only [Act.put, List.setIfInBounds_toArray, List.set_cons_zero, List.set_cons_succ, i64_w, i32_w]
            rfl
          refine pure_ (i := 3) (N := some 16) (v := ?_) (a' := ?_) #[true, false, true, true, false, false, false, false, false] rfl rfl (any_of HT_.out (by kernel_rfl)) (fun _ _ _ h => h) (Or.inl ⟨by rfl, ?_⟩) ?_ ?_
          rotate_left
          · intro w'
            go_simp
            with_reducible rfl
          rotate_left
          · simp only [Act.put, List.setIfInBounds_toArray, List.set_cons_zero, List.set_cons_succ, i64_w, i32_w]
            rfl
          refine pure_ (i := 4) (N := some 17) (v := ?_) (a' := ?_) #[true, false, true, true, true, false, false, false, false] rfl rfl (any_of HT_.out (by kernel_rfl)) (fun _ _ _ h => h) (Or.inl ⟨by rfl, ?_⟩) ?_ ?_
          rotate_left
          · intro w'
            go_simp
            with_reducible rfl
          rotate_left
          · simp only [Act.put, List.setIfInBounds_toArray, List.set_cons_zero, List.set_cons_succ, i64_w, i32_w]
            rfl
          refine pure_ (i := 5) (N := some 18) (v := ?_) (a' := ?_) #[true, false, true, true, true, true, false, false, false] rfl rfl (any_of HT_.out (by kernel_rfl)) (fun _ _ _ h => h) (Or.inl ⟨by rfl, ?_⟩) ?_ ?_
          rotate_left
          · intro w'
            go_simp
            with_reducible rfl
          rotate_left
          · simp only [Act.put, List.setIfInBounds_toArray, List.set_cons_zero, List.set_cons_succ, i64_w, i32_w]
            rfl
          refine pure_ (i := 6) (N := some 19) (v := ?_) (a' := ?_) #[true, false, true, true, true, true, true, false, false] rfl rfl (any_of HT_.out (by kernel_rfl)) (fun _ _ _ h => h) (Or.inl ⟨by rfl, ?_⟩) ?_ ?_
          rotate_left
          · intro w'
            go_simp
            with_reducible rfl
          rotate_left
          · simp only [Act.put, List.setIfInBounds_toArray, List.set_cons_zero, List.set_cons_succ, i64_w, i32_w]
            rfl
          refine one_ (i := 1) (N := some 14) #[true, true, true, true, true, true, true, false, false] rfl rfl (one_of HT_.out (by kernel_rfl)) (by decide) (fun K hK => ?_)
          refine goes_ Tryd.func9 (by kernel_rfl) rfl #[.slice A0 l0.length c0] (by rfl) rfl rfl (by (try simp only [List.map_toArray, List.map_cons, List.map_nil]); first | done | rfl | (simp only [List.length_drop, List.length_take]; rfl)) ?_
          with_reducible refine (aquiferlaw06_few.calls k _ _ l0 t374 _ ?side1 ?side2 A3.out).mono ?_
          (case side1 => exact CU (Kd.C_below HR0.out HB.out))
          (case side2 => exact HC0.out)
          rintro e w42 ⟨v375, rfl, ho0, hb⟩
          refine ⟨_, rfl, ?_⟩
          have n0_ := Aside0.mk (S_lower ho0 (sizU HB.out))
          have n1_ := Aside0.mk (below_step (belU HB.out) hb)
          clear HB
          have HO376 := n0_
          have HB := n1_
          clear n0_ n1_
          (try clear hb)
          (try clear hb2)
          (try clear hk)
          (try clear hi)
          (try clear ho0)
          refine hK.out _ _ trivial (fun hHeld => ?_)
          clear hK K
          refine norm_ (a' := ?_) ?_ ?_
          rotate_left
          · show Act.put _ (some 14) _ = _
            simp only [Act.put, List.setIfInBounds_toArray, List.set_cons_zero, List.set_cons_succ, i64_w, i32_w]
            rfl
          refine pure_ (i := 7) (N := some 0) (v := ?_) (a' := ?_) #[true, true, true, true, true, true, true, true, false] rfl rfl (any_of HT_.out (by kernel_rfl)) (fun _ _ _ h => h) (Or.inl ⟨by rfl, ?_⟩) ?_ ?_
          rotate_left
          · intro w'
            go_simp
            with_reducible rfl
          rotate_left
          · simp only [Act.put, List.setIfInBounds_toArray, List.set_cons_zero, List.set_cons_succ, i64_w, i32_w]
            rfl
          refine pure_ (i := 8) (N := some 1) (v := ?_) (a' := ?_) #[true, true, true, true, true, true, true, true, true] rfl rfl (any_of HT_.out (by kernel_rfl)) (fun _ _ _ h => h) (Or.inl ⟨by rfl, ?_⟩) ?_ ?_
          rotate_left
          · intro w'
            go_simp
            with_reducible rfl
          rotate_left
          · simp only [Act.put, List.setIfInBounds_toArray, List.set_cons_zero, List.set_cons_succ, i64_w, i32_w]
            rfl
          refine done_ (done_of HT_.out (by kernel_rfl)) ?_
          obtain ⟨Ao43, co43, eo43⟩ := S_slice HO376.out
          subst eo43
          try go_wp2_with (first | ((with_reducible refine gate_callee (f := 10) rfl ?_); refine goesL_ (some 22) rfl rfl Tryd.func10 (by kernel_rfl) rfl #[.slice Ao43 t374.length co43] rfl (by (try simp only [List.map_toArray, List.map_cons, List.map_nil]); first | done | rfl | (simp only [List.length_drop, List.length_take]; rfl)) ?_; (with_reducible refine (scope_Make.calls k _ _ t374 t377 t378 _ ?side1 ?side2 A7.out).mono ?_); (case side1 => exact CU (S_reads' HO376.out).2.2); (case side2 => exact (S_reads' HO376.out).2.1); rintro e w44 ⟨v379, rfl, ho0, hb⟩; refine ⟨_, rfl, ?_⟩; have n0_ := Aside0.mk (S_elder' (SU HO376.out) (S_base ho0) hb); have n1_ := Aside0.mk (S_lower (S_new' ho0 (S_lt (SU HO376.out))) (sizU HB.out)); have n2_ := Aside0.mk (below_step (belU HB.out) hb); clear HO376; clear HB; have HO376 := n0_; have HO380 := n1_; have HB := n2_; clear n0_ n1_ n2_; (try clear hb); (try clear hb2); (try clear hk); (try clear hi); (try clear ho0); obtain ⟨Ao45, co45, eo45⟩ := S_slice HO380.out; subst eo45) | (go_at_call 15; (with_reducible refine (aquiferlaw06_works.calls k  t381 _ A40.out).mono ?_); rintro e w46 ⟨rfl, hb⟩; have n0_ := Aside0.mk (S_below (SU HO376.out) hb); have n1_ := Aside0.mk (S_below (SU HO380.out) hb); have n2_ := Aside0.mk (below_step (belU HB.out) hb); clear HO376; clear HO380; clear HB; have HO376 := n0_; have HO380 := n1_; have HB := n2_; clear n0_ n1_ n2_; (try clear hb); (try clear hb2); (try clear hk); (try clear hi)))
          go_ret
          exact ⟨by first | rfl | (simp [errW_none, errW_some] <;> rfl) | (simp only [← hji4]; first | rfl | (simp [errW_none, errW_some] <;> rfl)) | (simp [*, errW_none, errW_some] <;> rfl), belU HB.out⟩
        · rw [if_neg c39] at H
          exact absurd H (by simp)
    · rw [if_neg c6] at H
      exact absurd H (by simp)
  · rw [if_neg c5] at H
    exact absurd H (by simp)

end Go.Proofs.YtkflalaocnghcaaDoor.Q

namespace Go.Proofs.YtkflalaocnghcaaDoorK
open Go Go.Proofs
/-! ### the order of strings: less, or greater, or alike -/
theorem bl_irrefl : ∀ x : List UInt8, Op.bytesLess x x = false
  | [] => rfl
  | a :: x => by
    have h := bl_irrefl x
    simp only [Op.bytesLess, h, Bool.and_false, Bool.or_false, decide_eq_false_iff_not]
    exact UInt8.lt_irrefl a
theorem bl_ne (x y : List UInt8) (h : Op.bytesLess y x = true) : (x == y) = false := by
  rw [beq_eq_false_iff_ne]
  rintro rfl
  rw [bl_irrefl] at h
  exact absurd h (by decide)
theorem bl_eq : ∀ x y : List UInt8, Op.bytesLess x y = false → Op.bytesLess y x = false → x = y
  | [], [] => fun _ _ => rfl
  | [], b :: y => fun h _ => absurd h (by simp [Op.bytesLess])
  | a :: x, [] => fun _ h => absurd h (by simp [Op.bytesLess])
  | a :: x, b :: y => fun h g => by
    simp only [Op.bytesLess, Bool.or_eq_false_iff, decide_eq_false_iff_not, Bool.and_eq_false_iff, beq_eq_false_iff_ne] at h g
    have hab : a = b := UInt8.le_antisymm (UInt8.not_lt.1 g.1) (UInt8.not_lt.1 h.1)
    subst hab
    rw [bl_eq x y (h.2.resolve_left (by simp)) (g.2.resolve_left (by simp))]
theorem bl_eqb (x y : List UInt8) (h : Op.bytesLess x y = false) (g : Op.bytesLess y x = false) : (x == y) = true := beq_iff_eq.2 (bl_eq x y h g)
@[go_sem] theorem binOp_string_gtr_k (t : TypeId) (a b : ByteArray) : binOp .gtr t (.string a) (.string b) = pure (.bool !(Op.bytesLess a.toList b.toList || a.toList == b.toList)) := by simp [binOp, Op.stringOp]
end Go.Proofs.YtkflalaocnghcaaDoorK

namespace Go.Proofs.YtkflalaocnghcaaDoor.Q
open Go.RowKit Go.Proofs.YtkflalaocnghcaaDoorW.PrintWords Go.Proofs.YtkflalaocnghcaaDoorW.PrintLast Go.Proofs.YtkflalaocnghcaaDoorW.PrintMore Go.Proofs.YtkflalaocnghcaaDoorK
attribute [local go_sem] max2_int min2_int max_two min_two max_three min_three max_four min_four   -- for this text's walks alone
attribute [local go_sem ↓] Go.Proofs.YtkflalaocnghcaaDoorK.isSome_setCell
set_option linter.unusedVariables false
set_option linter.unusedSimpArgs false

/-! ### aquiferref05_Names: function 59 -/
def aquiferref05_Names.l0 : Nat → ByteArray → List ByteArray → Int → Option (List ByteArray)
  | 0, _, _, _ => none
  | k + 1, x0, x3, x4 => if x4 < (x0.size : Int) then (if 0 ≤ x4 then (if (bt x0 x4) = 47 then (if x3.length < 8796093022208 then (aquiferref05_Names.l0 k x0 (x3 ++ [(⟨#[]⟩ : ByteArray)]) (wrap64 (x4 + 1))) else (none)) else (if 0 ≤ (wrap64 ((x3.length : Int) - 1)) then (if (wrap64 ((x3.length : Int) - 1)) < (x3.length : Int) then (if x4 ≤ (wrap64 (x4 + 1)) then (if (wrap64 (x4 + 1)) ≤ (x0.size : Int) then (if (rdOf ByteArray.empty x3 (wrap64 ((x3.length : Int) - 1))).size + (x0.extract (x4 : Int).toNat ((wrap64 (x4 + 1)) : Int).toNat).size ≤ 9223372036854775807 then (aquiferref05_Names.l0 k x0 (x3.set ((wrap64 ((x3.length : Int) - 1)) : Int).toNat ((rdOf ByteArray.empty x3 (wrap64 ((x3.length : Int) - 1))) ++ (x0.extract (x4 : Int).toNat ((wrap64 (x4 + 1)) : Int).toNat))) (wrap64 (x4 + 1))) else (none)) else (none)) else (none)) else (none)) else (none))) else (none)) else (some x3)
def aquiferref05_Names.f (k : Nat) (a0 : ByteArray) : Option (List ByteArray) := aquiferref05_Names.l0 k a0 (([(⟨#[]⟩ : ByteArray)] : List ByteArray)) 0
theorem aquiferref05_Names.mono_l : ∀ k, (∀ y0 y1 y2, LeO (aquiferref05_Names.l0 k y0 y1 y2) (aquiferref05_Names.l0 (k + 1) y0 y1 y2))
  | 0 => fun _ _ _ r h => by simp [aquiferref05_Names.l0] at h
  | k + 1 => by
    have ih0 := aquiferref05_Names.mono_l k
    · intro y0 y1 y2
      unfold aquiferref05_Names.l0
      repeat' first
      | (with_reducible exact ih0 _ _ _)
      | (with_reducible exact LeO.refl _)
      | (with_reducible exact LeO.none _)
      | (with_reducible refine LeO.ite ?_ ?_)
      | (with_reducible refine LeO.bind ?_ (fun _ => ?_))
      | exact ih0 _ _ _
      | exact LeO.none _
      | refine LeO.ite ?_ ?_
      | refine LeO.bind ?_ (fun _ => ?_)
theorem aquiferref05_Names.mono : ∀ a0 k, LeO (aquiferref05_Names.f k a0) (aquiferref05_Names.f (k + 1) a0) := by
  intro a0 k
  have ih0 := aquiferref05_Names.mono_l k
  unfold aquiferref05_Names.f
  repeat' first
      | (with_reducible exact ih0 _ _ _)
      | (with_reducible exact LeO.refl _)
      | (with_reducible exact LeO.none _)
      | (with_reducible refine LeO.ite ?_ ?_)
      | (with_reducible refine LeO.bind ?_ (fun _ => ?_))
      | exact ih0 _ _ _
      | exact LeO.none _
      | refine LeO.ite ?_ ?_
      | refine LeO.bind ?_ (fun _ => ?_)
def aquiferref05_Names.T7 : Bool × List (List Nat × List Nat) := (true, [([], []), ([], []), ([1], [1]), ([2], [2]), ([], []), ([], []), ([5], [5]), ([6], [6]), ([4, 7], [4, 7]), ([8], [8]), ([], []), ([], []), ([], []), ([12], [12]), ([10, 11, 13], [10, 11, 13]), ([9, 14], [9, 14]), ([0, 3, 0, 1, 2, 3, 4, 5, 6, 7, 8, 9, 10, 11, 12, 13, 14, 15], [0, 3]), ([16, 15, 0, 1, 2, 3, 4, 5, 6, 7, 8, 9, 10, 11, 12, 13, 14, 15], [15, 16])])
def aquiferref05_Names.B7 : List Nat := [0, 0, 2, 6, 0, 0, 32, 96, 240, 496, 0, 0, 0, 4096, 15360, 32752, 65535, 131071]
theorem aquiferref05_Names.tab7 : rtab .any (opsOf Tryd.f59 7) = aquiferref05_Names.T7 := by kernel_rfl
theorem aquiferref05_Names.bits7 : waitsOk aquiferref05_Names.T7.2 aquiferref05_Names.B7 = true := by kernel_rfl
set_option maxHeartbeats 8000000 in
set_option maxRecDepth 100000 in
theorem aquiferref05_Names.calls (k : Nat) (a0 : ByteArray) (r : List ByteArray) (w : World) (h : aquiferref05_Names.f k a0 = some r) :
    Calls Tryd.prog 59 #[.string a0] w fun e w' => ∃ v0_ : Value, e = .returned (v0_) ∧ Kd.R Kd.string 9 w' w.heap.size (fun _ => True) v0_ r ∧ Below w.heap.size w w' := by
  have HB := Aside0.mk (Below.refl w.heap.size w)
  have H : (aquiferref05_Names.l0 k a0 (([(⟨#[]⟩ : ByteArray)] : List ByteArray)) 0) = some r := h
  clear h
  obtain ⟨y114, hy114⟩ : ∃ y_ : List ByteArray, y_ = (([(⟨#[]⟩ : ByteArray)] : List ByteArray)) := ⟨_, rfl⟩
  replace H : (aquiferref05_Names.l0 k a0 y114 0) = some r := by first | (rw [hy114]; with_reducible exact H) | (have H2_ := (Option.bind_some _ _).symm.trans H; rw [hy114]; with_reducible exact H2_) | (have H2_ := (Option.bind_some _ _).symm.trans H; with_reducible exact H2_) | with_reducible exact H | (rw [hy114]; exact H) | exact H
  have Ny114 := Aside0.mk hy114
  clear hy114
  have H' := Aside0.mk H
  clear H
  go_enter Tryd.func59, Tryd.ntmps59
  go_wp2_with (first | ((with_reducible refine gate_dst (N := 5) rfl ?_); refine Kd.R_lit Kd.string _ 9 ?hg (N := 5) ?hd (xs := ([(⟨#[]⟩ : ByteArray)] : List ByteArray)) (inner := [.string (⟨#[]⟩ : ByteArray)]) (ok := fun _ => True) (okp := fun _ => True) ?hr ?hp (fun _ hk => hk) trivial (Below.refl _ _) (Nat.le_refl _) (by simp) ?_; (case hd => rfl); (case hg => rfl); (case hr => first | (go_simp; done) | (go_simp; rfl)); (case hp => exact (Reps.one (show Kd.M Kd.string _ _ _ (⟨#[]⟩ : ByteArray) [.string (⟨#[]⟩ : ByteArray)] from rfl) (Reps.none _ _))); intro v115 w2 ho3 hb hg_ hnew_; clear hg_ hnew_; (first | rw [← Ny114.out] at ho3 | (simp only [Int.reduceToNat] at ho3; rw [← Ny114.out] at ho3)); have n0_ := Aside0.mk (Kd.R_lower ho3 (sizU HB.out)); have n1_ := Aside0.mk (below_step (belU HB.out) hb); clear HB; have HO116 := n0_; have HB := n1_; clear n0_ n1_; clear hb ho3))
  go_loopg [3, 4] k (fun kq v3 v4 w' => ∃ (x3_1 : List ByteArray) (x4_1 : Int), v4 = .int .i64 x4_1 ∧ Aside0 (aquiferref05_Names.l0 kq a0 x3_1 x4_1 = some r) ∧ Aside0 (kq ≤ k) ∧ Aside0 (Kd.R Kd.string 9 w' w.heap.size (fun _ => True) v3 x3_1) ∧ Aside0 (Below w.heap.size w w'))
  case atStart => exact ⟨(y114), (0), (by first | rfl | (simp; done) | (simp [*]; done)), H', ⟨Nat.le_refl _⟩, ⟨RU HO116.out⟩, ⟨belU HB.out⟩⟩
  case round =>
    clear H'
    try clear p2
    obtain ⟨x3_1, x4_1, rfl, HA, HK1, HO_3, HB⟩ := hrel
    cases gk with
    | zero => exact absurd HA.out (by simp [aquiferref05_Names.l0])
    | succ k1 =>
      have H := HA.out
      clear HA
      simp only [aquiferref05_Names.l0] at H
      by_cases c4 : x4_1 < (a0.size : Int)
      · rw [if_pos c4] at H
        have c4b0 : decide (x4_1 < (a0.size : Int)) = true := decide_eq_true c4
        clear c4
        by_cases c5 : 0 ≤ x4_1
        · rw [if_pos c5] at H
          have c5b0 : decide (0 ≤ x4_1) = true := decide_eq_true c5
          clear c5
          by_cases c7 : (bt a0 x4_1) = 47
          · rw [if_pos c7] at H
            have c7b0 : ((bt a0 x4_1) == 47) = true := beq_iff_eq.mpr c7
            have c7b1 : ((bt a0 x4_1) != 47) = false := bne_eq_false_iff_eq.mpr c7
            clear c7
            by_cases c8 : x3_1.length < 8796093022208
            · rw [if_pos c8] at H
              have LMc8 := Aside0.mk c8
              clear c8
              obtain ⟨y117, hy117⟩ : ∃ y_ : List ByteArray, y_ = (x3_1 ++ [(⟨#[]⟩ : ByteArray)]) := ⟨_, rfl⟩
              replace H : (aquiferref05_Names.l0 k1 a0 y117 (wrap64 (x4_1 + 1))) = some r := by first | (rw [hy117]; with_reducible exact H) | (have H2_ := (Option.bind_some _ _).symm.trans H; rw [hy117]; with_reducible exact H2_) | (have H2_ := (Option.bind_some _ _).symm.trans H; with_reducible exact H2_) | with_reducible exact H | (rw [hy117]; exact H) | exact H
              have Ny117 := Aside0.mk hy117
              clear hy117
              have H' := Aside0.mk H
              clear H
              have p6 : 0 ≤ (x4_1 : Int) := of_decide_eq_true (by first | (with_reducible assumption) | assumption)
              have q6 : x4_1 < (a0.size : Int) := of_decide_eq_true (by first | (with_reducible assumption) | assumption)
              have hx6 := bt_at a0 x4_1
              replace p6 := eq_true p6
              replace q6 := eq_true q6
              go_wp2_with (first | ((with_reducible refine gate_builtin (b := .append) (xs := #[.tmp 16, .tmp 17]) rfl ?_); at_builtin; refine Kd.R_append Kd.string (w0 := w) w.heap.size rfl (.tmp 16) (.tmp 17) 22 9 (.string ⟨#[]⟩) 16 rfl Tryd.underlying22 info9 rfl (by decide) (by omega) u3 x3_1 (⟨#[]⟩ : ByteArray) [.string (⟨#[]⟩ : ByteArray)] (fun _ => True) (fun _ => False) rfl rfl ?aP (fun _ hk => hk.elim) ?aF ?aO ?aB ?aS ?aL ?_; (case aP => exact rfl); (case aB => exact (belU HB.out)); (case aF => exact (fun _ _ => trivial)); (case aO => exact (RU HO_3.out)); (case aS => exact (sizU HB.out)); (case aL => have := LMc8.out; omega); intro v118 w9 ho hb hg hat; rw [← Ny117.out] at ho; have n0_ := Aside0.mk (hb); have n1_ := Aside0.mk (ho); clear HB; clear HO_3; have HB := n0_; have HO119 := n1_; clear n0_ n1_; clear ho hb hg hat))
              go_roundg k1
              case measure => have := HK1.out; omega
              case rel => exact ⟨(y117), (wrap64 (x4_1 + 1)), (by first | rfl | (simp; done) | (simp [*]; done)), H', ⟨by have := HK1.out; omega⟩, ⟨RU HO119.out⟩, ⟨belU HB.out⟩⟩
            · rw [if_neg c8] at H
              exact absurd H (by simp)
          · rw [if_neg c7] at H
            have c7b0 : ((bt a0 x4_1) == 47) = false := beq_eq_false_iff_ne.mpr c7
            have c7b1 : ((bt a0 x4_1) != 47) = true := bne_iff_ne.mpr c7
            obtain ⟨ji10, hji10⟩ : ∃ j_ : Int, (wrap64 ((x3_1.length : Int) - 1)) = j_ := ⟨_, rfl⟩
            replace H : (if 0 ≤ (ji10) then (if (ji10) < (x3_1.length : Int) then (if x4_1 ≤ (wrap64 (x4_1 + 1)) then (if (wrap64 (x4_1 + 1)) ≤ (a0.size : Int) then (if (rdOf ByteArray.empty x3_1 (ji10)).size + (a0.extract (x4_1 : Int).toNat ((wrap64 (x4_1 + 1)) : Int).toNat).size ≤ 9223372036854775807 then (aquiferref05_Names.l0 k1 a0 (x3_1.set ((ji10) : Int).toNat ((rdOf ByteArray.empty x3_1 (ji10)) ++ (a0.extract (x4_1 : Int).toNat ((wrap64 (x4_1 + 1)) : Int).toNat))) (wrap64 (x4_1 + 1))) else (none)) else (none)) else (none)) else (none)) else (none)) = some r := by first | (rw [hji10] at H; exact H) | (simp only [hji10] at H ⊢; exact H)
            have hji10w : (IntKind.i64.wrap ((x3_1.length : Int) - 1)) = ji10 := (i64_w _).trans hji10
            by_cases c11 : 0 ≤ (ji10)
            · rw [if_pos c11] at H
              have c11b0 : decide (0 ≤ (ji10)) = true := decide_eq_true c11
              clear c11
              by_cases c12 : (ji10) < (x3_1.length : Int)
              · rw [if_pos c12] at H
                have c12b0 : decide ((ji10) < (x3_1.length : Int)) = true := decide_eq_true c12
                clear c12
                have c13b0 := eq_true (of_decide_eq_true (by first | (with_reducible assumption) | assumption) : 0 ≤ x4_1)
                by_cases c14 : x4_1 ≤ (wrap64 (x4_1 + 1))
                · rw [if_pos c14] at H
                  have c14b0 := eq_true c14
                  have c14b1 : decide (x4_1 ≤ (wrap64 (x4_1 + 1))) = true := decide_eq_true c14
                  by_cases c15 : (wrap64 (x4_1 + 1)) ≤ (a0.size : Int)
                  · rw [if_pos c15] at H
                    have c15b0 := eq_true c15
                    have c15b1 : decide ((wrap64 (x4_1 + 1)) ≤ (a0.size : Int)) = true := decide_eq_true c15
                    by_cases c16 : (rdOf ByteArray.empty x3_1 (ji10)).size + (a0.extract (x4_1 : Int).toNat ((wrap64 (x4_1 + 1)) : Int).toNat).size ≤ 9223372036854775807
                    · rw [if_pos c16] at H
                      have c16b0 := eq_true c16
                      have c16b1 : decide ((rdOf ByteArray.empty x3_1 (ji10)).size + (a0.extract (x4_1 : Int).toNat ((wrap64 (x4_1 + 1)) : Int).toNat).size ≤ 9223372036854775807) = true := decide_eq_true c16
                      try have c16b2 : (9223372036854775807 < (rdOf ByteArray.empty x3_1 (ji10)).size + (a0.extract (x4_1 : Int).toNat ((wrap64 (x4_1 + 1)) : Int).toNat).size) = False := eq_false (Nat.not_lt.2 c16)
                      try have c16b3 : (9223372036854775807 < (rdOf ByteArray.empty x3_1 (ji10)).size + (((wrap64 (x4_1 + 1)) : Int).toNat - (x4_1 : Int).toNat)) = False := eq_false (by have h_ := c16; simp only [ByteArray.size_extract] at h_; omega)
                      obtain ⟨y121, hy121⟩ : ∃ y_ : List ByteArray, y_ = (x3_1.set ((ji10) : Int).toNat ((rdOf ByteArray.empty x3_1 (ji10)) ++ (a0.extract (x4_1 : Int).toNat ((wrap64 (x4_1 + 1)) : Int).toNat))) := ⟨_, rfl⟩
                      replace H : (aquiferref05_Names.l0 k1 a0 y121 (wrap64 (x4_1 + 1))) = some r := by first | (rw [hy121]; with_reducible exact H) | (have H2_ := (Option.bind_some _ _).symm.trans H; rw [hy121]; with_reducible exact H2_) | (have H2_ := (Option.bind_some _ _).symm.trans H; with_reducible exact H2_) | with_reducible exact H | (rw [hy121]; exact H) | exact H
                      have Ny121 := Aside0.mk hy121
                      clear hy121
                      have H' := Aside0.mk H
                      clear H
                      have p6 : 0 ≤ (x4_1 : Int) := of_decide_eq_true (by first | (with_reducible assumption) | assumption)
                      have q6 : x4_1 < (a0.size : Int) := of_decide_eq_true (by first | (with_reducible assumption) | assumption)
                      have hx6 := bt_at a0 x4_1
                      replace p6 := eq_true p6
                      replace q6 := eq_true q6
                      try go_wp2
                      have n0_ := Aside0.mk (Kd.R_drew HO_3.out)
                      have n1_ := Aside0.mk (below_drew1 HB.out)
                      clear HO_3
                      clear HB
                      have HO_3 := n0_
                      have HB := n1_
                      clear n0_ n1_
                      obtain ⟨Ao19, co19, eo19⟩ := Kd.R_slice HO_3.out
                      (first | subst eo19 | (injection eo19 with f1_ f2_ f3_; have f4_ := f1_.symm; have f5_ := f3_.symm; clear f1_ f2_ f3_; subst f4_; subst f5_))
                      have p120 : 0 ≤ ((ji10) : Int) := of_decide_eq_true (by first | (with_reducible assumption) | assumption)
                      have q120 : (ji10) < (x3_1.length : Int) := of_decide_eq_true (by first | (with_reducible assumption) | assumption)
                      obtain ⟨ad120, e120, hx120_0⟩ := Kd.at_string (Kd.R_reads' HO_3.out).2.2 (ji10) p120 q120
                      cases e120
                      replace p120 := eq_true p120
                      replace q120 := eq_true q120
                      have p17 : 0 ≤ ((ji10) : Int) := of_decide_eq_true (by first | (with_reducible assumption) | assumption)
                      have q17 : ((ji10) : Int) < ((x3_1.length : Int) : Int) := of_decide_eq_true (by first | (with_reducible assumption) | assumption)
                      obtain ⟨go17, co17, eo17, gb17, gl17, cl17, HG17⟩ := Kd.R_form HO_3.out (by omega)
                      (first | cases eo17 | (injection eo17 with ea_ en_ ec_; (first | subst ea_ | (injection ea_ with ea_; subst ea_)); subst ec_; clear en_))
                      have GB17 := Aside0.mk gb17
                      have GG17 := Aside0.mk HG17
                      clear gb17 gl17 HG17
                      (first | simp only [add_plain] at hx120_0 | skip)
                      obtain ⟨hx17_0, hf17_0⟩ := Kd.R_celln (⟨#[]⟩ : ByteArray) HO_3.out ((ji10) : Int) p17 q17
                      replace p17 := eq_true p17
                      replace q17 := eq_true q17
                      have HP20 := Kd.R_putn HO_3.out ((ji10) : Int) ((rdOf ByteArray.empty x3_1 (ji10)) ++ (a0.extract (x4_1 : Int).toNat ((wrap64 (x4_1 + 1)) : Int).toNat))
                      rw [← Ny121.out] at HP20
                      have HQ20 := Aside0.mk HP20
                      clear HP20
                      refine start_ (n := 18) (S := fun w' => w'.cell? ⟨go17, ((ji10)).toNat, none⟩ = some (.string (rdOf ByteArray.empty x3_1 (ji10)))) (ds := [17]) #[false, false, false, false, false, false, false, false, false, false, false, false, false, false, false, false, false, false] (by kernel_rfl) rfl rfl (hx120_0) (fun hHeld => ?_); refine with_tabW aquiferref05_Names.tab7 aquiferref05_Names.bits7 (fun HT_ HW_ => ?_)
                      generalize wr.drew = w18 at HO_3 HB GG17 HQ20 hf17_0 hx120_0 hx17_0 hHeld ⊢
                      refine pure_ (i := 0) (N := some 19) (v := ?_) (a' := ?_) #[true, false, false, false, false, false, false, false, false, false, false, false, false, false, false, false, false, false] rfl rfl (any_of HT_.out (by kernel_rfl)) (fun _ _ _ h => h) (Or.inl ⟨by rfl, ?_⟩) ?_ ?_
                      rotate_left
                      · intro w'
                        go_simp
                        with_reducible rfl
                      rotate_left
                      · simp only [Act.put, List.setIfInBounds_toArray, List.set_cons_zero, List.set_cons_succ, i64_w, i32_w]
                        rfl
                      refine pure_ (i := 1) (N := some 20) (v := ?_) (a' := ?_) #[true, true, false, false, false, false, false, false, false, false, false, false, false, false, false, false, false, false] rfl rfl (any_of HT_.out (by kernel_rfl)) (fun _ _ _ h => h) (Or.inl ⟨by rfl, ?_⟩) ?_ ?_
                      rotate_left
                      · intro w'
                        go_simp
                        with_reducible rfl
                      rotate_left
                      · simp only [Act.put, List.setIfInBounds_toArray, List.set_cons_zero, List.set_cons_succ, i64_w, i32_w]
                        rfl
                      refine pure_ (i := 2) (N := some 21) (v := ?_) (a' := ?_) #[true, true, true, false, false, false, false, false, false, false, false, false, false, false, false, false, false, false] rfl rfl (any_of HT_.out (by kernel_rfl)) (fun _ _ _ h => h) (Or.inl ⟨by rfl, ?_⟩) ?_ ?_
                      rotate_left
                      · intro w'
                        go_simp
                        with_reducible rfl
                      rotate_left
                      · simp only [Act.put, List.setIfInBounds_toArray, List.set_cons_zero, List.set_cons_succ, i64_w, i32_w]
                        rfl
                      refine pure_ (i := 3) (N := some 22) (v := ?_) (a' := ?_) #[true, true, true, true, false, false, false, false, false, false, false, false, false, false, false, false, false, false] rfl rfl (any_of HT_.out (by kernel_rfl)) (fun _ _ _ h => h) (Or.inl ⟨by rfl, ?_⟩) ?_ ?_
                      rotate_left
                      · intro w'
                        go_simp
                        with_reducible rfl
                      rotate_left
                      · simp only [Act.put, List.setIfInBounds_toArray, List.set_cons_zero, List.set_cons_succ, i64_w, i32_w]
                        rfl
                      refine pure_ (i := 4) (N := some 23) (v := ?_) (a' := ?_) #[true, true, true, true, true, false, false, false, false, false, false, false, false, false, false, false, false, false] rfl rfl (any_of HT_.out (by kernel_rfl)) (fun _ _ _ h => h) (Or.inl ⟨by rfl, ?_⟩) ?_ ?_
                      rotate_left
                      · intro w'
                        go_simp
                        with_reducible rfl
                      rotate_left
                      · simp only [Act.put, List.setIfInBounds_toArray, List.set_cons_zero, List.set_cons_succ, i64_w, i32_w]
                        rfl
                      refine pure_ (i := 5) (N := some 24) (v := ?_) (a' := ?_) #[true, true, true, true, true, true, false, false, false, false, false, false, false, false, false, false, false, false] rfl rfl (any_of HT_.out (by kernel_rfl)) (fun _ _ _ h => h) (Or.inl ⟨by rfl, ?_⟩) ?_ ?_
                      rotate_left
                      · intro w'
                        go_simp
                        with_reducible rfl
                      rotate_left
                      · simp only [Act.put, List.setIfInBounds_toArray, List.set_cons_zero, List.set_cons_succ, i64_w, i32_w]
                        rfl
                      refine pure_ (i := 6) (N := some 25) (v := ?_) (a' := ?_) #[true, true, true, true, true, true, true, false, false, false, false, false, false, false, false, false, false, false] rfl rfl (any_of HT_.out (by kernel_rfl)) (fun _ _ _ h => h) (Or.inl ⟨by rfl, ?_⟩) ?_ ?_
                      rotate_left
                      · intro w'
                        go_simp
                        with_reducible rfl
                      rotate_left
                      · simp only [Act.put, List.setIfInBounds_toArray, List.set_cons_zero, List.set_cons_succ, i64_w, i32_w]
                        rfl
                      refine pure_ (i := 7) (N := some 26) (v := ?_) (a' := ?_) #[true, true, true, true, true, true, true, true, false, false, false, false, false, false, false, false, false, false] rfl rfl (any_of HT_.out (by kernel_rfl)) (fun _ _ _ h => h) (Or.inl ⟨by rfl, ?_⟩) ?_ ?_
                      rotate_left
                      · intro w'
                        go_simp
                        with_reducible rfl
                      rotate_left
                      · simp only [Act.put, List.setIfInBounds_toArray, List.set_cons_zero, List.set_cons_succ, i64_w, i32_w]
                        rfl
                      refine pure_ (i := 8) (N := some 27) (v := ?_) (a' := ?_) #[true, true, true, true, true, true, true, true, true, false, false, false, false, false, false, false, false, false] rfl rfl (any_of HT_.out (by kernel_rfl)) (fun _ _ _ h => h) (Or.inl ⟨by rfl, ?_⟩) ?_ ?_
                      rotate_left
                      · intro w'
                        go_simp
                        with_reducible rfl
                      rotate_left
                      · simp only [Act.put, List.setIfInBounds_toArray, List.set_cons_zero, List.set_cons_succ, i64_w, i32_w]
                        rfl
                      refine pure_ (i := 10) (N := some 29) (v := ?_) (a' := ?_) #[true, true, true, true, true, true, true, true, true, false, true, false, false, false, false, false, false, false] rfl rfl (any_of HT_.out (by kernel_rfl)) (fun _ _ _ h => h) (Or.inl ⟨by rfl, ?_⟩) ?_ ?_
                      rotate_left
                      · intro w'
                        go_simp
                        with_reducible rfl
                      rotate_left
                      · simp only [Act.put, List.setIfInBounds_toArray, List.set_cons_zero, List.set_cons_succ, i64_w, i32_w]
                        rfl
                      refine pure_ (i := 11) (N := some 30) (v := ?_) (a' := ?_) #[true, true, true, true, true, true, true, true, true, false, true, true, false, false, false, false, false, false] rfl rfl (any_of HT_.out (by kernel_rfl)) (fun _ _ _ h => h) (Or.inl ⟨by rfl, ?_⟩) ?_ ?_
                      rotate_left
                      · intro w'
                        go_simp
                        with_reducible rfl
                      rotate_left
                      · simp only [Act.put, List.setIfInBounds_toArray, List.set_cons_zero, List.set_cons_succ, i64_w, i32_w]
                        rfl
                      refine pure_ (i := 12) (N := some 31) (v := ?_) (a' := ?_) #[true, true, true, true, true, true, true, true, true, false, true, true, true, false, false, false, false, false] rfl rfl (any_of HT_.out (by kernel_rfl)) (fun _ _ _ h => h) (Or.inl ⟨by rfl, ?_⟩) ?_ ?_
                      rotate_left
                      · intro w'
                        go_simp
                        with_reducible rfl
                      rotate_left
                      · simp only [Act.put, List.setIfInBounds_toArray, List.set_cons_zero, List.set_cons_succ, i64_w, i32_w]
                        rfl
                      refine pure_ (i := 13) (N := some 32) (v := ?_) (a' := ?_) #[true, true, true, true, true, true, true, true, true, false, true, true, true, true, false, false, false, false] rfl rfl (any_of HT_.out (by kernel_rfl)) (fun _ _ _ h => h) (Or.inl ⟨by rfl, ?_⟩) ?_ ?_
                      rotate_left
                      · intro w'
                        go_simp
                        with_reducible rfl
                      rotate_left
                      · simp only [Act.put, List.setIfInBounds_toArray, List.set_cons_zero, List.set_cons_succ, i64_w, i32_w]
                        rfl
                      refine pure_ (i := 14) (N := some 33) (v := ?_) (a' := ?_) #[true, true, true, true, true, true, true, true, true, false, true, true, true, true, true, false, false, false] rfl rfl (any_of HT_.out (by kernel_rfl)) (fun _ _ _ h => h) (Or.inl ⟨by rfl, ?_⟩) ?_ ?_
                      rotate_left
                      · intro w'
                        go_simp
                        with_reducible rfl
                      rotate_left
                      · simp only [Act.put, List.setIfInBounds_toArray, List.set_cons_zero, List.set_cons_succ, i64_w, i32_w]
                        rfl
                      refine take_ (i := 9) (N := some 28) (v := ?_) (a' := ?_) #[true, true, true, true, true, true, true, true, true, true, true, true, true, true, true, false, false, false] rfl rfl (take_ofW HT_.out HW_.out (by kernel_rfl)) (fun _ _ _ h => h) (Or.inl ⟨by rfl, ?_⟩) hHeld ?_ ?_
                      rotate_left
                      · intro w' s0
                        go_simp
                        with_reducible rfl
                      rotate_left
                      · simp only [Act.put, List.setIfInBounds_toArray, List.set_cons_zero, List.set_cons_succ, i64_w, i32_w]
                        rfl
                      refine pure_ (i := 15) (N := some 34) (v := ?_) (a' := ?_) #[true, true, true, true, true, true, true, true, true, true, true, true, true, true, true, true, false, false] rfl rfl (any_of HT_.out (by kernel_rfl)) (fun _ _ _ h => h) (Or.inl ⟨by rfl, ?_⟩) ?_ ?_
                      rotate_left
                      · intro w'
                        go_simp
                        with_reducible rfl
                      rotate_left
                      · simp only [Act.put, List.setIfInBounds_toArray, List.set_cons_zero, List.set_cons_succ, i64_w, i32_w]
                        rfl
                      refine pure_ (i := 16) (N := some 35) (v := ?_) (a' := ?_) #[true, true, true, true, true, true, true, true, true, true, true, true, true, true, true, true, true, false] rfl rfl (any_of HT_.out (by kernel_rfl)) (fun _ _ _ h => h) (Or.inl ⟨by rfl, ?_⟩) ?_ ?_
                      rotate_left
                      · intro w'
                        go_simp
                        with_reducible rfl
                      rotate_left
                      · simp only [Act.put, List.setIfInBounds_toArray, List.set_cons_zero, List.set_cons_succ, i64_w, i32_w]
                        rfl
                      refine last_ (i := 17) (N := none) #[true, true, true, true, true, true, true, true, true, true, true, true, true, true, true, true, true, true] rfl rfl (one_of HT_.out (by kernel_rfl)) (by decide) (fun K hK => ?_)
                      refine skip_ (w1 := ?_) (by rfl) rfl ?_ ?_
                      rotate_left
                      · go_simp
                        rfl
                      refine hK.out _ _ ?_
                      clear hK K
                      refine done_ (done_of HT_.out (by kernel_rfl)) ?_
                      try go_wp2
                      go_roundg k1
                      case measure => have := HK1.out; omega
                      case rel => exact ⟨(y121), (wrap64 (x4_1 + 1)), (by first | rfl | (simp; done) | (simp [*]; done)), H', ⟨by have := HK1.out; omega⟩, ⟨RU HQ20.out⟩, ⟨belG HB.out GB17.out⟩⟩
                    · rw [if_neg c16] at H
                      exact absurd H (by simp)
                  · rw [if_neg c15] at H
                    exact absurd H (by simp)
                · rw [if_neg c14] at H
                  exact absurd H (by simp)
              · rw [if_neg c12] at H
                exact absurd H (by simp)
            · rw [if_neg c11] at H
              exact absurd H (by simp)
        · rw [if_neg c5] at H
          exact absurd H (by simp)
      · rw [if_neg c4] at H
        have c4b0 : decide (x4_1 < (a0.size : Int)) = false := decide_eq_false c4
        clear c4
        obtain rfl := Option.some.inj H
        go_wp2
        go_ret
        exact ⟨_, by first | rfl | (simp [errW_none, errW_some] <;> rfl) | (simp [*, errW_none, errW_some] <;> rfl), by (with_reducible repeat (first | apply Kd.R_alloc | apply Kd.R_drewN | apply Kd.R_drew)); exact HO_3.out, belU HB.out⟩

end Go.Proofs.YtkflalaocnghcaaDoor.Q

namespace Go.Proofs.YtkflalaocnghcaaDoor.Q
open Go.RowKit Go.Proofs.YtkflalaocnghcaaDoorW.PrintWords Go.Proofs.YtkflalaocnghcaaDoorW.PrintLast Go.Proofs.YtkflalaocnghcaaDoorW.PrintMore
attribute [local go_sem] max2_int min2_int max_two min_two max_three min_three max_four min_four   -- for this text's walks alone
attribute [local go_sem ↓] Go.Proofs.YtkflalaocnghcaaDoorK.isSome_setCell
set_option linter.unusedVariables false
set_option linter.unusedSimpArgs false

/-! ### aquiferref05_sign: function 81 -/
def aquiferref05_sign.f (a0 : Int) : Option (Bool) := if a0 ≥ 97 then (if a0 ≤ 122 then (some true) else (if a0 ≥ 48 then (if a0 ≤ 57 then (some true) else (if a0 = 95 then (some true) else (if a0 = 45 then (some true) else (some (a0 == 126))))) else (if a0 = 95 then (some true) else (if a0 = 45 then (some true) else (some (a0 == 126)))))) else (if a0 ≥ 48 then (if a0 ≤ 57 then (some true) else (if a0 = 95 then (some true) else (if a0 = 45 then (some true) else (some (a0 == 126))))) else (if a0 = 95 then (some true) else (if a0 = 45 then (some true) else (some (a0 == 126)))))
set_option maxHeartbeats 8000000 in
set_option maxRecDepth 100000 in
theorem aquiferref05_sign.calls (a0 : Int) (r : Bool) (w : World) (h : aquiferref05_sign.f a0 = some r) :
    Calls Tryd.prog 81 #[.int .u8 a0] w fun e w' => e = .returned (.bool r) ∧ Drawn0 w w' := by
  have H : (if a0 ≥ 97 then (if a0 ≤ 122 then (some true) else (if a0 ≥ 48 then (if a0 ≤ 57 then (some true) else (if a0 = 95 then (some true) else (if a0 = 45 then (some true) else (some (a0 == 126))))) else (if a0 = 95 then (some true) else (if a0 = 45 then (some true) else (some (a0 == 126)))))) else (if a0 ≥ 48 then (if a0 ≤ 57 then (some true) else (if a0 = 95 then (some true) else (if a0 = 45 then (some true) else (some (a0 == 126))))) else (if a0 = 95 then (some true) else (if a0 = 45 then (some true) else (some (a0 == 126)))))) = some r := h
  clear h
  by_cases c2 : a0 ≥ 97
  · rw [if_pos c2] at H
    have c2b0 : decide (97 ≤ a0) = true := decide_eq_true c2
    clear c2
    by_cases c3 : a0 ≤ 122
    · rw [if_pos c3] at H
      have c3b0 : decide (a0 ≤ 122) = true := decide_eq_true c3
      clear c3
      obtain rfl := Option.some.inj H
      go_enter Tryd.func81, Tryd.ntmps81
      go_wp2
      go_ret
      exact ⟨by first | rfl | (simp; done) | (simp [*]; done), by repeat (first | exact Drawn0.refl _ | apply Drawn0.step)⟩
    · rw [if_neg c3] at H
      have c3b0 : decide (a0 ≤ 122) = false := decide_eq_false c3
      clear c3
      by_cases c4 : a0 ≥ 48
      · rw [if_pos c4] at H
        have c4b0 : decide (48 ≤ a0) = true := decide_eq_true c4
        clear c4
        by_cases c5 : a0 ≤ 57
        · rw [if_pos c5] at H
          have c5b0 : decide (a0 ≤ 57) = true := decide_eq_true c5
          clear c5
          obtain rfl := Option.some.inj H
          go_enter Tryd.func81, Tryd.ntmps81
          go_wp2
          go_ret
          exact ⟨by first | rfl | (simp; done) | (simp [*]; done), by repeat (first | exact Drawn0.refl _ | apply Drawn0.step)⟩
        · rw [if_neg c5] at H
          have c5b0 : decide (a0 ≤ 57) = false := decide_eq_false c5
          clear c5
          by_cases c6 : a0 = 95
          · rw [if_pos c6] at H
            have c6b0 : (a0 == 95) = true := beq_iff_eq.mpr c6
            have c6b1 : (a0 != 95) = false := bne_eq_false_iff_eq.mpr c6
            clear c6
            obtain rfl := Option.some.inj H
            go_enter Tryd.func81, Tryd.ntmps81
            go_wp2
            go_ret
            exact ⟨by first | rfl | (simp; done) | (simp [*]; done), by repeat (first | exact Drawn0.refl _ | apply Drawn0.step)⟩
          · rw [if_neg c6] at H
            have c6b0 : (a0 == 95) = false := beq_eq_false_iff_ne.mpr c6
            have c6b1 : (a0 != 95) = true := bne_iff_ne.mpr c6
            by_cases c7 : a0 = 45
            · rw [if_pos c7] at H
              have c7b0 : (a0 == 45) = true := beq_iff_eq.mpr c7
              have c7b1 : (a0 != 45) = false := bne_eq_false_iff_eq.mpr c7
              clear c7
              obtain rfl := Option.some.inj H
              go_enter Tryd.func81, Tryd.ntmps81
              go_wp2
              go_ret
              exact ⟨by first | rfl | (simp; done) | (simp [*]; done), by repeat (first | exact Drawn0.refl _ | apply Drawn0.step)⟩
            · rw [if_neg c7] at H
              have c7b0 : (a0 == 45) = false := beq_eq_false_iff_ne.mpr c7
              have c7b1 : (a0 != 45) = true := bne_iff_ne.mpr c7
              obtain rfl := Option.some.inj H
              go_enter Tryd.func81, Tryd.ntmps81
              go_wp2
              go_ret
              exact ⟨by first | rfl | (simp; done) | (simp [*]; done), by repeat (first | exact Drawn0.refl _ | apply Drawn0.step)⟩
      · rw [if_neg c4] at H
        have c4b0 : decide (48 ≤ a0) = false := decide_eq_false c4
        clear c4
        by_cases c8 : a0 = 95
        · rw [if_pos c8] at H
          have c8b0 : (a0 == 95) = true := beq_iff_eq.mpr c8
          have c8b1 : (a0 != 95) = false := bne_eq_false_iff_eq.mpr c8
          clear c8
          obtain rfl := Option.some.inj H
          go_enter Tryd.func81, Tryd.ntmps81
          go_wp2
          go_ret
          exact ⟨by first | rfl | (simp; done) | (simp [*]; done), by repeat (first | exact Drawn0.refl _ | apply Drawn0.step)⟩
        · rw [if_neg c8] at H
          have c8b0 : (a0 == 95) = false := beq_eq_false_iff_ne.mpr c8
          have c8b1 : (a0 != 95) = true := bne_iff_ne.mpr c8
          by_cases c9 : a0 = 45
          · rw [if_pos c9] at H
            have c9b0 : (a0 == 45) = true := beq_iff_eq.mpr c9
            have c9b1 : (a0 != 45) = false := bne_eq_false_iff_eq.mpr c9
            clear c9
            obtain rfl := Option.some.inj H
            go_enter Tryd.func81, Tryd.ntmps81
            go_wp2
            go_ret
            exact ⟨by first | rfl | (simp; done) | (simp [*]; done), by repeat (first | exact Drawn0.refl _ | apply Drawn0.step)⟩
          · rw [if_neg c9] at H
            have c9b0 : (a0 == 45) = false := beq_eq_false_iff_ne.mpr c9
            have c9b1 : (a0 != 45) = true := bne_iff_ne.mpr c9
            obtain rfl := Option.some.inj H
            go_enter Tryd.func81, Tryd.ntmps81
            go_wp2
            go_ret
            exact ⟨by first | rfl | (simp; done) | (simp [*]; done), by repeat (first | exact Drawn0.refl _ | apply Drawn0.step)⟩
  · rw [if_neg c2] at H
    have c2b0 : decide (97 ≤ a0) = false := decide_eq_false c2
    clear c2
    by_cases c10 : a0 ≥ 48
    · rw [if_pos c10] at H
      have c10b0 : decide (48 ≤ a0) = true := decide_eq_true c10
      clear c10
      by_cases c11 : a0 ≤ 57
      · rw [if_pos c11] at H
        have c11b0 : decide (a0 ≤ 57) = true := decide_eq_true c11
        clear c11
        obtain rfl := Option.some.inj H
        go_enter Tryd.func81, Tryd.ntmps81
        go_wp2
        go_ret
        exact ⟨by first | rfl | (simp; done) | (simp [*]; done), by repeat (first | exact Drawn0.refl _ | apply Drawn0.step)⟩
      · rw [if_neg c11] at H
        have c11b0 : decide (a0 ≤ 57) = false := decide_eq_false c11
        clear c11
        by_cases c12 : a0 = 95
        · rw [if_pos c12] at H
          have c12b0 : (a0 == 95) = true := beq_iff_eq.mpr c12
          have c12b1 : (a0 != 95) = false := bne_eq_false_iff_eq.mpr c12
          clear c12
          obtain rfl := Option.some.inj H
          go_enter Tryd.func81, Tryd.ntmps81
          go_wp2
          go_ret
          exact ⟨by first | rfl | (simp; done) | (simp [*]; done), by repeat (first | exact Drawn0.refl _ | apply Drawn0.step)⟩
        · rw [if_neg c12] at H
          have c12b0 : (a0 == 95) = false := beq_eq_false_iff_ne.mpr c12
          have c12b1 : (a0 != 95) = true := bne_iff_ne.mpr c12
          by_cases c13 : a0 = 45
          · rw [if_pos c13] at H
            have c13b0 : (a0 == 45) = true := beq_iff_eq.mpr c13
            have c13b1 : (a0 != 45) = false := bne_eq_false_iff_eq.mpr c13
            clear c13
            obtain rfl := Option.some.inj H
            go_enter Tryd.func81, Tryd.ntmps81
            go_wp2
            go_ret
            exact ⟨by first | rfl | (simp; done) | (simp [*]; done), by repeat (first | exact Drawn0.refl _ | apply Drawn0.step)⟩
          · rw [if_neg c13] at H
            have c13b0 : (a0 == 45) = false := beq_eq_false_iff_ne.mpr c13
            have c13b1 : (a0 != 45) = true := bne_iff_ne.mpr c13
            obtain rfl := Option.some.inj H
            go_enter Tryd.func81, Tryd.ntmps81
            go_wp2
            go_ret
            exact ⟨by first | rfl | (simp; done) | (simp [*]; done), by repeat (first | exact Drawn0.refl _ | apply Drawn0.step)⟩
    · rw [if_neg c10] at H
      have c10b0 : decide (48 ≤ a0) = false := decide_eq_false c10
      clear c10
      by_cases c14 : a0 = 95
      · rw [if_pos c14] at H
        have c14b0 : (a0 == 95) = true := beq_iff_eq.mpr c14
        have c14b1 : (a0 != 95) = false := bne_eq_false_iff_eq.mpr c14
        clear c14
        obtain rfl := Option.some.inj H
        go_enter Tryd.func81, Tryd.ntmps81
        go_wp2
        go_ret
        exact ⟨by first | rfl | (simp; done) | (simp [*]; done), by repeat (first | exact Drawn0.refl _ | apply Drawn0.step)⟩
      · rw [if_neg c14] at H
        have c14b0 : (a0 == 95) = false := beq_eq_false_iff_ne.mpr c14
        have c14b1 : (a0 != 95) = true := bne_iff_ne.mpr c14
        by_cases c15 : a0 = 45
        · rw [if_pos c15] at H
          have c15b0 : (a0 == 45) = true := beq_iff_eq.mpr c15
          have c15b1 : (a0 != 45) = false := bne_eq_false_iff_eq.mpr c15
          clear c15
          obtain rfl := Option.some.inj H
          go_enter Tryd.func81, Tryd.ntmps81
          go_wp2
          go_ret
          exact ⟨by first | rfl | (simp; done) | (simp [*]; done), by repeat (first | exact Drawn0.refl _ | apply Drawn0.step)⟩
        · rw [if_neg c15] at H
          have c15b0 : (a0 == 45) = false := beq_eq_false_iff_ne.mpr c15
          have c15b1 : (a0 != 45) = true := bne_iff_ne.mpr c15
          obtain rfl := Option.some.inj H
          go_enter Tryd.func81, Tryd.ntmps81
          go_wp2
          go_ret
          exact ⟨by first | rfl | (simp; done) | (simp [*]; done), by repeat (first | exact Drawn0.refl _ | apply Drawn0.step)⟩

end Go.Proofs.YtkflalaocnghcaaDoor.Q
