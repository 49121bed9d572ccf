/- Parts of the proof: Q17, PRefM, HList, HMerge, HBsf, HConc, KX. -/
import Derived.Test.YtjllbkeobibnkaaDoorZO1
import Derived.Test.YtjllbkeobibnkaaDoorWWords
import Derived.Test.YtjllbkeobibnkaaDoorWMore
import Derived.Test.YtjllbkeobibnkaaDoorZO2
import Derived.StillTailTactics
import Derived.BigQuiet
set_option linter.unusedVariables false
set_option linter.unusedSimpArgs false
namespace Go.Proofs.YtjllbkeobibnkaaDoor.Q
open Go.RowKit Go.Proofs.YtjllbkeobibnkaaDoorW.PrintWords Go.Proofs.YtjllbkeobibnkaaDoorW.PrintLast Go.Proofs.YtjllbkeobibnkaaDoorW.PrintMore Go.Proofs.YtjllbkeobibnkaaDoorK
attribute [local go_sem] max2_int min2_int max_two min_two max_three min_three max_four min_four   -- for this text's walks alone
attribute [local go_sem ↓] Go.Proofs.YtjllbkeobibnkaaDoorK.isSome_setCell
set_option linter.unusedVariables false
set_option linter.unusedSimpArgs false

mutual
def aquiferref05_Compare.l0 : Nat → List ByteArray → List ByteArray → Int → Option (Int)
  | 0, _, _, _ => none
  | k + 1, x5, x6, x7 => if x7 < (x5.length : Int) then (aquiferref05_Compare.j1 k x5 x6 x7 (decide (x7 < (x6.length : Int)))) else (aquiferref05_Compare.j1 k x5 x6 x7 false)
def aquiferref05_Compare.j1 : Nat → List ByteArray → List ByteArray → Int → Bool → Option (Int)
  | 0, _, _, _, _ => none
  | k + 1, x5, x6, x7, x21 => if x21 = true then (if 0 ≤ x7 then (if x7 < (x5.length : Int) then (if x7 < (x6.length : Int) then (if (Op.bytesLess ((rdOf ByteArray.empty x5 x7).toList) ((rdOf ByteArray.empty x6 x7).toList)) = true then (some (-1)) else (if (Op.bytesLess ((rdOf ByteArray.empty x6 x7).toList) ((rdOf ByteArray.empty x5 x7).toList)) = true then (some 1) else (aquiferref05_Compare.l0 k x5 x6 (wrap64 (x7 + 1))))) else (none)) else (none)) else (none)) else (if (x5.length : Int) < (x6.length : Int) then (some (-1)) else (if (x5.length : Int) > (x6.length : Int) then (some 1) else (some 0)))
end
def aquiferref05_Compare.f (k : Nat) (a0 : ByteArray) (a1 : ByteArray) : Option (Int) := (aquiferref05_Names.f k a0).bind fun t119 => ((aquiferref05_Names.f k a1).bind fun t122 => (aquiferref05_Compare.l0 k t119 t122 0))
set_option maxHeartbeats 8000000 in
set_option maxRecDepth 100000 in
theorem aquiferref05_Compare.calls (k : Nat) (a0 : ByteArray) (a1 : ByteArray) (r : Int) (w : World) (h : aquiferref05_Compare.f k a0 a1 = some r) :
    Calls Tryd.prog 67 #[.string a0, .string a1] w fun e w' => e = .returned (.int .i64 r) ∧ Below w.heap.size w w' := by
  have HB := Aside0.mk (Below.refl w.heap.size w)
  have H : ((aquiferref05_Names.f k a0).bind fun t119 => ((aquiferref05_Names.f k a1).bind fun t122 => (aquiferref05_Compare.l0 k t119 t122 0))) = some r := h
  clear h
  replace H := Option.bind_eq_some_iff.mp H
  obtain ⟨t119, A30, H⟩ := H
  replace H : ((aquiferref05_Names.f k a1).bind fun t122 => (aquiferref05_Compare.l0 k t119 t122 0)) = some r := H
  have A3 := Aside0.mk A30
  clear A30
  replace H := Option.bind_eq_some_iff.mp H
  obtain ⟨t122, A40, H⟩ := H
  replace H : (aquiferref05_Compare.l0 k t119 t122 0) = some r := H
  have A4 := Aside0.mk A40
  clear A40
  have H' := Aside0.mk H
  clear H
  go_enter Tryd.func67, Tryd.ntmps67
  go_wp2_with (first | (go_at_call 84; (with_reducible refine (aquiferref05_Names.calls k a0 t119 _ A3.out).mono ?_); rintro e w5 ⟨v120, rfl, ho0, hb⟩; have n0_ := Aside0.mk (Kd.R_lower ho0 (sizU HB.out)); have n1_ := Aside0.mk (below_step (belU HB.out) hb); clear HB; have HO121 := n0_; have HB := n1_; clear n0_ n1_; (try clear hb); (try clear hb2); (try clear hk); (try clear hi); (try clear ho0)) | (go_at_call 84; (with_reducible refine (aquiferref05_Names.calls k a1 t122 _ A4.out).mono ?_); rintro e w6 ⟨v123, rfl, ho0, hb⟩; have n0_ := Aside0.mk (Kd.R_elder' (RU HO121.out) (Kd.R_base ho0) hb); have n1_ := Aside0.mk (Kd.R_lower (Kd.R_new' ho0 (Kd.R_lt (RU HO121.out))) (sizU HB.out)); have n2_ := Aside0.mk (below_step (belU HB.out) hb); clear HO121; clear HB; have HO121 := n0_; have HO124 := n1_; have HB := n2_; clear n0_ n1_ n2_; (try clear hb); (try clear hb2); (try clear hk); (try clear hi); (try clear ho0)))
  repeat (go_quiet (first | (go_at_call 84; (with_reducible refine (aquiferref05_Names.calls k a0 t119 _ A3.out).mono ?_); rintro e w5 ⟨v120, rfl, ho0, hb⟩; have n0_ := Aside0.mk (Kd.R_lower ho0 (sizU HB.out)); have n1_ := Aside0.mk (below_step (belU HB.out) hb); clear HB; have HO121 := n0_; have HB := n1_; clear n0_ n1_; (try clear hb); (try clear hb2); (try clear hk); (try clear hi); (try clear ho0)) | (go_at_call 84; (with_reducible refine (aquiferref05_Names.calls k a1 t122 _ A4.out).mono ?_); rintro e w6 ⟨v123, rfl, ho0, hb⟩; have n0_ := Aside0.mk (Kd.R_elder' (RU HO121.out) (Kd.R_base ho0) hb); have n1_ := Aside0.mk (Kd.R_lower (Kd.R_new' ho0 (Kd.R_lt (RU HO121.out))) (sizU HB.out)); have n2_ := Aside0.mk (below_step (belU HB.out) hb); clear HO121; clear HB; have HO121 := n0_; have HO124 := n1_; have HB := n2_; clear n0_ n1_ n2_; (try clear hb); (try clear hb2); (try clear hk); (try clear hi); (try clear ho0))); try go_wp2_with (first | (go_at_call 84; (with_reducible refine (aquiferref05_Names.calls k a0 t119 _ A3.out).mono ?_); rintro e w5 ⟨v120, rfl, ho0, hb⟩; have n0_ := Aside0.mk (Kd.R_lower ho0 (sizU HB.out)); have n1_ := Aside0.mk (below_step (belU HB.out) hb); clear HB; have HO121 := n0_; have HB := n1_; clear n0_ n1_; (try clear hb); (try clear hb2); (try clear hk); (try clear hi); (try clear ho0)) | (go_at_call 84; (with_reducible refine (aquiferref05_Names.calls k a1 t122 _ A4.out).mono ?_); rintro e w6 ⟨v123, rfl, ho0, hb⟩; have n0_ := Aside0.mk (Kd.R_elder' (RU HO121.out) (Kd.R_base ho0) hb); have n1_ := Aside0.mk (Kd.R_lower (Kd.R_new' ho0 (Kd.R_lt (RU HO121.out))) (sizU HB.out)); have n2_ := Aside0.mk (below_step (belU HB.out) hb); clear HO121; clear HB; have HO121 := n0_; have HO124 := n1_; have HB := n2_; clear n0_ n1_ n2_; (try clear hb); (try clear hb2); (try clear hk); (try clear hi); (try clear ho0))))
  go_loopg [7] k (fun kq v7 w' => ∃ (x7_1 : Int), v7 = .int .i64 x7_1 ∧ Aside0 (aquiferref05_Compare.l0 kq t119 t122 x7_1 = some r) ∧ Aside0 (kq ≤ k) ∧ Aside0 (Kd.R Kd.string 9 w' w.heap.size (fun k_ => some k_ ≠ (v123 : Value).ownBlock) v120 t119) ∧ Aside0 (Kd.R Kd.string 9 w' w.heap.size (fun k_ => some k_ ≠ (v120 : Value).ownBlock) v123 t122) ∧ Aside0 (Below w.heap.size w w'))
  case atStart => exact ⟨(0), (by first | rfl | (simp; done) | (simp [*]; done)), H', ⟨Nat.le_refl _⟩, ⟨by (with_reducible repeat (first | apply Kd.R_alloc | apply Kd.R_drewN | apply Kd.R_drew)); exact Kd.R_mono HO121.out (fun _ hk => hk.2)⟩, ⟨by (with_reducible repeat (first | apply Kd.R_alloc | apply Kd.R_drewN | apply Kd.R_drew)); exact Kd.R_mono HO124.out (fun _ hk => hk.2)⟩, ⟨belU HB.out⟩⟩
  case round =>
    clear H'
    try clear p2
    try clear c6
    obtain ⟨x7_1, rfl, HA, HK1, HO_5, HO_6, HB⟩ := hrel
    cases gk with
    | zero => exact absurd HA.out (by simp [aquiferref05_Compare.l0])
    | succ k1 =>
      have H := HA.out
      clear HA
      simp only [aquiferref05_Compare.l0] at H
      have HC7 := Aside0.mk H
      clear H
      go_upto_region 4 with (fail)
      repeat (go_quiet (fail); go_upto_region 4 with (fail))
      go_cut [21] (fun v21 wc => ∃ (kq : Nat) (x21_6 : Bool), v21 = .bool x21_6 ∧ Aside0 (aquiferref05_Compare.j1 kq t119 t122 x7_1 x21_6 = some r) ∧ Aside0 (kq ≤ k1) ∧ Aside0 (Kd.R Kd.string 9 wc w.heap.size (fun k_ => some k_ ≠ (v123 : Value).ownBlock) v120 t119) ∧ Aside0 (Kd.R Kd.string 9 wc w.heap.size (fun k_ => some k_ ≠ (v120 : Value).ownBlock) v123 t122) ∧ Aside0 (Below w.heap.size w wc))
      case first =>
        have H := HC7.out
        clear HC7
        by_cases c8 : x7_1 < (t119.length : Int)
        · rw [if_pos c8] at H
          have c8b0 : decide (x7_1 < (t119.length : Int)) = true := decide_eq_true c8
          clear c8
          (first | rw [c8b0] | (simp only [i64_w, i32_w]; rw [c8b0]) | skip)
          have H' := Aside0.mk H
          clear H
          obtain ⟨Ao9, co9, eo9⟩ := Kd.R_slice HO_5.out
          subst eo9
          obtain ⟨Ao10, co10, eo10⟩ := Kd.R_slice HO_6.out
          subst eo10
          go_wp2
          repeat (go_quiet (fail); try go_wp2)
          go_meet
          case rel => exact ⟨_, (decide (x7_1 < (t122.length : Int))), (by first | rfl | (simp; done) | (simp [*]; done)), H', ⟨by have := HK1.out; first | omega | exact Nat.le_refl _⟩, ⟨RU HO_5.out⟩, ⟨RU HO_6.out⟩, ⟨belU HB.out⟩⟩
        · rw [if_neg c8] at H
          have c8b0 : decide (x7_1 < (t119.length : Int)) = false := decide_eq_false c8
          clear c8
          (first | rw [c8b0] | (simp only [i64_w, i32_w]; rw [c8b0]) | skip)
          have H' := Aside0.mk H
          clear H
          obtain ⟨Ao11, co11, eo11⟩ := Kd.R_slice HO_5.out
          subst eo11
          go_wp2
          repeat (go_quiet (fail); try go_wp2)
          go_meet
          case rel => exact ⟨_, (false), (by first | rfl | (simp; done) | (simp [*]; done)), H', ⟨by have := HK1.out; first | omega | exact Nat.le_refl _⟩, ⟨RU HO_5.out⟩, ⟨RU HO_6.out⟩, ⟨belU HB.out⟩⟩
      case rest =>
        clear HC7
        try clear p2
        try clear c6
        try clear c8
        try clear c8b0
        try clear p2
        obtain ⟨kq, x21_6, rfl, HA, HJ6, HO_5, HO_6, HB⟩ := hcut
        cases kq with
        | zero => exact absurd HA.out (by simp [aquiferref05_Compare.j1])
        | succ kj6 =>
          have H := HA.out
          clear HA
          simp only [aquiferref05_Compare.j1] at H
          by_cases c12 : x21_6 = true
          · subst c12
            have H1 : (if 0 ≤ x7_1 then (if x7_1 < (t119.length : Int) then (if x7_1 < (t122.length : Int) then (if (Op.bytesLess ((rdOf ByteArray.empty t119 x7_1).toList) ((rdOf ByteArray.empty t122 x7_1).toList)) = true then (some (-1)) else (if (Op.bytesLess ((rdOf ByteArray.empty t122 x7_1).toList) ((rdOf ByteArray.empty t119 x7_1).toList)) = true then (some 1) else (aquiferref05_Compare.l0 kj6 t119 t122 (wrap64 (x7_1 + 1))))) else (none)) else (none)) else (none)) = some r := by rw [if_pos rfl] at H; exact H
            clear H
            have H := H1
            clear H1
            by_cases c13 : 0 ≤ x7_1
            · rw [if_pos c13] at H
              have c13b0 : decide (0 ≤ x7_1) = true := decide_eq_true c13
              clear c13
              by_cases c14 : x7_1 < (t119.length : Int)
              · rw [if_pos c14] at H
                have c14b0 : decide (x7_1 < (t119.length : Int)) = true := decide_eq_true c14
                clear c14
                by_cases c15 : x7_1 < (t122.length : Int)
                · rw [if_pos c15] at H
                  have c15b0 : decide (x7_1 < (t122.length : Int)) = true := decide_eq_true c15
                  clear c15
                  by_cases c16 : (Op.bytesLess ((rdOf ByteArray.empty t119 x7_1).toList) ((rdOf ByteArray.empty t122 x7_1).toList)) = true
                  · rw [if_pos c16] at H
                    have c16b0 : (Op.bytesLess ((rdOf ByteArray.empty t119 x7_1).toList) ((rdOf ByteArray.empty t122 x7_1).toList)) = true := c16
                    try have c16g : (((rdOf ByteArray.empty t122 x7_1).toList) == ((rdOf ByteArray.empty t119 x7_1).toList)) = false := bl_ne _ _ c16b0
                    try have c16g : (((rdOf ByteArray.empty t122 x7_1).toList) == ((rdOf ByteArray.empty t119 x7_1).toList)) = false := bl_ne _ _ c16b0
                    clear c16
                    obtain rfl := Option.some.inj H
                    obtain ⟨Ao17, co17, eo17⟩ := Kd.R_slice HO_5.out
                    subst eo17
                    have p125 : 0 ≤ (x7_1 : Int) := of_decide_eq_true (by first | (with_reducible assumption) | assumption)
                    have q125 : x7_1 < (t119.length : Int) := of_decide_eq_true (by first | (with_reducible assumption) | assumption)
                    obtain ⟨ad125, e125, hx125_0⟩ := Kd.at_string (Kd.R_reads' HO_5.out).2.2 x7_1 p125 q125
                    cases e125
                    replace p125 := eq_true p125
                    replace q125 := eq_true q125
                    obtain ⟨Ao18, co18, eo18⟩ := Kd.R_slice HO_6.out
                    subst eo18
                    have p126 : 0 ≤ (x7_1 : Int) := of_decide_eq_true (by first | (with_reducible assumption) | assumption)
                    have q126 : x7_1 < (t122.length : Int) := of_decide_eq_true (by first | (with_reducible assumption) | assumption)
                    obtain ⟨ad126, e126, hx126_0⟩ := Kd.at_string (Kd.R_reads' HO_6.out).2.2 x7_1 p126 q126
                    cases e126
                    replace p126 := eq_true p126
                    replace q126 := eq_true q126
                    go_wp2
                    repeat (go_quiet (fail); try go_wp2)
                    go_ret
                    exact ⟨by first | rfl | (simp [errW_none, errW_some] <;> rfl) | (simp [*, errW_none, errW_some] <;> rfl), belU HB.out⟩
                  · rw [if_neg c16] at H
                    have c16b0 : (Op.bytesLess ((rdOf ByteArray.empty t119 x7_1).toList) ((rdOf ByteArray.empty t122 x7_1).toList)) = false := by simpa using c16
                    try have c16g : (((rdOf ByteArray.empty t122 x7_1).toList) == ((rdOf ByteArray.empty t119 x7_1).toList)) = true := bl_eqb _ _ (by assumption) c16b0
                    try have c16g : (((rdOf ByteArray.empty t122 x7_1).toList) == ((rdOf ByteArray.empty t119 x7_1).toList)) = true := bl_eqb _ _ (by assumption) c16b0
                    clear c16
                    by_cases c19 : (Op.bytesLess ((rdOf ByteArray.empty t122 x7_1).toList) ((rdOf ByteArray.empty t119 x7_1).toList)) = true
                    · rw [if_pos c19] at H
                      have c19b0 : (Op.bytesLess ((rdOf ByteArray.empty t122 x7_1).toList) ((rdOf ByteArray.empty t119 x7_1).toList)) = true := c19
                      try have c19g : (((rdOf ByteArray.empty t119 x7_1).toList) == ((rdOf ByteArray.empty t122 x7_1).toList)) = false := bl_ne _ _ c19b0
                      try have c19g : (((rdOf ByteArray.empty t119 x7_1).toList) == ((rdOf ByteArray.empty t122 x7_1).toList)) = false := bl_ne _ _ c19b0
                      clear c19
                      obtain rfl := Option.some.inj H
                      obtain ⟨Ao20, co20, eo20⟩ := Kd.R_slice HO_5.out
                      subst eo20
                      have p125 : 0 ≤ (x7_1 : Int) := of_decide_eq_true (by first | (with_reducible assumption) | assumption)
                      have q125 : x7_1 < (t119.length : Int) := of_decide_eq_true (by first | (with_reducible assumption) | assumption)
                      obtain ⟨ad125, e125, hx125_0⟩ := Kd.at_string (Kd.R_reads' HO_5.out).2.2 x7_1 p125 q125
                      cases e125
                      replace p125 := eq_true p125
                      replace q125 := eq_true q125
                      obtain ⟨Ao21, co21, eo21⟩ := Kd.R_slice HO_6.out
                      subst eo21
                      have p126 : 0 ≤ (x7_1 : Int) := of_decide_eq_true (by first | (with_reducible assumption) | assumption)
                      have q126 : x7_1 < (t122.length : Int) := of_decide_eq_true (by first | (with_reducible assumption) | assumption)
                      obtain ⟨ad126, e126, hx126_0⟩ := Kd.at_string (Kd.R_reads' HO_6.out).2.2 x7_1 p126 q126
                      cases e126
                      replace p126 := eq_true p126
                      replace q126 := eq_true q126
                      have p127 : 0 ≤ (x7_1 : Int) := of_decide_eq_true (by first | (with_reducible assumption) | assumption)
                      have q127 : x7_1 < (t119.length : Int) := of_decide_eq_true (by first | (with_reducible assumption) | assumption)
                      obtain ⟨ad127, e127, hx127_0⟩ := Kd.at_string (Kd.R_reads' HO_5.out).2.2 x7_1 p127 q127
                      obtain rfl : ad125 = ad127 := (by injection e127)
                      replace p127 := eq_true p127
                      replace q127 := eq_true q127
                      have p128 : 0 ≤ (x7_1 : Int) := of_decide_eq_true (by first | (with_reducible assumption) | assumption)
                      have q128 : x7_1 < (t122.length : Int) := of_decide_eq_true (by first | (with_reducible assumption) | assumption)
                      obtain ⟨ad128, e128, hx128_0⟩ := Kd.at_string (Kd.R_reads' HO_6.out).2.2 x7_1 p128 q128
                      obtain rfl : ad126 = ad128 := (by injection e128)
                      replace p128 := eq_true p128
                      replace q128 := eq_true q128
                      go_wp2
                      repeat (go_quiet (fail); try go_wp2)
                      go_ret
                      exact ⟨by first | rfl | (simp [errW_none, errW_some] <;> rfl) | (simp [*, errW_none, errW_some] <;> rfl), belU HB.out⟩
                    · rw [if_neg c19] at H
                      have c19b0 : (Op.bytesLess ((rdOf ByteArray.empty t122 x7_1).toList) ((rdOf ByteArray.empty t119 x7_1).toList)) = false := by simpa using c19
                      try have c19g : (((rdOf ByteArray.empty t119 x7_1).toList) == ((rdOf ByteArray.empty t122 x7_1).toList)) = true := bl_eqb _ _ (by assumption) c19b0
                      try have c19g : (((rdOf ByteArray.empty t119 x7_1).toList) == ((rdOf ByteArray.empty t122 x7_1).toList)) = true := bl_eqb _ _ (by assumption) c19b0
                      clear c19
                      have H' := Aside0.mk H
                      clear H
                      obtain ⟨Ao22, co22, eo22⟩ := Kd.R_slice HO_5.out
                      subst eo22
                      have p125 : 0 ≤ (x7_1 : Int) := of_decide_eq_true (by first | (with_reducible assumption) | assumption)
                      have q125 : x7_1 < (t119.length : Int) := of_decide_eq_true (by first | (with_reducible assumption) | assumption)
                      obtain ⟨ad125, e125, hx125_0⟩ := Kd.at_string (Kd.R_reads' HO_5.out).2.2 x7_1 p125 q125
                      cases e125
                      replace p125 := eq_true p125
                      replace q125 := eq_true q125
                      obtain ⟨Ao23, co23, eo23⟩ := Kd.R_slice HO_6.out
                      subst eo23
                      have p126 : 0 ≤ (x7_1 : Int) := of_decide_eq_true (by first | (with_reducible assumption) | assumption)
                      have q126 : x7_1 < (t122.length : Int) := of_decide_eq_true (by first | (with_reducible assumption) | assumption)
                      obtain ⟨ad126, e126, hx126_0⟩ := Kd.at_string (Kd.R_reads' HO_6.out).2.2 x7_1 p126 q126
                      cases e126
                      replace p126 := eq_true p126
                      replace q126 := eq_true q126
                      have p127 : 0 ≤ (x7_1 : Int) := of_decide_eq_true (by first | (with_reducible assumption) | assumption)
                      have q127 : x7_1 < (t119.length : Int) := of_decide_eq_true (by first | (with_reducible assumption) | assumption)
                      obtain ⟨ad127, e127, hx127_0⟩ := Kd.at_string (Kd.R_reads' HO_5.out).2.2 x7_1 p127 q127
                      obtain rfl : ad125 = ad127 := (by injection e127)
                      replace p127 := eq_true p127
                      replace q127 := eq_true q127
                      have p128 : 0 ≤ (x7_1 : Int) := of_decide_eq_true (by first | (with_reducible assumption) | assumption)
                      have q128 : x7_1 < (t122.length : Int) := of_decide_eq_true (by first | (with_reducible assumption) | assumption)
                      obtain ⟨ad128, e128, hx128_0⟩ := Kd.at_string (Kd.R_reads' HO_6.out).2.2 x7_1 p128 q128
                      obtain rfl : ad126 = ad128 := (by injection e128)
                      replace p128 := eq_true p128
                      replace q128 := eq_true q128
                      go_wp2
                      repeat (go_quiet (fail); try go_wp2)
                      go_roundg kj6
                      case measure => have := HK1.out; have := HJ6.out; omega
                      case rel => exact ⟨(wrap64 (x7_1 + 1)), (by first | rfl | (simp; done) | (simp [*]; done)), H', ⟨by have := HK1.out; have := HJ6.out; omega⟩, ⟨RU HO_5.out⟩, ⟨RU HO_6.out⟩, ⟨belU HB.out⟩⟩
                · rw [if_neg c15] at H
                  exact absurd H (by simp)
              · rw [if_neg c14] at H
                exact absurd H (by simp)
            · rw [if_neg c13] at H
              exact absurd H (by simp)
          · replace c12 := Bool.eq_false_iff.mpr c12
            subst c12
            have H1 : (if (t119.length : Int) < (t122.length : Int) then (some (-1)) else (if (t119.length : Int) > (t122.length : Int) then (some 1) else (some 0))) = some r := by rw [if_neg (show ¬ (false = true) by decide)] at H; exact H
            clear H
            have H := H1
            clear H1
            by_cases c24 : (t119.length : Int) < (t122.length : Int)
            · rw [if_pos c24] at H
              have c24b0 : decide ((t119.length : Int) < (t122.length : Int)) = true := decide_eq_true c24
              have c24b1 : decide (t119.length < t122.length) = true := decide_eq_true (Int.ofNat_lt.mp c24)
              clear c24
              obtain rfl := Option.some.inj H
              obtain ⟨Ao25, co25, eo25⟩ := Kd.R_slice HO_5.out
              subst eo25
              obtain ⟨Ao26, co26, eo26⟩ := Kd.R_slice HO_6.out
              subst eo26
              go_wp2
              repeat (go_quiet (fail); try go_wp2)
              go_ret
              exact ⟨by first | rfl | (simp [errW_none, errW_some] <;> rfl) | (simp [*, errW_none, errW_some] <;> rfl), belU HB.out⟩
            · rw [if_neg c24] at H
              have c24b0 : decide ((t119.length : Int) < (t122.length : Int)) = false := decide_eq_false c24
              have c24b1 : decide (t119.length < t122.length) = false := decide_eq_false (fun h => c24 (Int.ofNat_lt.mpr h))
              clear c24
              by_cases c27 : (t119.length : Int) > (t122.length : Int)
              · rw [if_pos c27] at H
                have c27b0 : decide ((t122.length : Int) < (t119.length : Int)) = true := decide_eq_true c27
                have c27b1 : decide (t122.length < t119.length) = true := decide_eq_true (Int.ofNat_lt.mp c27)
                clear c27
                obtain rfl := Option.some.inj H
                obtain ⟨Ao28, co28, eo28⟩ := Kd.R_slice HO_5.out
                subst eo28
                obtain ⟨Ao29, co29, eo29⟩ := Kd.R_slice HO_6.out
                subst eo29
                go_wp2
                repeat (go_quiet (fail); try go_wp2)
                go_ret
                exact ⟨by first | rfl | (simp [errW_none, errW_some] <;> rfl) | (simp [*, errW_none, errW_some] <;> rfl), belU HB.out⟩
              · rw [if_neg c27] at H
                have c27b0 : decide ((t122.length : Int) < (t119.length : Int)) = false := decide_eq_false c27
                have c27b1 : decide (t122.length < t119.length) = false := decide_eq_false (fun h => c27 (Int.ofNat_lt.mpr h))
                clear c27
                obtain rfl := Option.some.inj H
                obtain ⟨Ao30, co30, eo30⟩ := Kd.R_slice HO_5.out
                subst eo30
                obtain ⟨Ao31, co31, eo31⟩ := Kd.R_slice HO_6.out
                subst eo31
                go_wp2
                repeat (go_quiet (fail); try go_wp2)
                go_ret
                exact ⟨by first | rfl | (simp [errW_none, errW_some] <;> rfl) | (simp [*, errW_none, errW_some] <;> rfl), belU HB.out⟩

end Go.Proofs.YtjllbkeobibnkaaDoor.Q

namespace Go.Proofs.YtjllbkeobibnkaaDoor.Q
open Go Go.Proofs Go.Shelf Go.RowKit Go.Lib Go.Sort Go.Proofs.YtjllbkeobibnkaaDoorP Go.Proofs.YtjllbkeobibnkaaDoorK Go.Proofs.YtjllbkeobibnkaaDoorW.PrintWords Go.Proofs.YtjllbkeobibnkaaDoorW.PrintLast Go.Proofs.YtjllbkeobibnkaaDoorW.PrintMore
set_option linter.unusedSimpArgs false
set_option linter.unusedVariables false
theorem rdB (l : List ByteArray) (i : Nat) (h : i < l.length) : rdOf ByteArray.empty l (i : Int) = l[i] := by unfold rdOf; simp [h]
theorem wr1 (i : Nat) (h : i < 1048577) : wrap64 ((i : Int) + 1) = ((i + 1 : Nat) : Int) := by unfold wrap64; omega
theorem wr (i : Nat) (h : i < 1048576) : wrap64 ((i : Int) + 1) = ((i + 1 : Nat) : Int) := by unfold wrap64; omega
def lastApp (c : UInt8) : List (List UInt8) → List (List UInt8)
  | [] => [[c]]
  | [n] => [n ++ [c]]
  | n :: m :: ns => n :: lastApp c (m :: ns)
theorem names_snoc (l : List UInt8) (c : UInt8) : names (l ++ [c]) = if c = 47 then names l ++ [[]] else lastApp c (names l) := by
  induction l with
  | nil =>
    simp only [List.nil_append, names]
    split <;> rfl
  | cons b l ih =>
    rw [List.cons_append]
    have hne := names_ne l
    by_cases hb : b = 47
    · simp only [names, if_pos hb]
      rw [ih]
      by_cases hc : c = 47
      · rw [if_pos hc, if_pos hc]
        rfl
      · rw [if_neg hc, if_neg hc]
        cases hn : names l with
        | nil => exact absurd hn hne
        | cons n ns => rfl
    · simp only [names, if_neg hb]
      rw [ih]
      cases hn : names l with
      | nil => exact absurd hn hne
      | cons n ns =>
        by_cases hc : c = 47
        · rw [if_pos hc, if_pos hc]
          rfl
        · rw [if_neg hc, if_neg hc]
          cases ns <;> rfl
theorem lastApp_set (c : UInt8) : ∀ l : List (List UInt8), l ≠ [] → lastApp c l = l.set (l.length - 1) (l.getD (l.length - 1) [] ++ [c])
  | [], h => absurd rfl h
  | [n], _ => rfl
  | n :: m :: ns, _ => by
    have ih := lastApp_set c (m :: ns) (by simp)
    show n :: lastApp c (m :: ns) = _
    rw [ih]
    simp
theorem bt_47 (s : ByteArray) (i : Nat) (h : i < s.size) : bt s (i : Int) = 47 ↔ s.data.toList[i]'h = 47 := by
  have h1 : bt s (i : Int) = ((s[i]'h).toNat : Int) := by simp [bt, h]
  have h2 : s.data.toList[i]'h = s[i]'h := rfl
  rw [h1, h2]
  constructor
  · intro e
    apply UInt8.toNat_inj.1
    have e2 : (s[i]'h).toNat = 47 := by omega
    rw [e2]
    rfl
  · intro e
    rw [e]
    rfl
theorem map_data_len {L : List ByteArray} {M : List (List UInt8)} (h : L.map (·.data.toList) = M) : L.length = M.length := by
  rw [← h, List.length_map]
theorem names_len (l : List UInt8) : (names l).length ≤ l.length + 1 := by
  induction l with
  | nil => simp [names]
  | cons c l ih =>
    unfold names
    split
    · simp only [List.length_cons]; omega
    · split
      · simp
      · rename_i h
        rw [h] at ih
        simp only [List.length_cons] at ih ⊢
        omega
theorem flat_size : ∀ (L : List (List UInt8)) (j : Nat), (L.getD j []).length ≤ (L.map List.length).sum
  | [], j => by simp
  | n :: L, 0 => by simp
  | n :: L, j + 1 => by
    have := flat_size L j
    simp only [List.getD_cons_succ, List.map_cons, List.sum_cons]
    omega
theorem names_sum (l : List UInt8) : ((names l).map List.length).sum ≤ l.length := by
  induction l with
  | nil => simp [names]
  | cons c l ih =>
    unfold names
    split
    · simp only [List.map_cons, List.sum_cons, List.length_nil, List.length_cons]; omega
    · split
      · simp
      · rename_i h
        rw [h] at ih
        simp only [List.map_cons, List.sum_cons, List.length_cons] at ih ⊢
        omega
theorem names_loop (s : ByteArray) (hs : s.size ≤ 65536) (d : Nat) : ∀ (i k : Nat) (L : List ByteArray), i + d = s.size → d < k → L.map (·.data.toList) = names (s.data.toList.take i) → ∃ M, aquiferref05_Names.l0 k s L (i : Int) = some M ∧ M.map (·.data.toList) = names s.data.toList := by
  have hsz : s.data.toList.length = s.size := rfl
  induction d with
  | zero =>
    intro i k L h hk hL
    obtain ⟨k, rfl⟩ : ∃ q, k = q + 1 := ⟨k - 1, by omega⟩
    refine ⟨L, ?_, ?_⟩
    · unfold aquiferref05_Names.l0
      rw [if_neg (by omega)]
    · rw [hL, List.take_of_length_le (by omega)]
  | succ d ih =>
    intro i k L h hk hL
    obtain ⟨k, rfl⟩ : ∃ q, k = q + 1 := ⟨k - 1, by omega⟩
    have hi : i < s.size := by omega
    have hi' : i < s.data.toList.length := by omega
    have hl := map_data_len hL
    have hln := names_len (s.data.toList.take i)
    have hne := names_ne (s.data.toList.take i)
    have hpos : 0 < L.length := by
      rw [hl]
      exact List.length_pos_iff.2 hne
    have hlt : (s.data.toList.take i).length ≤ 65536 := by rw [List.length_take]; omega
    have hsn := names_snoc (s.data.toList.take i) (s.data.toList[i]'hi')
    rw [← List.take_succ_eq_append_getElem hi'] at hsn
    unfold aquiferref05_Names.l0
    rw [if_pos (by omega), if_pos (by omega), wr i (by omega)]
    by_cases hc : bt s (i : Int) = 47
    · rw [if_pos hc, if_pos (by omega)]
      refine ih (i + 1) k _ (by omega) (by omega) ?_
      rw [hsn, if_pos ((bt_47 s i hi).1 hc), List.map_append, hL]
      rfl
    · have hw : wrap64 ((L.length : Int) - 1) = ((L.length - 1 : Nat) : Int) := by unfold wrap64; omega
      rw [if_neg hc, hw, if_pos (by omega), if_pos (by omega), if_pos (by omega), if_pos (by omega)]
      have hrd : (rdOf ByteArray.empty L ((L.length - 1 : Nat) : Int)).data.toList = (names (s.data.toList.take i)).getD (L.length - 1) [] := by
        unfold rdOf
        rw [← hL]
        simp [List.getD_eq_getElem?_getD]
        cases L[L.length - 1]? <;> rfl
      have hex : (s.extract ((i : Nat) : Int).toNat (((i + 1 : Nat) : Int)).toNat).data.toList = [s.data.toList[i]'hi'] := by
        simp only [Int.toNat_natCast, ByteArray.data_extract, Array.toList_extract]
        rw [List.extract_eq_take_drop, show i + 1 - i = 1 by omega, List.drop_eq_getElem_cons hi']
        rfl
      have hsz1 : (rdOf ByteArray.empty L ((L.length - 1 : Nat) : Int)).size ≤ 65536 := by
        have h1 := flat_size (names (s.data.toList.take i)) (L.length - 1)
        have h2 := names_sum (s.data.toList.take i)
        have h3 : (rdOf ByteArray.empty L ((L.length - 1 : Nat) : Int)).size = (rdOf ByteArray.empty L ((L.length - 1 : Nat) : Int)).data.toList.length := rfl
        rw [h3, hrd]
        omega
      have hsz2 : (s.extract ((i : Nat) : Int).toNat (((i + 1 : Nat) : Int)).toNat).size = 1 := by
        have h3 : (s.extract ((i : Nat) : Int).toNat (((i + 1 : Nat) : Int)).toNat).size = (s.extract ((i : Nat) : Int).toNat (((i + 1 : Nat) : Int)).toNat).data.toList.length := rfl
        rw [h3, hex]
        rfl
      rw [if_pos (by omega)]
      refine ih (i + 1) k _ (by omega) (by omega) ?_
      rw [hsn, if_neg (fun e => hc ((bt_47 s i hi).2 e)), lastApp_set _ _ hne, List.map_set, hL, ByteArray.data_append, Array.toList_append, hrd, hex, ← hl]
      rfl
theorem refnames (s : ByteArray) (hs : s.size ≤ 65536) (k : Nat) (hk : s.size < k) : ∃ M, aquiferref05_Names.f k s = some M ∧ M.map (·.data.toList) = names s.data.toList :=
  names_loop s hs s.size 0 k [⟨#[]⟩] (by omega) hk rfl
theorem cmp_less : ∀ x y : List UInt8, Lib.compareBytes x y = if Op.bytesLess x y = true then -1 else if Op.bytesLess y x = true then 1 else 0
  | [], [] => rfl
  | [], _ :: _ => rfl
  | _ :: _, [] => rfl
  | a :: x, b :: y => by
    have ih := cmp_less x y
    simp only [Lib.compareBytes, Op.bytesLess, Bool.or_eq_true, decide_eq_true_eq, Bool.and_eq_true, beq_iff_eq]
    by_cases h1 : a < b
    · rw [if_pos h1, if_pos (.inl h1)]
    · rw [if_neg h1]
      by_cases h2 : b < a
      · have hn : a ≠ b := fun e => by subst e; exact UInt8.lt_irrefl _ h2
        rw [if_pos h2, if_neg (by rintro (h | h); · exact h1 h
                                  · exact hn h.1), if_pos (.inl h2)]
      · have he : a = b := UInt8.le_antisymm (UInt8.not_lt.1 h2) (UInt8.not_lt.1 h1)
        subst he
        rw [if_neg h1, ih]
        simp [UInt8.lt_irrefl]
theorem cmp_loop (x y : List ByteArray) (hx : x.length ≤ 100000) (d : Nat) : ∀ (i k : Nat), min x.length y.length ≤ i + d → i ≤ x.length → i ≤ y.length → 2 * d + 1 < k → aquiferref05_Compare.l0 k x y (i : Int) = some (cmpN ((x.map (·.data.toList)).drop i) ((y.map (·.data.toList)).drop i)) := by
  have hend : ∀ (i k : Nat), i ≤ x.length → i ≤ y.length → (i = x.length ∨ i = y.length) → aquiferref05_Compare.j1 (k + 1) x y (i : Int) false = some (cmpN ((x.map (·.data.toList)).drop i) ((y.map (·.data.toList)).drop i)) := by
    intro i k h1 h2 h3
    have he := lex_end Lib.compareBytes (x.map (·.data.toList)) (y.map (·.data.toList)) i (by rw [List.length_map]; exact h1) (by rw [List.length_map]; exact h2) (by rw [List.length_map, List.length_map]; exact h3)
    unfold aquiferref05_Compare.j1 cmpN
    rw [he, if_neg (by decide), List.length_map, List.length_map]
    unfold Lib.compareInt
    split
    · rfl
    · split <;> rfl
  have hstop : ∀ (i k : Nat), i ≤ x.length → i ≤ y.length → (i = x.length ∨ i = y.length) → aquiferref05_Compare.l0 (k + 1 + 1) x y (i : Int) = some (cmpN ((x.map (·.data.toList)).drop i) ((y.map (·.data.toList)).drop i)) := by
    intro i k h1 h2 h3
    unfold aquiferref05_Compare.l0
    by_cases h4 : (i : Int) < (x.length : Int)
    · rw [if_pos h4, decide_eq_false (by omega)]
      exact hend i k h1 h2 h3
    · rw [if_neg h4]
      exact hend i k h1 h2 h3
  induction d with
  | zero =>
    intro i k h h1 h2 hk
    obtain ⟨k, rfl⟩ : ∃ q, k = q + 1 + 1 := ⟨k - 2, by omega⟩
    exact hstop i k h1 h2 (by omega)
  | succ d ih =>
    intro i k h h1 h2 hk
    obtain ⟨k, rfl⟩ : ∃ q, k = q + 1 + 1 := ⟨k - 2, by omega⟩
    by_cases h3 : i = x.length ∨ i = y.length
    · exact hstop i k h1 h2 h3
    · have hix : i < x.length := by omega
      have hiy : i < y.length := by omega
      have ih' := ih (i + 1) k (by omega) (by omega) (by omega) (by omega)
      have rx : rdOf ByteArray.empty x (i : Int) = x[i] := by unfold rdOf; simp [hix]
      have ry : rdOf ByteArray.empty y (i : Int) = y[i] := by unfold rdOf; simp [hiy]
      unfold aquiferref05_Compare.l0
      rw [if_pos (by omega), decide_eq_true (by omega)]
      unfold aquiferref05_Compare.j1
      rw [if_pos rfl, if_pos (by omega), if_pos (by omega), if_pos (by omega), rx, ry, wr i (by omega), ih']
      rw [List.drop_eq_getElem_cons (show i < (x.map (·.data.toList)).length by rw [List.length_map]; exact hix), List.drop_eq_getElem_cons (show i < (y.map (·.data.toList)).length by rw [List.length_map]; exact hiy)]
      simp only [cmpN, lexC, List.getElem_map]
      rw [cmp_less, ← Lib.toList_data, ← Lib.toList_data]
      by_cases h4 : Op.bytesLess x[i].toList y[i].toList = true
      · rw [if_pos h4, if_pos h4, if_neg (by decide)]
      · rw [if_neg h4, if_neg h4]
        by_cases h5 : Op.bytesLess y[i].toList x[i].toList = true
        · rw [if_pos h5, if_pos h5, if_neg (by decide)]
        · rw [if_neg h5, if_neg h5, if_pos rfl]
theorem refcompare (a b : ByteArray) (ha : a.size ≤ 65536) (hb : b.size ≤ 65536) (k : Nat) (hk : 2 * a.size + 4 ≤ k) (hk2 : b.size < k) : aquiferref05_Compare.f k a b = some (pcmp a b) := by
  obtain ⟨M, h1, h2⟩ := refnames a ha k (by omega)
  obtain ⟨N, h3, h4⟩ := refnames b hb k hk2
  have hm := map_data_len h2
  have hl := names_len a.data.toList
  have hsz : a.data.toList.length = a.size := rfl
  unfold aquiferref05_Compare.f
  rw [h1, Option.bind_some, h3, Option.bind_some]
  have := cmp_loop M N (by omega) M.length 0 k (by omega) (by omega) (by omega) (by omega)
  unfold pcmp
  rw [← h2, ← h4]
  simpa using this
theorem split_first (c : UInt8) (l : List UInt8) (h : c ∈ l) : ∃ a b, l = a ++ c :: b ∧ c ∉ a := by
  induction l with
  | nil => simp at h
  | cons x l ih =>
    by_cases hx : x = c
    · exact ⟨[], l, by rw [hx]; rfl, by simp⟩
    · obtain ⟨a, b, h1, h2⟩ := ih ((List.mem_cons.1 h).resolve_left (fun e => hx e.symm))
      exact ⟨x :: a, b, by rw [h1, List.cons_append], by simp [h2, Ne.symm hx]⟩
theorem index_first (c : UInt8) (a b : List UInt8) (h : c ∉ a) : index (a ++ c :: b) [c] = (a.length : Int) := by
  induction a with
  | nil => rw [List.nil_append, index_cons_eq]; rfl
  | cons x a ih =>
    have hx : x ≠ c := fun e => h (by rw [e]; exact List.mem_cons_self)
    rw [List.cons_append, index_cons_ne _ x c hx, ih (fun hm => h (List.mem_cons_of_mem _ hm)), if_neg (by simp), List.length_cons]
    omega
theorem index_free (c : UInt8) (a : List UInt8) (h : c ∉ a) : index a [c] = -1 := by
  induction a with
  | nil => rfl
  | cons x a ih =>
    have hx : x ≠ c := fun e => h (by rw [e]; exact List.mem_cons_self)
    rw [index_cons_ne _ x c hx, ih (fun hm => h (List.mem_cons_of_mem _ hm))]
    rfl
theorem kindsL_cons (n : List UInt8) (l : List (List UInt8)) (k : Int) : kindsL (n :: l) k = if kindL n = 0 then none else if kindL n = 2 ∧ l ≠ [] then none else kindsL l (kindL n) := rfl
theorem kindsL_last (l : List (List UInt8)) : ∀ k r, kindsL l k = some r → r = match l.getLast? with | none => k | some n => kindL n := by
  induction l with
  | nil => intro k r h; simp [kindsL] at h; simp [h]
  | cons n l ih =>
    intro k r h
    unfold kindsL at h
    split at h
    · cases h
    · split at h
      · cases h
      · have := ih _ _ h
        rw [this]
        cases l with
        | nil => rfl
        | cons m l => rw [List.getLast?_cons_cons]; cases hg : (m :: l).getLast? with
          | none => simp at hg
          | some x => rfl
end Go.Proofs.YtjllbkeobibnkaaDoor.Q

namespace Go.Proofs.YtjllbkeobibnkaaDoor.Q
open Go Go.Proofs Go.Shelf Go.RowKit Go.Lib Go.Sort Go.Proofs.YtjllbkeobibnkaaDoorP Go.Proofs.YtjllbkeobibnkaaDoorK Go.Proofs.YtjllbkeobibnkaaDoorW.PrintWords Go.Proofs.YtjllbkeobibnkaaDoorW.PrintLast Go.Proofs.YtjllbkeobibnkaaDoorW.PrintMore
set_option linter.unusedSimpArgs false
set_option linter.unusedVariables false
def okK (least : Int) (k : S58) : Bool := decide (kindS k.f0 = (2, 0)) && (decide (0 ≤ k.f1.f1) && (decide (k.f1.f1 ≤ 4096) && (decide (least ≤ k.f1.f0) && decide (k.f1.f0 ≤ 1099511627776))))
def listA (least : Int) : Option ByteArray → List S58 → Bool
  | _, [] => true
  | q, k :: l => okK least k && ((match q with | none => true | some y => decide (pcmp y k.f0 < 0)) && listA least (some k.f0) l)
def prevK (l : List S58) : Nat → Option ByteArray
  | 0 => none
  | j + 1 => l[j]?.map (·.f0)
def shortK (l : List S58) : Bool := decide (l.length ≤ 1048576) && l.all fun k => decide (k.f0.size ≤ 65536)
theorem shortK_open {l : List S58} (h : shortK l = true) : l.length ≤ 1048576 ∧ ∀ k ∈ l, k.f0.size ≤ 65536 := by
  unfold shortK at h
  simpa using h
attribute [local go_sem] A51_size A51_0 A51_1 A51_g0 A51_g1 A58_size A58_0 A58_1 A58_2 A58_g0 A58_g1 A58_g2 cell_held frozen_held
attribute [local go_sem] zero51 zero58 zero65
attribute [local go_sem ↓ high] lvx_of
attribute [local go_sem] lv_sc lv24 lv33
attribute [local go_sem ↓ high] lv51 lv51s lv58 lv58a lv65 lv65a lv65l lv65r sc51 sc58 sc65 sc65a sc65l sc65r sc58a
set_option maxRecDepth 100000 in
set_option maxHeartbeats 4000000 in
theorem list_any (w : World) (A : Option Addr) (c : Nat) (l : List S58) (least : Int) (hC : k58.C w A l.length l) (hs : shortK l = true) :
    Calls Tryd.prog 53 #[.slice A l.length c, .int .i64 least] w fun e w' => e = .returned (.bool (listA least none l)) ∧ Below w.heap.size w w' := by
  obtain ⟨hl, hsz⟩ := shortK_open hs
  have HR := Aside0.mk hC
  have HZ := Aside0.mk hsz
  have HB0 := Aside0.mk (Below.refl w.heap.size w)
  obtain ⟨R, hR⟩ : ∃ R, listA least none l = R := ⟨_, rfl⟩
  rw [hR]
  clear hC hs hsz
  go_enter Tryd.func53, Tryd.ntmps53
  go_wp2_with fail
  go_loopw [12] (fun i wr => ∃ j : Nat, j ≤ l.length ∧ i = .int .i64 (j : Int) ∧ Aside0 (listA least (prevK l j) (l.drop j) = R) ∧ Aside0 (Below w.heap.size w wr)) (fun i _ => l.length - (intOf i).toNat)
  case atStart => exact ⟨0, Nat.zero_le _, rfl, ⟨hR⟩, HB0⟩
  case round =>
    obtain ⟨j, hj, rfl, HI, HB⟩ := hrel
    have bw : Bel w.heap.size w wr := ⟨fun _ => HB.out⟩
    have ow : OwnB w.heap.size (.row wr.heap.size) := own_row HB.out.size
    by_cases hlt : j < l.length
    · obtain ⟨ad, e, x0⟩ := C58_at HR.out j hlt
      subst e
      have hd := List.drop_eq_getElem_cons hlt
      have hmem := List.getElem_mem hlt
      have hx := HZ.out _ hmem
      have hnext : prevK l (j + 1) = some l[j].f0 := by show l[j]?.map (·.f0) = _; rw [List.getElem?_eq_getElem hlt]; rfl
      have hI := HI.out
      rw [hd] at hI
      simp only [listA] at hI
      rw [← hnext] at hI
      have HN := Aside0.mk hnext
      have hk := fun W => Kind_any W l[j].f0 hx
      generalize l[j] = x at x0 hI hk hx HN
      replace x0 := At_below x0 HB.out
      have X0 := Aside0.mk x0
      clear hd hmem HI x0 hnext
      cases hok : okK least x with
      | false =>
        rw [hok, Bool.false_and] at hI
        have HI := Aside0.mk hI
        have HK := Aside0.mk hk
        have HX := Aside0.mk hok
        clear hI hk hok hR hx
        go_wp2_with (refine seg_load rfl 58 (.tmp 15) rfl X0.out (A58 x) rfl rfl Tryd.underlying58 rfl (by rw [L58_len]; exact info58s) ?_)
        refine (HK.out _).mono ?_
        rintro e w1 ⟨rfl, hb1⟩
        have p1 := prev_call hb1
        clear hb1
        go_wp2_with fail
        case' _ =>
          have hv : (decide (x.f1.f0 ≤ 1099511627776)) = false := by
            have := HX.out
            unfold okK at this
            rw [decide_eq_true (Prod.ext (by assumption) (by assumption)), decide_eq_true (by assumption : 0 ≤ x.f1.f1), decide_eq_true (by assumption : x.f1.f1 ≤ 4096), decide_eq_true (by assumption : least ≤ x.f1.f0)] at this
            simpa using this
          simp only [hv]
        all_goals
          go_quiet (fail)
          go_wp2_with fail
          go_ret
          exact ⟨by rw [← HI.out]; rfl, bel _ _⟩
      | true =>
        rw [hok, Bool.true_and] at hI
        unfold okK at hok
        simp only [Bool.and_eq_true, decide_eq_true_eq] at hok
        obtain ⟨hk0, k1, k2, k3, k4⟩ := hok
        rw [hk0] at hk
        dsimp only at hk
        have HK := Aside0.mk hk
        clear hk hR hk0
        by_cases h0 : j = 0
        · subst h0
          simp only [prevK, Bool.true_and] at hI
          have HI := Aside0.mk hI
          clear hI hx
          go_wp2_with (refine seg_load rfl 58 (.tmp 15) rfl X0.out (A58 x) rfl rfl Tryd.underlying58 rfl (by rw [L58_len]; exact info58s) ?_)
          refine (HK.out _).mono ?_
          rintro e w1 ⟨rfl, hb1⟩
          have p1 := prev_call hb1
          clear hb1
          go_wp2_with fail
          go_quiet (fail)
          go_wp2_with fail
          go_roundw
          case rel => exact ⟨1, by omega, by go_num, HI, ⟨bel _ _⟩⟩
          case measure => simp [intOf]; omega
        · obtain ⟨i, hi⟩ : ∃ i, j = i + 1 := ⟨j - 1, by omega⟩
          have hil : i < l.length := by omega
          obtain ⟨ad2, e2, y0⟩ := C58_at HR.out i hil
          obtain rfl : ad = ad2 := Option.some.inj e2
          have hy := HZ.out _ (List.getElem_mem hil)
          have hp : prevK l j = some l[i].f0 := by rw [hi]; show l[i]?.map (·.f0) = _; rw [List.getElem?_eq_getElem hil]; rfl
          rw [hp] at hI
          generalize l[i] = y at y0 hI hy
          dsimp only at hI
          have hc := fun W => cmp_any W y.f0 x.f0 (by omega) (by omega)
          have HCP := Aside0.mk hc
          have hw1 : IntKind.i64.wrap ((j : Int) - 1) = (i : Int) := by rw [i64_w]; unfold wrap64; omega
          have Y0 := Aside0.mk (At_below y0 HB.out)
          have hj0 : 0 < (j : Int) := by omega
          have hj1 : decide ((0 : Int) < (j : Int)) = true := decide_eq_true hj0
          have hj2 : 0 < j := by omega
          have hj3 : (0 : Int) ≤ (i : Int) := by omega
          have hj4 : (i : Int) < (l.length : Int) := by omega
          have hj5 : i < l.length := hil
          have HJ := Aside0.mk hi
          clear hc hp y0 e2 hx hy hi h0
          have HII := Aside0.mk hI
          clear hI
          go_wp2_with (refine seg_load rfl 58 (.tmp 15) rfl X0.out (A58 x) rfl rfl Tryd.underlying58 rfl (by rw [L58_len]; exact info58s) ?_)
          refine (HK.out _).mono ?_
          rintro e w1 ⟨rfl, hb1⟩
          have p1 := prev_call hb1
          clear hb1
          have y1 := (At58 (At_below Y0.out (bel wr w1))).1
          rw [add_zero_] at y1
          go_wp2_with fail
          go_still_tail 14, (by kernel_rfl)
          change wpList _ _ _ _ _ w1.drew
          have p2 : Prev w1.drew w1 .none := inferInstance
          generalize w1.drew = w2 at p2 ⊢
          by_cases hc : pcmp y.f0 x.f0 < 0
          · have hI := HII.out
            rw [decide_eq_true hc, Bool.true_and] at hI
            have HI := Aside0.mk hI
            have hge : ¬ (0 ≤ pcmp y.f0 x.f0) := by omega
            clear hc hI
            go_wp2_with fail
            refine (HCP.out _).mono ?_
            rintro e w3 ⟨rfl, q, os, hb⟩
            have p3 : Prev w3 w2 .none := prev_call (hb ▸ grow_below w2 q os)
            clear hb
            go_wp2_with fail
            go_roundw
            case rel => exact ⟨j + 1, by omega, by go_num, HI, ⟨bel _ _⟩⟩
            case measure => simp [intOf]; omega
          · have hI := HII.out
            rw [decide_eq_false hc, Bool.false_and] at hI
            have HI := Aside0.mk hI
            have hge : (0 ≤ pcmp y.f0 x.f0) := by omega
            clear hc hI
            go_wp2_with fail
            refine (HCP.out _).mono ?_
            rintro e w3 ⟨rfl, q, os, hb⟩
            have p3 : Prev w3 w2 .none := prev_call (hb ▸ grow_below w2 q os)
            clear hb
            go_wp2_with fail
            go_ret
            exact ⟨by rw [← HI.out]; rfl, bel _ _⟩
    · have hI := HI.out
      rw [List.drop_of_length_le (by omega)] at hI
      have HI' := Aside0.mk hI
      clear hI HI
      go_wp2_with fail
      go_ret
      exact ⟨by rw [← HI'.out]; rfl, HB.out⟩
end Go.Proofs.YtjllbkeobibnkaaDoor.Q

namespace Go.Proofs.YtjllbkeobibnkaaDoor.Q
open Go Go.Proofs Go.Shelf Go.RowKit Go.Lib Go.Sort Go.Proofs.YtjllbkeobibnkaaDoorP Go.Proofs.YtjllbkeobibnkaaDoorK Go.Proofs.YtjllbkeobibnkaaDoorW.PrintWords Go.Proofs.YtjllbkeobibnkaaDoorW.PrintLast Go.Proofs.YtjllbkeobibnkaaDoorW.PrintMore
set_option linter.unusedSimpArgs false
set_option linter.unusedVariables false
def mergeA (a : ByteArray) (r : List ByteArray → List ByteArray) : List ByteArray → List ByteArray
  | [] => a :: r []
  | b :: y => if pcmp a b < 0 then a :: r (b :: y) else if 0 < pcmp a b then b :: mergeA a r y else a :: r y
def mergeL : List ByteArray → List ByteArray → List ByteArray
  | [], y => y
  | a :: x, y => mergeA a (mergeL x) y
theorem mergeL_nil (y : List ByteArray) : mergeL [] y = y := rfl
theorem mergeL_end (a : ByteArray) (x : List ByteArray) : mergeL (a :: x) [] = a :: mergeL x [] := rfl
theorem mergeL_cons (a b : ByteArray) (x y : List ByteArray) : mergeL (a :: x) (b :: y) = if pcmp a b < 0 then a :: mergeL x (b :: y) else if 0 < pcmp a b then b :: mergeL (a :: x) y else a :: mergeL x y := rfl
theorem mergeL_len (x : List ByteArray) : ∀ y, (mergeL x y).length ≤ x.length + y.length := by
  induction x with
  | nil => intro y; rw [mergeL_nil]; simp
  | cons a x ih =>
    intro y
    induction y with
    | nil => rw [mergeL_end]; have := ih []; simp at this ⊢; omega
    | cons b y ih2 =>
      rw [mergeL_cons]
      split
      · have := ih (b :: y); simp at this ⊢; omega
      · split
        · simp at ih2 ⊢; omega
        · have := ih y; simp at this ⊢; omega
def pathsK (l : List S58) : List ByteArray := l.map (·.f0)
def lenV : Value → Nat
  | .slice _ n _ => n
  | _ => 0
attribute [local go_sem] A51_size A51_0 A51_1 A51_g0 A51_g1 A58_size A58_0 A58_1 A58_2 A58_g0 A58_g1 A58_g2 cell_held frozen_held
attribute [local go_sem] zero51 zero58 zero65
attribute [local go_sem ↓ high] lvx_of
attribute [local go_sem] lv_sc lv24 lv33
attribute [local go_sem ↓ high] lv51 lv51s lv58 lv58a lv65 lv65a lv65l lv65r sc51 sc58 sc65 sc65a sc65l sc65r sc58a
set_option maxRecDepth 100000 in
set_option maxHeartbeats 4000000 in
theorem merge_any (w : World) (A : Option Addr) (c : Nat) (x : List S58) (B : Option Addr) (d : Nat) (y : List S58) (hC : k58.C w A x.length x) (hx : shortK x = true) (hxc : x.length ≤ c) (hD : k58.C w B y.length y) (hy : shortK y = true) (hyd : y.length ≤ d) :
    Calls Tryd.prog 69 #[.slice A x.length c, .slice B y.length d] w fun e w' => ∃ v, e = .returned v ∧ Kd.string.R 9 w' w.heap.size (fun _ => True) v (mergeL (pathsK x) (pathsK y)) ∧ Below w.heap.size w w' := by
  have hx1 := (shortK_open hx).1
  have hy1 := (shortK_open hy).1
  have HX := Aside0.mk hC
  have HY := Aside0.mk hD
  have HSX := Aside0.mk (shortK_open hx).2
  have HSY := Aside0.mk (shortK_open hy).2
  obtain ⟨R, hR⟩ : ∃ R, mergeL (pathsK x) (pathsK y) = R := ⟨_, rfl⟩
  rw [hR]
  have HR := Aside0.mk hR
  clear hC hD hx hy hR
  go_enter Tryd.func69, Tryd.ntmps69
  go_wp2_with fail
  go_loopw [0, 1, 5] (fun u v o wr => ∃ (A' : Option Addr) (c' : Nat) (xs : List S58) (B' : Option Addr) (d' : Nat) (ys : List S58) (out : List ByteArray), u = .slice A' xs.length c' ∧ v = .slice B' ys.length d' ∧ xs.length ≤ c' ∧ ys.length ≤ d' ∧ Aside0 (k58.C w A' xs.length xs) ∧ Aside0 (k58.C w B' ys.length ys) ∧ Aside0 (∀ k ∈ xs, k.f0.size ≤ 65536) ∧ Aside0 (∀ k ∈ ys, k.f0.size ≤ 65536) ∧ Aside0 (out ++ mergeL (pathsK xs) (pathsK ys) = R) ∧ out.length + xs.length + ys.length ≤ 2097152 ∧ Aside0 (Kd.string.R 9 wr w.heap.size (fun _ => True) o out) ∧ Aside0 (Below w.heap.size w wr)) (fun u v _ _ => lenV u + lenV v)
  case atStart => exact ⟨A, c, x, B, d, y, [], rfl, rfl, hxc, hyd, HX, HY, HSX, HSY, HR, by simp; omega, ⟨Kd.R_nil _ _ _ _ _⟩, ⟨bel _ _⟩⟩
  case round =>
    obtain ⟨A', c', xs, B', d', ys, out, rfl, rfl, hc', hd', HX', HY', HZX, HZY, HI, hlen, HO, HB⟩ := hrel
    have bw : Bel w.heap.size w wr := ⟨fun _ => HB.out⟩
    clear HX HY HSX HSY HR
    obtain ⟨Ao, co, ho⟩ := Kd.R_slice HO.out
    subst ho
    cases xs with
    | nil => cases ys with
      | nil =>
        have hI := HI.out
        simp only [pathsK, List.map_nil, mergeL_nil, List.append_nil] at hI
        subst hI
        go_wp2_with fail
        go_ret
        exact ⟨_, rfl, HO.out, bel _ _⟩
      | cons b ys =>
        have HXC := HX'
        clear HX'
        obtain ⟨ad, ey, y0⟩ := C58_at HY'.out 0 (by simp)
        subst ey
        simp only [List.getElem_cons_zero] at y0
        have yq := At_below y0 HB.out
        rw [Nat.zero_mul, add_zero_] at yq
        have YQ := Aside0.mk yq
        have y1 := (At58 yq).1
        rw [add_zero_] at y1
        have hyd := Kd.C_drop HY'.out (m := 1) (by simp) hd'
        simp only [List.drop_succ_cons, List.drop_zero] at hyd
        have HYD := Aside0.mk hyd
        have hI := HI.out
        simp only [pathsK, List.map_nil, List.map_cons, mergeL_nil] at hI
        rw [← List.singleton_append, ← List.append_assoc] at hI
        have HIN : Aside0 ((out ++ [b.f0]) ++ mergeL (pathsK []) (pathsK ys) = R) := ⟨hI⟩
        have HZYD : Aside0 (∀ k ∈ ys, k.f0.size ≤ 65536) := ⟨fun k hk => HZY.out k (List.mem_cons_of_mem _ hk)⟩
        simp only [List.length_cons] at hlen hd' ⊢
        clear y0 yq hyd hI HI
        go_wp2_with ((with_reducible refine gate_builtin (b := .append) (xs := #[.tmp 43, .tmp 48]) rfl ?_); at_builtin; refine app41 (w0 := w) w.heap.size rfl (.tmp 43) (.tmp 48) rfl (.slice Ao out.length co) out b.f0 rfl ?aX ?aO ?aB ?aS ?aL ?_; (case aX => first | rfl | (simp only [World.size_setCell, size_setRow, World.size_alloc]; rfl)); (case aO => exact rowB HO.out (bel wr _)); (case aB => exact (inferInstance : Bel w.heap.size w _).out (by first | exact Nat.le_refl _ | omega)); (case aS => first | exact siz w _ | (have := siz w _; omega)); (case aL => omega); intro v6 w6 h6 hb6 hg6 hat6; have p6 := prev_above hb6; have HB6 := Aside0.mk hb6; have HV6 := Aside0.mk h6; clear hb6 h6 hg6 hat6)
        go_roundw
        case rel => exact ⟨_, _, [], _, _, ys, _, rfl, rfl, by simp only [List.length_cons, List.length_nil] at *; omega, by simp only [List.length_cons, List.length_nil] at *; omega, HXC, HYD, HZX, HZYD, HIN, by simp only [List.length_append, List.length_cons, List.length_nil] at *; omega, HV6, HB6⟩
        case measure => simp only [lenV, List.length_cons, List.length_nil]; omega
    | cons a xs => cases ys with
      | nil =>
        have HYC := HY'
        clear HY'
        obtain ⟨ae, ex, x0⟩ := C58_at HX'.out 0 (by simp)
        subst ex
        simp only [List.getElem_cons_zero] at x0
        have xq := At_below x0 HB.out
        rw [Nat.zero_mul, add_zero_] at xq
        have XQ := Aside0.mk xq
        have x1 := (At58 xq).1
        rw [add_zero_] at x1
        have hxd := Kd.C_drop HX'.out (m := 1) (by simp) hc'
        simp only [List.drop_succ_cons, List.drop_zero] at hxd
        have HXD := Aside0.mk hxd
        have hI := HI.out
        simp only [pathsK, List.map_nil, List.map_cons, mergeL_end] at hI
        rw [← List.singleton_append, ← List.append_assoc] at hI
        have HIN : Aside0 ((out ++ [a.f0]) ++ mergeL (pathsK xs) (pathsK []) = R) := ⟨hI⟩
        have HZXD : Aside0 (∀ k ∈ xs, k.f0.size ≤ 65536) := ⟨fun k hk => HZX.out k (List.mem_cons_of_mem _ hk)⟩
        simp only [List.length_cons] at hlen hc' ⊢
        clear x0 xq hxd hI HI
        go_wp2_with ((with_reducible refine gate_builtin (b := .append) (xs := #[.tmp 34, .tmp 39]) rfl ?_); at_builtin; refine app41 (w0 := w) w.heap.size rfl (.tmp 34) (.tmp 39) rfl (.slice Ao out.length co) out a.f0 rfl ?aX ?aO ?aB ?aS ?aL ?_; (case aX => first | rfl | (simp only [World.size_setCell, size_setRow, World.size_alloc]; rfl)); (case aO => exact rowB HO.out (bel wr _)); (case aB => exact (inferInstance : Bel w.heap.size w _).out (by first | exact Nat.le_refl _ | omega)); (case aS => first | exact siz w _ | (have := siz w _; omega)); (case aL => omega); intro v6 w6 h6 hb6 hg6 hat6; have p6 := prev_above hb6; have HB6 := Aside0.mk hb6; have HV6 := Aside0.mk h6; clear hb6 h6 hg6 hat6)
        go_roundw
        case rel => exact ⟨_, _, xs, _, _, [], _, rfl, rfl, by simp only [List.length_cons, List.length_nil] at *; omega, by simp only [List.length_cons, List.length_nil] at *; omega, HXD, HYC, HZXD, HZY, HIN, by simp only [List.length_append, List.length_cons, List.length_nil] at *; omega, HV6, HB6⟩
        case measure => simp only [lenV, List.length_cons, List.length_nil]; omega
      | cons b ys =>
        obtain ⟨ae, ex, x0⟩ := C58_at HX'.out 0 (by simp)
        subst ex
        simp only [List.getElem_cons_zero] at x0
        have xq := At_below x0 HB.out
        rw [Nat.zero_mul, add_zero_] at xq
        have XQ := Aside0.mk xq
        have x1 := (At58 xq).1
        rw [add_zero_] at x1
        obtain ⟨ad, ey, y0⟩ := C58_at HY'.out 0 (by simp)
        subst ey
        simp only [List.getElem_cons_zero] at y0
        have yq := At_below y0 HB.out
        rw [Nat.zero_mul, add_zero_] at yq
        have YQ := Aside0.mk yq
        have y1 := (At58 yq).1
        rw [add_zero_] at y1
        have hxd := Kd.C_drop HX'.out (m := 1) (by simp) hc'
        simp only [List.drop_succ_cons, List.drop_zero] at hxd
        have HXD := Aside0.mk hxd
        have hyd := Kd.C_drop HY'.out (m := 1) (by simp) hd'
        simp only [List.drop_succ_cons, List.drop_zero] at hyd
        have HYD := Aside0.mk hyd
        have HZXD : Aside0 (∀ k ∈ xs, k.f0.size ≤ 65536) := ⟨fun k hk => HZX.out k (List.mem_cons_of_mem _ hk)⟩
        have HZYD : Aside0 (∀ k ∈ ys, k.f0.size ≤ 65536) := ⟨fun k hk => HZY.out k (List.mem_cons_of_mem _ hk)⟩
        have HXC := HX'
        have HYC := HY'
        have sa := HZX.out a List.mem_cons_self
        have sb := HZY.out b List.mem_cons_self
        have hcmp := fun W => cmp_any W a.f0 b.f0 (by omega) (by omega)
        have HCP := Aside0.mk hcmp
        have hI := HI.out
        simp only [pathsK, List.map_cons, mergeL_cons] at hI
        have HII := Aside0.mk hI
        simp only [List.length_cons] at hlen hc' hd' ⊢
        clear x0 xq y0 yq hxd hyd hI HI sa sb hcmp HX' HY'
        obtain ⟨c0, hc0⟩ : ∃ c0, pcmp a.f0 b.f0 = c0 := ⟨_, rfl⟩
        simp only [hc0] at HCP HII
        clear hc0
        rcases (show c0 < 0 ∨ 0 < c0 ∨ c0 = 0 by omega) with h0 | h0 | h0
        · have hI := HII.out
          rw [if_pos h0, ← List.singleton_append, ← List.append_assoc] at hI
          have HIN : Aside0 ((out ++ [a.f0]) ++ mergeL (pathsK xs) (pathsK (b :: ys)) = R) := ⟨hI⟩
          have g1 : c0 ≤ 0 := by omega
          have g2 : ¬ 0 ≤ c0 := by omega
          clear hI HII h0
          go_wp2_with fail
          go_still_tail 8, (by kernel_rfl)
          change wpList _ _ _ _ _ wr.drew
          have p2 : Prev wr.drew wr .none := inferInstance
          generalize wr.drew = w2 at p2 ⊢
          go_wp2_with fail
          refine (HCP.out _).mono ?_
          rintro e w3 ⟨rfl, q, os, hb⟩
          have p3 : Prev w3 w2 .none := prev_call (hb ▸ grow_below w2 q os)
          have x3 := (At58 (At_below XQ.out (bel wr w3))).1
          have y3 := (At58 (At_below YQ.out (bel wr w3))).1
          rw [add_zero_] at x3 y3
          clear hb
          go_wp2_with ((with_reducible refine gate_builtin (b := .append) (xs := #[.tmp 34, .tmp 39]) rfl ?_); at_builtin; refine app41 (w0 := w) w.heap.size rfl (.tmp 34) (.tmp 39) rfl (.slice Ao out.length co) out a.f0 rfl ?aX ?aO ?aB ?aS ?aL ?_; (case aX => first | rfl | (simp only [World.size_setCell, size_setRow, World.size_alloc]; rfl)); (case aO => exact rowB HO.out (bel wr _)); (case aB => exact (inferInstance : Bel w.heap.size w _).out (by first | exact Nat.le_refl _ | omega)); (case aS => first | exact siz w _ | (have := siz w _; omega)); (case aL => omega); intro v6 w6 h6 hb6 hg6 hat6; have p6 := prev_above hb6; have HB6 := Aside0.mk hb6; have HV6 := Aside0.mk h6; clear hb6 h6 hg6 hat6)
          go_roundw
          case rel => exact ⟨_, _, xs, _, _, (b :: ys), _, rfl, rfl, by simp only [List.length_cons, List.length_nil] at *; omega, by simp only [List.length_cons, List.length_nil] at *; omega, HXD, HYC, HZXD, HZY, HIN, by simp only [List.length_append, List.length_cons, List.length_nil] at *; omega, HV6, HB6⟩
          case measure => simp only [lenV, List.length_cons, List.length_nil]; omega
        · have hI := HII.out
          rw [if_neg (by omega), if_pos h0, ← List.singleton_append, ← List.append_assoc] at hI
          have HIN : Aside0 ((out ++ [b.f0]) ++ mergeL (pathsK (a :: xs)) (pathsK ys) = R) := ⟨hI⟩
          have g1 : ¬ c0 ≤ 0 := by omega
          have g2 : 0 ≤ c0 := by omega
          clear hI HII h0
          go_wp2_with fail
          go_still_tail 8, (by kernel_rfl)
          change wpList _ _ _ _ _ wr.drew
          have p2 : Prev wr.drew wr .none := inferInstance
          generalize wr.drew = w2 at p2 ⊢
          go_wp2_with fail
          refine (HCP.out _).mono ?_
          rintro e w3 ⟨rfl, q, os, hb⟩
          have p3 : Prev w3 w2 .none := prev_call (hb ▸ grow_below w2 q os)
          have x3 := (At58 (At_below XQ.out (bel wr w3))).1
          have y3 := (At58 (At_below YQ.out (bel wr w3))).1
          rw [add_zero_] at x3 y3
          clear hb
          go_wp2_with ((with_reducible refine gate_builtin (b := .append) (xs := #[.tmp 43, .tmp 48]) rfl ?_); at_builtin; refine app41 (w0 := w) w.heap.size rfl (.tmp 43) (.tmp 48) rfl (.slice Ao out.length co) out b.f0 rfl ?aX ?aO ?aB ?aS ?aL ?_; (case aX => first | rfl | (simp only [World.size_setCell, size_setRow, World.size_alloc]; rfl)); (case aO => exact rowB HO.out (bel wr _)); (case aB => exact (inferInstance : Bel w.heap.size w _).out (by first | exact Nat.le_refl _ | omega)); (case aS => first | exact siz w _ | (have := siz w _; omega)); (case aL => omega); intro v6 w6 h6 hb6 hg6 hat6; have p6 := prev_above hb6; have HB6 := Aside0.mk hb6; have HV6 := Aside0.mk h6; clear hb6 h6 hg6 hat6)
          go_roundw
          case rel => exact ⟨_, _, (a :: xs), _, _, ys, _, rfl, rfl, by simp only [List.length_cons, List.length_nil] at *; omega, by simp only [List.length_cons, List.length_nil] at *; omega, HXC, HYD, HZX, HZYD, HIN, by simp only [List.length_append, List.length_cons, List.length_nil] at *; omega, HV6, HB6⟩
          case measure => simp only [lenV, List.length_cons, List.length_nil]; omega
        · subst h0
          have hI := HII.out
          rw [if_neg (by omega), if_neg (by omega), ← List.singleton_append, ← List.append_assoc] at hI
          have HIN : Aside0 ((out ++ [a.f0]) ++ mergeL (pathsK xs) (pathsK ys) = R) := ⟨hI⟩
          clear hI HII
          go_wp2_with fail
          go_still_tail 8, (by kernel_rfl)
          change wpList _ _ _ _ _ wr.drew
          have p2 : Prev wr.drew wr .none := inferInstance
          generalize wr.drew = w2 at p2 ⊢
          go_wp2_with fail
          refine (HCP.out _).mono ?_
          rintro e w3 ⟨rfl, q, os, hb⟩
          have p3 : Prev w3 w2 .none := prev_call (hb ▸ grow_below w2 q os)
          have x3 := (At58 (At_below XQ.out (bel wr w3))).1
          have y3 := (At58 (At_below YQ.out (bel wr w3))).1
          rw [add_zero_] at x3 y3
          clear hb
          go_wp2_with ((with_reducible refine gate_builtin (b := .append) (xs := #[.tmp 34, .tmp 39]) rfl ?_); at_builtin; refine app41 (w0 := w) w.heap.size rfl (.tmp 34) (.tmp 39) rfl (.slice Ao out.length co) out a.f0 rfl ?aX ?aO ?aB ?aS ?aL ?_; (case aX => first | rfl | (simp only [World.size_setCell, size_setRow, World.size_alloc]; rfl)); (case aO => exact rowB HO.out (bel wr _)); (case aB => exact (inferInstance : Bel w.heap.size w _).out (by first | exact Nat.le_refl _ | omega)); (case aS => first | exact siz w _ | (have := siz w _; omega)); (case aL => omega); intro v6 w6 h6 hb6 hg6 hat6; have p6 := prev_above hb6; have HB6 := Aside0.mk hb6; have HV6 := Aside0.mk h6; clear hb6 h6 hg6 hat6)
          go_roundw
          case rel => exact ⟨_, _, xs, _, _, ys, _, rfl, rfl, by simp only [List.length_cons, List.length_nil] at *; omega, by simp only [List.length_cons, List.length_nil] at *; omega, HXD, HYD, HZXD, HZYD, HIN, by simp only [List.length_append, List.length_cons, List.length_nil] at *; omega, HV6, HB6⟩
          case measure => simp only [lenV, List.length_cons, List.length_nil]; omega
end Go.Proofs.YtjllbkeobibnkaaDoor.Q

namespace Go.Proofs.YtjllbkeobibnkaaDoor.Q
open Go Go.Proofs Go.Shelf Go.RowKit Go.Lib Go.Sort Go.Proofs.YtjllbkeobibnkaaDoorP Go.Proofs.YtjllbkeobibnkaaDoorK Go.Proofs.YtjllbkeobibnkaaDoorW.PrintWords Go.Proofs.YtjllbkeobibnkaaDoorW.PrintLast Go.Proofs.YtjllbkeobibnkaaDoorW.PrintMore
set_option linter.unusedSimpArgs false
set_option linter.unusedVariables false
/-- What is ahead of a path. -/
def ltK (p : ByteArray) (k : S58) : Bool := decide (pcmp k.f0 p < 0)
def posK (p : ByteArray) (l : List S58) : Nat := (l.takeWhile (ltK p)).length
def hitK (p : ByteArray) (l : List S58) : Bool := match l[posK p l]? with
  | some k => decide (pcmp k.f0 p = 0)
  | none => false
/-- Rising. -/
def risK (l : List S58) : Prop := l.Pairwise fun x y => pcmp x.f0 y.f0 < 0
theorem posK_le (p : ByteArray) (l : List S58) : posK p l ≤ l.length := (List.takeWhile_sublist _).length_le
theorem posK_iff {p : ByteArray} {l : List S58} (h : risK l) (j : Nat) (hj : j < l.length) : pcmp l[j].f0 p < 0 ↔ j < posK p l := by
  induction l generalizing j with
  | nil => simp at hj
  | cons k l ih =>
    have h1 := List.pairwise_cons.1 h
    unfold posK
    rw [List.takeWhile_cons]
    by_cases hk : pcmp k.f0 p < 0
    · have e : ltK p k = true := decide_eq_true hk
      rw [if_pos e, List.length_cons]
      cases j with
      | zero => simp [hk]
      | succ j =>
        have := ih h1.2 j (by simpa using hj)
        rw [List.getElem_cons_succ, this]
        show _ ↔ j + 1 < posK p l + 1
        omega
    · have e : ltK p k = false := decide_eq_false hk
      rw [if_neg (by rw [e]; decide)]
      refine ⟨fun hc => ?_, fun hc => absurd hc (by simp)⟩
      cases j with
      | zero => exact absurd hc hk
      | succ j =>
        have hm := h1.1 _ (List.getElem_mem (by simpa using hj : j < l.length))
        rw [List.getElem_cons_succ] at hc
        exact absurd (good_path.trans _ _ _ hm hc) hk
attribute [local go_sem] A51_size A51_0 A51_1 A51_g0 A51_g1 A58_size A58_0 A58_1 A58_2 A58_g0 A58_g1 A58_g2 cell_held frozen_held
attribute [local go_sem] zero51 zero58 zero65
attribute [local go_sem ↓ high] lvx_of
attribute [local go_sem] lv_sc lv24 lv33
attribute [local go_sem ↓ high] lv51 lv51s lv58 lv58a lv65 lv65a lv65l lv65r sc51 sc58 sc65 sc65a sc65l sc65r sc58a
set_option maxRecDepth 100000 in
set_option maxHeartbeats 2000000 in
theorem with1_any (w : World) (k : S58) (p : ByteArray) (hk : k.f0.size ≤ 65536) (hp : p.size ≤ 65536) : Calls Tryd.prog 60 #[.agg (A58 k), .string p] w fun e w' => e = .returned (.int .i64 (pcmp k.f0 p)) ∧ Below w.heap.size w w' := by
  have HC := Aside0.mk (fun W => cmp_any W k.f0 p (by omega) (by omega))
  go_enter Tryd.func60, Tryd.ntmps60
  go_wp2_with fail
  refine (HC.out _).mono ?_
  rintro e w3 ⟨rfl, q, os, hb⟩
  have p3 : Prev w3 _ .none := prev_call (hb ▸ grow_below _ q os)
  clear hb
  go_wp2_with fail
  go_ret
  exact ⟨rfl, bel _ _⟩
set_option maxRecDepth 100000 in
set_option maxHeartbeats 2000000 in
theorem bsf_any (w : World) (A : Option Addr) (c : Nat) (l : List S58) (p : ByteArray) (hC : k58.C w A l.length l) (hs : shortK l = true) (hp : p.size ≤ 65536) (hr : risK l) :
    Calls Tryd.prog 59 #[.slice A l.length c, .string p, .func (.func 60) #[] #[]] w fun e w' => e = .returned (.tuple #[.int .i64 (posK p l : Int), .bool (hitK p l)]) ∧ Below w.heap.size w w' := by
  have eg : ∀ args w, (callFunc 60 args).run Tryd.prog w = .ok (.enter 60 args) w := enters_of Tryd.func60 (by kernel_rfl) rfl
  obtain ⟨hl, hsz⟩ := shortK_open hs
  have HR := Aside0.mk hC
  have HZ := Aside0.mk hsz
  have HW := Aside0.mk (fun W (k : S58) (hk : k.f0.size ≤ 65536) => with1_any W k p hk hp)
  have HI := Aside0.mk (fun j hj => posK_iff (p := p) hr j hj)
  have hpl := posK_le p l
  obtain ⟨P, hP⟩ : ∃ P, posK p l = P := ⟨_, rfl⟩
  have hH : ∃ b, hitK p l = b ∧ (∀ h : P < l.length, b = decide (pcmp l[P].f0 p = 0)) ∧ (¬ P < l.length → b = false) := by
    refine ⟨_, rfl, fun h => ?_, fun h => ?_⟩
    · unfold hitK
      rw [hP, List.getElem?_eq_getElem h]
    · unfold hitK
      rw [hP, List.getElem?_eq_none (by omega)]
  obtain ⟨b, hb, hb1, hb2⟩ := hH
  rw [hb, hP]
  rw [hP] at HI hpl
  have HB1 := Aside0.mk hb1
  have HB2 := Aside0.mk hb2
  clear hC hs hsz hr hP hb hb1 hb2 hp
  go_enter Tryd.func59, Tryd.ntmps59
  go_wp2_with fail
  go_loopw [9, 10] (fun i j wr => ∃ a b : Nat, a ≤ P ∧ P ≤ b ∧ b ≤ l.length ∧ i = .int .i64 (a : Int) ∧ j = .int .i64 (b : Int) ∧ Aside0 (Below w.heap.size w wr)) (fun i j _ => (intOf j).toNat - (intOf i).toNat)
  case atStart => exact ⟨0, l.length, Nat.zero_le _, hpl, Nat.le_refl _, rfl, rfl, ⟨bel _ _⟩⟩
  case round =>
    obtain ⟨a, b', ha, hb, hbl, rfl, rfl, HB⟩ := hrel
    have bw : Bel w.heap.size w wr := ⟨fun _ => HB.out⟩
    by_cases hlt : a < b'
    · obtain ⟨m, hm⟩ : ∃ m, (a + b') / 2 = m := ⟨_, rfl⟩
      have hm2 : ((a : Int) + (b' : Int)) / 2 = (m : Int) := by omega
      have hml : m < l.length := by omega
      have hma : a ≤ m := by omega
      have hmb : m < b' := by omega
      obtain ⟨ad, e, x0⟩ := C58_at HR.out m hml
      subst e
      have hi := HI.out m hml
      have hz := HZ.out _ (List.getElem_mem hml)
      generalize l[m] = x at x0 hi hz
      have HX := Aside0.mk (At_below x0 HB.out)
      have HWX := Aside0.mk (fun W => HW.out W x hz)
      generalize pcmp x.f0 p = z at HWX hi
      have HII := Aside0.mk hi
      clear x0 hi hz
      go_wp2_with (refine seg_load rfl 58 (.tmp 27) rfl HX.out (A58 x) rfl rfl Tryd.underlying58 rfl (by rw [L58_len]; exact info58s) ?_)
      refine (HWX.out _).mono ?_
      rintro e w1 ⟨rfl, hb1⟩
      have p1 := prev_call hb1
      clear hb1
      by_cases hz : z < 0
      · have hi := HII.out.1 hz
        go_wp2_with fail
        go_roundw
        case rel => exact ⟨m + 1, b', by omega, by omega, by omega, by go_num, rfl, ⟨bel _ _⟩⟩
        case measure => simp [intOf]; omega
      · have hi : ¬ m < P := fun h => hz (HII.out.2 h)
        have HIN := Aside0.mk hi
        clear hi
        go_wp2_with fail
        go_roundw
        case rel => exact ⟨a, m, by omega, by have := HIN.out; omega, by omega, rfl, rfl, ⟨bel _ _⟩⟩
        case measure => simp [intOf]; omega
    · obtain rfl : a = P := by omega
      obtain rfl : b' = a := by omega
      by_cases hn : b' < l.length
      · obtain ⟨ad, e, x0⟩ := C58_at HR.out b' hn
        subst e
        have hz := HZ.out _ (List.getElem_mem hn)
        have hb1 := HB1.out hn
        generalize l[b'] = x at x0 hz hb1
        have HX := Aside0.mk (At_below x0 HB.out)
        have HWX := Aside0.mk (fun W => HW.out W x hz)
        generalize pcmp x.f0 p = z at HWX hb1
        have HBB := Aside0.mk hb1
        have hld : (lvx 58 (ad.add (b' * 35))).run Tryd.prog wr = .ok (.agg (A58 x)) wr := run_loadVar_at HX.out Tryd.underlying58 rfl (by rw [L58_len]; exact info58s)
        clear x0 hz hb1
        go_wp2_with fail
        refine (HWX.out _).mono ?_
        rintro e w1 ⟨rfl, hb1⟩
        have p1 := prev_call hb1
        clear hb1
        go_wp2_with fail
        go_ret2
        exact ⟨by rw [HBB.out]; first | rfl | simp, bel _ _⟩
      · have hb2 := HB2.out hn
        subst hb2
        go_wp2_with fail
        go_ret2
        exact ⟨rfl, bel _ _⟩
end Go.Proofs.YtjllbkeobibnkaaDoor.Q

namespace Go.Proofs.YtjllbkeobibnkaaDoor.Q
open Go Go.Proofs Go.Shelf Go.RowKit Go.Proofs.YtjllbkeobibnkaaDoorK Go.Proofs.YtjllbkeobibnkaaDoorW.PrintWords Go.Proofs.YtjllbkeobibnkaaDoorW.PrintLast Go.Proofs.YtjllbkeobibnkaaDoorW.PrintMore
set_option linter.unusedSimpArgs false
set_option linter.unusedVariables false
set_option maxRecDepth 100000 in
theorem grow_nil (w : World) (n : Nat) (hn : n ≤ 1048576) :
    Calls Tryd.prog 83 #[.slice none 0 0, .int .i64 (n : Int)] w fun e w' => ∃ v : Value, e = .returned v ∧ Kd.R k58 58 w' w.heap.size (fun _ => True) v [] ∧ Below w.heap.size w w' := by
  have HB0 := Aside0.mk (Below.refl w.heap.size w)
  by_cases h0 : n = 0
  · subst h0
    go_enter Tryd.func83, Tryd.ntmps83
    go_wp2_with fail
    go_ret
    exact ⟨_, rfl, Kd.R_nil _ _ _ _ _, HB0.out⟩
  · go_enter Tryd.func83, Tryd.ntmps83
    go_wp2_with ((with_reducible refine gate_builtin (b := .append) (xs := #[.tmp 20, .tmp 21]) rfl ?_); go_loud (at_builtin; refine Kd.R_append_zeros k58 (w0 := w) w.heap.size rfl (.tmp 20) (.tmp 21) 22 3 58 (.agg (A58 z58)) 64 rfl Tryd.underlying22 Tryd.underlying3 info58b (A58_size z58) (by decide) (by decide) (.slice none 0 0) [] z58 (kx := .i64) (n : Int) (fun _ => True) rfl rfl ?hz (fun _ _ => trivial) (Kd.R_nil _ _ _ _ _) (by omega) HB0.out (Nat.le_refl _) (by simp; omega) ?_; (case hz => exact (rfl : L58 z58 = L58 z58)); intro v1 w1 h1 hb1 hg1 hat1; obtain ⟨ad, c, rfl⟩ := Kd.R_slice1 h1 (by simp; omega); have H1 := Aside0.mk h1; have HB1 := Aside0.mk hb1; clear h1 hb1 hg1 hat1))
    go_ret
    exact ⟨_, rfl, by have := Kd.R_take H1.out (Nat.zero_le _); simpa using this, HB1.out⟩
theorem flat_take (ls : List (List S58)) (k : Nat) (h : k < ls.length) : (ls.take (k + 1)).flatten = (ls.take k).flatten ++ ls[k] := by
  rw [List.take_succ_eq_append_getElem h, List.flatten_append]
  simp
theorem flat_le (ls : List (List S58)) (k : Nat) : (ls.take k).flatten.length ≤ ls.flatten.length := by
  conv => rhs; rw [← List.take_append_drop k ls, List.flatten_append, List.length_append]
  omega
set_option maxRecDepth 100000 in
theorem concat_any (w : World) (b c : Nat) (ls : List (List S58)) (hl : ls.flatten.length ≤ 1048576) (hll : ls.length ≤ 1048576)
    (hc : ∀ j (h : j < ls.length), ∃ A' c', w.cell? ⟨b, j, none⟩ = some (.slice A' ls[j].length c') ∧ Kd.C k58 w A' ls[j].length ls[j]) :
    Calls Tryd.prog 62 #[.slice (some ⟨b, 0, none⟩) ls.length c] w fun e w' => ∃ v : Value, e = .returned v ∧ Kd.R k58 58 w' w.heap.size (fun _ => True) v ls.flatten ∧ Below w.heap.size w w' := by
  have HC := Aside0.mk hc
  clear hc
  have HB0 := Aside0.mk (Below.refl w.heap.size w)
  have hG := fun W n hn => grow_nil W n hn
  have HG := Aside0.mk hG
  clear hG
  go_enter Tryd.func62, Tryd.ntmps62
  go_wp2_with fail
  go_loopw [3, 11] (fun s i wr => ∃ j : Nat, j ≤ ls.length ∧ i = .int .i64 (j : Int) ∧ s = .int .i64 (((ls.take j).flatten.length : Nat) : Int) ∧ wr = w) (fun s i _ => ls.length - (intOf i).toNat)
  case atStart => exact ⟨0, Nat.zero_le _, rfl, rfl, rfl⟩
  case round =>
    obtain ⟨j, hj, rfl, rfl, hw⟩ := hrel
    obtain rfl : w = wr := hw.symm
    by_cases hlt : j < ls.length
    · obtain ⟨A', c', x0, hr⟩ := HC.out j hlt
      have h1 := flat_take ls j hlt
      have h2 := flat_le ls (j + 1)
      rw [h1, List.length_append] at h2
      have H1 := Aside0.mk h1
      clear h1
      generalize hq : (ls.take j).flatten.length = q at h2
      have h3 : ((ls.take (j + 1)).flatten.length : Nat) = q + ls[j].length := by rw [H1.out, List.length_append, hq]
      have H3 := Aside0.mk h3
      clear h3 hq H1
      generalize ls[j].length = m at x0 h2 H3
      go_wp2_with fail
      go_roundw
      case rel => exact ⟨j + 1, by omega, by go_num, by rw [H3.out]; go_num, trivial⟩
      case measure => simp [intOf]; omega
    · obtain rfl : j = ls.length := by omega
      have h2 := flat_le ls ls.length
      generalize hq : (ls.take ls.length).flatten.length = q at h2
      clear hq
      go_wp2_with fail
      refine (HG.out _ q (by omega)).mono ?_
      rintro e w2 ⟨v, rfl, hv, hb⟩
      have HV := Aside0.mk hv
      have HB := Aside0.mk hb
      clear hv hb
      go_wp2_with fail
      go_loopw [6, 27] (fun u i w3 => ∃ j : Nat, j ≤ ls.length ∧ i = .int .i64 (j : Int) ∧ Aside0 (Kd.R k58 58 w3 w.heap.size (fun _ => True) u (ls.take j).flatten) ∧ Aside0 (Below w.heap.size w w3)) (fun u i _ => ls.length - (intOf i).toNat)
      case atStart => exact ⟨0, Nat.zero_le _, rfl, HV, HB⟩
      case round =>
        obtain ⟨j, hj, rfl, HU, HB3⟩ := hrel
        by_cases hlt : j < ls.length
        · obtain ⟨A', c', x0, hr⟩ := HC.out j hlt
          replace x0 := (HB3.out.cell (World.block_lt_of_cell? w _ x0)).trans x0
          have hr := Kd.C_below hr HB3.out
          have h1 := flat_take ls j hlt
          have h2 := flat_le ls (j + 1)
          rw [h1, List.length_append] at h2
          have H1 := Aside0.mk h1
          clear h1
          have HR := Aside0.mk hr
          clear hr
          generalize ls[j] = y at x0 h2 H1 HR
          generalize (ls.take j).flatten = xs at HU h2 H1
          obtain ⟨A3, c3, rfl⟩ := Kd.R_slice HU.out
          go_wp2_with ((with_reducible refine gate_builtin (b := .append) (xs := #[.tmp 31, .tmp 32]) rfl ?_); at_builtin; refine Kd.R_append_rows k58 (w0 := w) w.heap.size rfl (.tmp 31) (.tmp 32) 22 58 (.agg (A58 z58)) 64 rfl Tryd.underlying22 info58b (A58_size z58) (by decide) (by decide) _ _ y _ _ _ (fun _ => True) (fun _ => False) rfl rfl HU.out HR.out (fun x cs h => h) (fun _ h => h.elim) (fun _ _ => trivial) HB3.out (by have := HB3.out.size; omega) (by omega) ?_; intro v1 w4 h4 hb4 hg4 hat4; obtain ⟨A4, c4, rfl⟩ := Kd.R_slice h4; have H4 := Aside0.mk h4; have HB4 := Aside0.mk hb4; clear h4 hb4 hg4 hat4)
          go_roundw
          case rel => exact ⟨j + 1, by omega, by go_num, ⟨by rw [H1.out]; have h4 := H4.out; rw [List.length_append] at h4; exact h4⟩, HB4⟩
          case measure => simp [intOf]; omega
        · obtain rfl : j = ls.length := by omega
          have hu := HU.out
          rw [List.take_length] at hu
          have HU' := Aside0.mk hu
          clear hu HU
          go_wp2_with fail
          go_ret
          exact ⟨_, rfl, HU'.out, HB3.out⟩
end Go.Proofs.YtjllbkeobibnkaaDoor.Q

namespace Go.Proofs.YtjllbkeobibnkaaDoorK
open Go Go.RowKit Go.Proofs.YtjllbkeobibnkaaDoorW.PrintWords Go.Proofs.YtjllbkeobibnkaaDoorW.PrintLast
set_option linter.unusedVariables false
/-- Blocks of the types L that were there at W are as they were. -/
class RowsX (L : List Nat) (W W' : World) : Prop where
  out : W.heap.size ≤ W'.heap.size ∧ ∀ (k t : Nat) (cells : Array Value), W.heap[k]? = some (Obj.cells cells t (0, 0)) → t ∈ L → W'.heap[k]? = W.heap[k]?
instance (L : List Nat) (W : World) : RowsX L W W := ⟨Nat.le_refl _, fun _ _ _ _ _ => rfl⟩
theorem RowsX.step1 {L : List Nat} {W W1 W' : World} {T : Touch} (p : Prev W' W1 T) (h : RowsX L W W1) (o : ∀ (k t : Nat) (cells : Array Value), W.heap[k]? = some (Obj.cells cells t (0, 0)) → t ∈ L → T.Ok k) : RowsX L W W' :=
  ⟨Nat.le_trans h.out.1 p.out.size, fun k t cells hc ht => (p.out.block k (by have := blk_lt hc; have := h.out.1; omega) (o k t cells hc ht)).trans (h.out.2 k t cells hc ht)⟩
instance (L : List Nat) (W W1 W' : World) (T : Touch) [p : Prev W' W1 T] [h : RowsX L W W1] [o : NoRow L W1 T] : RowsX L W W' :=
  RowsX.step1 p h (fun k t cells hc ht => o.out k t cells ((h.out.2 k t cells hc ht).trans hc) ht)
instance (priority := low) (L : List Nat) (W W1 W' : World) (T : Touch) [p : Prev W' W1 T] [h : RowsX L W W1] [o : OwnB W.heap.size T] : RowsX L W W' :=
  RowsX.step1 p h (fun k t cells hc _ => o.out k (blk_lt hc))
theorem rowX {α : Type} {d : Kd α} {e base : Nat} {W W' : World} {v : Value} {xs : List α} (h : d.R e W base (fun _ => True) v xs) [r : RowsX (e :: d.E) W W'] : d.R e W' base (fun _ => True) v xs := by
  refine Kd.R_mono (Kd.R_step (Kd.R_bound h) (fun k hk hlt => ?_)) (fun _ hk => hk.1)
  obtain ⟨_, _, _, q, hq, cells, hc⟩ := hk
  exact r.out.2 k q cells hc hq
section
variable {α : Type} {d : Kd α} {e base b g t : Nat} {W W1 : World} {v : Value} {xs : List α} {L : List Nat} {cs : Array Value}
theorem noRow_g (_ : W.grownBy W1 v.ownBlock) (h : d.R e W base (fun _ => True) v xs) (hL : ∀ q, q ∈ L → q ≠ e) : NoRow L W (touchOf v.ownBlock) := noRow_R h hL
theorem apart_g (_ : W.grownBy W1 v.ownBlock) (h : d.R e W base (fun _ => True) v xs) [hg : Holds W g (.cells cs t (0, 0))] (ht : e ≠ t) : Apart g (touchOf v.ownBlock) := apart_R h hg.out ht
theorem ownB_g (_ : W.grownBy W1 v.ownBlock) (h : d.R e W base (fun _ => True) v xs) (hb : b ≤ base) : OwnB b (touchOf v.ownBlock) := ownB_R h hb
end
/-- t is none of L. -/
class NotIn (t : Nat) (L : List Nat) : Prop where
  out : ∀ q, q ∈ L → q ≠ t
instance (priority := low) (L : List Nat) (W : World) (g t : Nat) (cs : Array Value) [h : Holds W g (.cells cs t (0, 0))] [n : NotIn t L] : NoRow L W (.row g) := noRow_row h.out n.out
/-- What was written is b's own, or box g. -/
class OwnG (b g : Nat) (T : Touch) : Prop where
  out : ∀ k, k < b → k ≠ g → T.Ok k
instance (priority := low) (b g : Nat) (T : Touch) [h : OwnB b T] : OwnG b g T := ⟨fun k hk _ => h.out k hk⟩
instance (b g : Nat) : OwnG b g (.row g) := ⟨fun _ _ h => h⟩
/-- Below b only box g was written. -/
class Kp (b g : Nat) (W W' : World) : Prop where
  out : b ≤ W.heap.size → W.heap.size ≤ W'.heap.size ∧ ∀ k, k < b → k ≠ g → W'.heap[k]? = W.heap[k]?
instance (b g : Nat) (W : World) : Kp b g W W := ⟨fun _ => ⟨Nat.le_refl _, fun _ _ _ => rfl⟩⟩
instance (b g : Nat) (W W1 W' : World) (T : Touch) [p : Prev W' W1 T] [h : Kp b g W W1] [o : OwnG b g T] : Kp b g W W' :=
  ⟨fun hb => by
    have h1 := h.out hb
    have h2 := p.out
    exact ⟨Nat.le_trans h1.1 h2.size, fun k hk hg => (h2.block k (by have := h1.1; omega) (o.out k hk hg)).trans (h1.2 k hk hg)⟩⟩
theorem Kp.cell {b g : Nat} {W W' : World} (h : Kp b g W W') (hb : b = W.heap.size) {ad : Addr} {v : Value} (hx : W.cell? ad = some v) (hg : ad.block ≠ g) : W'.cell? ad = some v := by
  have h1 := (h.out (by omega)).2 ad.block (by rw [hb]; exact World.block_lt_of_cell? W _ hx) hg
  unfold World.cell? at hx ⊢
  rw [h1]
  exact hx
/-- A new block, in a region that draws its order. -/
theorem new_step {P : Program} {ops : Array Oper} {oi : Oper} {N : Option Tmp} {a : Act} {W : World} {K : Act → World → Prop} {Q : Exit → Act → World → Prop} {v : Value} {ob : Obj} (hw : Region.wanted oi (yielded ops a.tmps) = true) (hN : oi.dst = N) (hrun : (execOp a.eval oi).run P W = .ok (.value v) (W.alloc ob))
    (h : ∀ w1, Prev w1 W .none → Holds w1 W.heap.size ob → K (a.put N v) w1) : if Region.wanted oi (yielded ops a.tmps) = true then Oper.wp P oi a W K Q else K (a.put N undef) W :=
  value_ hw hN hrun (h _ inferInstance inferInstance)
end Go.Proofs.YtjllbkeobibnkaaDoorK
