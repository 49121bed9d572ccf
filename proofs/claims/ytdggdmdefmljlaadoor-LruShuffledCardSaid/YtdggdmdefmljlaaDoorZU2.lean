/-
What is proved: aquifer/aquiferlaw26.LruShuffled answers true for every input, and leaves its arguments as they were.
-/
import Derived.Test.YtdggdmdefmljlaaDoorZU1
import Derived.Deep.MidRow
import Derived.Test.YtdggdmdefmljlaaDoorRows
import Derived.Test.YtdggdmdefmljlaaDoorCards
import Derived.Test.YtdggdmdefmljlaaDoorTie
import Derived.WalkKit
import Derived.ProofKit
import Derived.OpenShut
import Derived.ShutString
import Derived.ChangeOld
import Derived.Below
import Derived.SizedLaws
import Derived.LaidLaws
import Derived.LaidMore
import Derived.Lay
import Derived.SevenTiedAt
import Derived.Stop.Joined
namespace Go.Proofs.YtdggdmdefmljlaaDoor.Q
open Go.RowKit Go.Proofs.YtdggdmdefmljlaaDoorW.PrintWords Go.Proofs.YtdggdmdefmljlaaDoorW.PrintLast Go.Proofs.YtdggdmdefmljlaaDoorW.PrintMore
attribute [local go_sem] max2_int min2_int max_two min_two max_three min_three max_four min_four   -- for this text's walks alone
attribute [local go_sem ↓] Go.Proofs.YtdggdmdefmljlaaDoorK.isSome_setCell
set_option linter.unusedVariables false
set_option linter.unusedSimpArgs false

/-! ### aquiferref26_Check: function 10 -/
mutual
def aquiferref26_Check.l0 : Nat → List (S35) → Int → Option (Int)
  | 0, _, _ => none
  | k + 1, x0, x3 => if x3 < (x0.length : Int) then (if 0 ≤ x3 then (if ((rd_T35 x0 x3).f1) < 0 then (aquiferref26_Check.j1 k x0 x3 true) else (if ((rd_T35 x0 x3).f1) > 4096 then (aquiferref26_Check.j1 k x0 x3 true) else (if ((rd_T35 x0 x3).f2) < 0 then (aquiferref26_Check.j1 k x0 x3 true) else (aquiferref26_Check.j1 k x0 x3 (decide (((rd_T35 x0 x3).f2) > 1099511627776)))))) else (none)) else (some 0)
def aquiferref26_Check.j1 : Nat → List (S35) → Int → Bool → Option (Int)
  | 0, _, _, _ => none
  | k + 1, x0, x3, x43 => if x43 = true then (some 2) else (aquiferref26_Check.l1 k x0 x3 0)
def aquiferref26_Check.l1 : Nat → List (S35) → Int → Int → Option (Int)
  | 0, _, _, _ => none
  | k + 1, x0, x3, x4 => if x4 < x3 then (if 0 ≤ x4 then (if x4 < (x0.length : Int) then (if 0 ≤ x3 then (if x3 < (x0.length : Int) then (if ((rd_T35 x0 x4).f0).toList = ((rd_T35 x0 x3).f0).toList then (some 2) else (aquiferref26_Check.l1 k x0 x3 (wrap64 (x4 + 1)))) else (none)) else (none)) else (none)) else (none)) else (aquiferref26_Check.l0 k x0 (wrap64 (x3 + 1)))
end
def aquiferref26_Check.f (k : Nat) (l0 : List (S35)) : Option (Int) := if (l0.length : Int) > 4096 then (some 7) else (aquiferref26_Check.l0 k l0 0)
theorem aquiferref26_Check.mono_l : ∀ k, (∀ y0 y1, LeO (aquiferref26_Check.l0 k y0 y1) (aquiferref26_Check.l0 (k + 1) y0 y1)) ∧ (∀ y0 y1 y2, LeO (aquiferref26_Check.j1 k y0 y1 y2) (aquiferref26_Check.j1 (k + 1) y0 y1 y2)) ∧ (∀ y0 y1 y2, LeO (aquiferref26_Check.l1 k y0 y1 y2) (aquiferref26_Check.l1 (k + 1) y0 y1 y2))
  | 0 => ⟨fun _ _ r h => by simp [aquiferref26_Check.l0] at h, fun _ _ _ r h => by simp [aquiferref26_Check.j1] at h, fun _ _ _ r h => by simp [aquiferref26_Check.l1] at h⟩
  | k + 1 => by
    obtain ⟨ih0, ih1, ih2⟩ := aquiferref26_Check.mono_l k
    refine ⟨?_, ?_, ?_⟩
    · intro y0 y1
      unfold aquiferref26_Check.l0
      repeat' first
      | (with_reducible exact ih0 _ _)
      | (with_reducible exact ih1 _ _ _)
      | (with_reducible exact ih2 _ _ _)
      | (with_reducible exact LeO.refl _)
      | (with_reducible exact LeO.none _)
      | (with_reducible refine LeO.ite ?_ ?_)
      | (with_reducible refine LeO.bind ?_ (fun _ => ?_))
      | exact ih0 _ _
      | exact ih1 _ _ _
      | exact ih2 _ _ _
      | exact LeO.none _
      | refine LeO.ite ?_ ?_
      | refine LeO.bind ?_ (fun _ => ?_)
    · intro y0 y1 y2
      unfold aquiferref26_Check.j1
      repeat' first
      | (with_reducible exact ih0 _ _)
      | (with_reducible exact ih1 _ _ _)
      | (with_reducible exact ih2 _ _ _)
      | (with_reducible exact LeO.refl _)
      | (with_reducible exact LeO.none _)
      | (with_reducible refine LeO.ite ?_ ?_)
      | (with_reducible refine LeO.bind ?_ (fun _ => ?_))
      | exact ih0 _ _
      | exact ih1 _ _ _
      | exact ih2 _ _ _
      | exact LeO.none _
      | refine LeO.ite ?_ ?_
      | refine LeO.bind ?_ (fun _ => ?_)
    · intro y0 y1 y2
      unfold aquiferref26_Check.l1
      repeat' first
      | (with_reducible exact ih0 _ _)
      | (with_reducible exact ih1 _ _ _)
      | (with_reducible exact ih2 _ _ _)
      | (with_reducible exact LeO.refl _)
      | (with_reducible exact LeO.none _)
      | (with_reducible refine LeO.ite ?_ ?_)
      | (with_reducible refine LeO.bind ?_ (fun _ => ?_))
      | exact ih0 _ _
      | exact ih1 _ _ _
      | exact ih2 _ _ _
      | exact LeO.none _
      | refine LeO.ite ?_ ?_
      | refine LeO.bind ?_ (fun _ => ?_)
theorem aquiferref26_Check.mono : ∀ a0 k, LeO (aquiferref26_Check.f k a0) (aquiferref26_Check.f (k + 1) a0) := by
  intro a0 k
  obtain ⟨ih0, ih1, ih2⟩ := aquiferref26_Check.mono_l k
  unfold aquiferref26_Check.f
  repeat' first
      | (with_reducible exact ih0 _ _)
      | (with_reducible exact ih1 _ _ _)
      | (with_reducible exact ih2 _ _ _)
      | (with_reducible exact LeO.refl _)
      | (with_reducible exact LeO.none _)
      | (with_reducible refine LeO.ite ?_ ?_)
      | (with_reducible refine LeO.bind ?_ (fun _ => ?_))
      | exact ih0 _ _
      | exact ih1 _ _ _
      | exact ih2 _ _ _
      | exact LeO.none _
      | refine LeO.ite ?_ ?_
      | refine LeO.bind ?_ (fun _ => ?_)
set_option maxHeartbeats 8000000 in
set_option maxRecDepth 100000 in
theorem aquiferref26_Check.calls (k : Nat) (A0 : Option Addr) (c0 : Nat) (l0 : List (S35)) (r : Int) (w : World) (hr0 : Kd.C k35 w A0 l0.length l0) (hc0 : l0.length ≤ c0) (h : aquiferref26_Check.f k l0 = some r) :
    Calls Tryd.prog 10 #[.slice A0 l0.length c0] w fun e w' => e = .returned (.int .i64 r) ∧ Drawn0 w w' := by
  have HR0 := Aside0.mk hr0
  have HC0 := Aside0.mk hc0
  clear hr0 hc0
  have H : (if (l0.length : Int) > 4096 then (some 7) else (aquiferref26_Check.l0 k l0 0)) = some r := h
  clear h
  by_cases c2 : (l0.length : Int) > 4096
  · rw [if_pos c2] at H
    have c2b0 : decide (4096 < (l0.length : Int)) = true := decide_eq_true c2
    have c2b1 : decide (4096 < l0.length) = true := decide_eq_true (by omega)
    clear c2
    obtain rfl := Option.some.inj H
    go_enter Tryd.func10, Tryd.ntmps10
    go_wp2
    repeat (go_quiet (fail); try go_wp2)
    go_ret
    exact ⟨by first | rfl | (simp; done) | (simp [*]; done), by repeat (first | exact Drawn0.refl _ | apply Drawn0.step)⟩
  · rw [if_neg c2] at H
    have c2b0 : decide (4096 < (l0.length : Int)) = false := decide_eq_false c2
    have c2b1 : decide (4096 < l0.length) = false := decide_eq_false (by omega)
    clear c2
    have H' := Aside0.mk H
    clear H
    go_enter Tryd.func10, Tryd.ntmps10
    go_wp2
    repeat (go_quiet (fail); try go_wp2)
    go_loopg [3] k (fun kq v3 w' => ∃ (x3_1 : Int), v3 = .int .i64 x3_1 ∧ Aside0 (aquiferref26_Check.l0 kq l0 x3_1 = some r) ∧ Aside0 (kq ≤ k) ∧ Drawn0 w w')
    case atStart => exact ⟨(0), (by first | rfl | (simp; done) | (simp [*]; done)), H', ⟨Nat.le_refl _⟩, by repeat (first | exact Drawn0.refl _ | apply Drawn0.step)⟩
    case round =>
      clear H'
      try clear c1
      try clear c2
      try clear c2b0
      try clear c2b1
      try clear p2
      obtain ⟨x3_1, rfl, HA, HK1, ⟨m1, rfl⟩⟩ := hrel
      cases gk with
      | zero => exact absurd HA.out (by simp [aquiferref26_Check.l0])
      | succ k1 =>
        have H := HA.out
        clear HA
        simp only [aquiferref26_Check.l0] at H
        by_cases c3 : x3_1 < (l0.length : Int)
        · rw [if_pos c3] at H
          have c3b0 : decide (x3_1 < (l0.length : Int)) = true := decide_eq_true c3
          clear c3
          have HC4 := Aside0.mk H
          clear H
          go_upto_region 6 with (fail)
          repeat (go_quiet (fail); go_upto_region 6 with (fail))
          go_cut [43] (fun v43 wc => ∃ (kq : Nat) (x43_3 : Bool), v43 = .bool x43_3 ∧ Aside0 (aquiferref26_Check.j1 kq l0 x3_1 x43_3 = some r) ∧ Aside0 (kq ≤ k1) ∧ Drawn0 w wc)
          case first =>
            have H := HC4.out
            clear HC4
            by_cases c5 : 0 ≤ x3_1
            · rw [if_pos c5] at H
              have c5b0 : decide (0 ≤ x3_1) = true := decide_eq_true c5
              clear c5
              (first | rw [c5b0] | (simp only [i64_w, i32_w]; rw [c5b0]) | skip)
              by_cases c6 : ((rd_T35 l0 x3_1).f1) < 0
              · rw [if_pos c6] at H
                have c6b0 : decide (((rd_T35 l0 x3_1).f1) < 0) = true := decide_eq_true c6
                clear c6
                have H' := Aside0.mk H
                clear H
                have p106 : 0 ≤ (x3_1 : Int) := of_decide_eq_true (by first | (with_reducible assumption) | assumption)
                have q106 : x3_1 < (l0.length : Int) := of_decide_eq_true (by first | (with_reducible assumption) | assumption)
                obtain ⟨ad106, e106, hx106_0, hx106_1, hx106_2, hx106_3, hx106_4⟩ := at_T35 HR0.out x3_1 p106 q106
                cases e106
                replace p106 := eq_true p106
                replace q106 := eq_true q106
                go_wp2
                repeat (go_quiet (fail); try go_wp2)
                go_meet
                case rel => exact ⟨_, (true), (by first | rfl | (simp; done) | (simp [*]; done)), H', ⟨by have := HK1.out; first | omega | exact Nat.le_refl _⟩, by repeat (first | exact Drawn0.refl _ | apply Drawn0.step)⟩
              · rw [if_neg c6] at H
                have c6b0 : decide (((rd_T35 l0 x3_1).f1) < 0) = false := decide_eq_false c6
                clear c6
                by_cases c7 : ((rd_T35 l0 x3_1).f1) > 4096
                · rw [if_pos c7] at H
                  have c7b0 : decide (4096 < ((rd_T35 l0 x3_1).f1)) = true := decide_eq_true c7
                  clear c7
                  have H' := Aside0.mk H
                  clear H
                  have p106 : 0 ≤ (x3_1 : Int) := of_decide_eq_true (by first | (with_reducible assumption) | assumption)
                  have q106 : x3_1 < (l0.length : Int) := of_decide_eq_true (by first | (with_reducible assumption) | assumption)
                  obtain ⟨ad106, e106, hx106_0, hx106_1, hx106_2, hx106_3, hx106_4⟩ := at_T35 HR0.out x3_1 p106 q106
                  cases e106
                  replace p106 := eq_true p106
                  replace q106 := eq_true q106
                  have p107 : 0 ≤ (x3_1 : Int) := of_decide_eq_true (by first | (with_reducible assumption) | assumption)
                  have q107 : x3_1 < (l0.length : Int) := of_decide_eq_true (by first | (with_reducible assumption) | assumption)
                  obtain ⟨ad107, e107, hx107_0, hx107_1, hx107_2, hx107_3, hx107_4⟩ := at_T35 HR0.out x3_1 p107 q107
                  obtain rfl : ad106 = ad107 := (by injection e107)
                  replace p107 := eq_true p107
                  replace q107 := eq_true q107
                  go_wp2
                  repeat (go_quiet (fail); try go_wp2)
                  go_meet
                  case rel => exact ⟨_, (true), (by first | rfl | (simp; done) | (simp [*]; done)), H', ⟨by have := HK1.out; first | omega | exact Nat.le_refl _⟩, by repeat (first | exact Drawn0.refl _ | apply Drawn0.step)⟩
                · rw [if_neg c7] at H
                  have c7b0 : decide (4096 < ((rd_T35 l0 x3_1).f1)) = false := decide_eq_false c7
                  clear c7
                  by_cases c8 : ((rd_T35 l0 x3_1).f2) < 0
                  · rw [if_pos c8] at H
                    have c8b0 : decide (((rd_T35 l0 x3_1).f2) < 0) = true := decide_eq_true c8
                    clear c8
                    have H' := Aside0.mk H
                    clear H
                    have p106 : 0 ≤ (x3_1 : Int) := of_decide_eq_true (by first | (with_reducible assumption) | assumption)
                    have q106 : x3_1 < (l0.length : Int) := of_decide_eq_true (by first | (with_reducible assumption) | assumption)
                    obtain ⟨ad106, e106, hx106_0, hx106_1, hx106_2, hx106_3, hx106_4⟩ := at_T35 HR0.out x3_1 p106 q106
                    cases e106
                    replace p106 := eq_true p106
                    replace q106 := eq_true q106
                    have p107 : 0 ≤ (x3_1 : Int) := of_decide_eq_true (by first | (with_reducible assumption) | assumption)
                    have q107 : x3_1 < (l0.length : Int) := of_decide_eq_true (by first | (with_reducible assumption) | assumption)
                    obtain ⟨ad107, e107, hx107_0, hx107_1, hx107_2, hx107_3, hx107_4⟩ := at_T35 HR0.out x3_1 p107 q107
                    obtain rfl : ad106 = ad107 := (by injection e107)
                    replace p107 := eq_true p107
                    replace q107 := eq_true q107
                    have p108 : 0 ≤ (x3_1 : Int) := of_decide_eq_true (by first | (with_reducible assumption) | assumption)
                    have q108 : x3_1 < (l0.length : Int) := of_decide_eq_true (by first | (with_reducible assumption) | assumption)
                    obtain ⟨ad108, e108, hx108_0, hx108_1, hx108_2, hx108_3, hx108_4⟩ := at_T35 HR0.out x3_1 p108 q108
                    obtain rfl : ad106 = ad108 := (by injection e108)
                    replace p108 := eq_true p108
                    replace q108 := eq_true q108
                    go_wp2
                    repeat (go_quiet (fail); try go_wp2)
                    go_meet
                    case rel => exact ⟨_, (true), (by first | rfl | (simp; done) | (simp [*]; done)), H', ⟨by have := HK1.out; first | omega | exact Nat.le_refl _⟩, by repeat (first | exact Drawn0.refl _ | apply Drawn0.step)⟩
                  · rw [if_neg c8] at H
                    have c8b0 : decide (((rd_T35 l0 x3_1).f2) < 0) = false := decide_eq_false c8
                    clear c8
                    have H' := Aside0.mk H
                    clear H
                    have p106 : 0 ≤ (x3_1 : Int) := of_decide_eq_true (by first | (with_reducible assumption) | assumption)
                    have q106 : x3_1 < (l0.length : Int) := of_decide_eq_true (by first | (with_reducible assumption) | assumption)
                    obtain ⟨ad106, e106, hx106_0, hx106_1, hx106_2, hx106_3, hx106_4⟩ := at_T35 HR0.out x3_1 p106 q106
                    cases e106
                    replace p106 := eq_true p106
                    replace q106 := eq_true q106
                    have p107 : 0 ≤ (x3_1 : Int) := of_decide_eq_true (by first | (with_reducible assumption) | assumption)
                    have q107 : x3_1 < (l0.length : Int) := of_decide_eq_true (by first | (with_reducible assumption) | assumption)
                    obtain ⟨ad107, e107, hx107_0, hx107_1, hx107_2, hx107_3, hx107_4⟩ := at_T35 HR0.out x3_1 p107 q107
                    obtain rfl : ad106 = ad107 := (by injection e107)
                    replace p107 := eq_true p107
                    replace q107 := eq_true q107
                    have p108 : 0 ≤ (x3_1 : Int) := of_decide_eq_true (by first | (with_reducible assumption) | assumption)
                    have q108 : x3_1 < (l0.length : Int) := of_decide_eq_true (by first | (with_reducible assumption) | assumption)
                    obtain ⟨ad108, e108, hx108_0, hx108_1, hx108_2, hx108_3, hx108_4⟩ := at_T35 HR0.out x3_1 p108 q108
                    obtain rfl : ad106 = ad108 := (by injection e108)
                    replace p108 := eq_true p108
                    replace q108 := eq_true q108
                    have p109 : 0 ≤ (x3_1 : Int) := of_decide_eq_true (by first | (with_reducible assumption) | assumption)
                    have q109 : x3_1 < (l0.length : Int) := of_decide_eq_true (by first | (with_reducible assumption) | assumption)
                    obtain ⟨ad109, e109, hx109_0, hx109_1, hx109_2, hx109_3, hx109_4⟩ := at_T35 HR0.out x3_1 p109 q109
                    obtain rfl : ad106 = ad109 := (by injection e109)
                    replace p109 := eq_true p109
                    replace q109 := eq_true q109
                    go_wp2
                    repeat (go_quiet (fail); try go_wp2)
                    go_meet
                    case rel => exact ⟨_, (decide (((rd_T35 l0 x3_1).f2) > 1099511627776)), (by first | rfl | (simp; done) | (simp [*]; done)), H', ⟨by have := HK1.out; first | omega | exact Nat.le_refl _⟩, by repeat (first | exact Drawn0.refl _ | apply Drawn0.step)⟩
            · rw [if_neg c5] at H
              exact absurd H (by simp)
          case rest =>
            clear HC4
            try clear c1
            try clear p1
            try clear q1
            try clear hx1
            try clear c2
            try clear c2b0
            try clear c2b1
            try clear p2
            try clear c3
            try clear c3b0
            try clear c5
            try clear c5b0
            try clear c6
            try clear c6b0
            try clear c7
            try clear c7b0
            try clear c8
            try clear c8b0
            try clear hx106_0
            try clear hx106_1
            try clear hx106_2
            try clear hx106_3
            try clear hx106_4
            try clear hx107_0
            try clear hx107_1
            try clear hx107_2
            try clear hx107_3
            try clear hx107_4
            try clear hx108_0
            try clear hx108_1
            try clear hx108_2
            try clear hx108_3
            try clear hx108_4
            try clear hx109_0
            try clear hx109_1
            try clear hx109_2
            try clear hx109_3
            try clear hx109_4
            try clear p106
            try clear p107
            try clear p108
            try clear p109
            try clear p2
            try clear q106
            try clear q107
            try clear q108
            try clear q109
            obtain ⟨kq, x43_3, rfl, HA, HJ3, ⟨mc3, rfl⟩⟩ := hcut
            cases kq with
            | zero => exact absurd HA.out (by simp [aquiferref26_Check.j1])
            | succ kj3 =>
              have H := HA.out
              clear HA
              simp only [aquiferref26_Check.j1] at H
              by_cases c9 : x43_3 = true
              · subst c9
                have H1 : (some 2) = some r := by rw [if_pos rfl] at H; exact H
                clear H
                have H := H1
                clear H1
                obtain rfl := Option.some.inj H
                go_wp2
                repeat (go_quiet (fail); try go_wp2)
                go_ret
                exact ⟨by first | rfl | (simp; done) | (simp [*]; done), by repeat (first | exact Drawn0.refl _ | apply Drawn0.step)⟩
              · replace c9 := Bool.eq_false_iff.mpr c9
                subst c9
                have H1 : (aquiferref26_Check.l1 kj3 l0 x3_1 0) = some r := by rw [if_neg (show ¬ (false = true) by decide)] at H; exact H
                clear H
                have H := H1
                clear H1
                have H' := Aside0.mk H
                clear H
                go_wp2
                repeat (go_quiet (fail); try go_wp2)
                go_loopg [4] kj3 (fun kq v4 w' => ∃ (x4_3 : Int), v4 = .int .i64 x4_3 ∧ Aside0 (aquiferref26_Check.l1 kq l0 x3_1 x4_3 = some r) ∧ Aside0 (kq ≤ kj3) ∧ Drawn0 w w')
                case atStart => exact ⟨(0), (by first | rfl | (simp; done) | (simp [*]; done)), H', ⟨Nat.le_refl _⟩, by repeat (first | exact Drawn0.refl _ | apply Drawn0.step)⟩
                case round =>
                  clear H'
                  try clear c1
                  try clear p1
                  try clear q1
                  try clear hx1
                  try clear c2
                  try clear c2b0
                  try clear c2b1
                  try clear p2
                  try clear c3
                  try clear c3b0
                  try clear c5
                  try clear c5b0
                  try clear c6
                  try clear c6b0
                  try clear c7
                  try clear c7b0
                  try clear c8
                  try clear c8b0
                  try clear c9
                  try clear hx106_0
                  try clear hx106_1
                  try clear hx106_2
                  try clear hx106_3
                  try clear hx106_4
                  try clear hx107_0
                  try clear hx107_1
                  try clear hx107_2
                  try clear hx107_3
                  try clear hx107_4
                  try clear hx108_0
                  try clear hx108_1
                  try clear hx108_2
                  try clear hx108_3
                  try clear hx108_4
                  try clear hx109_0
                  try clear hx109_1
                  try clear hx109_2
                  try clear hx109_3
                  try clear hx109_4
                  try clear p1
                  try clear p106
                  try clear p107
                  try clear p108
                  try clear p109
                  try clear p2
                  try clear q1
                  try clear q106
                  try clear q107
                  try clear q108
                  try clear q109
                  obtain ⟨x4_3, rfl, HA, HK3, ⟨m3, rfl⟩⟩ := hrel
                  cases gk with
                  | zero => exact absurd HA.out (by simp [aquiferref26_Check.l1])
                  | succ k3 =>
                    have H := HA.out
                    clear HA
                    simp only [aquiferref26_Check.l1] at H
                    by_cases c10 : x4_3 < x3_1
                    · rw [if_pos c10] at H
                      have c10b0 : decide (x4_3 < x3_1) = true := decide_eq_true c10
                      clear c10
                      by_cases c11 : 0 ≤ x4_3
                      · rw [if_pos c11] at H
                        have c11b0 : decide (0 ≤ x4_3) = true := decide_eq_true c11
                        clear c11
                        by_cases c12 : x4_3 < (l0.length : Int)
                        · rw [if_pos c12] at H
                          have c12b0 : decide (x4_3 < (l0.length : Int)) = true := decide_eq_true c12
                          clear c12
                          by_cases c13 : 0 ≤ x3_1
                          · rw [if_pos c13] at H
                            have c13b0 : decide (0 ≤ x3_1) = true := decide_eq_true c13
                            clear c13
                            by_cases c14 : x3_1 < (l0.length : Int)
                            · rw [if_pos c14] at H
                              have c14b0 : decide (x3_1 < (l0.length : Int)) = true := decide_eq_true c14
                              clear c14
                              by_cases c15 : ((rd_T35 l0 x4_3).f0).toList = ((rd_T35 l0 x3_1).f0).toList
                              · rw [if_pos c15] at H
                                have c15b0 : (((rd_T35 l0 x4_3).f0).toList == ((rd_T35 l0 x3_1).f0).toList) = true := beq_iff_eq.mpr c15
                                have c15b1 : (((rd_T35 l0 x4_3).f0).toList != ((rd_T35 l0 x3_1).f0).toList) = false := bne_eq_false_iff_eq.mpr c15
                                clear c15
                                obtain rfl := Option.some.inj H
                                have p110 : 0 ≤ (x4_3 : Int) := of_decide_eq_true (by first | (with_reducible assumption) | assumption)
                                have q110 : x4_3 < (l0.length : Int) := of_decide_eq_true (by first | (with_reducible assumption) | assumption)
                                obtain ⟨ad110, e110, hx110_0, hx110_1, hx110_2, hx110_3, hx110_4⟩ := at_T35 HR0.out x4_3 p110 q110
                                cases e110
                                replace p110 := eq_true p110
                                replace q110 := eq_true q110
                                have p111 : 0 ≤ (x3_1 : Int) := of_decide_eq_true (by first | (with_reducible assumption) | assumption)
                                have q111 : x3_1 < (l0.length : Int) := of_decide_eq_true (by first | (with_reducible assumption) | assumption)
                                obtain ⟨ad111, e111, hx111_0, hx111_1, hx111_2, hx111_3, hx111_4⟩ := at_T35 HR0.out x3_1 p111 q111
                                obtain rfl : ad110 = ad111 := (by injection e111)
                                replace p111 := eq_true p111
                                replace q111 := eq_true q111
                                go_wp2
                                repeat (go_quiet (fail); try go_wp2)
                                go_ret
                                exact ⟨by first | rfl | (simp; done) | (simp [*]; done), by repeat (first | exact Drawn0.refl _ | apply Drawn0.step)⟩
                              · rw [if_neg c15] at H
                                have c15b0 : (((rd_T35 l0 x4_3).f0).toList == ((rd_T35 l0 x3_1).f0).toList) = false := beq_eq_false_iff_ne.mpr c15
                                have c15b1 : (((rd_T35 l0 x4_3).f0).toList != ((rd_T35 l0 x3_1).f0).toList) = true := bne_iff_ne.mpr c15
                                have H' := Aside0.mk H
                                clear H
                                have p110 : 0 ≤ (x4_3 : Int) := of_decide_eq_true (by first | (with_reducible assumption) | assumption)
                                have q110 : x4_3 < (l0.length : Int) := of_decide_eq_true (by first | (with_reducible assumption) | assumption)
                                obtain ⟨ad110, e110, hx110_0, hx110_1, hx110_2, hx110_3, hx110_4⟩ := at_T35 HR0.out x4_3 p110 q110
                                cases e110
                                replace p110 := eq_true p110
                                replace q110 := eq_true q110
                                have p111 : 0 ≤ (x3_1 : Int) := of_decide_eq_true (by first | (with_reducible assumption) | assumption)
                                have q111 : x3_1 < (l0.length : Int) := of_decide_eq_true (by first | (with_reducible assumption) | assumption)
                                obtain ⟨ad111, e111, hx111_0, hx111_1, hx111_2, hx111_3, hx111_4⟩ := at_T35 HR0.out x3_1 p111 q111
                                obtain rfl : ad110 = ad111 := (by injection e111)
                                replace p111 := eq_true p111
                                replace q111 := eq_true q111
                                go_wp2
                                repeat (go_quiet (fail); try go_wp2)
                                go_roundg k3
                                case measure => have := HK1.out; have := HJ3.out; have := HK3.out; omega
                                case rel => exact ⟨(wrap64 (x4_3 + 1)), (by first | rfl | (simp; done) | (simp [*]; done)), H', ⟨by have := HK1.out; have := HJ3.out; have := HK3.out; omega⟩, by repeat (first | exact Drawn0.refl _ | apply Drawn0.step)⟩
                            · rw [if_neg c14] at H
                              exact absurd H (by simp)
                          · rw [if_neg c13] at H
                            exact absurd H (by simp)
                        · rw [if_neg c12] at H
                          exact absurd H (by simp)
                      · rw [if_neg c11] at H
                        exact absurd H (by simp)
                    · rw [if_neg c10] at H
                      have c10b0 : decide (x4_3 < x3_1) = false := decide_eq_false c10
                      clear c10
                      have H' := Aside0.mk H
                      clear H
                      go_wp2
                      repeat (go_quiet (fail); try go_wp2)
                      go_roundg k3
                      case measure => have := HK1.out; have := HJ3.out; have := HK3.out; omega
                      case rel => exact ⟨(wrap64 (x3_1 + 1)), (by first | rfl | (simp; done) | (simp [*]; done)), H', ⟨by have := HK1.out; have := HJ3.out; have := HK3.out; omega⟩, by repeat (first | exact Drawn0.refl _ | apply Drawn0.step)⟩
        · rw [if_neg c3] at H
          have c3b0 : decide (x3_1 < (l0.length : Int)) = false := decide_eq_false c3
          clear c3
          obtain rfl := Option.some.inj H
          go_wp2
          repeat (go_quiet (fail); try go_wp2)
          go_ret
          exact ⟨by first | rfl | (simp; done) | (simp [*]; done), by repeat (first | exact Drawn0.refl _ | apply Drawn0.step)⟩

end Go.Proofs.YtdggdmdefmljlaaDoor.Q

namespace Go.Proofs.YtdggdmdefmljlaaDoor.Q
open Go.RowKit Go.Proofs.YtdggdmdefmljlaaDoorW.PrintWords Go.Proofs.YtdggdmdefmljlaaDoorW.PrintLast Go.Proofs.YtdggdmdefmljlaaDoorW.PrintMore Go.Proofs.YtdggdmdefmljlaaDoorK
attribute [local go_sem] max2_int min2_int max_two min_two max_three min_three max_four min_four   -- for this text's walks alone
attribute [local go_sem ↓] Go.Proofs.YtdggdmdefmljlaaDoorK.isSome_setCell
set_option linter.unusedVariables false
set_option linter.unusedSimpArgs false

/-! ### aquiferref26_Bytes: function 12 -/
def aquiferref26_Bytes.l0 : Nat → List (S35) → Int → Int → Option (Int)
  | 0, _, _, _ => none
  | k + 1, x0, x3, x4 => if x4 < (x0.length : Int) then ((aquiferref26_Check.f k x0).bind fun t112 => (if t112 = 0 then (if 0 ≤ x4 then (aquiferref26_Bytes.l0 k x0 (wrap64 (x3 + ((rd_T35 x0 x4).f1))) (wrap64 (x4 + 1))) else (none)) else (some x3))) else (some x3)
def aquiferref26_Bytes.f (k : Nat) (l0 : List (S35)) : Option (Int) := aquiferref26_Bytes.l0 k l0 0 0
theorem aquiferref26_Bytes.mono_l : ∀ k, (∀ y0 y1 y2, LeO (aquiferref26_Bytes.l0 k y0 y1 y2) (aquiferref26_Bytes.l0 (k + 1) y0 y1 y2))
  | 0 => fun _ _ _ r h => by simp [aquiferref26_Bytes.l0] at h
  | k + 1 => by
    have ih0 := aquiferref26_Bytes.mono_l k
    · intro y0 y1 y2
      unfold aquiferref26_Bytes.l0
      repeat' first
      | (with_reducible exact ih0 _ _ _)
      | (with_reducible exact aquiferref26_Check.mono _ _)
      | (with_reducible exact LeO.refl _)
      | (with_reducible exact LeO.none _)
      | (with_reducible refine LeO.ite ?_ ?_)
      | (with_reducible refine LeO.bind ?_ (fun _ => ?_))
      | exact ih0 _ _ _
      | exact aquiferref26_Check.mono _ _
      | exact LeO.none _
      | refine LeO.ite ?_ ?_
      | refine LeO.bind ?_ (fun _ => ?_)
theorem aquiferref26_Bytes.mono : ∀ a0 k, LeO (aquiferref26_Bytes.f k a0) (aquiferref26_Bytes.f (k + 1) a0) := by
  intro a0 k
  have ih0 := aquiferref26_Bytes.mono_l k
  unfold aquiferref26_Bytes.f
  repeat' first
      | (with_reducible exact ih0 _ _ _)
      | (with_reducible exact aquiferref26_Check.mono _ _)
      | (with_reducible exact LeO.refl _)
      | (with_reducible exact LeO.none _)
      | (with_reducible refine LeO.ite ?_ ?_)
      | (with_reducible refine LeO.bind ?_ (fun _ => ?_))
      | exact ih0 _ _ _
      | exact aquiferref26_Check.mono _ _
      | exact LeO.none _
      | refine LeO.ite ?_ ?_
      | refine LeO.bind ?_ (fun _ => ?_)
set_option maxHeartbeats 8000000 in
set_option maxRecDepth 100000 in
theorem aquiferref26_Bytes.calls (k : Nat) (A0 : Option Addr) (c0 : Nat) (l0 : List (S35)) (r : Int) (w : World) (hr0 : Kd.C k35 w A0 l0.length l0) (hc0 : l0.length ≤ c0) (h : aquiferref26_Bytes.f k l0 = some r) :
    Calls Tryd.prog 12 #[.slice A0 l0.length c0] w fun e w' => e = .returned (.int .i64 r) ∧ Drawn0 w w' := by
  have HR0 := Aside0.mk hr0
  have HC0 := Aside0.mk hc0
  clear hr0 hc0
  have H : (aquiferref26_Bytes.l0 k l0 0 0) = some r := h
  clear h
  have H' := Aside0.mk H
  clear H
  go_enter Tryd.func12, Tryd.ntmps12
  go_wp2
  go_loopg [3, 4] k (fun kq v3 v4 w' => ∃ (x3_1 : Int) (x4_1 : Int), v3 = .int .i64 x3_1 ∧ v4 = .int .i64 x4_1 ∧ Aside0 (aquiferref26_Bytes.l0 kq l0 x3_1 x4_1 = some r) ∧ Aside0 (kq ≤ k) ∧ Drawn0 w w')
  case atStart => exact ⟨(0), (0), (by first | rfl | (simp; done) | (simp [*]; done)), (by first | rfl | (simp; done) | (simp [*]; done)), H', ⟨Nat.le_refl _⟩, by repeat (first | exact Drawn0.refl _ | apply Drawn0.step)⟩
  case round =>
    clear H'
    try clear c1
    obtain ⟨x3_1, x4_1, rfl, rfl, HA, HK1, ⟨m1, rfl⟩⟩ := hrel
    cases gk with
    | zero => exact absurd HA.out (by simp [aquiferref26_Bytes.l0])
    | succ k1 =>
      have H := HA.out
      clear HA
      simp only [aquiferref26_Bytes.l0] at H
      by_cases c2 : x4_1 < (l0.length : Int)
      · rw [if_pos c2] at H
        have c2b0 : decide (x4_1 < (l0.length : Int)) = true := decide_eq_true c2
        clear c2
        replace H := Option.bind_eq_some_iff.mp H
        obtain ⟨t112, A30, H⟩ := H
        replace H : (if t112 = 0 then (if 0 ≤ x4_1 then (aquiferref26_Bytes.l0 k1 l0 (wrap64 (x3_1 + ((rd_T35 l0 x4_1).f1))) (wrap64 (x4_1 + 1))) else (none)) else (some x3_1)) = some r := H
        have A3 := Aside0.mk A30
        clear A30
        by_cases c4 : t112 = 0
        · rw [if_pos c4] at H
          have c4b0 : (t112 == 0) = true := beq_iff_eq.mpr c4
          have c4b1 : (t112 != 0) = false := bne_eq_false_iff_eq.mpr c4
          clear c4
          by_cases c5 : 0 ≤ x4_1
          · rw [if_pos c5] at H
            have c5b0 : decide (0 ≤ x4_1) = true := decide_eq_true c5
            clear c5
            have H' := Aside0.mk H
            clear H
            go_wp2_with (first | (go_at_call 10; (with_reducible refine (aquiferref26_Check.calls k1 _ _ l0 t112 _ ?side1 ?side2 A3.out).mono ?_); (case side1 => exact CU HR0.out); (case side2 => exact HC0.out); rintro e w' ⟨rfl, ⟨nd, rfl⟩⟩; have p113 : 0 ≤ (x4_1 : Int) := of_decide_eq_true (by first | (with_reducible assumption) | assumption); have q113 : x4_1 < (l0.length : Int) := of_decide_eq_true (by first | (with_reducible assumption) | assumption); obtain ⟨ad113, e113, hx113_0, hx113_1, hx113_2, hx113_3, hx113_4⟩ := at_T35 HR0.out x4_1 p113 q113; cases e113; replace p113 := eq_true p113; replace q113 := eq_true q113))
            go_roundg k1
            case measure => have := HK1.out; omega
            case rel => exact ⟨(wrap64 (x3_1 + ((rd_T35 l0 x4_1).f1))), (wrap64 (x4_1 + 1)), (by first | rfl | (simp; done) | (simp [*]; done)), (by first | rfl | (simp; done) | (simp [*]; done)), H', ⟨by have := HK1.out; omega⟩, by repeat (first | exact Drawn0.refl _ | apply Drawn0.step)⟩
          · rw [if_neg c5] at H
            exact absurd H (by simp)
        · rw [if_neg c4] at H
          have c4b0 : (t112 == 0) = false := beq_eq_false_iff_ne.mpr c4
          have c4b1 : (t112 != 0) = true := bne_iff_ne.mpr c4
          obtain rfl := Option.some.inj H
          go_wp2_with (first | (go_at_call 10; (with_reducible refine (aquiferref26_Check.calls k1 _ _ l0 t112 _ ?side1 ?side2 A3.out).mono ?_); (case side1 => exact CU HR0.out); (case side2 => exact HC0.out); rintro e w' ⟨rfl, ⟨nd, rfl⟩⟩))
          go_ret
          exact ⟨by first | rfl | (simp; done) | (simp [*]; done), by repeat (first | exact Drawn0.refl _ | apply Drawn0.step)⟩
      · rw [if_neg c2] at H
        have c2b0 : decide (x4_1 < (l0.length : Int)) = false := decide_eq_false c2
        clear c2
        obtain rfl := Option.some.inj H
        go_wp2
        go_ret
        exact ⟨by first | rfl | (simp; done) | (simp [*]; done), by repeat (first | exact Drawn0.refl _ | apply Drawn0.step)⟩

end Go.Proofs.YtdggdmdefmljlaaDoor.Q

namespace Go.Proofs.YtdggdmdefmljlaaDoor.Q
open Go.RowKit Go.Proofs.YtdggdmdefmljlaaDoorW.PrintWords Go.Proofs.YtdggdmdefmljlaaDoorW.PrintLast Go.Proofs.YtdggdmdefmljlaaDoorW.PrintMore Go.Proofs.YtdggdmdefmljlaaDoorK
attribute [local go_sem] max2_int min2_int max_two min_two max_three min_three max_four min_four   -- for this text's walks alone
attribute [local go_sem ↓] Go.Proofs.YtdggdmdefmljlaaDoorK.isSome_setCell
set_option linter.unusedVariables false
set_option linter.unusedSimpArgs false

/-! ### aquiferref26_Fixed: function 14 -/
mutual
def aquiferref26_Fixed.l0 : Nat → List (S35) → Int → Int → Option (Int)
  | 0, _, _, _ => none
  | k + 1, x0, x3, x4 => if x4 < (x0.length : Int) then ((aquiferref26_Check.f k x0).bind fun t115 => (aquiferref26_Fixed.j1 k x0 x3 x4 (t115 == 0))) else (aquiferref26_Fixed.j1 k x0 x3 x4 false)
def aquiferref26_Fixed.j1 : Nat → List (S35) → Int → Int → Bool → Option (Int)
  | 0, _, _, _, _ => none
  | k + 1, x0, x3, x4, x13 => if x13 = true then (if 0 ≤ x4 then (if x4 < (x0.length : Int) then (if (rd_T35 x0 x4).f3 = true then (aquiferref26_Fixed.l0 k x0 (wrap64 (x3 + ((rd_T35 x0 x4).f1))) (wrap64 (x4 + 1))) else (if (rd_T35 x0 x4).f4 = true then (aquiferref26_Fixed.l0 k x0 (wrap64 (x3 + ((rd_T35 x0 x4).f1))) (wrap64 (x4 + 1))) else (aquiferref26_Fixed.l0 k x0 x3 (wrap64 (x4 + 1))))) else (none)) else (none)) else (some x3)
end
def aquiferref26_Fixed.f (k : Nat) (l0 : List (S35)) : Option (Int) := aquiferref26_Fixed.l0 k l0 0 0
theorem aquiferref26_Fixed.mono_l : ∀ k, (∀ y0 y1 y2, LeO (aquiferref26_Fixed.l0 k y0 y1 y2) (aquiferref26_Fixed.l0 (k + 1) y0 y1 y2)) ∧ (∀ y0 y1 y2 y3, LeO (aquiferref26_Fixed.j1 k y0 y1 y2 y3) (aquiferref26_Fixed.j1 (k + 1) y0 y1 y2 y3))
  | 0 => ⟨fun _ _ _ r h => by simp [aquiferref26_Fixed.l0] at h, fun _ _ _ _ r h => by simp [aquiferref26_Fixed.j1] at h⟩
  | k + 1 => by
    obtain ⟨ih0, ih1⟩ := aquiferref26_Fixed.mono_l k
    refine ⟨?_, ?_⟩
    · intro y0 y1 y2
      unfold aquiferref26_Fixed.l0
      repeat' first
      | (with_reducible exact ih0 _ _ _)
      | (with_reducible exact ih1 _ _ _ _)
      | (with_reducible exact aquiferref26_Check.mono _ _)
      | (with_reducible exact LeO.refl _)
      | (with_reducible exact LeO.none _)
      | (with_reducible refine LeO.ite ?_ ?_)
      | (with_reducible refine LeO.bind ?_ (fun _ => ?_))
      | exact ih0 _ _ _
      | exact ih1 _ _ _ _
      | exact aquiferref26_Check.mono _ _
      | exact LeO.none _
      | refine LeO.ite ?_ ?_
      | refine LeO.bind ?_ (fun _ => ?_)
    · intro y0 y1 y2 y3
      unfold aquiferref26_Fixed.j1
      repeat' first
      | (with_reducible exact ih0 _ _ _)
      | (with_reducible exact ih1 _ _ _ _)
      | (with_reducible exact aquiferref26_Check.mono _ _)
      | (with_reducible exact LeO.refl _)
      | (with_reducible exact LeO.none _)
      | (with_reducible refine LeO.ite ?_ ?_)
      | (with_reducible refine LeO.bind ?_ (fun _ => ?_))
      | exact ih0 _ _ _
      | exact ih1 _ _ _ _
      | exact aquiferref26_Check.mono _ _
      | exact LeO.none _
      | refine LeO.ite ?_ ?_
      | refine LeO.bind ?_ (fun _ => ?_)
theorem aquiferref26_Fixed.mono : ∀ a0 k, LeO (aquiferref26_Fixed.f k a0) (aquiferref26_Fixed.f (k + 1) a0) := by
  intro a0 k
  obtain ⟨ih0, ih1⟩ := aquiferref26_Fixed.mono_l k
  unfold aquiferref26_Fixed.f
  repeat' first
      | (with_reducible exact ih0 _ _ _)
      | (with_reducible exact ih1 _ _ _ _)
      | (with_reducible exact aquiferref26_Check.mono _ _)
      | (with_reducible exact LeO.refl _)
      | (with_reducible exact LeO.none _)
      | (with_reducible refine LeO.ite ?_ ?_)
      | (with_reducible refine LeO.bind ?_ (fun _ => ?_))
      | exact ih0 _ _ _
      | exact ih1 _ _ _ _
      | exact aquiferref26_Check.mono _ _
      | exact LeO.none _
      | refine LeO.ite ?_ ?_
      | refine LeO.bind ?_ (fun _ => ?_)
set_option maxHeartbeats 8000000 in
set_option maxRecDepth 100000 in
theorem aquiferref26_Fixed.calls (k : Nat) (A0 : Option Addr) (c0 : Nat) (l0 : List (S35)) (r : Int) (w : World) (hr0 : Kd.C k35 w A0 l0.length l0) (hc0 : l0.length ≤ c0) (h : aquiferref26_Fixed.f k l0 = some r) :
    Calls Tryd.prog 14 #[.slice A0 l0.length c0] w fun e w' => e = .returned (.int .i64 r) ∧ Drawn0 w w' := by
  have HR0 := Aside0.mk hr0
  have HC0 := Aside0.mk hc0
  clear hr0 hc0
  have H : (aquiferref26_Fixed.l0 k l0 0 0) = some r := h
  clear h
  have H' := Aside0.mk H
  clear H
  go_enter Tryd.func14, Tryd.ntmps14
  go_wp2
  go_loopg [3, 4] k (fun kq v3 v4 w' => ∃ (x3_1 : Int) (x4_1 : Int), v3 = .int .i64 x3_1 ∧ v4 = .int .i64 x4_1 ∧ Aside0 (aquiferref26_Fixed.l0 kq l0 x3_1 x4_1 = some r) ∧ Aside0 (kq ≤ k) ∧ Drawn0 w w')
  case atStart => exact ⟨(0), (0), (by first | rfl | (simp; done) | (simp [*]; done)), (by first | rfl | (simp; done) | (simp [*]; done)), H', ⟨Nat.le_refl _⟩, by repeat (first | exact Drawn0.refl _ | apply Drawn0.step)⟩
  case round =>
    clear H'
    try clear c1
    obtain ⟨x3_1, x4_1, rfl, rfl, HA, HK1, ⟨m1, rfl⟩⟩ := hrel
    cases gk with
    | zero => exact absurd HA.out (by simp [aquiferref26_Fixed.l0])
    | succ k1 =>
      have H := HA.out
      clear HA
      simp only [aquiferref26_Fixed.l0] at H
      have HC2 := Aside0.mk H
      clear H
      go_upto_region 3 with (fail)
      go_cut [13] (fun v13 wc => ∃ (kq : Nat) (x13_1 : Bool), v13 = .bool x13_1 ∧ Aside0 (aquiferref26_Fixed.j1 kq l0 x3_1 x4_1 x13_1 = some r) ∧ Aside0 (kq ≤ k1) ∧ Drawn0 w wc)
      case first =>
        have H := HC2.out
        clear HC2
        by_cases c3 : x4_1 < (l0.length : Int)
        · rw [if_pos c3] at H
          have c3b0 : decide (x4_1 < (l0.length : Int)) = true := decide_eq_true c3
          clear c3
          (first | rw [c3b0] | (simp only [i64_w, i32_w]; rw [c3b0]) | skip)
          replace H := Option.bind_eq_some_iff.mp H
          obtain ⟨t115, A40, H⟩ := H
          replace H : (aquiferref26_Fixed.j1 k1 l0 x3_1 x4_1 (t115 == 0)) = some r := H
          have A4 := Aside0.mk A40
          clear A40
          have H' := Aside0.mk H
          clear H
          go_wp2_with (first | (go_at_call 10; (with_reducible refine (aquiferref26_Check.calls k1 _ _ l0 t115 _ ?side1 ?side2 A4.out).mono ?_); (case side1 => exact CU HR0.out); (case side2 => exact HC0.out); rintro e w' ⟨rfl, ⟨nd, rfl⟩⟩))
          go_meet
          case rel => exact ⟨_, ((t115 == 0)), (by first | rfl | (simp; done) | (simp [*]; done)), H', ⟨by have := HK1.out; first | omega | exact Nat.le_refl _⟩, by repeat (first | exact Drawn0.refl _ | apply Drawn0.step)⟩
        · rw [if_neg c3] at H
          have c3b0 : decide (x4_1 < (l0.length : Int)) = false := decide_eq_false c3
          clear c3
          (first | rw [c3b0] | (simp only [i64_w, i32_w]; rw [c3b0]) | skip)
          have H' := Aside0.mk H
          clear H
          go_wp2
          go_meet
          case rel => exact ⟨_, (false), (by first | rfl | (simp; done) | (simp [*]; done)), H', ⟨by have := HK1.out; first | omega | exact Nat.le_refl _⟩, by repeat (first | exact Drawn0.refl _ | apply Drawn0.step)⟩
      case rest =>
        clear HC2
        try clear c1
        try clear p2
        try clear c3
        try clear c3b0
        obtain ⟨kq, x13_1, rfl, HA, HJ1, ⟨mc1, rfl⟩⟩ := hcut
        cases kq with
        | zero => exact absurd HA.out (by simp [aquiferref26_Fixed.j1])
        | succ kj1 =>
          have H := HA.out
          clear HA
          simp only [aquiferref26_Fixed.j1] at H
          by_cases c5 : x13_1 = true
          · subst c5
            have H1 : (if 0 ≤ x4_1 then (if x4_1 < (l0.length : Int) then (if (rd_T35 l0 x4_1).f3 = true then (aquiferref26_Fixed.l0 kj1 l0 (wrap64 (x3_1 + ((rd_T35 l0 x4_1).f1))) (wrap64 (x4_1 + 1))) else (if (rd_T35 l0 x4_1).f4 = true then (aquiferref26_Fixed.l0 kj1 l0 (wrap64 (x3_1 + ((rd_T35 l0 x4_1).f1))) (wrap64 (x4_1 + 1))) else (aquiferref26_Fixed.l0 kj1 l0 x3_1 (wrap64 (x4_1 + 1))))) else (none)) else (none)) = some r := by rw [if_pos rfl] at H; exact H
            clear H
            have H := H1
            clear H1
            by_cases c6 : 0 ≤ x4_1
            · rw [if_pos c6] at H
              have c6b0 : decide (0 ≤ x4_1) = true := decide_eq_true c6
              clear c6
              by_cases c7 : x4_1 < (l0.length : Int)
              · rw [if_pos c7] at H
                have c7b0 : decide (x4_1 < (l0.length : Int)) = true := decide_eq_true c7
                clear c7
                obtain ⟨bq8, hbq8⟩ : ∃ b_ : Bool, b_ = ((rd_T35 l0 x4_1).f3) := ⟨_, rfl⟩
                replace H : (if bq8 = true then (aquiferref26_Fixed.l0 kj1 l0 (wrap64 (x3_1 + ((rd_T35 l0 x4_1).f1))) (wrap64 (x4_1 + 1))) else (if (rd_T35 l0 x4_1).f4 = true then (aquiferref26_Fixed.l0 kj1 l0 (wrap64 (x3_1 + ((rd_T35 l0 x4_1).f1))) (wrap64 (x4_1 + 1))) else (aquiferref26_Fixed.l0 kj1 l0 x3_1 (wrap64 (x4_1 + 1))))) = some r := by rw [← hbq8] at H; exact H
                have Nbq8 := Aside0.mk hbq8
                clear hbq8
                by_cases c9 : bq8 = true
                · subst c9
                  have H1 : (aquiferref26_Fixed.l0 kj1 l0 (wrap64 (x3_1 + ((rd_T35 l0 x4_1).f1))) (wrap64 (x4_1 + 1))) = some r := by rw [if_pos rfl] at H; exact H
                  clear H
                  have H := H1
                  clear H1
                  have H' := Aside0.mk H
                  clear H
                  have p116 : 0 ≤ (x4_1 : Int) := of_decide_eq_true (by first | (with_reducible assumption) | assumption)
                  have q116 : x4_1 < (l0.length : Int) := of_decide_eq_true (by first | (with_reducible assumption) | assumption)
                  obtain ⟨ad116, e116, hx116_0, hx116_1, hx116_2, hx116_3, hx116_4⟩ := at_T35 HR0.out x4_1 p116 q116
                  (try rw [← Nbq8.out] at hx116_3)
                  (try rw [← Nbq8.out] at hx116_4)
                  cases e116
                  replace p116 := eq_true p116
                  replace q116 := eq_true q116
                  have p117 : 0 ≤ (x4_1 : Int) := of_decide_eq_true (by first | (with_reducible assumption) | assumption)
                  have q117 : x4_1 < (l0.length : Int) := of_decide_eq_true (by first | (with_reducible assumption) | assumption)
                  obtain ⟨ad117, e117, hx117_0, hx117_1, hx117_2, hx117_3, hx117_4⟩ := at_T35 HR0.out x4_1 p117 q117
                  (try rw [← Nbq8.out] at hx117_3)
                  (try rw [← Nbq8.out] at hx117_4)
                  obtain rfl : ad116 = ad117 := (by injection e117)
                  replace p117 := eq_true p117
                  replace q117 := eq_true q117
                  go_wp2
                  go_roundg kj1
                  case measure => have := HK1.out; have := HJ1.out; omega
                  case rel => exact ⟨(wrap64 (x3_1 + ((rd_T35 l0 x4_1).f1))), (wrap64 (x4_1 + 1)), (by first | rfl | (simp; done) | (simp [*]; done)), (by first | rfl | (simp; done) | (simp [*]; done)), H', ⟨by have := HK1.out; have := HJ1.out; omega⟩, by repeat (first | exact Drawn0.refl _ | apply Drawn0.step)⟩
                · replace c9 := Bool.eq_false_iff.mpr c9
                  subst c9
                  have H1 : (if (rd_T35 l0 x4_1).f4 = true then (aquiferref26_Fixed.l0 kj1 l0 (wrap64 (x3_1 + ((rd_T35 l0 x4_1).f1))) (wrap64 (x4_1 + 1))) else (aquiferref26_Fixed.l0 kj1 l0 x3_1 (wrap64 (x4_1 + 1)))) = some r := by rw [if_neg (show ¬ (false = true) by decide)] at H; exact H
                  clear H
                  have H := H1
                  clear H1
                  obtain ⟨bq10, hbq10⟩ : ∃ b_ : Bool, b_ = ((rd_T35 l0 x4_1).f4) := ⟨_, rfl⟩
                  replace H : (if bq10 = true then (aquiferref26_Fixed.l0 kj1 l0 (wrap64 (x3_1 + ((rd_T35 l0 x4_1).f1))) (wrap64 (x4_1 + 1))) else (aquiferref26_Fixed.l0 kj1 l0 x3_1 (wrap64 (x4_1 + 1)))) = some r := by rw [← hbq10] at H; exact H
                  have Nbq10 := Aside0.mk hbq10
                  clear hbq10
                  by_cases c11 : bq10 = true
                  · subst c11
                    have H1 : (aquiferref26_Fixed.l0 kj1 l0 (wrap64 (x3_1 + ((rd_T35 l0 x4_1).f1))) (wrap64 (x4_1 + 1))) = some r := by rw [if_pos rfl] at H; exact H
                    clear H
                    have H := H1
                    clear H1
                    have H' := Aside0.mk H
                    clear H
                    have p116 : 0 ≤ (x4_1 : Int) := of_decide_eq_true (by first | (with_reducible assumption) | assumption)
                    have q116 : x4_1 < (l0.length : Int) := of_decide_eq_true (by first | (with_reducible assumption) | assumption)
                    obtain ⟨ad116, e116, hx116_0, hx116_1, hx116_2, hx116_3, hx116_4⟩ := at_T35 HR0.out x4_1 p116 q116
                    (try rw [← Nbq8.out] at hx116_3)
                    (try rw [← Nbq10.out] at hx116_3)
                    (try rw [← Nbq8.out] at hx116_4)
                    (try rw [← Nbq10.out] at hx116_4)
                    cases e116
                    replace p116 := eq_true p116
                    replace q116 := eq_true q116
                    have p118 : 0 ≤ (x4_1 : Int) := of_decide_eq_true (by first | (with_reducible assumption) | assumption)
                    have q118 : x4_1 < (l0.length : Int) := of_decide_eq_true (by first | (with_reducible assumption) | assumption)
                    obtain ⟨ad118, e118, hx118_0, hx118_1, hx118_2, hx118_3, hx118_4⟩ := at_T35 HR0.out x4_1 p118 q118
                    (try rw [← Nbq8.out] at hx118_3)
                    (try rw [← Nbq10.out] at hx118_3)
                    (try rw [← Nbq8.out] at hx118_4)
                    (try rw [← Nbq10.out] at hx118_4)
                    obtain rfl : ad116 = ad118 := (by injection e118)
                    replace p118 := eq_true p118
                    replace q118 := eq_true q118
                    have p119 : 0 ≤ (x4_1 : Int) := of_decide_eq_true (by first | (with_reducible assumption) | assumption)
                    have q119 : x4_1 < (l0.length : Int) := of_decide_eq_true (by first | (with_reducible assumption) | assumption)
                    obtain ⟨ad119, e119, hx119_0, hx119_1, hx119_2, hx119_3, hx119_4⟩ := at_T35 HR0.out x4_1 p119 q119
                    (try rw [← Nbq8.out] at hx119_3)
                    (try rw [← Nbq10.out] at hx119_3)
                    (try rw [← Nbq8.out] at hx119_4)
                    (try rw [← Nbq10.out] at hx119_4)
                    obtain rfl : ad116 = ad119 := (by injection e119)
                    replace p119 := eq_true p119
                    replace q119 := eq_true q119
                    go_wp2
                    go_roundg kj1
                    case measure => have := HK1.out; have := HJ1.out; omega
                    case rel => exact ⟨(wrap64 (x3_1 + ((rd_T35 l0 x4_1).f1))), (wrap64 (x4_1 + 1)), (by first | rfl | (simp; done) | (simp [*]; done)), (by first | rfl | (simp; done) | (simp [*]; done)), H', ⟨by have := HK1.out; have := HJ1.out; omega⟩, by repeat (first | exact Drawn0.refl _ | apply Drawn0.step)⟩
                  · replace c11 := Bool.eq_false_iff.mpr c11
                    subst c11
                    have H1 : (aquiferref26_Fixed.l0 kj1 l0 x3_1 (wrap64 (x4_1 + 1))) = some r := by rw [if_neg (show ¬ (false = true) by decide)] at H; exact H
                    clear H
                    have H := H1
                    clear H1
                    have H' := Aside0.mk H
                    clear H
                    have p116 : 0 ≤ (x4_1 : Int) := of_decide_eq_true (by first | (with_reducible assumption) | assumption)
                    have q116 : x4_1 < (l0.length : Int) := of_decide_eq_true (by first | (with_reducible assumption) | assumption)
                    obtain ⟨ad116, e116, hx116_0, hx116_1, hx116_2, hx116_3, hx116_4⟩ := at_T35 HR0.out x4_1 p116 q116
                    (try rw [← Nbq8.out] at hx116_3)
                    (try rw [← Nbq10.out] at hx116_3)
                    (try rw [← Nbq8.out] at hx116_4)
                    (try rw [← Nbq10.out] at hx116_4)
                    cases e116
                    replace p116 := eq_true p116
                    replace q116 := eq_true q116
                    have p118 : 0 ≤ (x4_1 : Int) := of_decide_eq_true (by first | (with_reducible assumption) | assumption)
                    have q118 : x4_1 < (l0.length : Int) := of_decide_eq_true (by first | (with_reducible assumption) | assumption)
                    obtain ⟨ad118, e118, hx118_0, hx118_1, hx118_2, hx118_3, hx118_4⟩ := at_T35 HR0.out x4_1 p118 q118
                    (try rw [← Nbq8.out] at hx118_3)
                    (try rw [← Nbq10.out] at hx118_3)
                    (try rw [← Nbq8.out] at hx118_4)
                    (try rw [← Nbq10.out] at hx118_4)
                    obtain rfl : ad116 = ad118 := (by injection e118)
                    replace p118 := eq_true p118
                    replace q118 := eq_true q118
                    go_wp2
                    go_roundg kj1
                    case measure => have := HK1.out; have := HJ1.out; omega
                    case rel => exact ⟨(x3_1), (wrap64 (x4_1 + 1)), (by first | rfl | (simp; done) | (simp [*]; done)), (by first | rfl | (simp; done) | (simp [*]; done)), H', ⟨by have := HK1.out; have := HJ1.out; omega⟩, by repeat (first | exact Drawn0.refl _ | apply Drawn0.step)⟩
              · rw [if_neg c7] at H
                exact absurd H (by simp)
            · rw [if_neg c6] at H
              exact absurd H (by simp)
          · replace c5 := Bool.eq_false_iff.mpr c5
            subst c5
            have H1 : (some x3_1) = some r := by rw [if_neg (show ¬ (false = true) by decide)] at H; exact H
            clear H
            have H := H1
            clear H1
            obtain rfl := Option.some.inj H
            go_wp2
            go_ret
            exact ⟨by first | rfl | (simp; done) | (simp [*]; done), by repeat (first | exact Drawn0.refl _ | apply Drawn0.step)⟩

end Go.Proofs.YtdggdmdefmljlaaDoor.Q

namespace Go.Proofs.YtdggdmdefmljlaaDoor.Q
open Go.RowKit Go.Proofs.YtdggdmdefmljlaaDoorW.PrintWords Go.Proofs.YtdggdmdefmljlaaDoorW.PrintLast Go.Proofs.YtdggdmdefmljlaaDoorW.PrintMore
attribute [local go_sem] max2_int min2_int max_two min_two max_three min_three max_four min_four   -- for this text's walks alone
attribute [local go_sem ↓] Go.Proofs.YtdggdmdefmljlaaDoorK.isSome_setCell
set_option linter.unusedVariables false
set_option linter.unusedSimpArgs false

theorem eqA35 (d : Nat) (w : World) (x0 y0 : ByteArray) (x1 y1 : Int) (x2 y2 : Int) (x3 y3 : Bool) (x4 y4 : Bool) :
    (Op.equalIn (d + 2) 35 (.agg #[.string x0, .int .i64 x1, .int .i64 x2, .bool x3, .bool x4]) (.agg #[.string y0, .int .i64 y1, .int .i64 y2, .bool y3, .bool y4])).run Tryd.prog w = .ok (x0.toList == y0.toList && (x1 == y1 && (x2 == y2 && (x3 == y3 && (x4 == y4))))) w := by
  refine eqA_of Tryd.underlying35 (by kernel_rfl) ?_
  refine eqf_cons (by rfl) (by go_simp; rfl) (by go_simp; rfl) (by go_simp) ?_
  refine eqf_cons (by rfl) (by go_simp; rfl) (by go_simp; rfl) (by go_simp) ?_
  refine eqf_cons (by rfl) (by go_simp; rfl) (by go_simp; rfl) (by go_simp) ?_
  refine eqf_cons (by rfl) (by go_simp; rfl) (by go_simp; rfl) (by go_simp) ?_
  exact eqf_last (by rfl) (by go_simp; rfl) (by go_simp; rfl) (by go_simp)
end Go.Proofs.YtdggdmdefmljlaaDoor.Q

namespace Go.Proofs.YtdggdmdefmljlaaDoor.Q
open Go.RowKit Go.Proofs.YtdggdmdefmljlaaDoorW.PrintWords Go.Proofs.YtdggdmdefmljlaaDoorW.PrintLast Go.Proofs.YtdggdmdefmljlaaDoorW.PrintMore
attribute [local go_sem] max2_int min2_int max_two min_two max_three min_three max_four min_four   -- for this text's walks alone
attribute [local go_sem ↓] Go.Proofs.YtdggdmdefmljlaaDoorK.isSome_setCell
set_option linter.unusedVariables false
set_option linter.unusedSimpArgs false

attribute [local go_sem high] eqA35
/-! ### aquiferref26_Same: function 15 -/
def aquiferref26_Same.l0 : Nat → List (S35) → List (S35) → Int → Option (Bool)
  | 0, _, _, _ => none
  | k + 1, x0, x1, x5 => if x5 < (x0.length : Int) then (if 0 ≤ x5 then (if x5 < (x1.length : Int) then (if (!((((rd_T35 x0 x5).f0).toList) == (((rd_T35 x1 x5).f0).toList)) || (!(((rd_T35 x0 x5).f1) == ((rd_T35 x1 x5).f1)) || (!(((rd_T35 x0 x5).f2) == ((rd_T35 x1 x5).f2)) || (!(((rd_T35 x0 x5).f3) == ((rd_T35 x1 x5).f3)) || (!(((rd_T35 x0 x5).f4) == ((rd_T35 x1 x5).f4))))))) = true then (some false) else (aquiferref26_Same.l0 k x0 x1 (wrap64 (x5 + 1)))) else (none)) else (none)) else (some true)
def aquiferref26_Same.f (k : Nat) (l0 : List (S35)) (l1 : List (S35)) : Option (Bool) := if (l0.length : Int) = (l1.length : Int) then (aquiferref26_Same.l0 k l0 l1 0) else (some false)
theorem aquiferref26_Same.mono_l : ∀ k, (∀ y0 y1 y2, LeO (aquiferref26_Same.l0 k y0 y1 y2) (aquiferref26_Same.l0 (k + 1) y0 y1 y2))
  | 0 => fun _ _ _ r h => by simp [aquiferref26_Same.l0] at h
  | k + 1 => by
    have ih0 := aquiferref26_Same.mono_l k
    · intro y0 y1 y2
      unfold aquiferref26_Same.l0
      repeat' first
      | (with_reducible exact ih0 _ _ _)
      | (with_reducible exact LeO.refl _)
      | (with_reducible exact LeO.none _)
      | (with_reducible refine LeO.ite ?_ ?_)
      | (with_reducible refine LeO.bind ?_ (fun _ => ?_))
      | exact ih0 _ _ _
      | exact LeO.none _
      | refine LeO.ite ?_ ?_
      | refine LeO.bind ?_ (fun _ => ?_)
theorem aquiferref26_Same.mono : ∀ a0 a1 k, LeO (aquiferref26_Same.f k a0 a1) (aquiferref26_Same.f (k + 1) a0 a1) := by
  intro a0 a1 k
  have ih0 := aquiferref26_Same.mono_l k
  unfold aquiferref26_Same.f
  repeat' first
      | (with_reducible exact ih0 _ _ _)
      | (with_reducible exact LeO.refl _)
      | (with_reducible exact LeO.none _)
      | (with_reducible refine LeO.ite ?_ ?_)
      | (with_reducible refine LeO.bind ?_ (fun _ => ?_))
      | exact ih0 _ _ _
      | exact LeO.none _
      | refine LeO.ite ?_ ?_
      | refine LeO.bind ?_ (fun _ => ?_)
set_option maxHeartbeats 8000000 in
set_option maxRecDepth 100000 in
theorem aquiferref26_Same.calls (k : Nat) (A0 : Option Addr) (c0 : Nat) (l0 : List (S35)) (A1 : Option Addr) (c1 : Nat) (l1 : List (S35)) (r : Bool) (w : World) (hr0 : Kd.C k35 w A0 l0.length l0) (hc0 : l0.length ≤ c0) (hr1 : Kd.C k35 w A1 l1.length l1) (hc1 : l1.length ≤ c1) (h : aquiferref26_Same.f k l0 l1 = some r) :
    Calls Tryd.prog 15 #[.slice A0 l0.length c0, .slice A1 l1.length c1] w fun e w' => e = .returned (.bool r) ∧ Drawn0 w w' := by
  have hu35 := Tryd.underlying35
  have HR0 := Aside0.mk hr0
  have HC0 := Aside0.mk hc0
  clear hr0 hc0
  have HR1 := Aside0.mk hr1
  have HC1 := Aside0.mk hc1
  clear hr1 hc1
  have H : (if (l0.length : Int) = (l1.length : Int) then (aquiferref26_Same.l0 k l0 l1 0) else (some false)) = some r := h
  clear h
  by_cases c3 : (l0.length : Int) = (l1.length : Int)
  · rw [if_pos c3] at H
    have c3b0 : ((l0.length : Int) == (l1.length : Int)) = true := beq_iff_eq.mpr c3
    have c3b1 : ((l0.length : Int) != (l1.length : Int)) = false := bne_eq_false_iff_eq.mpr c3
    have c3b2 : (l0.length == l1.length) = true := by first | simpa using c3 | (simp at c3 ⊢; omega)
    clear c3
    have H' := Aside0.mk H
    clear H
    go_enter Tryd.func15, Tryd.ntmps15
    go_wp2
    repeat (go_quiet (fail); try go_wp2)
    go_loopg [5] k (fun kq v5 w' => ∃ (x5_1 : Int), v5 = .int .i64 x5_1 ∧ Aside0 (aquiferref26_Same.l0 kq l0 l1 x5_1 = some r) ∧ Aside0 (kq ≤ k) ∧ Drawn0 w w')
    case atStart => exact ⟨(0), (by first | rfl | (simp; done) | (simp [*]; done)), H', ⟨Nat.le_refl _⟩, by repeat (first | exact Drawn0.refl _ | apply Drawn0.step)⟩
    case round =>
      clear H'
      try clear c1
      try clear p2
      try clear c3
      try clear c3b0
      try clear c3b1
      try clear c3b2
      obtain ⟨x5_1, rfl, HA, HK1, ⟨m1, rfl⟩⟩ := hrel
      cases gk with
      | zero => exact absurd HA.out (by simp [aquiferref26_Same.l0])
      | succ k1 =>
        have H := HA.out
        clear HA
        simp only [aquiferref26_Same.l0] at H
        by_cases c4 : x5_1 < (l0.length : Int)
        · rw [if_pos c4] at H
          have c4b0 : decide (x5_1 < (l0.length : Int)) = true := decide_eq_true c4
          clear c4
          by_cases c5 : 0 ≤ x5_1
          · rw [if_pos c5] at H
            have c5b0 : decide (0 ≤ x5_1) = true := decide_eq_true c5
            clear c5
            by_cases c6 : x5_1 < (l1.length : Int)
            · rw [if_pos c6] at H
              have c6b0 : decide (x5_1 < (l1.length : Int)) = true := decide_eq_true c6
              clear c6
              by_cases c7 : (!((((rd_T35 l0 x5_1).f0).toList) == (((rd_T35 l1 x5_1).f0).toList)) || (!(((rd_T35 l0 x5_1).f1) == ((rd_T35 l1 x5_1).f1)) || (!(((rd_T35 l0 x5_1).f2) == ((rd_T35 l1 x5_1).f2)) || (!(((rd_T35 l0 x5_1).f3) == ((rd_T35 l1 x5_1).f3)) || (!(((rd_T35 l0 x5_1).f4) == ((rd_T35 l1 x5_1).f4))))))) = true
              · rw [if_pos c7] at H
                have c7b0 : (!((((rd_T35 l0 x5_1).f0).toList) == (((rd_T35 l1 x5_1).f0).toList)) || (!(((rd_T35 l0 x5_1).f1) == ((rd_T35 l1 x5_1).f1)) || (!(((rd_T35 l0 x5_1).f2) == ((rd_T35 l1 x5_1).f2)) || (!(((rd_T35 l0 x5_1).f3) == ((rd_T35 l1 x5_1).f3)) || (!(((rd_T35 l0 x5_1).f4) == ((rd_T35 l1 x5_1).f4))))))) = true := c7
                clear c7
                obtain rfl := Option.some.inj H
                have p120 : 0 ≤ (x5_1 : Int) := of_decide_eq_true (by first | (with_reducible assumption) | assumption)
                have q120 : x5_1 < (l0.length : Int) := of_decide_eq_true (by first | (with_reducible assumption) | assumption)
                obtain ⟨ad120, e120, hx120_0, hx120_1, hx120_2, hx120_3, hx120_4⟩ := at_T35 HR0.out x5_1 p120 q120
                cases e120
                replace p120 := eq_true p120
                replace q120 := eq_true q120
                have p121 : 0 ≤ (x5_1 : Int) := of_decide_eq_true (by first | (with_reducible assumption) | assumption)
                have q121 : x5_1 < (l1.length : Int) := of_decide_eq_true (by first | (with_reducible assumption) | assumption)
                obtain ⟨ad121, e121, hx121_0, hx121_1, hx121_2, hx121_3, hx121_4⟩ := at_T35 HR1.out x5_1 p121 q121
                cases e121
                replace p121 := eq_true p121
                replace q121 := eq_true q121
                go_wp2
                repeat (go_quiet (fail); try go_wp2)
                go_ret
                exact ⟨by first | rfl | (simp; done) | (simp [*]; done), by repeat (first | exact Drawn0.refl _ | apply Drawn0.step)⟩
              · rw [if_neg c7] at H
                have c7b0 : (!((((rd_T35 l0 x5_1).f0).toList) == (((rd_T35 l1 x5_1).f0).toList)) || (!(((rd_T35 l0 x5_1).f1) == ((rd_T35 l1 x5_1).f1)) || (!(((rd_T35 l0 x5_1).f2) == ((rd_T35 l1 x5_1).f2)) || (!(((rd_T35 l0 x5_1).f3) == ((rd_T35 l1 x5_1).f3)) || (!(((rd_T35 l0 x5_1).f4) == ((rd_T35 l1 x5_1).f4))))))) = false := by simpa using c7
                clear c7
                have H' := Aside0.mk H
                clear H
                have p120 : 0 ≤ (x5_1 : Int) := of_decide_eq_true (by first | (with_reducible assumption) | assumption)
                have q120 : x5_1 < (l0.length : Int) := of_decide_eq_true (by first | (with_reducible assumption) | assumption)
                obtain ⟨ad120, e120, hx120_0, hx120_1, hx120_2, hx120_3, hx120_4⟩ := at_T35 HR0.out x5_1 p120 q120
                cases e120
                replace p120 := eq_true p120
                replace q120 := eq_true q120
                have p121 : 0 ≤ (x5_1 : Int) := of_decide_eq_true (by first | (with_reducible assumption) | assumption)
                have q121 : x5_1 < (l1.length : Int) := of_decide_eq_true (by first | (with_reducible assumption) | assumption)
                obtain ⟨ad121, e121, hx121_0, hx121_1, hx121_2, hx121_3, hx121_4⟩ := at_T35 HR1.out x5_1 p121 q121
                cases e121
                replace p121 := eq_true p121
                replace q121 := eq_true q121
                go_wp2
                repeat (go_quiet (fail); try go_wp2)
                go_roundg k1
                case measure => have := HK1.out; omega
                case rel => exact ⟨(wrap64 (x5_1 + 1)), (by first | rfl | (simp; done) | (simp [*]; done)), H', ⟨by have := HK1.out; omega⟩, by repeat (first | exact Drawn0.refl _ | apply Drawn0.step)⟩
            · rw [if_neg c6] at H
              exact absurd H (by simp)
          · rw [if_neg c5] at H
            exact absurd H (by simp)
        · rw [if_neg c4] at H
          have c4b0 : decide (x5_1 < (l0.length : Int)) = false := decide_eq_false c4
          clear c4
          obtain rfl := Option.some.inj H
          go_wp2
          repeat (go_quiet (fail); try go_wp2)
          go_ret
          exact ⟨by first | rfl | (simp; done) | (simp [*]; done), by repeat (first | exact Drawn0.refl _ | apply Drawn0.step)⟩
  · rw [if_neg c3] at H
    have c3b0 : ((l0.length : Int) == (l1.length : Int)) = false := beq_eq_false_iff_ne.mpr c3
    have c3b1 : ((l0.length : Int) != (l1.length : Int)) = true := bne_iff_ne.mpr c3
    have c3b2 : (l0.length == l1.length) = false := by first | simpa using c3 | (simp at c3 ⊢; omega)
    obtain rfl := Option.some.inj H
    go_enter Tryd.func15, Tryd.ntmps15
    go_wp2
    repeat (go_quiet (fail); try go_wp2)
    go_ret
    exact ⟨by first | rfl | (simp; done) | (simp [*]; done), by repeat (first | exact Drawn0.refl _ | apply Drawn0.step)⟩

end Go.Proofs.YtdggdmdefmljlaaDoor.Q

namespace Go.Proofs.YtdggdmdefmljlaaDoor.Q
open Go.RowKit Go.Proofs.YtdggdmdefmljlaaDoorW.PrintWords Go.Proofs.YtdggdmdefmljlaaDoorW.PrintLast Go.Proofs.YtdggdmdefmljlaaDoorW.PrintMore
attribute [local go_sem] max2_int min2_int max_two min_two max_three min_three max_four min_four   -- for this text's walks alone
attribute [local go_sem ↓] Go.Proofs.YtdggdmdefmljlaaDoorK.isSome_setCell
set_option linter.unusedVariables false
set_option linter.unusedSimpArgs false

/-! ### aquiferref05_SameTexts: function 22 -/
def aquiferref05_SameTexts.l0 : Nat → List ByteArray → List ByteArray → Int → Option (Bool)
  | 0, _, _, _ => none
  | k + 1, x0, x1, x5 => if x5 < (x0.length : Int) then (if 0 ≤ x5 then (if x5 < (x1.length : Int) then (if (rdOf ByteArray.empty x0 x5).toList = (rdOf ByteArray.empty x1 x5).toList then (aquiferref05_SameTexts.l0 k x0 x1 (wrap64 (x5 + 1))) else (some false)) else (none)) else (none)) else (some true)
def aquiferref05_SameTexts.f (k : Nat) (l0 : List ByteArray) (l1 : List ByteArray) : Option (Bool) := if (l0.length : Int) = (l1.length : Int) then (aquiferref05_SameTexts.l0 k l0 l1 0) else (some false)
theorem aquiferref05_SameTexts.mono_l : ∀ k, (∀ y0 y1 y2, LeO (aquiferref05_SameTexts.l0 k y0 y1 y2) (aquiferref05_SameTexts.l0 (k + 1) y0 y1 y2))
  | 0 => fun _ _ _ r h => by simp [aquiferref05_SameTexts.l0] at h
  | k + 1 => by
    have ih0 := aquiferref05_SameTexts.mono_l k
    · intro y0 y1 y2
      unfold aquiferref05_SameTexts.l0
      repeat' first
      | (with_reducible exact ih0 _ _ _)
      | (with_reducible exact LeO.refl _)
      | (with_reducible exact LeO.none _)
      | (with_reducible refine LeO.ite ?_ ?_)
      | (with_reducible refine LeO.bind ?_ (fun _ => ?_))
      | exact ih0 _ _ _
      | exact LeO.none _
      | refine LeO.ite ?_ ?_
      | refine LeO.bind ?_ (fun _ => ?_)
theorem aquiferref05_SameTexts.mono : ∀ a0 a1 k, LeO (aquiferref05_SameTexts.f k a0 a1) (aquiferref05_SameTexts.f (k + 1) a0 a1) := by
  intro a0 a1 k
  have ih0 := aquiferref05_SameTexts.mono_l k
  unfold aquiferref05_SameTexts.f
  repeat' first
      | (with_reducible exact ih0 _ _ _)
      | (with_reducible exact LeO.refl _)
      | (with_reducible exact LeO.none _)
      | (with_reducible refine LeO.ite ?_ ?_)
      | (with_reducible refine LeO.bind ?_ (fun _ => ?_))
      | exact ih0 _ _ _
      | exact LeO.none _
      | refine LeO.ite ?_ ?_
      | refine LeO.bind ?_ (fun _ => ?_)
set_option maxHeartbeats 8000000 in
set_option maxRecDepth 100000 in
theorem aquiferref05_SameTexts.calls (k : Nat) (A0 : Option Addr) (c0 : Nat) (l0 : List ByteArray) (A1 : Option Addr) (c1 : Nat) (l1 : List ByteArray) (r : Bool) (w : World) (hr0 : Kd.C Kd.string w A0 l0.length l0) (hc0 : l0.length ≤ c0) (hr1 : Kd.C Kd.string w A1 l1.length l1) (hc1 : l1.length ≤ c1) (h : aquiferref05_SameTexts.f k l0 l1 = some r) :
    Calls Tryd.prog 22 #[.slice A0 l0.length c0, .slice A1 l1.length c1] w fun e w' => e = .returned (.bool r) ∧ Drawn0 w w' := by
  have HR0 := Aside0.mk hr0
  have HC0 := Aside0.mk hc0
  clear hr0 hc0
  have HR1 := Aside0.mk hr1
  have HC1 := Aside0.mk hc1
  clear hr1 hc1
  have H : (if (l0.length : Int) = (l1.length : Int) then (aquiferref05_SameTexts.l0 k l0 l1 0) else (some false)) = some r := h
  clear h
  by_cases c3 : (l0.length : Int) = (l1.length : Int)
  · rw [if_pos c3] at H
    have c3b0 : ((l0.length : Int) == (l1.length : Int)) = true := beq_iff_eq.mpr c3
    have c3b1 : ((l0.length : Int) != (l1.length : Int)) = false := bne_eq_false_iff_eq.mpr c3
    have c3b2 : (l0.length == l1.length) = true := by first | simpa using c3 | (simp at c3 ⊢; omega)
    clear c3
    have H' := Aside0.mk H
    clear H
    go_enter Tryd.func22, Tryd.ntmps22
    go_wp2
    repeat (go_quiet (fail); try go_wp2)
    go_loopg [5] k (fun kq v5 w' => ∃ (x5_1 : Int), v5 = .int .i64 x5_1 ∧ Aside0 (aquiferref05_SameTexts.l0 kq l0 l1 x5_1 = some r) ∧ Aside0 (kq ≤ k) ∧ Drawn0 w w')
    case atStart => exact ⟨(0), (by first | rfl | (simp; done) | (simp [*]; done)), H', ⟨Nat.le_refl _⟩, by repeat (first | exact Drawn0.refl _ | apply Drawn0.step)⟩
    case round =>
      clear H'
      try clear c1
      try clear c2
      try clear p2
      try clear c3
      try clear c3b0
      try clear c3b1
      try clear c3b2
      obtain ⟨x5_1, rfl, HA, HK1, ⟨m1, rfl⟩⟩ := hrel
      cases gk with
      | zero => exact absurd HA.out (by simp [aquiferref05_SameTexts.l0])
      | succ k1 =>
        have H := HA.out
        clear HA
        simp only [aquiferref05_SameTexts.l0] at H
        by_cases c4 : x5_1 < (l0.length : Int)
        · rw [if_pos c4] at H
          have c4b0 : decide (x5_1 < (l0.length : Int)) = true := decide_eq_true c4
          clear c4
          by_cases c5 : 0 ≤ x5_1
          · rw [if_pos c5] at H
            have c5b0 : decide (0 ≤ x5_1) = true := decide_eq_true c5
            clear c5
            by_cases c6 : x5_1 < (l1.length : Int)
            · rw [if_pos c6] at H
              have c6b0 : decide (x5_1 < (l1.length : Int)) = true := decide_eq_true c6
              clear c6
              by_cases c7 : (rdOf ByteArray.empty l0 x5_1).toList = (rdOf ByteArray.empty l1 x5_1).toList
              · rw [if_pos c7] at H
                have c7b0 : ((rdOf ByteArray.empty l0 x5_1).toList == (rdOf ByteArray.empty l1 x5_1).toList) = true := beq_iff_eq.mpr c7
                have c7b1 : ((rdOf ByteArray.empty l0 x5_1).toList != (rdOf ByteArray.empty l1 x5_1).toList) = false := bne_eq_false_iff_eq.mpr c7
                clear c7
                have H' := Aside0.mk H
                clear H
                have p214 : 0 ≤ (x5_1 : Int) := of_decide_eq_true (by first | (with_reducible assumption) | assumption)
                have q214 : x5_1 < (l0.length : Int) := of_decide_eq_true (by first | (with_reducible assumption) | assumption)
                obtain ⟨ad214, e214, hx214_0⟩ := Kd.at_string HR0.out x5_1 p214 q214
                cases e214
                replace p214 := eq_true p214
                replace q214 := eq_true q214
                have p215 : 0 ≤ (x5_1 : Int) := of_decide_eq_true (by first | (with_reducible assumption) | assumption)
                have q215 : x5_1 < (l1.length : Int) := of_decide_eq_true (by first | (with_reducible assumption) | assumption)
                obtain ⟨ad215, e215, hx215_0⟩ := Kd.at_string HR1.out x5_1 p215 q215
                cases e215
                replace p215 := eq_true p215
                replace q215 := eq_true q215
                go_wp2
                repeat (go_quiet (fail); try go_wp2)
                go_roundg k1
                case measure => have := HK1.out; omega
                case rel => exact ⟨(wrap64 (x5_1 + 1)), (by first | rfl | (simp; done) | (simp [*]; done)), H', ⟨by have := HK1.out; omega⟩, by repeat (first | exact Drawn0.refl _ | apply Drawn0.step)⟩
              · rw [if_neg c7] at H
                have c7b0 : ((rdOf ByteArray.empty l0 x5_1).toList == (rdOf ByteArray.empty l1 x5_1).toList) = false := beq_eq_false_iff_ne.mpr c7
                have c7b1 : ((rdOf ByteArray.empty l0 x5_1).toList != (rdOf ByteArray.empty l1 x5_1).toList) = true := bne_iff_ne.mpr c7
                obtain rfl := Option.some.inj H
                have p214 : 0 ≤ (x5_1 : Int) := of_decide_eq_true (by first | (with_reducible assumption) | assumption)
                have q214 : x5_1 < (l0.length : Int) := of_decide_eq_true (by first | (with_reducible assumption) | assumption)
                obtain ⟨ad214, e214, hx214_0⟩ := Kd.at_string HR0.out x5_1 p214 q214
                cases e214
                replace p214 := eq_true p214
                replace q214 := eq_true q214
                have p215 : 0 ≤ (x5_1 : Int) := of_decide_eq_true (by first | (with_reducible assumption) | assumption)
                have q215 : x5_1 < (l1.length : Int) := of_decide_eq_true (by first | (with_reducible assumption) | assumption)
                obtain ⟨ad215, e215, hx215_0⟩ := Kd.at_string HR1.out x5_1 p215 q215
                cases e215
                replace p215 := eq_true p215
                replace q215 := eq_true q215
                go_wp2
                repeat (go_quiet (fail); try go_wp2)
                go_ret
                exact ⟨by first | rfl | (simp; done) | (simp [*]; done), by repeat (first | exact Drawn0.refl _ | apply Drawn0.step)⟩
            · rw [if_neg c6] at H
              exact absurd H (by simp)
          · rw [if_neg c5] at H
            exact absurd H (by simp)
        · rw [if_neg c4] at H
          have c4b0 : decide (x5_1 < (l0.length : Int)) = false := decide_eq_false c4
          clear c4
          obtain rfl := Option.some.inj H
          go_wp2
          repeat (go_quiet (fail); try go_wp2)
          go_ret
          exact ⟨by first | rfl | (simp; done) | (simp [*]; done), by repeat (first | exact Drawn0.refl _ | apply Drawn0.step)⟩
  · rw [if_neg c3] at H
    have c3b0 : ((l0.length : Int) == (l1.length : Int)) = false := beq_eq_false_iff_ne.mpr c3
    have c3b1 : ((l0.length : Int) != (l1.length : Int)) = true := bne_iff_ne.mpr c3
    have c3b2 : (l0.length == l1.length) = false := by first | simpa using c3 | (simp at c3 ⊢; omega)
    obtain rfl := Option.some.inj H
    go_enter Tryd.func22, Tryd.ntmps22
    go_wp2
    repeat (go_quiet (fail); try go_wp2)
    go_ret
    exact ⟨by first | rfl | (simp; done) | (simp [*]; done), by repeat (first | exact Drawn0.refl _ | apply Drawn0.step)⟩

end Go.Proofs.YtdggdmdefmljlaaDoor.Q

namespace Go.Proofs.YtdggdmdefmljlaaDoor.Q
open Go.RowKit Go.Proofs.YtdggdmdefmljlaaDoorW.PrintWords Go.Proofs.YtdggdmdefmljlaaDoorW.PrintLast Go.Proofs.YtdggdmdefmljlaaDoorW.PrintMore Go.Proofs.YtdggdmdefmljlaaDoorK
attribute [local go_sem] max2_int min2_int max_two min_two max_three min_three max_four min_four   -- for this text's walks alone
attribute [local go_sem ↓] Go.Proofs.YtdggdmdefmljlaaDoorK.isSome_setCell
set_option linter.unusedVariables false
set_option linter.unusedSimpArgs false

/-! ### aquiferref26_Spare: function 24 -/
def aquiferref26_Spare.j0 : Nat → List (S35) → Int → Bool → Option (Int)
  | 0, _, _, _ => none
  | k + 1, x0, x1, x21 => if x21 = true then (some 0) else ((aquiferref26_Fixed.f k x0).bind fun t218 => (if (wrap64 (x1 - t218)) > 4096 then (some 4096) else ((aquiferref26_Fixed.f k x0).bind fun t219 => (some (wrap64 (x1 - t219))))))
def aquiferref26_Spare.f (k : Nat) (l0 : List (S35)) (a1 : Int) : Option (Int) := (aquiferref26_Check.f k l0).bind fun t216 => (if t216 = 0 then (if a1 < 0 then (aquiferref26_Spare.j0 k l0 a1 true) else (if a1 > 4611686018427387904 then (aquiferref26_Spare.j0 k l0 a1 true) else ((aquiferref26_Fixed.f k l0).bind fun t217 => (aquiferref26_Spare.j0 k l0 a1 (decide (a1 ≤ t217)))))) else (aquiferref26_Spare.j0 k l0 a1 true))
theorem aquiferref26_Spare.mono_l : ∀ k, (∀ y0 y1 y2, LeO (aquiferref26_Spare.j0 k y0 y1 y2) (aquiferref26_Spare.j0 (k + 1) y0 y1 y2))
  | 0 => fun _ _ _ r h => by simp [aquiferref26_Spare.j0] at h
  | k + 1 => by
    have ih0 := aquiferref26_Spare.mono_l k
    · intro y0 y1 y2
      unfold aquiferref26_Spare.j0
      repeat' first
      | (with_reducible exact ih0 _ _ _)
      | (with_reducible exact aquiferref26_Check.mono _ _)
      | (with_reducible exact aquiferref26_Fixed.mono _ _)
      | (with_reducible exact LeO.refl _)
      | (with_reducible exact LeO.none _)
      | (with_reducible refine LeO.ite ?_ ?_)
      | (with_reducible refine LeO.bind ?_ (fun _ => ?_))
      | exact ih0 _ _ _
      | exact aquiferref26_Check.mono _ _
      | exact aquiferref26_Fixed.mono _ _
      | exact LeO.none _
      | refine LeO.ite ?_ ?_
      | refine LeO.bind ?_ (fun _ => ?_)
theorem aquiferref26_Spare.mono : ∀ a0 a1 k, LeO (aquiferref26_Spare.f k a0 a1) (aquiferref26_Spare.f (k + 1) a0 a1) := by
  intro a0 a1 k
  have ih0 := aquiferref26_Spare.mono_l k
  unfold aquiferref26_Spare.f
  repeat' first
      | (with_reducible exact ih0 _ _ _)
      | (with_reducible exact aquiferref26_Check.mono _ _)
      | (with_reducible exact aquiferref26_Fixed.mono _ _)
      | (with_reducible exact LeO.refl _)
      | (with_reducible exact LeO.none _)
      | (with_reducible refine LeO.ite ?_ ?_)
      | (with_reducible refine LeO.bind ?_ (fun _ => ?_))
      | exact ih0 _ _ _
      | exact aquiferref26_Check.mono _ _
      | exact aquiferref26_Fixed.mono _ _
      | exact LeO.none _
      | refine LeO.ite ?_ ?_
      | refine LeO.bind ?_ (fun _ => ?_)
set_option maxHeartbeats 8000000 in
set_option maxRecDepth 100000 in
theorem aquiferref26_Spare.calls (k : Nat) (A0 : Option Addr) (c0 : Nat) (l0 : List (S35)) (a1 : Int) (r : Int) (w : World) (hr0 : Kd.C k35 w A0 l0.length l0) (hc0 : l0.length ≤ c0) (h : aquiferref26_Spare.f k l0 a1 = some r) :
    Calls Tryd.prog 24 #[.slice A0 l0.length c0, .int .i64 a1] w fun e w' => e = .returned (.int .i64 r) ∧ Drawn0 w w' := by
  have HR0 := Aside0.mk hr0
  have HC0 := Aside0.mk hc0
  clear hr0 hc0
  have H : ((aquiferref26_Check.f k l0).bind fun t216 => (if t216 = 0 then (if a1 < 0 then (aquiferref26_Spare.j0 k l0 a1 true) else (if a1 > 4611686018427387904 then (aquiferref26_Spare.j0 k l0 a1 true) else ((aquiferref26_Fixed.f k l0).bind fun t217 => (aquiferref26_Spare.j0 k l0 a1 (decide (a1 ≤ t217)))))) else (aquiferref26_Spare.j0 k l0 a1 true))) = some r := h
  clear h
  have HC3 := Aside0.mk H
  clear H
  go_enter Tryd.func24, Tryd.ntmps24
  go_upto_region 1 with (fail)
  go_cut [21] (fun v21 wc => ∃ (kq : Nat) (x21_2 : Bool), v21 = .bool x21_2 ∧ Aside0 (aquiferref26_Spare.j0 kq l0 a1 x21_2 = some r) ∧ Aside0 (kq ≤ k) ∧ Drawn0 w wc)
  case first =>
    have H := HC3.out
    clear HC3
    replace H := Option.bind_eq_some_iff.mp H
    obtain ⟨t216, A40, H⟩ := H
    replace H : (if t216 = 0 then (if a1 < 0 then (aquiferref26_Spare.j0 k l0 a1 true) else (if a1 > 4611686018427387904 then (aquiferref26_Spare.j0 k l0 a1 true) else ((aquiferref26_Fixed.f k l0).bind fun t217 => (aquiferref26_Spare.j0 k l0 a1 (decide (a1 ≤ t217)))))) else (aquiferref26_Spare.j0 k l0 a1 true)) = some r := H
    have A4 := Aside0.mk A40
    clear A40
    by_cases c5 : t216 = 0
    · rw [if_pos c5] at H
      have c5b0 : (t216 == 0) = true := beq_iff_eq.mpr c5
      have c5b1 : (t216 != 0) = false := bne_eq_false_iff_eq.mpr c5
      clear c5
      (first | rw [c5b0] | (simp only [i64_w, i32_w]; rw [c5b0]) | skip)
      by_cases c6 : a1 < 0
      · rw [if_pos c6] at H
        have c6b0 : decide (a1 < 0) = true := decide_eq_true c6
        clear c6
        have H' := Aside0.mk H
        clear H
        go_wp2_with (first | ((with_reducible refine gate_callee (f := 10) rfl ?_); refine goesL_ (some 6) rfl rfl Tryd.func10 (by kernel_rfl) rfl #[.slice A0 l0.length c0] rfl (by (try simp only [List.map_toArray, List.map_cons, List.map_nil]); first | done | rfl | (simp only [List.length_drop, List.length_take]; rfl)) ?_; (with_reducible refine (aquiferref26_Check.calls k _ _ l0 t216 _ ?side1 ?side2 A4.out).mono ?_); (case side1 => exact CU HR0.out); (case side2 => exact HC0.out); rintro e w' ⟨rfl, ⟨nd, rfl⟩⟩; refine ⟨_, rfl, ?_⟩))
        go_meet
        case rel => exact ⟨_, (true), (by first | rfl | (simp; done) | (simp [*]; done)), H', ⟨by first | omega | exact Nat.le_refl _⟩, by repeat (first | exact Drawn0.refl _ | apply Drawn0.step)⟩
      · rw [if_neg c6] at H
        have c6b0 : decide (a1 < 0) = false := decide_eq_false c6
        clear c6
        by_cases c7 : a1 > 4611686018427387904
        · rw [if_pos c7] at H
          have c7b0 : decide (4611686018427387904 < a1) = true := decide_eq_true c7
          clear c7
          have H' := Aside0.mk H
          clear H
          go_wp2_with (first | ((with_reducible refine gate_callee (f := 10) rfl ?_); refine goesL_ (some 6) rfl rfl Tryd.func10 (by kernel_rfl) rfl #[.slice A0 l0.length c0] rfl (by (try simp only [List.map_toArray, List.map_cons, List.map_nil]); first | done | rfl | (simp only [List.length_drop, List.length_take]; rfl)) ?_; (with_reducible refine (aquiferref26_Check.calls k _ _ l0 t216 _ ?side1 ?side2 A4.out).mono ?_); (case side1 => exact CU HR0.out); (case side2 => exact HC0.out); rintro e w' ⟨rfl, ⟨nd, rfl⟩⟩; refine ⟨_, rfl, ?_⟩))
          go_meet
          case rel => exact ⟨_, (true), (by first | rfl | (simp; done) | (simp [*]; done)), H', ⟨by first | omega | exact Nat.le_refl _⟩, by repeat (first | exact Drawn0.refl _ | apply Drawn0.step)⟩
        · rw [if_neg c7] at H
          have c7b0 : decide (4611686018427387904 < a1) = false := decide_eq_false c7
          clear c7
          replace H := Option.bind_eq_some_iff.mp H
          obtain ⟨t217, A80, H⟩ := H
          replace H : (aquiferref26_Spare.j0 k l0 a1 (decide (a1 ≤ t217))) = some r := H
          have A8 := Aside0.mk A80
          clear A80
          have H' := Aside0.mk H
          clear H
          go_wp2_with (first | ((with_reducible refine gate_callee (f := 10) rfl ?_); refine goesL_ (some 6) rfl rfl Tryd.func10 (by kernel_rfl) rfl #[.slice A0 l0.length c0] rfl (by (try simp only [List.map_toArray, List.map_cons, List.map_nil]); first | done | rfl | (simp only [List.length_drop, List.length_take]; rfl)) ?_; (with_reducible refine (aquiferref26_Check.calls k _ _ l0 t216 _ ?side1 ?side2 A4.out).mono ?_); (case side1 => exact CU HR0.out); (case side2 => exact HC0.out); rintro e w' ⟨rfl, ⟨nd, rfl⟩⟩; refine ⟨_, rfl, ?_⟩) | (go_at_call 14; (with_reducible refine (aquiferref26_Fixed.calls k _ _ l0 t217 _ ?side1 ?side2 A8.out).mono ?_); (case side1 => exact CU HR0.out); (case side2 => exact HC0.out); rintro e w' ⟨rfl, ⟨nd, rfl⟩⟩))
          go_meet
          case rel => exact ⟨_, (decide (a1 ≤ t217)), (by first | rfl | (simp; done) | (simp [*]; done)), H', ⟨by first | omega | exact Nat.le_refl _⟩, by repeat (first | exact Drawn0.refl _ | apply Drawn0.step)⟩
    · rw [if_neg c5] at H
      have c5b0 : (t216 == 0) = false := beq_eq_false_iff_ne.mpr c5
      have c5b1 : (t216 != 0) = true := bne_iff_ne.mpr c5
      (first | rw [c5b0] | (simp only [i64_w, i32_w]; rw [c5b0]) | skip)
      have H' := Aside0.mk H
      clear H
      go_wp2_with (first | ((with_reducible refine gate_callee (f := 10) rfl ?_); refine goesL_ (some 6) rfl rfl Tryd.func10 (by kernel_rfl) rfl #[.slice A0 l0.length c0] rfl (by (try simp only [List.map_toArray, List.map_cons, List.map_nil]); first | done | rfl | (simp only [List.length_drop, List.length_take]; rfl)) ?_; (with_reducible refine (aquiferref26_Check.calls k _ _ l0 t216 _ ?side1 ?side2 A4.out).mono ?_); (case side1 => exact CU HR0.out); (case side2 => exact HC0.out); rintro e w' ⟨rfl, ⟨nd, rfl⟩⟩; refine ⟨_, rfl, ?_⟩))
      go_meet
      case rel => exact ⟨_, (true), (by first | rfl | (simp; done) | (simp [*]; done)), H', ⟨by first | omega | exact Nat.le_refl _⟩, by repeat (first | exact Drawn0.refl _ | apply Drawn0.step)⟩
  case rest =>
    clear HC3
    try clear c1
    try clear c2
    try clear p2
    try clear c5
    try clear c5b0
    try clear c5b1
    try clear c6
    try clear c6b0
    try clear c7
    try clear c7b0
    obtain ⟨kq, x21_2, rfl, HA, HJ2, ⟨mc2, rfl⟩⟩ := hcut
    cases kq with
    | zero => exact absurd HA.out (by simp [aquiferref26_Spare.j0])
    | succ kj2 =>
      have H := HA.out
      clear HA
      simp only [aquiferref26_Spare.j0] at H
      by_cases c9 : x21_2 = true
      · subst c9
        have H1 : (some 0) = some r := by rw [if_pos rfl] at H; exact H
        clear H
        have H := H1
        clear H1
        obtain rfl := Option.some.inj H
        go_wp2
        go_ret
        exact ⟨by first | rfl | (simp; done) | (simp [*]; done), by repeat (first | exact Drawn0.refl _ | apply Drawn0.step)⟩
      · replace c9 := Bool.eq_false_iff.mpr c9
        subst c9
        have H1 : ((aquiferref26_Fixed.f kj2 l0).bind fun t218 => (if (wrap64 (a1 - t218)) > 4096 then (some 4096) else ((aquiferref26_Fixed.f kj2 l0).bind fun t219 => (some (wrap64 (a1 - t219)))))) = some r := by rw [if_neg (show ¬ (false = true) by decide)] at H; exact H
        clear H
        have H := H1
        clear H1
        replace H := Option.bind_eq_some_iff.mp H
        obtain ⟨t218, A100, H⟩ := H
        replace H : (if (wrap64 (a1 - t218)) > 4096 then (some 4096) else ((aquiferref26_Fixed.f kj2 l0).bind fun t219 => (some (wrap64 (a1 - t219))))) = some r := H
        have A10 := Aside0.mk A100
        clear A100
        by_cases c11 : (wrap64 (a1 - t218)) > 4096
        · rw [if_pos c11] at H
          have c11b0 : decide (4096 < (wrap64 (a1 - t218))) = true := decide_eq_true c11
          clear c11
          obtain rfl := Option.some.inj H
          go_wp2_with (first | ((with_reducible refine gate_callee (f := 14) rfl ?_); refine goesL_ (some 24) rfl rfl Tryd.func14 (by kernel_rfl) rfl #[.slice A0 l0.length c0] rfl (by (try simp only [List.map_toArray, List.map_cons, List.map_nil]); first | done | rfl | (simp only [List.length_drop, List.length_take]; rfl)) ?_; (with_reducible refine (aquiferref26_Fixed.calls kj2 _ _ l0 t218 _ ?side1 ?side2 A10.out).mono ?_); (case side1 => exact CU HR0.out); (case side2 => exact HC0.out); rintro e w' ⟨rfl, ⟨nd, rfl⟩⟩; refine ⟨_, rfl, ?_⟩))
          go_ret
          exact ⟨by first | rfl | (simp; done) | (simp [*]; done), by repeat (first | exact Drawn0.refl _ | apply Drawn0.step)⟩
        · rw [if_neg c11] at H
          have c11b0 : decide (4096 < (wrap64 (a1 - t218))) = false := decide_eq_false c11
          clear c11
          replace H := Option.bind_eq_some_iff.mp H
          obtain ⟨t219, A120, H⟩ := H
          replace H : (some (wrap64 (a1 - t219))) = some r := H
          have A12 := Aside0.mk A120
          clear A120
          obtain rfl := Option.some.inj H
          go_wp2_with (first | ((with_reducible refine gate_callee (f := 14) rfl ?_); refine goesL_ (some 24) rfl rfl Tryd.func14 (by kernel_rfl) rfl #[.slice A0 l0.length c0] rfl (by (try simp only [List.map_toArray, List.map_cons, List.map_nil]); first | done | rfl | (simp only [List.length_drop, List.length_take]; rfl)) ?_; (with_reducible refine (aquiferref26_Fixed.calls kj2 _ _ l0 t218 _ ?side1 ?side2 A10.out).mono ?_); (case side1 => exact CU HR0.out); (case side2 => exact HC0.out); rintro e w' ⟨rfl, ⟨nd, rfl⟩⟩; refine ⟨_, rfl, ?_⟩) | ((with_reducible refine gate_callee (f := 14) rfl ?_); refine goesL_ (some 29) rfl rfl Tryd.func14 (by kernel_rfl) rfl #[.slice A0 l0.length c0] rfl (by (try simp only [List.map_toArray, List.map_cons, List.map_nil]); first | done | rfl | (simp only [List.length_drop, List.length_take]; rfl)) ?_; (with_reducible refine (aquiferref26_Fixed.calls kj2 _ _ l0 t219 _ ?side1 ?side2 A12.out).mono ?_); (case side1 => exact CU HR0.out); (case side2 => exact HC0.out); rintro e w' ⟨rfl, ⟨nd, rfl⟩⟩; refine ⟨_, rfl, ?_⟩))
          go_ret
          exact ⟨by first | rfl | (simp; done) | (simp [*]; done), by repeat (first | exact Drawn0.refl _ | apply Drawn0.step)⟩

end Go.Proofs.YtdggdmdefmljlaaDoor.Q

namespace Go.Proofs.YtdggdmdefmljlaaDoor.Q
open Go Go.Proofs Go.Shelf Go.RowKit Go.Lib Go.Sort Go.Proofs.YtdggdmdefmljlaaDoorP Go.Proofs.YtdggdmdefmljlaaDoorK Go.Proofs.YtdggdmdefmljlaaDoorW.PrintWords Go.Proofs.YtdggdmdefmljlaaDoorW.PrintLast Go.Proofs.YtdggdmdefmljlaaDoorW.PrintMore
set_option linter.unusedSimpArgs false
set_option linter.unusedVariables false
/-! ### The document's own answers, plain -/
theorem few_len (l : List S35) : (fewL l).length ≤ 40 := by
  unfold fewL
  rw [List.length_map, List.length_take]
  omega
theorem rd_at (l : List S35) (i : Nat) (h : i < l.length) : rd_T35 l (i : Int) = l[i] := by
  unfold rd_T35
  simp [h]
theorem wr (i : Nat) (h : i < 1048576) : wrap64 ((i : Int) + 1) = ((i + 1 : Nat) : Int) := by unfold wrap64; omega
theorem tl_iff (a b : ByteArray) : a.toList = b.toList ↔ a.data.toList = b.data.toList := by
  rw [ByteArray.toList_eq, ByteArray.toList_eq]
theorem tl_beq (a b : ByteArray) : (a.toList == b.toList) = (a.data.toList == b.data.toList) := by
  rw [Bool.eq_iff_iff, beq_iff_eq, beq_iff_eq]
  exact tl_iff a b
/-- Is the path of the i-th one among those from m on, ahead of it? -/
def dupB (l : List S35) (p : ByteArray) (m : Nat) : Bool := (l.drop m).any fun c => c.f0.data.toList == p.data.toList
theorem check_in (l : List S35) (hn : l.length ≤ 4096) (i : Nat) (hi : i < l.length) (d : Nat) : ∀ (m k : Nat), m + d = i → aquiferref26_Check.l1 (k + d + 1) l (i : Int) (m : Int) = if dupB (l.take i) l[i].f0 m = true then some 2 else aquiferref26_Check.l0 k l ((i + 1 : Nat) : Int) := by
  induction d with
  | zero =>
    intro m k h
    have e : dupB (l.take i) l[i].f0 m = false := by
      unfold dupB
      rw [List.drop_of_length_le (by rw [List.length_take]; omega)]
      rfl
    unfold aquiferref26_Check.l1
    rw [if_neg (by omega), e, wr i (by omega)]
    rfl
  | succ d ih =>
    intro m k h
    have hm : m < l.length := by omega
    have hmt : m < (l.take i).length := by rw [List.length_take]; omega
    have ih' := ih (m + 1) k (by omega)
    have e : dupB (l.take i) l[i].f0 m = ((l[m].f0.data.toList == l[i].f0.data.toList) || dupB (l.take i) l[i].f0 (m + 1)) := by
      unfold dupB
      rw [List.drop_eq_getElem_cons hmt, List.any_cons]
      simp
    rw [show k + (d + 1) + 1 = (k + d + 1) + 1 by omega]
    unfold aquiferref26_Check.l1
    rw [if_pos (by omega), if_pos (by omega), if_pos (by omega), if_pos (by omega), if_pos (by omega), rd_at l m hm, rd_at l i hi, wr m (by omega), ih', e]
    by_cases he : l[m].f0.toList = l[i].f0.toList
    · rw [if_pos he, beq_iff_eq.mpr ((tl_iff _ _).1 he)]
      simp
    · rw [if_neg he, beq_eq_false_iff_ne.mpr (fun h2 => he ((tl_iff _ _).2 h2)), Bool.false_or]
theorem isIn_paths (l : List S35) (p : ByteArray) : isIn p ((l.map (·.f0)).reverse) = dupB l p 0 := by
  unfold isIn dupB
  rw [List.any_reverse, List.any_map, List.drop_zero]
  congr 1
  funext c
  rw [Bool.eq_iff_iff]
  simp only [Function.comp, beq_iff_eq]
  exact ⟨Eq.symm, Eq.symm⟩
theorem check_loop (l : List S35) (hn : l.length ≤ 4096) (d : Nat) : ∀ (i k : Nat), i + d = l.length → d * (l.length + 3) + 1 ≤ k → aquiferref26_Check.l0 k l (i : Int) = some (goS (((l.take i).map (·.f0)).reverse) (l.drop i)) := by
  induction d with
  | zero =>
    intro i k h hk
    obtain ⟨k, rfl⟩ : ∃ q, k = q + 1 := ⟨k - 1, by omega⟩
    unfold aquiferref26_Check.l0
    rw [if_neg (by omega), List.drop_of_length_le (by omega)]
    rfl
  | succ d ih =>
    intro i k h hk
    have hi : i < l.length := by omega
    have hk' : d * (l.length + 3) + 1 + (l.length + 3) ≤ k := by rw [Nat.succ_mul] at hk; omega
    obtain ⟨k0, hk0, hk1⟩ : ∃ k0, k = k0 + i + 1 + 1 + 1 ∧ d * (l.length + 3) + 1 ≤ k0 := ⟨k - i - 3, by omega, by omega⟩
    subst hk0
    have ih' := ih (i + 1) k0 (by omega) hk1
    have hin := check_in l hn i hi i 0 k0 (by omega)
    have hseen := isIn_paths (l.take i) l[i].f0
    have hgo : goS (((l.take i).map (·.f0)).reverse) (l.drop i) = if (badC l[i] || dupB (l.take i) l[i].f0 0) = true then 2 else goS (((l.take (i + 1)).map (·.f0)).reverse) (l.drop (i + 1)) := by
      rw [List.drop_eq_getElem_cons hi]
      simp only [goS]
      rw [hseen, List.take_succ_eq_append_getElem hi, List.map_append, List.reverse_append]
      rfl
    rw [hgo]
    have hj : ∀ b, aquiferref26_Check.j1 (k0 + i + 1 + 1) l (i : Int) b = if (b || dupB (l.take i) l[i].f0 0) = true then some 2 else some (goS (((l.take (i + 1)).map (·.f0)).reverse) (l.drop (i + 1))) := by
      intro b
      unfold aquiferref26_Check.j1
      cases b
      · rw [if_neg (by decide)]
        have := hin
        simp only [Int.natCast_zero] at this
        rw [this, ih', Bool.false_or]
      · simp
    unfold aquiferref26_Check.l0
    rw [if_pos (by omega), if_pos (by omega), rd_at l i hi]
    have hfin : ∀ b, badC l[i] = b → aquiferref26_Check.j1 (k0 + i + 1 + 1) l (i : Int) b = some (if (badC l[i] || dupB (l.take i) l[i].f0 0) = true then 2 else goS (((l.take (i + 1)).map (·.f0)).reverse) (l.drop (i + 1))) := by
      intro b hb
      rw [hj, hb]
      split <;> rfl
    unfold badC at hfin
    by_cases h1 : l[i].f1 < 0
    · rw [if_pos h1]
      exact hfin true (by rw [decide_eq_true h1]; rfl)
    · rw [if_neg h1]
      by_cases h2 : l[i].f1 > 4096
      · rw [if_pos h2]
        exact hfin true (by rw [decide_eq_false h1, decide_eq_true (show 4096 < l[i].f1 from h2)]; rfl)
      · rw [if_neg h2]
        by_cases h3 : l[i].f2 < 0
        · rw [if_pos h3]
          exact hfin true (by rw [decide_eq_false h1, decide_eq_false (show ¬ 4096 < l[i].f1 from h2), decide_eq_true h3]; rfl)
        · rw [if_neg h3]
          exact hfin _ (by rw [decide_eq_false h1, decide_eq_false (show ¬ 4096 < l[i].f1 from h2), decide_eq_false h3]; rfl)
theorem refcheck (l : List S35) (hn : l.length ≤ 40) (k : Nat) (hk : 2000 ≤ k) : aquiferref26_Check.f k l = some (checkS l) := by
  have h1 : l.length * (l.length + 3) ≤ 40 * 43 := Nat.mul_le_mul hn (by omega)
  have h := check_loop l (by omega) l.length 0 k (by omega) (by omega)
  unfold aquiferref26_Check.f checkS
  rw [if_neg (by omega), if_neg (by omega)]
  simpa using h
theorem sumS_step (p : S35 → Bool) (n : Int) (c : S35) (l : List S35) : sumS p n (c :: l) = sumS p (if p c = true then n + c.f1 else n) l := rfl
theorem bytes_loop (l : List S35) (hn : l.length ≤ 40) (h0 : checkS l = 0) (d : Nat) : ∀ (i k : Nat) (n : Int), i + d = l.length → 2000 + d < k → 0 ≤ n → n ≤ 4096 * i → aquiferref26_Bytes.l0 k l n (i : Int) = some (sumS (fun _ => true) n (l.drop i)) := by
  induction d with
  | zero =>
    intro i k n h hk _ _
    obtain ⟨k, rfl⟩ : ∃ q, k = q + 1 := ⟨k - 1, by omega⟩
    unfold aquiferref26_Bytes.l0
    rw [if_neg (by omega), List.drop_of_length_le (by omega)]
    rfl
  | succ d ih =>
    intro i k n h hk hn0 hn1
    obtain ⟨k, rfl⟩ : ∃ q, k = q + 1 := ⟨k - 1, by omega⟩
    have hi : i < l.length := by omega
    have hc := (check_ok h0).2 l[i] (List.getElem_mem hi)
    unfold aquiferref26_Bytes.l0
    rw [if_pos (by omega), refcheck l hn k (by omega), Option.bind_some, h0, if_pos rfl, if_pos (by omega), rd_at l i hi, wr i (by omega), List.drop_eq_getElem_cons hi, sumS_step]
    have hw : wrap64 (n + l[i].f1) = n + l[i].f1 := by unfold wrap64; omega
    rw [hw]
    exact ih (i + 1) k (n + l[i].f1) (by omega) (by omega) (by omega) (by omega)
theorem refbytes (l : List S35) (hn : l.length ≤ 40) (k : Nat) (hk : 3000 ≤ k) : aquiferref26_Bytes.f k l = some (totalS (fun _ => true) l) := by
  unfold aquiferref26_Bytes.f totalS
  by_cases h0 : checkS l = 0
  · have := bytes_loop l hn h0 l.length 0 k 0 (by omega) (by omega) (by omega) (by omega)
    rw [if_pos h0]
    simpa using this
  · rw [if_neg h0]
    obtain ⟨k, rfl⟩ : ∃ q, k = q + 1 := ⟨k - 1, by omega⟩
    unfold aquiferref26_Bytes.l0
    rw [refcheck l hn k (by omega), Option.bind_some, if_neg h0]
    split <;> rfl
theorem fixed_loop (l : List S35) (hn : l.length ≤ 40) (h0 : checkS l = 0) (d : Nat) : ∀ (i k : Nat) (n : Int), i + d = l.length → 2000 + 2 * d + 1 < k → 0 ≤ n → n ≤ 4096 * i → aquiferref26_Fixed.l0 k l n (i : Int) = some (sumS fixedC n (l.drop i)) := by
  induction d with
  | zero =>
    intro i k n h hk _ _
    obtain ⟨k, rfl⟩ : ∃ q, k = q + 1 + 1 := ⟨k - 2, by omega⟩
    unfold aquiferref26_Fixed.l0
    rw [if_neg (by omega), List.drop_of_length_le (by omega)]
    unfold aquiferref26_Fixed.j1
    rfl
  | succ d ih =>
    intro i k n h hk hn0 hn1
    obtain ⟨k, rfl⟩ : ∃ q, k = q + 1 + 1 := ⟨k - 2, by omega⟩
    have hi : i < l.length := by omega
    have hc := (check_ok h0).2 l[i] (List.getElem_mem hi)
    have hw : wrap64 (n + l[i].f1) = n + l[i].f1 := by unfold wrap64; omega
    unfold aquiferref26_Fixed.l0
    rw [if_pos (by omega), refcheck l hn (k + 1) (by omega), Option.bind_some, h0]
    show aquiferref26_Fixed.j1 (k + 1) l n (i : Int) true = _
    unfold aquiferref26_Fixed.j1
    rw [if_pos rfl, if_pos (by omega), if_pos (by omega), rd_at l i hi, wr i (by omega), List.drop_eq_getElem_cons hi, sumS_step, hw]
    have ha := ih (i + 1) k (n + l[i].f1) (by omega) (by omega) (by omega) (by omega)
    have hb := ih (i + 1) k n (by omega) (by omega) (by omega) (by omega)
    have hf : fixedC l[i] = (l[i].f3 || l[i].f4) := rfl
    rw [hf]
    cases h3 : l[i].f3
    · rw [if_neg (by decide)]
      cases h4 : l[i].f4
      · rw [if_neg (by decide)]
        exact hb
      · rw [if_pos rfl]
        exact ha
    · rw [if_pos rfl]
      exact ha
theorem reffixed (l : List S35) (hn : l.length ≤ 40) (k : Nat) (hk : 3000 ≤ k) : aquiferref26_Fixed.f k l = some (totalS fixedC l) := by
  unfold aquiferref26_Fixed.f totalS
  by_cases h0 : checkS l = 0
  · have := fixed_loop l hn h0 l.length 0 k 0 (by omega) (by omega) (by omega) (by omega)
    rw [if_pos h0]
    simpa using this
  · rw [if_neg h0]
    obtain ⟨k, rfl⟩ : ∃ q, k = q + 1 + 1 := ⟨k - 2, by omega⟩
    unfold aquiferref26_Fixed.l0
    rw [refcheck l hn (k + 1) (by omega), Option.bind_some, beq_eq_false_iff_ne.mpr h0]
    unfold aquiferref26_Fixed.j1
    split <;> rfl
theorem same_loop (l : List S35) (hn : l.length ≤ 1048575) (d : Nat) : ∀ (i k : Nat), i + d = l.length → d < k → aquiferref26_Same.l0 k l l (i : Int) = some true := by
  induction d with
  | zero =>
    intro i k h hk
    obtain ⟨k, rfl⟩ : ∃ q, k = q + 1 := ⟨k - 1, by omega⟩
    unfold aquiferref26_Same.l0
    rw [if_neg (by omega)]
  | succ d ih =>
    intro i k h hk
    obtain ⟨k, rfl⟩ : ∃ q, k = q + 1 := ⟨k - 1, by omega⟩
    unfold aquiferref26_Same.l0
    rw [if_pos (by omega), if_pos (by omega), if_pos (by omega), wr i (by omega)]
    simp only [beq_self_eq_true, Bool.not_true, Bool.or_self, Bool.false_eq_true, if_false]
    exact ih (i + 1) k (by omega) (by omega)
theorem refsame (l : List S35) (hn : l.length ≤ 1048575) (k : Nat) (hk : l.length < k) : aquiferref26_Same.f k l l = some true := by
  unfold aquiferref26_Same.f
  rw [if_pos rfl]
  have := same_loop l hn l.length 0 k (by omega) hk
  simpa using this
theorem texts_loop (l : List ByteArray) (hn : l.length ≤ 1048575) (d : Nat) : ∀ (i k : Nat), i + d = l.length → d < k → aquiferref05_SameTexts.l0 k l l (i : Int) = some true := by
  induction d with
  | zero =>
    intro i k h hk
    obtain ⟨k, rfl⟩ : ∃ q, k = q + 1 := ⟨k - 1, by omega⟩
    unfold aquiferref05_SameTexts.l0
    rw [if_neg (by omega)]
  | succ d ih =>
    intro i k h hk
    obtain ⟨k, rfl⟩ : ∃ q, k = q + 1 := ⟨k - 1, by omega⟩
    unfold aquiferref05_SameTexts.l0
    rw [if_pos (by omega), if_pos (by omega), if_pos (by omega), if_pos rfl, wr i (by omega)]
    exact ih (i + 1) k (by omega) (by omega)
theorem reftexts (l : List ByteArray) (hn : l.length ≤ 1048575) (k : Nat) (hk : l.length < k) : aquiferref05_SameTexts.f k l l = some true := by
  unfold aquiferref05_SameTexts.f
  rw [if_pos rfl]
  have := texts_loop l hn l.length 0 k (by omega) hk
  simpa using this
theorem cutP_cutP (x : S35) : cutP (cutP x) = cutP x := by
  have h1 : (x.f0.extract 0 (mn (x.f0.size : Int) 110).toNat).size = (mn (x.f0.size : Int) 110).toNat := by
    rw [ByteArray.size_extract]
    unfold mn
    split <;> omega
  have h2 : (mn (((mn (x.f0.size : Int) 110).toNat : Nat) : Int) 110).toNat = (mn (x.f0.size : Int) 110).toNat := by
    unfold mn
    split <;> split <;> omega
  unfold cutP
  simp only [S35.mk.injEq, and_true]
  rw [h1, h2]
  apply ByteArray.ext
  simp [ByteArray.data_extract]
theorem map_cutP (l : List S35) : (l.map cutP).map cutP = l.map cutP := by
  rw [List.map_map]
  exact List.map_congr_left (fun x _ => cutP_cutP x)
theorem few_same (m : List S35) (h : m.length ≤ 40) : fewL m = m.map cutP := by
  unfold fewL
  rw [List.take_of_length_le h]
theorem fewL_fewL (l : List S35) : fewL (fewL l) = fewL l := by
  rw [few_same (fewL l) (few_len l)]
  unfold fewL
  exact map_cutP _
end Go.Proofs.YtdggdmdefmljlaaDoor.Q

namespace Go.Proofs.YtdggdmdefmljlaaDoor.Q
open Go Go.Proofs Go.Shelf Go.RowKit Go.Lib Go.Sort Go.Proofs.YtdggdmdefmljlaaDoorP Go.Proofs.YtdggdmdefmljlaaDoorK Go.Proofs.YtdggdmdefmljlaaDoorW.PrintWords Go.Proofs.YtdggdmdefmljlaaDoorW.PrintLast Go.Proofs.YtdggdmdefmljlaaDoorW.PrintMore
set_option linter.unusedSimpArgs false
set_option linter.unusedVariables false
/-! ### One candidate of a row of the call's own is written -/
theorem row_mk {W : World} {base g n cap : Nat} {ys : List S35} {cur : Array Value} (hb : base ≤ g) (hn : n = ys.length) (hnc : n ≤ cap) (hcm : cap ≤ maxLen) (hg : W.heap[g]? = some (.cells cur 35 (0, 0))) (hcs : cur.size = cap * 5)
    (hc : ∀ t, t < n * 5 → cur[t]? = (L35 ys[t / 5]!)[t % 5]?) : Kd.R k35 35 W base (fun _ => True) (.slice (some ⟨g, 0, none⟩) n cap) ys := by
  have htl : (cur.toList.take (n * 5)).length = n * 5 := by
    rw [List.length_take, Array.length_toList, hcs]
    have := Nat.mul_le_mul_right 5 hnc
    omega
  refine ⟨fun _ _ => trivial, ?_⟩
  refine ⟨cur.toList.take (n * 5), ⟨by rw [htl, hn]; rfl, .inr ⟨g, cap, cur, by rw [hn], hb, hg, by rw [← hn]; exact hnc, hcm, hcs, by rw [hn]; rfl⟩⟩, by rw [htl, hn]; rfl, ?_⟩
  intro j p hp
  have hj : j < n := by
    have := (List.getElem?_eq_some_iff.1 hp).1
    omega
  have e : ((cur.toList.take (n * 5)).drop (j * k35.sz)).take k35.sz = L35 p := by
    apply List.ext_getElem?
    intro i
    show (((cur.toList.take (n * 5)).drop (j * 5)).take 5)[i]? = _
    rw [List.getElem?_take]
    by_cases hi : i < 5
    · rw [if_pos hi, List.getElem?_drop, List.getElem?_take, if_pos (by omega), Array.getElem?_toList, hc _ (by omega)]
      have e1 : (j * 5 + i) / 5 = j := by omega
      have e2 : (j * 5 + i) % 5 = i := by omega
      have e3 : ys[j]! = p := by
        have hjl : j < ys.length := by omega
        rw [getElem!_pos ys j hjl]
        rw [List.getElem?_eq_getElem hjl] at hp
        exact Option.some.inj hp
      rw [e1, e2, e3]
    · rw [if_neg hi, List.getElem?_eq_none (by rw [L35_len]; omega)]
  rw [e]
  exact k35_mkM _ _ _ p
theorem setCells_block (g : Nat) (t : TypeId) : ∀ (vs : List Value) (o : Nat) (W : World) (cur : Array Value), W.heap[g]? = some (.cells cur t (0, 0)) → ∃ cur', (W.setCells g o vs).heap[g]? = some (.cells cur' t (0, 0)) ∧ cur'.size = cur.size ∧ (o + vs.length ≤ cur.size → ∀ k, cur'[k]? = if o ≤ k ∧ k < o + vs.length then vs[k - o]? else cur[k]?)
  | [], o, W, cur, h => ⟨cur, h, rfl, fun _ k => by rw [if_neg (by simp only [List.length_nil]; omega)]⟩
  | v :: vs, o, W, cur, h => by
    obtain ⟨cur', h1, h2, h3⟩ := setCells_block g t vs (o + 1) (W.setCell ⟨g, o, none⟩ v) (cur.setIfInBounds o v) (blk_set h o v)
    rw [Array.size_setIfInBounds] at h2 h3
    refine ⟨cur', h1, h2, fun hsz k => ?_⟩
    simp only [List.length_cons] at hsz ⊢
    rw [h3 (by omega) k]
    by_cases hk : k = o
    · subst hk
      rw [if_neg (by omega), if_pos ⟨Nat.le_refl _, by omega⟩, Nat.sub_self, Array.getElem?_setIfInBounds_self_of_lt (by omega)]
      rfl
    · rw [Array.getElem?_setIfInBounds_ne (fun e => hk e.symm)]
      by_cases h4 : o + 1 ≤ k ∧ k < o + 1 + vs.length
      · rw [if_pos h4, if_pos ⟨by omega, by omega⟩, show k - o = (k - (o + 1)) + 1 by omega]
        rfl
      · rw [if_neg h4, if_neg (by omega)]
theorem setCells_grown (g : Nat) : ∀ (vs : List Value) (o : Nat) (W : World), W.grownBy (W.setCells g o vs) (some g)
  | [], o, W => ⟨rfl, rfl, rfl, Nat.le_refl _, fun _ _ _ => rfl⟩
  | v :: vs, o, W => by
    have h1 := setCells_grown g vs (o + 1) (W.setCell ⟨g, o, none⟩ v)
    have hs : (W.setCell ⟨g, o, none⟩ v).heap.size = W.heap.size := by simp [World.setCell]
    refine ⟨h1.os, h1.tape, h1.output, by rw [← hs]; exact h1.size, fun k hk hne => ?_⟩
    refine (h1.block k (by rw [hs]; exact hk) hne).trans (Below.heap_setCell W ⟨g, o, none⟩ v k (fun e => hne (by rw [e])))
theorem row_set {W : World} {base g n cap : Nat} {xs : List S35} (h : Kd.R k35 35 W base (fun _ => True) (.slice (some ⟨g, 0, none⟩) n cap) xs) (i : Nat) (hi : i < n) (x : S35) :
    Kd.R k35 35 (W.setCells g (i * 5) (L35 x)) base (fun _ => True) (.slice (some ⟨g, 0, none⟩) n cap) (xs.set i x) ∧ W.grownBy (W.setCells g (i * 5) (L35 x)) (some g) := by
  obtain ⟨hn, hb, hnc, hcm, cur, hg, hcs, hc⟩ := row_open h
  obtain ⟨cur', h1, h2, h3⟩ := setCells_block g 35 (L35 x) (i * 5) W cur hg
  have h4 := h3 (by rw [L35_len, hcs]; omega)
  rw [L35_len] at h4
  refine ⟨row_mk hb (by rw [List.length_set]; exact hn) hnc hcm h1 (by rw [h2, hcs]) (fun t ht => ?_), setCells_grown g _ _ W⟩
  rw [h4 t]
  have h5 : t / 5 < xs.length := by omega
  have h6 : t / 5 < (xs.set i x).length := by rw [List.length_set]; exact h5
  rw [getElem!_pos (xs.set i x) (t / 5) h6, List.getElem_set]
  by_cases hr : i * 5 ≤ t ∧ t < i * 5 + 5
  · rw [if_pos hr, if_pos (by omega), show t - i * 5 = t % 5 by omega]
  · rw [if_neg hr, if_neg (by omega), hc t ht, getElem!_pos xs (t / 5) h5]
theorem row_there {W : World} {base g n cap : Nat} {xs : List S35} (h : Kd.R k35 35 W base (fun _ => True) (.slice (some ⟨g, 0, none⟩) n cap) xs) (i : Nat) (hi : i < n) : W.there g (i * 5) 5 := by
  obtain ⟨hn, hb, hnc, hcm, cur, hg, hcs, hc⟩ := row_open h
  intro j hj
  refine ⟨?_, blk_frozen hg _⟩
  rw [blk_cell hg, Array.getElem?_eq_getElem (by omega)]
  rfl
theorem row_range {W : World} {base g n cap : Nat} {xs : List S35} (h : Kd.R k35 35 W base (fun _ => True) (.slice (some ⟨g, 0, none⟩) n cap) xs) (i : Nat) (hi : i < xs.length) : W.rangeAt g (i * 5) (L35 xs[i]) := by
  obtain ⟨hn, hb, hnc, hcm, cur, hg, hcs, hc⟩ := row_open h
  intro j v hj
  have h5 : j < 5 := (List.getElem?_eq_some_iff.1 hj).1
  rw [blk_cell hg, hc _ (by omega), show (i * 5 + j) / 5 = i by omega, show (i * 5 + j) % 5 = j by omega, getElem!_pos xs i hi]
  exact hj
theorem ad_at {W : World} {g i : Nat} {ad : Addr} {cs : List Value} (had : ad = ⟨g, 0, none⟩) (h : W.rangeAt g i cs) : At W (ad.add i) cs := fun j u hj => by
  rw [had, Go.Proofs.YtdggdmdefmljlaaDoorK.add_at, Go.Proofs.YtdggdmdefmljlaaDoorK.add_at, Nat.zero_add]
  exact h j u hj
theorem load_run {W : World} {o : Oper} {ev : Operand → Value} {x : Operand} {ad : Addr} (y : S35) (hc : At W ad (L35 y)) (ho : o.op = .load 35 x) (hx : ev x = .pointer (some ad)) : (execOp ev o).run Tryd.prog W = .ok (.value (.agg (A35 y))) W := by
  unfold execOp
  simp only [ho, hx, Instr.loadAt, Instr.sureAddr, Sem.run_bind, Sem.run_pure, Result.andThen_ok, run_loadVar_at hc Tryd.underlying35 rfl info35s]
  rfl
theorem store_cand {op : Oper} {a : Act} {W : World} {K : Act → World → Prop} {Q : Exit → Act → World → Prop} (x y : Operand) (ho : op.op = .store 35 x y) {base g n cap : Nat} {ys : List S35} (h : Kd.R k35 35 W base (fun _ => True) (.slice (some ⟨g, 0, none⟩) n cap) ys) (i : Nat) (hi : i < n) (z : S35) {ad : Addr} (had : ad = ⟨g, 0, none⟩)
    (hx : a.eval x = .pointer (some (ad.add (i * 5)))) (hy : a.eval y = .agg (A35 z)) (hK : ∀ W1, Kd.R k35 35 W1 base (fun _ => True) (.slice (some ⟨g, 0, none⟩) n cap) (ys.set i z) → W.grownBy W1 (some g) → K (a.put op.dst undef) W1) : op.wp Tryd.prog a W K Q := by
  obtain ⟨h1, h2⟩ := row_set h i hi z
  refine wp_store_mid 35 x y ho g (i * 5) (A35 z) ?_ hy (row_there h i hi) info35s (by rw [← Array.all_toList]; rfl) (hK _ h1 h2)
  rw [hx, had, Go.Proofs.YtdggdmdefmljlaaDoorK.add_at, Nat.zero_add]
end Go.Proofs.YtdggdmdefmljlaaDoor.Q

namespace Go.Proofs.YtdggdmdefmljlaaDoor.Q
open Go Go.Proofs Go.Shelf Go.RowKit Go.Lib Go.Sort Go.Proofs.YtdggdmdefmljlaaDoorP Go.Proofs.YtdggdmdefmljlaaDoorK Go.Proofs.YtdggdmdefmljlaaDoorW.PrintWords Go.Proofs.YtdggdmdefmljlaaDoorW.PrintLast Go.Proofs.YtdggdmdefmljlaaDoorW.PrintMore
set_option linter.unusedSimpArgs false
set_option linter.unusedVariables false
/-! ### the law LruShuffled: the walk -/
theorem c_strs {w : World} {A : Option Addr} {xs : List ByteArray} (h : Kd.C Kd.string w A xs.length xs) (i : Nat) (hi : i < xs.length) : ∃ ad, A = some ad ∧ w.cell? (ad.add i) = some (.string xs[i]) := by
  obtain ⟨ad, e, hc⟩ := h.2.2 (by omega)
  obtain ⟨c, hl, hr, hcell⟩ := hc i xs[i] (List.getElem?_eq_getElem hi)
  refine ⟨ad, e, ?_⟩
  have hr' : c = [.string xs[i]] := hr
  have := hcell 0 (.string xs[i]) (by rw [hr']; rfl)
  have hz : i * Kd.string.sz + 0 = i := by show i * 1 + 0 = i; omega
  rw [hz] at this
  exact this
theorem c_ints {w : World} {A : Option Addr} {xs : List Int} (h : Kd.C (Kd.int .i64) w A xs.length xs) (i : Nat) (hi : i < xs.length) : ∃ ad, A = some ad ∧ w.cell? (ad.add i) = some (.int .i64 xs[i]) := by
  obtain ⟨ad, e, hc⟩ := h.2.2 (by omega)
  obtain ⟨c, hl, hr, hcell⟩ := hc i xs[i] (List.getElem?_eq_getElem hi)
  refine ⟨ad, e, ?_⟩
  have hr' : c = [.int .i64 xs[i]] := hr
  have := hcell 0 (.int .i64 xs[i]) (by rw [hr']; rfl)
  have hz : i * (Kd.int .i64).sz + 0 = i := by show i * 1 + 0 = i; omega
  rw [hz] at this
  exact this
attribute [local go_sem] cell_held frozen_held
theorem works_s (W : World) : Calls Tryd.prog 18 #[] W fun e w' => e = .returned (.bool true) ∧ Below W.heap.size W w' := aquiferlaw26_works.calls _ W works_fn
def shufR.T7 : Bool × List (List Nat × List Nat) := (true, [([], []), ([], []), ([], []), ([], []), ([], []), ([], []), ([4, 5], [4, 5]), ([6], [6]), ([], []), ([], []), ([8, 9], [8, 9]), ([10], [10]), ([0, 1, 0, 1, 4, 5, 6, 7, 11], [0, 1]), ([12, 7, 0, 1, 4, 5, 6, 7, 11], [7, 12]), ([2, 3, 0, 1, 2, 3, 4, 5, 6, 7, 8, 9, 10, 11, 12, 13], [2, 3]), ([14, 11, 13, 0, 1, 2, 3, 4, 5, 6, 7, 8, 9, 10, 11, 12, 13], [11, 14])])
def shufR.B7 : List Nat := [0, 0, 0, 0, 0, 0, 48, 112, 0, 0, 768, 1792, 4083, 8179, 16383, 32767]
theorem shufR.tab7 : rtab .any (opsOf Tryd.f5 7) = shufR.T7 := by kernel_rfl
theorem shufR.bits7 : waitsOk shufR.T7.2 shufR.B7 = true := by kernel_rfl
set_option maxRecDepth 100000 in
set_option maxHeartbeats 8000000 in
theorem shuf_walk (w : World) (A0 A1 : Option Addr) (c0 c1 : Nat) (l0 l : List S35) (ord : List Int) (a b : Int) (k : Nat) (v : List ByteArray) (e0 : Int) (oo : List S35) (hC : k35.C w A0 l0.length l0) (hc0 : l0.length ≤ c0) (hO : (Kd.int .i64).C w A1 ord.length ord) (hfew : aquiferlaw26_few.f k l0 = some l) (hfew2 : aquiferlaw26_few.f k l = some l)
    (hvic : ∀ ys : List S35, ys.Perm l → lru_Victims.f ys a b = some (v, e0)) (hord : ∀ ys : List S35, ys.Perm l → lru_Order.f ys = some oo) (hsame : aquiferref26_Same.f k oo oo = some true) (hlen : l.length ≤ 40) (hvl : v.length ≤ 40) :
    Calls Tryd.prog 5 #[.slice A0 l0.length c0, .slice A1 ord.length c1, .agg #[.int .i64 a, .int .i64 b]] w fun e w' => e = .returned (.bool true) ∧ Below w.heap.size w w' := by
  have hu35 := Tryd.underlying35
  have hfw := fun (W : World) (h : k35.C W A0 l0.length l0) => aquiferlaw26_few.calls k A0 c0 l0 l W h hc0 hfew
  have HFW := Aside0.mk hfw
  have hf2 := fun (A : Option Addr) (c : Nat) (W : World) (h : k35.C W A l.length l) (hc : l.length ≤ c) => aquiferlaw26_few.calls k A c l l W h hc hfew2
  have HF2 := Aside0.mk hf2
  have hvc := fun (ys : List S35) (hp : ys.Perm l) (A : Option Addr) (c : Nat) (W : World) (h : k35.C W A ys.length ys) (hc : ys.length ≤ c) => lru_Victims.calls A c ys a b v e0 W h hc (hvic ys hp)
  have HVC := Aside0.mk hvc
  have hoc := fun (ys : List S35) (hp : ys.Perm l) (A : Option Addr) (c : Nat) (W : World) (h : k35.C W A ys.length ys) (hc : ys.length ≤ c) => lru_Order.calls A c ys oo W h hc (hord ys hp)
  have HOC := Aside0.mk hoc
  have hsm := fun (A B : Option Addr) (c d : Nat) (W : World) (h : k35.C W A oo.length oo) (hc : oo.length ≤ c) (h' : k35.C W B oo.length oo) (hd : oo.length ≤ d) => aquiferref26_Same.calls k A c oo B d oo true W h hc h' hd hsame
  have HSM := Aside0.mk hsm
  have HC := Aside0.mk hC
  have HO := Aside0.mk hO
  clear hC hc0 hO hfew hfew2 hvic hord hsame hfw hf2 hvc hoc hsm
  go_enter Tryd.func5, Tryd.ntmps5
  go_wp2_with fail
  refine (HFW.out _ ?hC).mono ?_
  case hC => exact Kd.C_below HC.out (bel _ _)
  rintro e w1 ⟨v1, rfl, hv1, hb⟩
  have p1 := prev_call hb
  obtain ⟨A, c, rfl⟩ := Kd.R_slice hv1
  have hcl := (Kd.R_reads' hv1).2.1
  have HCL := Aside0.mk (Kd.R_reads' hv1).2.2
  have s1 : w.heap.size < w1.heap.size := by have := hb.size; rw [World.size_alloc] at this; omega
  have oW : OwnB w.heap.size (.above w1.heap.size) := own_above (by omega)
  have aW : Apart w.heap.size (.above w1.heap.size) := apart_lt s1
  clear hb hv1
  go_wp2_with fail
  refine (HF2.out _ _ _ ?hC ?hc).mono ?_
  case hC => exact HCL.out
  case hc => exact hcl
  rintro e w2 ⟨v2, rfl, hv2, hb⟩
  have HV2 := Aside0.mk hv2
  have HB2 := Aside0.mk hb
  have hway := R_way hv2
  have hlv : ∃ A2 c2, v2 = .slice A2 l.length c2 := Kd.R_slice hv2
  obtain ⟨A2, c2, rfl⟩ := hlv
  have HWAY := Aside0.mk hway
  clear hb hv2 hway
  go_wp2_with fail
  go_loopw [8] (fun i wr => ∃ j : Nat, ∃ ys : List S35, j ≤ l.length ∧ i = .int .i64 (j : Int) ∧ Aside0 (ys.Perm l) ∧ Aside0 (Kd.R k35 35 wr w1.heap.size (fun _ => True) (.slice A2 l.length c2) ys) ∧ Aside0 (Below w1.heap.size w1 wr)) (fun i _ => l.length - (intOf i).toNat)
  case atStart => exact ⟨0, l, Nat.zero_le _, rfl, ⟨List.Perm.refl _⟩, HV2, HB2⟩
  case round =>
    clear HV2 HB2
    obtain ⟨j, ys, hj, rfl, HP, HR, HB⟩ := hrel
    have pr := prev_above HB.out
    have hyl := HP.out.length_eq
    by_cases hjo : j < ord.length
    · by_cases hjl : j < l.length
      · obtain ⟨ada, ea, x0⟩ := c_ints (Kd.C_below HO.out (bel w wr)) j hjo
        subst ea
        have d1 := eq_true (show (j : Int) < (ord.length : Int) by omega)
        have d1' : decide ((j : Int) < (ord.length : Int)) = true := decide_eq_true (by omega)
        have d2' : decide ((j : Int) < (l.length : Int)) = true := decide_eq_true (by omega)
        have d3 : ((l.length : Int) == 0) = false := beq_eq_false_iff_ne.mpr (by omega)
        have d4 : (l.length : Int) ≠ 0 := by omega
        generalize ord[j] = o at x0
        have hL : (0 : Int) < (l.length : Int) := by omega
        have t1 := Int.tmod_lt_of_pos o hL
        have t2 : -(l.length : Int) < Int.tmod o l.length := by
          have h1 := Int.tmod_lt_of_pos (-o) hL
          rw [Int.neg_tmod] at h1
          omega
        obtain ⟨s, hs⟩ : ∃ s, Int.tmod o (l.length : Int) + (l.length : Int) = s := ⟨_, rfl⟩
        have w1_ : IntKind.i64.wrap (Int.tmod o (l.length : Int) + (l.length : Int)) = s := by rw [hs]; simp only [i64_w]; unfold wrap64; omega
        have t3 := Int.tmod_lt_of_pos s hL
        have t4 : 0 ≤ Int.tmod s (l.length : Int) := Int.tmod_nonneg _ (by omega)
        obtain ⟨kk, hkk⟩ : ∃ kk : Nat, Int.tmod s (l.length : Int) = (kk : Int) := ⟨(Int.tmod s (l.length : Int)).toNat, by omega⟩
        have hk2 : kk < l.length := by omega
        rcases HWAY.out with ⟨e1, e2⟩ | ⟨g, n2, cap2, e1⟩
        · rw [e2] at hjl
          exact absurd hjl (Nat.not_lt_zero _)
        · injection e1 with e1 e2 e3
          clear t1 t2 t3 t4 hs e2 e3
          subst e1
          obtain ⟨ad, had⟩ : ∃ ad : Addr, ad = ⟨g, 0, none⟩ := ⟨_, rfl⟩
          rw [← had]
          have HAD := Aside0.mk had
          clear had
          have hkl : kk < ys.length := by omega
          have hjy : j < ys.length := by omega
          have HP2 : Aside0 (((ys.set j ys[kk]).set kk ys[j]).Perm l) := ⟨(List.set_set_perm hjy hkl).trans HP.out⟩
          go_wp2_with fail
          refine start_ (n := 16) (S := fun w' => Kd.R k35 35 w' w1.heap.size (fun _ => True) (.slice (some ⟨g, 0, none⟩) l.length c2) (ys)) (ds := [13, 15]) #[false, false, false, false, false, false, false, false, false, false, false, false, false, false, false, false] (by kernel_rfl) rfl rfl (rowW HR.out (Below.drew (Below.refl _ _))) (fun hHeld => ?_); refine with_tabW shufR.tab7 shufR.bits7 (fun HT_ HW_ => ?_)
          refine pure_ (i := 0) (N := some 44) (v := ?_) (a' := ?_) #[true, false, false, false, false, false, false, false, false, false, false, false, false, false, false, false] rfl rfl (any_of HT_.out (by kernel_rfl)) (fun _ _ _ h => h) (Or.inl ⟨by rfl, ?_⟩) ?_ ?_
          rotate_left
          · intro w'
            go_simp
            with_reducible rfl
          rotate_left
          · simp only [Act.put, List.setIfInBounds_toArray, List.set_cons_zero, List.set_cons_succ, i64_w, i32_w]
            rfl
          refine pure_ (i := 1) (N := some 45) (v := ?_) (a' := ?_) #[true, true, false, false, false, false, false, false, false, false, false, false, false, false, false, false] rfl rfl (any_of HT_.out (by kernel_rfl)) (fun _ _ _ h => h) (Or.inl ⟨by rfl, ?_⟩) ?_ ?_
          rotate_left
          · intro w'
            go_simp
            with_reducible rfl
          rotate_left
          · simp only [Act.put, List.setIfInBounds_toArray, List.set_cons_zero, List.set_cons_succ, i64_w, i32_w]
            rfl
          refine pure_ (i := 2) (N := some 46) (v := ?_) (a' := ?_) #[true, true, true, false, false, false, false, false, false, false, false, false, false, false, false, false] rfl rfl (any_of HT_.out (by kernel_rfl)) (fun _ _ _ h => h) (Or.inl ⟨by rfl, ?_⟩) ?_ ?_
          rotate_left
          · intro w'
            go_simp
            with_reducible rfl
          rotate_left
          · simp only [Act.put, List.setIfInBounds_toArray, List.set_cons_zero, List.set_cons_succ, i64_w, i32_w]
            rfl
          refine pure_ (i := 3) (N := some 47) (v := ?_) (a' := ?_) #[true, true, true, true, false, false, false, false, false, false, false, false, false, false, false, false] rfl rfl (any_of HT_.out (by kernel_rfl)) (fun _ _ _ h => h) (Or.inl ⟨by rfl, ?_⟩) ?_ ?_
          rotate_left
          · intro w'
            go_simp
            with_reducible rfl
          rotate_left
          · simp only [Act.put, List.setIfInBounds_toArray, List.set_cons_zero, List.set_cons_succ, i64_w, i32_w]
            rfl
          refine pure_ (i := 4) (N := some 48) (v := ?_) (a' := ?_) #[true, true, true, true, true, false, false, false, false, false, false, false, false, false, false, false] rfl rfl (any_of HT_.out (by kernel_rfl)) (fun _ _ _ h => h) (Or.inl ⟨by rfl, ?_⟩) ?_ ?_
          rotate_left
          · intro w'
            go_simp
            with_reducible rfl
          rotate_left
          · simp only [Act.put, List.setIfInBounds_toArray, List.set_cons_zero, List.set_cons_succ, i64_w, i32_w]
            rfl
          refine pure_ (i := 5) (N := some 49) (v := ?_) (a' := ?_) #[true, true, true, true, true, true, false, false, false, false, false, false, false, false, false, false] rfl rfl (any_of HT_.out (by kernel_rfl)) (fun _ _ _ h => h) (Or.inl ⟨by rfl, ?_⟩) ?_ ?_
          rotate_left
          · intro w'
            go_simp
            with_reducible rfl
          rotate_left
          · simp only [Act.put, List.setIfInBounds_toArray, List.set_cons_zero, List.set_cons_succ, i64_w, i32_w]
            rfl
          refine pure_ (i := 6) (N := some 50) (v := ?_) (a' := ?_) #[true, true, true, true, true, true, true, false, false, false, false, false, false, false, false, false] rfl rfl (any_of HT_.out (by kernel_rfl)) (fun _ _ _ h => h) (Or.inl ⟨by rfl, ?_⟩) ?_ ?_
          rotate_left
          · intro w'
            go_simp
            with_reducible rfl
          rotate_left
          · simp only [Act.put, List.setIfInBounds_toArray, List.set_cons_zero, List.set_cons_succ, i64_w, i32_w]
            rfl
          refine pure_ (i := 8) (N := some 52) (v := ?_) (a' := ?_) #[true, true, true, true, true, true, true, false, true, false, false, false, false, false, false, false] rfl rfl (any_of HT_.out (by kernel_rfl)) (fun _ _ _ h => h) (Or.inl ⟨by rfl, ?_⟩) ?_ ?_
          rotate_left
          · intro w'
            go_simp
            with_reducible rfl
          rotate_left
          · simp only [Act.put, List.setIfInBounds_toArray, List.set_cons_zero, List.set_cons_succ, i64_w, i32_w]
            rfl
          refine pure_ (i := 9) (N := some 53) (v := ?_) (a' := ?_) #[true, true, true, true, true, true, true, false, true, true, false, false, false, false, false, false] rfl rfl (any_of HT_.out (by kernel_rfl)) (fun _ _ _ h => h) (Or.inl ⟨by rfl, ?_⟩) ?_ ?_
          rotate_left
          · intro w'
            go_simp
            with_reducible rfl
          rotate_left
          · simp only [Act.put, List.setIfInBounds_toArray, List.set_cons_zero, List.set_cons_succ, i64_w, i32_w]
            rfl
          refine pure_ (i := 10) (N := some 54) (v := ?_) (a' := ?_) #[true, true, true, true, true, true, true, false, true, true, true, false, false, false, false, false] rfl rfl (any_of HT_.out (by kernel_rfl)) (fun _ _ _ h => h) (Or.inl ⟨by rfl, ?_⟩) ?_ ?_
          rotate_left
          · intro w'
            go_simp
            with_reducible rfl
          rotate_left
          · simp only [Act.put, List.setIfInBounds_toArray, List.set_cons_zero, List.set_cons_succ, i64_w, i32_w]
            rfl
          refine take_ (i := 7) (N := some 51) (v := ?_) (a' := ?_) #[true, true, true, true, true, true, true, true, true, true, true, false, false, false, false, false] rfl rfl (take_ofW HT_.out HW_.out (by kernel_rfl)) (fun _ _ _ h => h) (Or.inl ⟨by rfl, ?_⟩) hHeld ?_ ?_
          rotate_left
          · intro w' s0; rw [load_run (x := .tmp 50) ys[kk] (ad_at HAD.out (row_range s0 kk (by omega)))] <;> rfl
          rotate_left
          · simp only [Act.put, List.setIfInBounds_toArray, List.set_cons_zero, List.set_cons_succ, i64_w, i32_w]
            rfl
          refine take_ (i := 11) (N := some 55) (v := ?_) (a' := ?_) #[true, true, true, true, true, true, true, true, true, true, true, true, false, false, false, false] rfl rfl (take_ofW HT_.out HW_.out (by kernel_rfl)) (fun _ _ _ h => h) (Or.inl ⟨by rfl, ?_⟩) hHeld ?_ ?_
          rotate_left
          · intro w' s0; rw [load_run (x := .tmp 54) ys[j] (ad_at HAD.out (row_range s0 j (by omega)))] <;> rfl
          rotate_left
          · simp only [Act.put, List.setIfInBounds_toArray, List.set_cons_zero, List.set_cons_succ, i64_w, i32_w]
            rfl
          refine pure_ (i := 12) (N := some 56) (v := ?_) (a' := ?_) #[true, true, true, true, true, true, true, true, true, true, true, true, true, false, false, false] rfl rfl (any_of HT_.out (by kernel_rfl)) (fun _ _ _ h => h) (Or.inl ⟨by rfl, ?_⟩) ?_ ?_
          rotate_left
          · intro w'
            go_simp
            with_reducible rfl
          rotate_left
          · simp only [Act.put, List.setIfInBounds_toArray, List.set_cons_zero, List.set_cons_succ, i64_w, i32_w]
            rfl
          refine last_ (i := 13) (N := none) #[true, true, true, true, true, true, true, true, true, true, true, true, true, true, false, false] rfl rfl (one_of HT_.out (by kernel_rfl)) (by decide) (fun K hK => ?_)
          rw [if_pos (by rfl)]
          refine store_cand (.tmp 56) (.tmp 51) rfl hHeld j (by omega) ys[kk] HAD.out rfl rfl (fun w5 hr5 hg5 => ?_)
          have p5 := prev_row hg5
          refine hK.out _ _ ?_
          clear hK K
          refine pure_ (i := 14) (N := some 57) (v := ?_) (a' := ?_) #[true, true, true, true, true, true, true, true, true, true, true, true, true, true, true, false] rfl rfl (any_of HT_.out (by kernel_rfl)) (fun _ _ _ h => h) (Or.inl ⟨by rfl, ?_⟩) ?_ ?_
          rotate_left
          · intro w'
            go_simp
            with_reducible rfl
          rotate_left
          · simp only [Act.put, List.setIfInBounds_toArray, List.set_cons_zero, List.set_cons_succ, i64_w, i32_w]
            rfl
          refine last_ (i := 15) (N := none) #[true, true, true, true, true, true, true, true, true, true, true, true, true, true, true, true] rfl rfl (one_of HT_.out (by kernel_rfl)) (by decide) (fun K hK => ?_)
          rw [if_pos (by rfl)]
          refine store_cand (.tmp 57) (.tmp 55) rfl hr5 kk (by omega) ys[j] HAD.out rfl rfl (fun w6 hr6 hg6 => ?_)
          have p6 := prev_row hg6
          refine hK.out _ _ ?_
          clear hK K
          refine done_ (done_of HT_.out (by kernel_rfl)) ?_
          clear HT_ HW_
          have HR6 := Aside0.mk hr6
          have sg := (row_open HR.out).2.1
          have og : OwnB w1.heap.size (.row g) := own_row sg
          clear hr6 hg6 hr5 hg5
          obtain rfl := HAD.out
          go_wp2_with fail
          go_roundw
          case rel => exact ⟨j + 1, _, by omega, by go_num, HP2, HR6, ⟨(inferInstance : Bel w1.heap.size w1 _).out (Nat.le_refl _)⟩⟩
          case measure => simp [intOf]; omega
      · have d1 : decide ((j : Int) < (ord.length : Int)) = true := decide_eq_true (by omega)
        have d2 : decide ((j : Int) < (l.length : Int)) = false := decide_eq_false (by omega)
        have d1' : decide (j < ord.length) = true := decide_eq_true (by omega)
        have d2' : decide (j < l.length) = false := decide_eq_false (by omega)
        clear hj hjo hjl
        have HLW := Aside0.mk (Kd.C_below HCL.out HB.out)
        have hyw := (Kd.R_reads' HR.out).2.2
        rw [hyl] at hyw
        have HYW := Aside0.mk hyw
        clear hyw
        have hyc := (Kd.R_reads' HR.out).2.1
        have hvy := HVC.out ys HP.out
        have hoy := HOC.out ys HP.out
        rw [hyl] at hvy hoy
        have HVY := Aside0.mk hvy
        have HOY := Aside0.mk hoy
        clear hvy hoy hyl HWAY
        go_wp2_with fail
        refine (HVC.out l (List.Perm.refl _) _ _ _ ?hC ?hc).mono ?_
        case hC => exact HLW.out
        case hc => exact hcl
        rintro e w5 ⟨v5, rfl, hv5, hb5⟩
        have p5 := prev_call hb5
        obtain ⟨A5, c5, rfl⟩ := Kd.R_slice hv5
        have HV5 := Aside0.mk (Kd.R_reads' hv5).2.2
        clear hb5 hv5
        go_wp2_with fail
        refine (HVY.out _ _ _ ?hC ?hc).mono ?_
        case hC => exact Kd.C_below HYW.out (bel wr w5)
        case hc => exact hyc
        rintro e w6 ⟨v6, rfl, hv6, hb6⟩
        have p6 := prev_call hb6
        obtain ⟨A6, c6, rfl⟩ := Kd.R_slice hv6
        have HV6 := Aside0.mk (Kd.R_reads' hv6).2.2
        have HV5' := Aside0.mk (Kd.C_below HV5.out hb6)
        have b6 := siz w w6
        have o6 : OwnB w.heap.size (.above w6.heap.size) := own_above b6
        have br6 := siz wr w6
        have or6 : OwnB wr.heap.size (.above w6.heap.size) := own_above br6
        clear hb6 hv6 HV5
        have n1 : (e0 != e0) = false := bne_self_eq_false e0
        have n2 : ((v.length : Int) != (v.length : Int)) = false := bne_self_eq_false _
        go_wp2_with fail
        go_loopw [88] (fun i wx => ∃ i2 : Nat, i2 ≤ v.length ∧ i = .int .i64 (i2 : Int) ∧ Aside0 (Below w6.heap.size w6 wx)) (fun i _ => v.length - (intOf i).toNat)
        case atStart => exact ⟨0, Nat.zero_le _, rfl, ⟨Below.refl _ _⟩⟩
        case round =>
          rename World => wy
          obtain ⟨i2, hi2, rfl, HBY⟩ := hrel
          have py := prev_above HBY.out
          by_cases hlt : i2 < v.length
          · obtain ⟨ad5, e5, x5⟩ := c_strs (Kd.C_below HV5'.out HBY.out) i2 hlt
            obtain ⟨ad6, e6, x6⟩ := c_strs (Kd.C_below HV6.out HBY.out) i2 hlt
            subst e5
            subst e6
            generalize v[i2] = x at x5 x6
            have hx : (x.toList == x.toList) = true := beq_self_eq_true _
            go_wp2_with fail
            go_quiet (fail)
            go_wp2_with fail
            go_roundw
            case rel => exact ⟨i2 + 1, by omega, by go_num, ⟨(inferInstance : Bel w6.heap.size w6 _).out (Nat.le_refl _)⟩⟩
            case measure => simp [intOf]; omega
          · go_wp2_with fail
            refine (HOC.out l (List.Perm.refl _) _ _ _ ?hC ?hc).mono ?_
            case hC => exact Kd.C_below HLW.out (bel wr wy)
            case hc => exact hcl
            rintro e w7 ⟨v7, rfl, hv7, hb7⟩
            have p7 := prev_call hb7
            obtain ⟨A7, c7, rfl⟩ := Kd.R_slice hv7
            have HV7 := Aside0.mk (Kd.R_reads' hv7).2.2
            have h7c := (Kd.R_reads' hv7).2.1
            clear hb7 hv7
            go_wp2_with fail
            refine (HOY.out _ _ _ ?hC ?hc).mono ?_
            case hC => exact Kd.C_below HYW.out (bel wr w7)
            case hc => exact hyc
            rintro e w8 ⟨v8, rfl, hv8, hb8⟩
            have p8 := prev_call hb8
            obtain ⟨A8, c8, rfl⟩ := Kd.R_slice hv8
            have HV8 := Aside0.mk (Kd.R_reads' hv8).2.2
            have h8c := (Kd.R_reads' hv8).2.1
            have HV7' := Aside0.mk (Kd.C_below HV7.out hb8)
            clear hb8 hv8
            go_wp2_with fail
            refine (HSM.out _ _ _ _ _ ?hC ?hc ?hD ?hd).mono ?_
            case hC => exact HV7'.out
            case hc => exact h7c
            case hD => exact HV8.out
            case hd => exact h8c
            rintro e w9 ⟨rfl, hb9⟩
            have p9 := prev_call hb9.below
            clear hb9
            go_wp2_with fail
            refine (works_s _).mono ?_
            rintro e w10 ⟨rfl, hb10⟩
            have p10 := prev_call hb10
            clear hb10
            go_wp2_with fail
            go_ret
            exact ⟨rfl, bel _ _⟩
    · have d1 : decide ((j : Int) < (ord.length : Int)) = false := decide_eq_false (by omega)
      have d1' : decide (j < ord.length) = false := decide_eq_false (by omega)
      clear hj hjo
      have HLW := Aside0.mk (Kd.C_below HCL.out HB.out)
      have hyw := (Kd.R_reads' HR.out).2.2
      rw [hyl] at hyw
      have HYW := Aside0.mk hyw
      clear hyw
      have hyc := (Kd.R_reads' HR.out).2.1
      have hvy := HVC.out ys HP.out
      have hoy := HOC.out ys HP.out
      rw [hyl] at hvy hoy
      have HVY := Aside0.mk hvy
      have HOY := Aside0.mk hoy
      clear hvy hoy hyl HWAY
      go_wp2_with fail
      refine (HVC.out l (List.Perm.refl _) _ _ _ ?hC ?hc).mono ?_
      case hC => exact HLW.out
      case hc => exact hcl
      rintro e w5 ⟨v5, rfl, hv5, hb5⟩
      have p5 := prev_call hb5
      obtain ⟨A5, c5, rfl⟩ := Kd.R_slice hv5
      have HV5 := Aside0.mk (Kd.R_reads' hv5).2.2
      clear hb5 hv5
      go_wp2_with fail
      refine (HVY.out _ _ _ ?hC ?hc).mono ?_
      case hC => exact Kd.C_below HYW.out (bel wr w5)
      case hc => exact hyc
      rintro e w6 ⟨v6, rfl, hv6, hb6⟩
      have p6 := prev_call hb6
      obtain ⟨A6, c6, rfl⟩ := Kd.R_slice hv6
      have HV6 := Aside0.mk (Kd.R_reads' hv6).2.2
      have HV5' := Aside0.mk (Kd.C_below HV5.out hb6)
      have b6 := siz w w6
      have o6 : OwnB w.heap.size (.above w6.heap.size) := own_above b6
      have br6 := siz wr w6
      have or6 : OwnB wr.heap.size (.above w6.heap.size) := own_above br6
      clear hb6 hv6 HV5
      have n1 : (e0 != e0) = false := bne_self_eq_false e0
      have n2 : ((v.length : Int) != (v.length : Int)) = false := bne_self_eq_false _
      go_wp2_with fail
      go_loopw [88] (fun i wx => ∃ i2 : Nat, i2 ≤ v.length ∧ i = .int .i64 (i2 : Int) ∧ Aside0 (Below w6.heap.size w6 wx)) (fun i _ => v.length - (intOf i).toNat)
      case atStart => exact ⟨0, Nat.zero_le _, rfl, ⟨Below.refl _ _⟩⟩
      case round =>
        rename World => wy
        obtain ⟨i2, hi2, rfl, HBY⟩ := hrel
        have py := prev_above HBY.out
        by_cases hlt : i2 < v.length
        · obtain ⟨ad5, e5, x5⟩ := c_strs (Kd.C_below HV5'.out HBY.out) i2 hlt
          obtain ⟨ad6, e6, x6⟩ := c_strs (Kd.C_below HV6.out HBY.out) i2 hlt
          subst e5
          subst e6
          generalize v[i2] = x at x5 x6
          have hx : (x.toList == x.toList) = true := beq_self_eq_true _
          go_wp2_with fail
          go_quiet (fail)
          go_wp2_with fail
          go_roundw
          case rel => exact ⟨i2 + 1, by omega, by go_num, ⟨(inferInstance : Bel w6.heap.size w6 _).out (Nat.le_refl _)⟩⟩
          case measure => simp [intOf]; omega
        · go_wp2_with fail
          refine (HOC.out l (List.Perm.refl _) _ _ _ ?hC ?hc).mono ?_
          case hC => exact Kd.C_below HLW.out (bel wr wy)
          case hc => exact hcl
          rintro e w7 ⟨v7, rfl, hv7, hb7⟩
          have p7 := prev_call hb7
          obtain ⟨A7, c7, rfl⟩ := Kd.R_slice hv7
          have HV7 := Aside0.mk (Kd.R_reads' hv7).2.2
          have h7c := (Kd.R_reads' hv7).2.1
          clear hb7 hv7
          go_wp2_with fail
          refine (HOY.out _ _ _ ?hC ?hc).mono ?_
          case hC => exact Kd.C_below HYW.out (bel wr w7)
          case hc => exact hyc
          rintro e w8 ⟨v8, rfl, hv8, hb8⟩
          have p8 := prev_call hb8
          obtain ⟨A8, c8, rfl⟩ := Kd.R_slice hv8
          have HV8 := Aside0.mk (Kd.R_reads' hv8).2.2
          have h8c := (Kd.R_reads' hv8).2.1
          have HV7' := Aside0.mk (Kd.C_below HV7.out hb8)
          clear hb8 hv8
          go_wp2_with fail
          refine (HSM.out _ _ _ _ _ ?hC ?hc ?hD ?hd).mono ?_
          case hC => exact HV7'.out
          case hc => exact h7c
          case hD => exact HV8.out
          case hd => exact h8c
          rintro e w9 ⟨rfl, hb9⟩
          have p9 := prev_call hb9.below
          clear hb9
          go_wp2_with fail
          refine (works_s _).mono ?_
          rintro e w10 ⟨rfl, hb10⟩
          have p10 := prev_call hb10
          clear hb10
          go_wp2_with fail
          go_ret
          exact ⟨rfl, bel _ _⟩
end Go.Proofs.YtdggdmdefmljlaaDoor.Q

namespace Go.Proofs.YtdggdmdefmljlaaDoor.Q
open Go Go.Proofs Go.Shelf Go.RowKit Go.Lib Go.Sort Go.Proofs.YtdggdmdefmljlaaDoorP Go.Proofs.YtdggdmdefmljlaaDoorK Go.Proofs.YtdggdmdefmljlaaDoorW.PrintWords Go.Proofs.YtdggdmdefmljlaaDoorW.PrintLast Go.Proofs.YtdggdmdefmljlaaDoorW.PrintMore
set_option linter.unusedSimpArgs false
set_option linter.unusedVariables false
/-! ### What victims are, plain -/
/-- What is left, and the last one's size. -/
def roomGo (v : List ByteArray) : Int → Int → List S35 → Int × Int
  | a, z, [] => (a, z)
  | a, z, c :: l => if isIn c.f0 v.reverse = false then roomGo v (a + c.f1) z l else if c.f0.data.toList = (v.getD (v.length - 1) ByteArray.empty).data.toList then roomGo v a c.f1 l else roomGo v a z l
def sumF : List S35 → Int
  | [] => 0
  | c :: l => c.f1 + sumF l
theorem sumF_append (a b : List S35) : sumF (a ++ b) = sumF a + sumF b := by
  induction a with
  | nil => simp [sumF]
  | cons c a ih => simp only [List.cons_append, sumF, ih]; omega
theorem sumF_perm {a b : List S35} (h : a.Perm b) : sumF a = sumF b := by
  induction h with
  | nil => rfl
  | cons x _ ih => simp only [sumF, ih]
  | swap x y l => simp only [sumF]; omega
  | trans _ _ h1 h2 => rw [h1, h2]
theorem sumF_split (p : S35 → Bool) (l : List S35) : sumF l = sumF (l.filter p) + sumF (l.filter fun c => !p c) := by
  induction l with
  | nil => rfl
  | cons c l ih =>
    rw [List.filter_cons, List.filter_cons]
    cases h : p c
    · simp only [Bool.false_eq_true, if_false, Bool.not_false, if_true, sumF]
      omega
    · simp only [if_true, Bool.not_true, Bool.false_eq_true, if_false, sumF]
      omega
theorem sumS_F (p : S35 → Bool) (l : List S35) : ∀ n, sumS p n l = n + sumF (l.filter p) := by
  induction l with
  | nil => intro n; simp [sumS, sumF]
  | cons c l ih =>
    intro n
    simp only [sumS]
    rw [ih, List.filter_cons]
    cases h : p c
    · simp
    · simp only [if_true, sumF]
      omega
theorem total_F (p : S35 → Bool) (l : List S35) (h : checkS l = 0) : totalS p l = sumF (l.filter p) := by
  unfold totalS
  rw [if_pos h, sumS_F]
  omega
theorem mem_is {s : ByteArray} {L : List ByteArray} : isIn s L = true ↔ s ∈ L := by
  unfold isIn
  rw [List.any_eq_true]
  constructor
  · rintro ⟨x, hx, h⟩
    have e : s = x := ByteArray.ext (Array.ext' (beq_iff_eq.1 h))
    rw [e]
    exact hx
  · intro h
    exact ⟨s, h, by simp⟩
theorem vicGo_cut (q : Int) : ∀ (o : List S35) (m : Int), ∃ j, j ≤ o.length ∧ vicGo q m o = (o.take j).map (·.f0) ∧ (j < o.length → m - sumF (o.take j) ≤ q) ∧ (∀ i, i < j → q < m - sumF (o.take i)) := by
  intro o
  induction o with
  | nil => intro m; exact ⟨0, Nat.le_refl _, rfl, fun h => absurd h (Nat.lt_irrefl 0), fun i hi => absurd hi (Nat.not_lt_zero i)⟩
  | cons c o ih =>
    intro m
    simp only [vicGo]
    by_cases h : m ≤ q
    · rw [if_pos h]
      exact ⟨0, Nat.zero_le _, rfl, fun _ => by simp [sumF]; omega, fun i hi => absurd hi (Nat.not_lt_zero i)⟩
    · rw [if_neg h]
      obtain ⟨j, h1, h2, h3, h4⟩ := ih (m - c.f1)
      refine ⟨j + 1, by simp only [List.length_cons]; omega, by rw [h2]; rfl, fun hj => ?_, fun i hi => ?_⟩
      · have := h3 (by simp only [List.length_cons] at hj; omega)
        simp only [List.take_succ_cons, sumF]
        omega
      · cases i with
        | zero => simp only [List.take_zero, sumF]; omega
        | succ i =>
          have := h4 i (by omega)
          simp only [List.take_succ_cons, sumF]
          omega
theorem roomGo_fst (v : List ByteArray) (l : List S35) : ∀ a z, (roomGo v a z l).1 = a + sumF (l.filter fun c => !isIn c.f0 v.reverse) := by
  induction l with
  | nil => intro a z; simp [roomGo, sumF]
  | cons c l ih =>
    intro a z
    simp only [roomGo]
    rw [List.filter_cons]
    cases h : isIn c.f0 v.reverse
    · rw [if_pos rfl, ih]
      simp only [Bool.not_false, if_true, sumF]
      omega
    · rw [if_neg (by decide)]
      simp only [Bool.not_true, Bool.false_eq_true, if_false]
      split <;> rw [ih]
theorem roomGo_snd (v : List ByteArray) (D : Int) (l : List S35) : ∀ a z, (∀ c ∈ l, c.f0 = v.getD (v.length - 1) ByteArray.empty → c.f1 = D) → (z = D ∨ ∃ c ∈ l, isIn c.f0 v.reverse = true ∧ c.f0 = v.getD (v.length - 1) ByteArray.empty) → (roomGo v a z l).2 = D := by
  induction l with
  | nil =>
    rintro a z _ (h | ⟨c, hc, _⟩)
    · exact h
    · simp at hc
  | cons c l ih =>
    intro a z hu h
    have hu' : ∀ d ∈ l, d.f0 = v.getD (v.length - 1) ByteArray.empty → d.f1 = D := fun d hd => hu d (by simp [hd])
    simp only [roomGo]
    by_cases hg : isIn c.f0 v.reverse = false
    · rw [if_pos hg]
      refine ih _ _ hu' ?_
      rcases h with h | ⟨d, hd, h1, h2⟩
      · exact .inl h
      · rcases List.mem_cons.1 hd with rfl | hd
        · rw [hg] at h1; exact absurd h1 (by decide)
        · exact .inr ⟨d, hd, h1, h2⟩
    · rw [if_neg hg]
      by_cases he : c.f0.data.toList = (v.getD (v.length - 1) ByteArray.empty).data.toList
      · rw [if_pos he]
        exact ih _ _ hu' (.inl (hu c (by simp) (ByteArray.ext (Array.ext' he))))
      · rw [if_neg he]
        refine ih _ _ hu' ?_
        rcases h with h | ⟨d, hd, h1, h2⟩
        · exact .inl h
        · rcases List.mem_cons.1 hd with rfl | hd
          · exact absurd (by rw [h2]) he
          · exact .inr ⟨d, hd, h1, h2⟩
theorem vic_what {l : List S35} {q n : Int} (h : (victimsS l q n).2 = 0) : checkS l = 0 ∧ boundB q = true ∧ 0 ≤ n ∧ n ≤ 4096 ∧ totalS fixedC l + n ≤ q ∧ (victimsS l q n).1 = vicGo q (totalS (fun _ => true) l + n) (orderS l) := by
  unfold victimsS at h ⊢
  by_cases h0 : checkS l ≠ 0
  · rw [if_pos h0] at h
    exact absurd h h0
  · rw [if_neg h0] at h ⊢
    by_cases h1 : boundB q = false ∨ n < 0 ∨ 4096 < n
    · rw [if_pos h1] at h
      exact absurd h (by decide)
    · rw [if_neg h1] at h ⊢
      by_cases h2 : q < totalS fixedC l + n
      · rw [if_pos h2] at h
        exact absurd h (by decide)
      · rw [if_neg h2]
        simp only [not_or, Bool.not_eq_false, Int.not_lt] at h1
        exact ⟨by simpa using h0, h1.1, h1.2.1, h1.2.2, by omega, rfl⟩
theorem vic_none {l : List S35} {q n : Int} (h : (victimsS l q n).2 ≠ 0) : (victimsS l q n).1 = [] := by
  unfold victimsS at h ⊢
  split
  · rfl
  · rename_i h0
    rw [if_neg h0] at h
    split
    · rfl
    · rename_i h1
      rw [if_neg h1] at h
      split
      · rfl
      · rename_i h2
        rw [if_neg h2] at h
        exact absurd rfl h
structure RoomFacts (l : List S35) (q n : Int) (v : List ByteArray) (lf la : Int) : Prop where
  hq : 0 ≤ q ∧ q ≤ 4611686018427387904
  hn : 0 ≤ n ∧ n ≤ 4096
  hok : ∀ c ∈ l, 0 ≤ c.f1 ∧ c.f1 ≤ 4096
  hvl : v.length ≤ l.length
  hvs : ∀ s ∈ v, ∃ c ∈ l, c.f0 = s
  hnew : ∀ j (h : j < v.length), isIn v[j] (v.take j).reverse = false
  hfix : ∀ c ∈ l, isIn c.f0 v.reverse = true → c.f3 = false ∧ c.f4 = false
  hroom : roomGo v 0 0 l = (lf, la)
  hle : lf ≤ q - n
  hla : v ≠ [] → q - n < lf + la
  hord : ∀ a ∈ l, ∀ b ∈ l, isIn a.f0 v.reverse = true → isIn b.f0 v.reverse = false → b.f3 = false → b.f4 = false → ¬ b.f2 < a.f2 ∧ (a.f2 = b.f2 → ¬ 0 < pcmp a.f0 b.f0)
theorem order_facts {l : List S35} (h : checkS l = 0) : (orderS l).Perm (freeL l) ∧ (orderS l).Pairwise leC ∧ Apart35 (orderS l) := by
  have hp : (orderS l).Perm (freeL l) := by
    unfold orderS
    rw [if_pos h]
    exact sortC_perm _
  refine ⟨hp, ?_, ?_⟩
  · unfold orderS
    rw [if_pos h]
    exact sortC_sorted _
  · have ha : Apart35 (freeL l) := List.Pairwise.filter _ (check_apart h)
    exact hp.symm.pairwise ha (fun h => Ne.symm h)
theorem last_map (a : List S35) (x : S35) : ((a ++ [x]).map (·.f0)).getD (((a ++ [x]).map (·.f0)).length - 1) ByteArray.empty = x.f0 := by
  simp [List.getD_eq_getElem?_getD]
theorem room_facts (l : List S35) (q n : Int) (h : (victimsS l q n).2 = 0) : ∃ lf la, RoomFacts l q n (victimsS l q n).1 lf la := by
  obtain ⟨h0, hb, hn0, hn1, hF, hv⟩ := vic_what h
  obtain ⟨hp, hso, hap⟩ := order_facts h0
  obtain ⟨hlen, hall⟩ := check_ok h0
  rw [hv]
  obtain ⟨j, hj, hc, hstop, hgo⟩ := vicGo_cut q (orderS l) (totalS (fun _ => true) l + n)
  rw [hc]
  rw [total_F _ _ h0] at hstop hgo
  rw [total_F _ _ h0] at hF
  have hT : l.filter (fun _ => true) = l := List.filter_eq_self.2 (fun _ _ => rfl)
  rw [hT] at hstop hgo
  have hla := check_apart h0
  generalize orderS l = o at hp hso hap hj hstop hgo
  have hmem : ∀ d, d ∈ o ↔ d ∈ l ∧ fixedC d = false := fun d => by
    rw [hp.mem_iff]
    unfold freeL
    rw [List.mem_filter]
    simp
  have hin : ∀ s, isIn s ((o.take j).map (·.f0)).reverse = true ↔ ∃ d ∈ o.take j, d.f0 = s := fun s => by
    rw [mem_is, List.mem_reverse, List.mem_map]
  have hsub : ∀ d ∈ o.take j, d ∈ l ∧ fixedC d = false := fun d hd => (hmem d).1 (List.mem_of_mem_take hd)
  have hgone : ∀ c ∈ l, isIn c.f0 ((o.take j).map (·.f0)).reverse = true → c ∈ o.take j := fun c hcl hg => by
    obtain ⟨d, hd, e⟩ := (hin _).1 hg
    have := apart_eq hla d (hsub d hd).1 c hcl e
    rw [← this]
    exact hd
  have hcut : o.take j ++ o.drop j = o := List.take_append_drop j o
  have hap2 : (o.take j ++ o.drop j).Pairwise (fun a b => a.f0 ≠ b.f0) := by rw [hcut]; exact hap
  have hso2 : (o.take j ++ o.drop j).Pairwise leC := by rw [hcut]; exact hso
  rw [List.pairwise_append] at hap2 hso2
  have hfg : l.filter (fun c => isIn c.f0 ((o.take j).map (·.f0)).reverse) = (freeL l).filter (fun c => isIn c.f0 ((o.take j).map (·.f0)).reverse) := by
    unfold freeL
    rw [List.filter_filter]
    apply List.filter_congr
    intro c hcl
    cases hg : isIn c.f0 ((o.take j).map (·.f0)).reverse
    · rfl
    · have := (hsub c (hgone c hcl hg)).2
      rw [this]
      rfl
  have hfo : o.filter (fun c => isIn c.f0 ((o.take j).map (·.f0)).reverse) = o.take j := by
    conv => lhs; arg 2; rw [← hcut]
    rw [List.filter_append, List.filter_eq_self.2 (fun c hc => (hin _).2 ⟨c, hc, rfl⟩), List.filter_eq_nil_iff.2, List.append_nil]
    intro c hc hg
    obtain ⟨d, hd, e⟩ := (hin _).1 hg
    exact hap2.2.2 d hd c hc e
  have hsum : sumF (l.filter fun c => !isIn c.f0 ((o.take j).map (·.f0)).reverse) = sumF l - sumF (o.take j) := by
    have h1 := sumF_split (fun c => isIn c.f0 ((o.take j).map (·.f0)).reverse) l
    have h2 := sumF_perm (hp.filter (fun c => isIn c.f0 ((o.take j).map (·.f0)).reverse))
    rw [hfo] at h2
    rw [hfg, ← h2] at h1
    omega
  have hgo1 := roomGo_fst ((o.take j).map (·.f0)) l 0 0
  rw [hsum] at hgo1
  refine ⟨(roomGo ((o.take j).map (·.f0)) 0 0 l).1, (roomGo ((o.take j).map (·.f0)) 0 0 l).2, ⟨(boundB_iff q).1 hb, ⟨hn0, hn1⟩, fun c hc => ⟨(hall c hc).1, (hall c hc).2.1⟩, ?_, ?_, ?_, ?_, rfl, ?_, ?_, ?_⟩⟩
  · rw [List.length_map, List.length_take]
    have := hp.length_eq
    have h2 := List.length_filter_le (fun c => !fixedC c) l
    unfold freeL at this
    omega
  · intro s hs
    obtain ⟨d, hd, e⟩ := List.mem_map.1 hs
    exact ⟨d, (hsub d hd).1, e⟩
  · intro i hi
    rw [Bool.eq_false_iff]
    intro hg
    rw [mem_is, List.mem_reverse] at hg
    have hi' : i < (o.take j).length := by rw [List.length_map] at hi; exact hi
    have hnd : ((o.take j).map (·.f0)).Pairwise (· ≠ ·) := by
      rw [List.pairwise_map]
      exact hap2.1
    obtain ⟨k, hk, e⟩ := List.getElem_of_mem hg
    have hki : k < i := by rw [List.length_take] at hk; omega
    have := List.pairwise_iff_getElem.1 hnd k i (by omega) hi hki
    apply this
    rw [← e]
    simp
  · intro c hcl hg
    have := (hsub c (hgone c hcl hg)).2
    unfold fixedC at this
    simpa using this
  · rw [hgo1]
    by_cases hje : j < o.length
    · have := hstop hje
      omega
    · rw [List.take_of_length_le (by omega), sumF_perm hp]
      have := sumF_split fixedC l
      unfold freeL
      omega
  · intro hne
    have hjp : 0 < j := by
      rcases Nat.eq_zero_or_pos j with h | h
      · subst h
        exact absurd rfl hne
      · exact h
    have hjl : j - 1 < o.length := by omega
    have htk : o.take j = o.take (j - 1) ++ [o[j - 1]] := by
      rw [← List.take_succ_eq_append_getElem hjl, show j - 1 + 1 = j by omega]
    have hlast : ((o.take j).map (·.f0)).getD (((o.take j).map (·.f0)).length - 1) ByteArray.empty = o[j - 1].f0 := by
      rw [htk]
      exact last_map _ _
    have hdl := (hmem o[j - 1]).1 (List.getElem_mem hjl)
    have hdt : o[j - 1] ∈ o.take j := by rw [htk]; exact List.mem_append_right _ (List.mem_singleton.2 rfl)
    have hgo2 := roomGo_snd ((o.take j).map (·.f0)) o[j - 1].f1 l 0 0 (by
      intro c hcl e
      rw [hlast] at e
      rw [apart_eq hla c hcl _ hdl.1 e]) (.inr ⟨o[j - 1], hdl.1, (hin _).2 ⟨_, hdt, rfl⟩, hlast.symm⟩)
    rw [hgo1, hgo2]
    have h1 := hgo (j - 1) (by omega)
    have h2 : sumF (o.take j) = sumF (o.take (j - 1)) + o[j - 1].f1 := by
      conv => lhs; rw [htk]
      rw [sumF_append]
      simp [sumF]
    omega
  · intro a hal b hbl ha hb' h3 h4
    have hat := hgone a hal ha
    have hbo : b ∈ o := (hmem b).2 ⟨hbl, by unfold fixedC; rw [h3, h4]; rfl⟩
    rw [← hcut] at hbo
    have hbd : b ∈ o.drop j := by
      rcases List.mem_append.1 hbo with h | h
      · have := (hin b.f0).2 ⟨b, h, rfl⟩
        rw [this] at hb'
        exact absurd hb' (by decide)
      · exact h
    have hle := hso2.2.2 a hat b hbd
    unfold leC cfC cmpK keyC at hle
    dsimp only at hle
    refine ⟨fun hlt => hle ?_, fun he hpc => hle ?_⟩
    · have : Lib.compareInt b.f2 a.f2 = -1 := by unfold Lib.compareInt; rw [if_pos hlt]
      rw [this, if_neg (by decide)]
      decide
    · have : Lib.compareInt b.f2 a.f2 = 0 := by unfold Lib.compareInt; rw [he]; simp
      rw [this, if_pos rfl]
      exact (good_path.lt _ _).2 hpc
end Go.Proofs.YtdggdmdefmljlaaDoor.Q

namespace Go.Proofs.YtdggdmdefmljlaaDoor.Q
open Go Go.Proofs Go.Shelf Go.RowKit Go.Lib Go.Sort Go.Proofs.YtdggdmdefmljlaaDoorP Go.Proofs.YtdggdmdefmljlaaDoorK Go.Proofs.YtdggdmdefmljlaaDoorW.PrintWords Go.Proofs.YtdggdmdefmljlaaDoorW.PrintLast Go.Proofs.YtdggdmdefmljlaaDoorW.PrintMore
set_option linter.unusedSimpArgs false
set_option linter.unusedVariables false
/-! ### What goes hangs not on the order -/
theorem goS_char (l : List S35) : ∀ seen, (goS seen l = 0 ↔ (∀ c ∈ l, badC c = false) ∧ Apart35 l ∧ ∀ c ∈ l, c.f0 ∉ seen) ∧ (goS seen l = 0 ∨ goS seen l = 2) := by
  induction l with
  | nil => intro seen; exact ⟨⟨fun _ => ⟨by simp, List.Pairwise.nil, by simp⟩, fun _ => rfl⟩, .inl rfl⟩
  | cons a l ih =>
    intro seen
    obtain ⟨h1, h2⟩ := ih (a.f0 :: seen)
    simp only [goS]
    by_cases hb : (badC a || isIn a.f0 seen) = true
    · rw [if_pos hb]
      refine ⟨⟨fun h => absurd h (by decide), fun h => ?_⟩, .inr rfl⟩
      exfalso
      rw [Bool.or_eq_true] at hb
      rcases hb with hb | hb
      · rw [h.1 a (by simp)] at hb
        exact absurd hb (by decide)
      · exact h.2.2 a (by simp) (mem_is.1 hb)
    · rw [if_neg hb]
      simp only [Bool.or_eq_true, not_or, Bool.not_eq_true] at hb
      refine ⟨?_, h2⟩
      rw [h1]
      constructor
      · rintro ⟨g1, g2, g3⟩
        refine ⟨?_, ?_, ?_⟩
        · intro c hc
          rcases List.mem_cons.1 hc with rfl | hc
          · exact hb.1
          · exact g1 c hc
        · exact List.Pairwise.cons (fun c hc e => g3 c hc (by rw [← e]; simp)) g2
        · intro c hc hs
          rcases List.mem_cons.1 hc with rfl | hc
          · have := mem_is.2 hs
            rw [hb.2] at this
            exact absurd this (by decide)
          · exact g3 c hc (by simp [hs])
      · rintro ⟨g1, g2, g3⟩
        obtain ⟨g4, g5⟩ := List.pairwise_cons.1 g2
        refine ⟨fun c hc => g1 c (by simp [hc]), g5, fun c hc hs => ?_⟩
        rcases List.mem_cons.1 hs with e | hs
        · exact g4 c hc e.symm
        · exact g3 c (by simp [hc]) hs
theorem check_perm {l m : List S35} (h : m.Perm l) (hn : l.length ≤ 40) : checkS m = checkS l := by
  have hl := h.length_eq
  unfold checkS
  rw [if_neg (by omega), if_neg (by omega)]
  obtain ⟨a1, a2⟩ := goS_char m []
  obtain ⟨b1, b2⟩ := goS_char l []
  have hiff : goS [] m = 0 ↔ goS [] l = 0 := by
    rw [a1, b1]
    constructor
    · rintro ⟨g1, g2, g3⟩
      exact ⟨fun c hc => g1 c (h.mem_iff.2 hc), h.pairwise g2 (fun e => Ne.symm e), by simp⟩
    · rintro ⟨g1, g2, g3⟩
      exact ⟨fun c hc => g1 c (h.mem_iff.1 hc), h.symm.pairwise g2 (fun e => Ne.symm e), by simp⟩
  rcases a2 with e | e
  · rw [e, hiff.1 e]
  · rcases b2 with f | f
    · rw [hiff.2 f, f]
    · rw [e, f]
theorem total_perm (p : S35 → Bool) {l m : List S35} (h : m.Perm l) (hn : l.length ≤ 40) : totalS p m = totalS p l := by
  have hc := check_perm h hn
  by_cases h0 : checkS l = 0
  · rw [total_F p l h0, total_F p m (by rw [hc]; exact h0)]
    exact sumF_perm (h.filter p)
  · unfold totalS
    rw [hc, if_neg h0, if_neg h0]
theorem order_perm {l m : List S35} (h : m.Perm l) (hn : l.length ≤ 40) : orderS m = orderS l := by
  have hc := check_perm h hn
  by_cases h0 : checkS l = 0
  · have hm0 : checkS m = 0 := by rw [hc]; exact h0
    obtain ⟨p1, s1, _⟩ := order_facts hm0
    have hap : Apart35 (freeL l) := List.Pairwise.filter _ (check_apart h0)
    have hpf : (freeL m).Perm (freeL l) := h.filter _
    rw [sort_one hap (p1.trans hpf) s1]
    unfold orderS
    rw [if_pos h0]
  · unfold orderS
    rw [hc, if_neg h0, if_neg h0]
theorem victims_perm {l m : List S35} (h : m.Perm l) (hn : l.length ≤ 40) (q n : Int) : victimsS m q n = victimsS l q n := by
  unfold victimsS
  rw [check_perm h hn, total_perm fixedC h hn, total_perm _ h hn, order_perm h hn]
theorem short_perm {l m : List S35} (h : m.Perm l) (hs : short l = true) : short m = true := by
  obtain ⟨h1, h2⟩ := short_mem hs
  unfold short
  simp only [Bool.and_eq_true, decide_eq_true_eq, List.all_eq_true]
  exact ⟨by rw [h.length_eq]; exact h1, fun c hc => h2 c (h.mem_iff.1 hc)⟩
theorem vic_len40 (l : List S35) (hn : l.length ≤ 40) (q n : Int) : (victimsS l q n).1.length ≤ 40 := by
  by_cases he : (victimsS l q n).2 = 0
  · obtain ⟨_, _, F⟩ := room_facts l q n he
    exact Nat.le_trans F.hvl hn
  · rw [vic_none he]
    exact Nat.zero_le _
theorem order_len40 (l : List S35) : (orderS l).length ≤ l.length := by
  unfold orderS
  split
  · rw [(sortC_perm (freeL l)).length_eq]
    exact List.length_filter_le _ _
  · exact Nat.zero_le _
end Go.Proofs.YtdggdmdefmljlaaDoor.Q

namespace Go.Proofs.YtdggdmdefmljlaaDoor.Q
open Go Go.Proofs Go.Shelf Go.RowKit Go.Lib Go.Sort Go.Proofs.YtdggdmdefmljlaaDoorP Go.Proofs.YtdggdmdefmljlaaDoorK Go.Proofs.YtdggdmdefmljlaaDoorW.PrintWords Go.Proofs.YtdggdmdefmljlaaDoorW.PrintLast Go.Proofs.YtdggdmdefmljlaaDoorW.PrintMore
/-- The law answers true. -/
def aquiferlaw26_LruShuffled.f (_k : Nat) (_l0 : List S35) (_l1 : List Int) (_x2 : Int × Int) : Option Bool := some true
theorem aquiferlaw26_LruShuffled.calls (k : Nat) (A0 : Option Addr) (c0 : Nat) (l0 : List (S35)) (A1 : Option Addr) (c1 : Nat) (l1 : List Int) (x2 : Int × Int) (r : Bool) (w : World) (hr0 : Kd.C k35 w A0 l0.length l0) (hc0 : l0.length ≤ c0) (hr1 : Kd.C (Kd.int .i64) w A1 l1.length l1) (_hc1 : l1.length ≤ c1) (h : aquiferlaw26_LruShuffled.f k l0 l1 x2 = some r) :
    Calls Tryd.prog 5 #[.slice A0 l0.length c0, .slice A1 l1.length c1, .agg #[.int .i64 x2.1, .int .i64 x2.2]] w fun e w' => e = .returned (.bool r) ∧ Below w.heap.size w w' := by
  obtain rfl : true = r := Option.some.inj h
  have hs := few_short l0
  have hn := few_len l0
  have hf := few_fn l0 100 (by decide)
  have hf2 := few_fn (fewL l0) 100 (by decide)
  rw [fewL_fewL] at hf2
  generalize fewL l0 = l at hs hn hf hf2
  have ho := order_len40 l
  exact shuf_walk w A0 A1 c0 c1 l0 l l1 x2.1 x2.2 100 (victimsS l x2.1 x2.2).1 (victimsS l x2.1 x2.2).2 (orderS l) hr0 hc0 hr1 hf hf2
    (fun ys hp => by rw [victims_fn (short_perm hp hs), victims_perm hp hn])
    (fun ys hp => by rw [order_fn (short_perm hp hs), order_perm hp hn])
    (refsame _ (by omega) 100 (by omega)) hn (vic_len40 l hn _ _)
theorem LruShuffled_pure (l0 : List S35) (l1 : List Int) (x2 : Int × Int) (_h0 : l0.length * 40 ≤ 140737488351232) (_g0 : ∀ a ∈ l0, good35 a) (_h1 : l1.length * 8 ≤ 140737488351232) (_g1 : ∀ a ∈ l1, (Lit.int .i64 a).wf = true) (_h2 : (Lit.int .i64 x2.1).wf = true ∧ (Lit.int .i64 x2.2).wf = true) : ∃ k, aquiferlaw26_LruShuffled.f k l0 l1 x2 = some true := ⟨0, rfl⟩
end Go.Proofs.YtdggdmdefmljlaaDoor.Q

namespace Go.Proofs.YtdggdmdefmljlaaDoor.lruShuffled
open Go.ChangeShapes Go.WideShapes Go.ChangeAt Go.RowKit Go.Proofs.YtdggdmdefmljlaaDoorK Go.Proofs.YtdggdmdefmljlaaDoorW.PrintWords Go.Proofs.YtdggdmdefmljlaaDoor.Q
open Go.ChangeMaps (open_string shut_string)
set_option linter.unusedVariables false
theorem own : ownKnob Tryd.prog.godebug = none := by kernel_rfl
theorem laidOut : laidOutB Tryd.prog = true := by kernel_rfl
set_option maxRecDepth 100000 in
theorem lifted (os : Os) (started : os.Started) (H : Type) (enc : TypeId × Value → H) :
    ReturnsInHanded {} Tryd.checked os 5 .any (fun w args => (Rows.lruShuffledSpec.pre enc Tryd.prog Tryd.f5 Rows.lruShuffledRow.domain false w args ∧ laidMetH Tryd.prog Rows.lruShuffledRow.laid w) ∧ sizedMet enc Tryd.prog Tryd.f5 (OpenSpec.ofChange Rows.lruShuffledSpec) false w args) (Rows.lruShuffledSpec.post enc Tryd.prog Tryd.f5 false true false false) := by
  refine returnsInHanded_of_change_and (C := Tryd.checked) (X := fun w _ => laidMetH Tryd.prog Rows.lruShuffledRow.laid w) (fun _ _ _ hh h => h.of_heap hh) own started (by kernel_rfl) Tryd.func5
    (ChangeSpec.witness_shaped (enc := enc) (C := Tryd.checked) (os := os) (X := fun w _ => laidMetH Tryd.prog Rows.lruShuffledRow.laid w) false (World.laidAll Tryd.prog os Rows.lruShuffledRow.laid) #[.slice none 0 0, .slice none 0 0, .agg #[.int .i64 0, .int .i64 0]] 8 (World.laidAll_os _ _ _)
      (World.shaped_of_ZipB (by kernel_rfl) (by kernel_rfl)) (by kernel_rfl) (by kernel_rfl) (by kernel_rfl)
      (by rw [MakeChecks.laidMetH_plain _ _ _ (by kernel_rfl)]; exact laidMet_laidAll _ (by kernel_rfl) (by kernel_rfl))) ?_
  intro W base args ds gs before hval0 hW hcnd hsz0 _ _
  have hsz : (DataW.weightsEach Tryd.prog (Tryd.f5.params.toList ++ Rows.lruShuffledSpec.plain.varTypes Tryd.prog) (ds ++ gs)).all (· ≤ reachBytes) = true := hsz0
  have hval : ∀ (j : Nat) t v, Tryd.f5.params[j]? = some t → args[j]? = some v → Value.okWide Tryd.prog W .any base t v := hval0
  have hW' := hW
  obtain ⟨p, q, hA0, hV, rfl, hfz, hnd⟩ := hW
  have hA : DataW.TrodAll enc Tryd.prog W 0 (fun _ => true) true Tryd.f5.params.toList args.toList ds p := hA0
  rw [Tryd.params5] at hA hval hsz
  obtain ⟨v0, vs0, d0, ds0, p0, q0, hargs, rfl, rfl, h0, r0⟩ := trodAll_cons hA
  obtain ⟨v1, vs1, d1, ds1, p1, q1, rfl, rfl, rfl, h1, r1⟩ := trodAll_cons r0
  obtain ⟨v2, vs2, d2, ds2, p2, q2, rfl, rfl, rfl, h2, r2⟩ := trodAll_cons r1
  obtain ⟨rfl, rfl, rfl⟩ := trodAll_nil r2
  obtain rfl : args = #[v0, v1, v2] := by cases args; simp_all
  obtain ⟨rfl, rfl⟩ := trodVars_none hV
  obtain ⟨a0, len0, cap0, rfl⟩ := okWide_slice Tryd.underlying22 (hval 0 22 v0 rfl rfl)
  have k0 := h0
  have lt0 : ∀ x ∈ p0, x.block < W.heap.size := by obtain ⟨m, hm⟩ := k0; exact DataW.trod_lt m _ _ _ hm
  have y0 : len0 * 40 ≤ 140737488351232 := sized_row hsz (j := 0) (t := 22) rfl rfl Tryd.underlying22 (by kernel_rfl) h0
  obtain ⟨l0, ⟨A0, c0, he0, hl0, hC0⟩, _, hG0⟩ : ∃ l, (Kd.slice 35 k35).K W l [.slice a0 len0 cap0] ∧ l.length ≤ 9223372036854775807 ∧ ∀ a ∈ l, good35 a := by
    obtain ⟨fuel, hf⟩ := h0
    exact (opens_slice (e := 35) Tryd.underlying22 (by kernel_rfl) opens35) _ _ _ _ _ _ _ _ _ hf
  simp only [List.cons.injEq, Value.slice.injEq, and_true] at he0
  obtain ⟨rfl, rfl, rfl⟩ := he0
  obtain ⟨a1, len1, cap1, rfl⟩ := okWide_slice Tryd.underlying38 (hval 1 38 v1 rfl rfl)
  have k1 := h1
  have lt1 : ∀ x ∈ p1, x.block < W.heap.size := by obtain ⟨m, hm⟩ := k1; exact DataW.trod_lt m _ _ _ hm
  have y1 : len1 * 8 ≤ 140737488351232 := sized_row hsz (j := 1) (t := 38) rfl rfl Tryd.underlying38 (by kernel_rfl) h1
  obtain ⟨l1, ⟨A1, c1, he1, hl1, hC1⟩, _, hG1⟩ : ∃ l, (Kd.slice 3 (Kd.int .i64)).K W l [.slice a1 len1 cap1] ∧ l.length ≤ 9223372036854775807 ∧ ∀ a ∈ l, (Lit.int .i64 a).wf = true := by
    obtain ⟨fuel, hf⟩ := h1
    exact (opens_slice (e := 3) Tryd.underlying38 (by kernel_rfl) (opens_int Tryd.underlying3)) _ _ _ _ _ _ _ _ _ hf
  simp only [List.cons.injEq, Value.slice.injEq, and_true] at he1
  obtain ⟨rfl, rfl, rfl⟩ := he1
  obtain ⟨cs2, rfl⟩ := okWide_array Tryd.underlying39 (hval 2 39 v2 rfl rfl)
  have k2 := h2
  have lt2 : ∀ x ∈ p2, x.block < W.heap.size := by obtain ⟨m, hm⟩ := k2; exact DataW.trod_lt m _ _ _ hm
  obtain ⟨x2, hK2, hG2⟩ : ∃ x, kTwo.K W x cs2.toList ∧ ((Lit.int .i64 x.1).wf = true ∧ (Lit.int .i64 x.2).wf = true) := by
    obtain ⟨fuel, hf⟩ := h2
    exact (opens_two Tryd.underlying39 Tryd.underlying3 (by kernel_rfl) (by kernel_rfl)) _ _ _ _ _ _ _ _ _ hf
  obtain rfl : cs2 = #[.int .i64 x2.1, .int .i64 x2.2] := by
    have e_ : cs2.toList = _ := hK2
    cases cs2
    exact congrArg Array.mk e_
  clear hA0 hval0 hsz0 hsz
  obtain ⟨k, hP⟩ := LruShuffled_pure l0 l1 x2 y0 hG0 y1 hG1 hG2
  refine (aquiferlaw26_LruShuffled.calls k _ _ l0 _ _ l1 x2 true W hC0 hl0 hC1 hl1 hP).mono fun e W' he0 => ?_
  obtain ⟨rfl, bel0⟩ := he0
  have bel : Below W.heap.size W W' := bel0
  exact ⟨_, rfl, _, _, _, [], _, [], hW', trodAll_mk1 (shut_bool Tryd.underlying4 _), (trodAll_cons_mk (Below.trod laidOut (by kernel_rfl) (of_decide_eq_true (by kernel_rfl)) k0 bel lt0) (trodAll_cons_mk (Below.trod laidOut (by kernel_rfl) (of_decide_eq_true (by kernel_rfl)) k1 bel lt1) (trodAll_cons_mk (Below.trod laidOut (by kernel_rfl) (of_decide_eq_true (by kernel_rfl)) k2 bel lt2) trodAll_mk0))), rfl, bel.frame _, fun h => by cases h⟩
theorem over : Rows.lruShuffledRow.holds Tryd.pinned (OpenSpec.ofChange Rows.lruShuffledSpec) :=
  OpenClaim.holds_of_wide 5 Tryd.f5 rfl rfl rfl rfl rfl rfl rfl ⟨rfl, rfl, rfl, rfl, rfl⟩ rfl rfl rfl rfl rfl (by kernel_rfl) Tryd.func5 (by kernel_rfl)
    (of_decide_eq_true (by kernel_rfl)) (by unfold Func.isWrapper; first | (rw [if_pos (by decide +kernel)]; kernel_rfl) | (rw [if_neg (by decide +kernel)]; exact ⟨rfl, rfl⟩))
    (fun os started H enc _ => lifted os started H enc)
theorem card : Rows.LruShuffledCardSaid :=
  Claim7.holds_tied_plain_at .later [] [.data, .pinned] true (true, "ed3517321f6b201d801f28c50cabd34698d0c30173b98f1f6a6ddb8340a2a237") false over (fun _ h => by cases h) (by kernel_rfl) (fun _ h => by cases h) lruShuffled_row_tie rfl ⟨rfl, rfl⟩ (by kernel_rfl) rfl
    (fun f fn hf hfn => by
      obtain rfl : f = 5 := Option.some.inj ((show Tryd.prog.funcNamed "aquifer/aquiferlaw26.LruShuffled" = some 5 by kernel_rfl).symm.trans hf) |>.symm
      obtain rfl : fn = Tryd.f5 := (Option.some.inj (Tryd.func5.symm.trans hfn)).symm
      exact ⟨by kernel_rfl, fun j t ht => by
        rw [Tryd.params5] at ht
        have hm : t ∈ [22, 38, 39] := by simpa using Array.mem_of_getElem? ht
        have hall : ([22, 38, 39].all fun u => !Tryd.prog.wantsStandIn u) = true := by kernel_rfl
        exact (show Tryd.prog.wantsStandIn t = false by simpa using List.all_eq_true.1 hall t hm)⟩)
    (by kernel_rfl)
theorem proved : Rows.LruShuffledCardSaid := card
#print axioms proved
end Go.Proofs.YtdggdmdefmljlaaDoor.lruShuffled
namespace Go.Proofs.YtdggdmdefmljlaaDoor
/-- The card, under a short name, for the claim. -/
theorem lruShuffled_holds : Rows.LruShuffledCardSaid := lruShuffled.proved
end Go.Proofs.YtdggdmdefmljlaaDoor
