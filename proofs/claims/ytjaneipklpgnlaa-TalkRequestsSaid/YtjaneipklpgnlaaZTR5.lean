/-
What is proved: aquifer/aquiferlaw20.TalkRequests answers true for every input, and leaves its arguments as they were.
-/
import Derived.Test.YtjaneipklpgnlaaZTR1
import Derived.Test.YtjaneipklpgnlaaZTR3
import Derived.Test.YtjaneipklpgnlaaZTR2
import Derived.Test.YtjaneipklpgnlaaZTR4
import Derived.Test.YtjaneipklpgnlaaRows
import Derived.WalkKit
import Derived.ProofKit
import Derived.OpenShut
import Derived.ShutString
import Derived.ChangeOld
import Derived.Below
import Derived.SizedLaws
namespace Go.Proofs.Ytjaneipklpgnlaa.Q
open Go.RowKit Go.Proofs.YtjaneipklpgnlaaW.PrintWords Go.Proofs.YtjaneipklpgnlaaW.PrintLast Go.Proofs.YtjaneipklpgnlaaW.PrintMore Go.Proofs.YtjaneipklpgnlaaK
attribute [local go_sem] max2_int min2_int max_two min_two max_three min_three max_four min_four   -- for this text's walks alone
attribute [local go_sem ↓] Go.Proofs.YtjaneipklpgnlaaK.isSome_setCell
set_option linter.unusedVariables false
set_option linter.unusedSimpArgs false

attribute [local go_sem high] eqA23
/-! ### aquiferlaw20_TalkRequests: function 3 -/
def aquiferlaw20_TalkRequests.f (k : Nat) (a0_0 : Int) (a0_1 : Int) (a0_2 : Int) (a0_3 : Int) (a0_4 : Int) (a0_5 : Int) (a0_6 : ByteArray) (a0_7 : ByteArray) (a1 : ByteArray) : Option (Bool) := (aquiferlaw20_few.f a0_0 a0_1 a0_2 a0_3 a0_4 a0_5 a0_6 a0_7).bind fun bt296 => (if 0 ≤ (mn (a1.size : Int) 9000) then (if (mn (a1.size : Int) 9000) ≤ (a1.size : Int) then ((talk_Request.f bt296.1 bt296.2.1 bt296.2.2.1 bt296.2.2.2.1 bt296.2.2.2.2.1 bt296.2.2.2.2.2.1 bt296.2.2.2.2.2.2.1 bt296.2.2.2.2.2.2.2).bind fun bt304 => ((aquiferref20_Request.f k bt296.1 bt296.2.1 bt296.2.2.1 bt296.2.2.2.1 bt296.2.2.2.2.1 bt296.2.2.2.2.2.1 bt296.2.2.2.2.2.2.1 bt296.2.2.2.2.2.2.2).bind fun bt306 => ((talk_ReadRequest.f (a1.extract 0 ((mn (a1.size : Int) 9000) : Int).toNat)).bind fun bt308 => ((aquiferref20_ReadRequest.f k (a1.extract 0 ((mn (a1.size : Int) 9000) : Int).toNat)).bind fun bt318 => ((talk_CheckRequest.f bt296.1 bt296.2.1 bt296.2.2.1 bt296.2.2.2.1 bt296.2.2.2.2.1 bt296.2.2.2.2.2.1 bt296.2.2.2.2.2.2.1 bt296.2.2.2.2.2.2.2).bind fun t328 => ((aquiferref20_CheckRequest.f bt296.1 bt296.2.1 bt296.2.2.1 bt296.2.2.2.1 bt296.2.2.2.2.1 bt296.2.2.2.2.2.1 bt296.2.2.2.2.2.2.1 bt296.2.2.2.2.2.2.2).bind fun t329 => (if t328 = t329 then (if bt304.1.toList = bt306.1.toList then (if bt304.2 = bt306.2 then (if (bt308.1 == bt318.1 && (bt308.2.1 == bt318.2.1 && (bt308.2.2.1 == bt318.2.2.1 && (bt308.2.2.2.1 == bt318.2.2.2.1 && (bt308.2.2.2.2.1 == bt318.2.2.2.2.1 && (bt308.2.2.2.2.2.1 == bt318.2.2.2.2.2.1 && (bt308.2.2.2.2.2.2.1.toList == bt318.2.2.2.2.2.2.1.toList && (bt308.2.2.2.2.2.2.2.1.toList == bt318.2.2.2.2.2.2.2.1.toList)))))))) = true then (if bt308.2.2.2.2.2.2.2.2 = bt318.2.2.2.2.2.2.2.2 then ((aquiferlaw20_works.f).bind fun t330 => (some t330)) else (none)) else (none)) else (none)) else (none)) else (none)))))))) else (none)) else (none))
theorem aquiferlaw20_TalkRequests.mono : ∀ a0 a1 a2 a3 a4 a5 a6 a7 a8 k, LeO (aquiferlaw20_TalkRequests.f k a0 a1 a2 a3 a4 a5 a6 a7 a8) (aquiferlaw20_TalkRequests.f (k + 1) a0 a1 a2 a3 a4 a5 a6 a7 a8) := by
  intro a0 a1 a2 a3 a4 a5 a6 a7 a8 k
  unfold aquiferlaw20_TalkRequests.f
  repeat' first
      | (with_reducible exact aquiferref20_ReadRequest.mono _ _)
      | (with_reducible exact aquiferref20_Request.mono _ _ _ _ _ _ _ _ _)
      | (with_reducible exact LeO.refl _)
      | (with_reducible exact LeO.none _)
      | (with_reducible refine LeO.ite ?_ ?_)
      | (with_reducible refine LeO.bind ?_ (fun _ => ?_))
      | exact aquiferref20_ReadRequest.mono _ _
      | exact aquiferref20_Request.mono _ _ _ _ _ _ _ _ _
      | exact LeO.none _
      | refine LeO.ite ?_ ?_
      | refine LeO.bind ?_ (fun _ => ?_)
def aquiferlaw20_TalkRequests.T1 : Bool × List (List Nat × List Nat) := (true, [([], []), ([0], [0]), ([], []), ([], []), ([3], [3]), ([4], [4]), ([2, 5], [2, 5]), ([1, 1, 0, 1], [1]), ([6, 7, 0, 1, 2, 3, 4, 5, 6, 7], [2, 3, 6])])
def aquiferlaw20_TalkRequests.B1 : List Nat := [0, 1, 0, 0, 8, 24, 60, 3, 255]
theorem aquiferlaw20_TalkRequests.tab1 : rtab .any (opsOf Try.f3 1) = aquiferlaw20_TalkRequests.T1 := by kernel_rfl
theorem aquiferlaw20_TalkRequests.bits1 : waitsOk aquiferlaw20_TalkRequests.T1.2 aquiferlaw20_TalkRequests.B1 = true := by kernel_rfl
def aquiferlaw20_TalkRequests.T6 : Bool × List (List Nat × List Nat) := (true, [([], []), ([0], [0]), ([], []), ([2, 1], [2]), ([1, 3], [1, 3]), ([4, 3], [4]), ([5], [5]), ([5], [5]), ([6, 7, 5], [5, 6, 7]), ([5, 8], [5, 8]), ([9, 5], [9]), ([10], [10]), ([10], [10]), ([11, 12, 10], [10, 11, 12]), ([10, 13], [10, 13]), ([14, 10], [14]), ([15], [15]), ([15], [15]), ([16, 17, 15], [15, 16, 17]), ([15, 18], [15, 18]), ([19, 15], [19]), ([20], [20]), ([20], [20]), ([21, 22, 20], [20, 21, 22]), ([20, 23], [20, 23]), ([24, 20], [24]), ([25, 25], [25]), ([25, 26], [25, 26]), ([27, 26, 0, 1, 2, 3, 4, 5, 6, 7, 8, 9, 10, 11, 12, 13, 14, 15, 16, 17, 18, 19, 20, 21, 22, 23, 24, 25, 26, 27], [27])])
def aquiferlaw20_TalkRequests.B6 : List Nat := [0, 1, 0, 7, 15, 31, 63, 63, 255, 511, 1023, 2047, 2047, 8191, 16383, 32767, 65535, 65535, 262143, 524287, 1048575, 2097151, 2097151, 8388607, 16777215, 33554431, 67108863, 134217727, 268435455]
theorem aquiferlaw20_TalkRequests.tab6 : rtab .any (opsOf Try.f3 6) = aquiferlaw20_TalkRequests.T6 := by kernel_rfl
theorem aquiferlaw20_TalkRequests.bits6 : waitsOk aquiferlaw20_TalkRequests.T6.2 aquiferlaw20_TalkRequests.B6 = true := by kernel_rfl
set_option maxHeartbeats 8000000 in
set_option maxRecDepth 100000 in
theorem aquiferlaw20_TalkRequests.calls (k : Nat) (a0_0 : Int) (a0_1 : Int) (a0_2 : Int) (a0_3 : Int) (a0_4 : Int) (a0_5 : Int) (a0_6 : ByteArray) (a0_7 : ByteArray) (a1 : ByteArray) (r : Bool) (w : World) (h : aquiferlaw20_TalkRequests.f k a0_0 a0_1 a0_2 a0_3 a0_4 a0_5 a0_6 a0_7 a1 = some r) :
    Calls Try.prog 3 #[.agg #[.int .i64 a0_0, .int .i64 a0_1, .int .i64 a0_2, .int .i64 a0_3, .int .i64 a0_4, .int .i64 a0_5, .string a0_6, .string a0_7], .string a1] w fun e w' => e = .returned (.bool r) ∧ Below w.heap.size w w' := by
  have hu23 := Try.underlying23
  have HB := Aside0.mk (Below.refl w.heap.size w)
  have H : ((aquiferlaw20_few.f a0_0 a0_1 a0_2 a0_3 a0_4 a0_5 a0_6 a0_7).bind fun bt296 => (if 0 ≤ (mn (a1.size : Int) 9000) then (if (mn (a1.size : Int) 9000) ≤ (a1.size : Int) then ((talk_Request.f bt296.1 bt296.2.1 bt296.2.2.1 bt296.2.2.2.1 bt296.2.2.2.2.1 bt296.2.2.2.2.2.1 bt296.2.2.2.2.2.2.1 bt296.2.2.2.2.2.2.2).bind fun bt304 => ((aquiferref20_Request.f k bt296.1 bt296.2.1 bt296.2.2.1 bt296.2.2.2.1 bt296.2.2.2.2.1 bt296.2.2.2.2.2.1 bt296.2.2.2.2.2.2.1 bt296.2.2.2.2.2.2.2).bind fun bt306 => ((talk_ReadRequest.f (a1.extract 0 ((mn (a1.size : Int) 9000) : Int).toNat)).bind fun bt308 => ((aquiferref20_ReadRequest.f k (a1.extract 0 ((mn (a1.size : Int) 9000) : Int).toNat)).bind fun bt318 => ((talk_CheckRequest.f bt296.1 bt296.2.1 bt296.2.2.1 bt296.2.2.2.1 bt296.2.2.2.2.1 bt296.2.2.2.2.2.1 bt296.2.2.2.2.2.2.1 bt296.2.2.2.2.2.2.2).bind fun t328 => ((aquiferref20_CheckRequest.f bt296.1 bt296.2.1 bt296.2.2.1 bt296.2.2.2.1 bt296.2.2.2.2.1 bt296.2.2.2.2.2.1 bt296.2.2.2.2.2.2.1 bt296.2.2.2.2.2.2.2).bind fun t329 => (if t328 = t329 then (if bt304.1.toList = bt306.1.toList then (if bt304.2 = bt306.2 then (if (bt308.1 == bt318.1 && (bt308.2.1 == bt318.2.1 && (bt308.2.2.1 == bt318.2.2.1 && (bt308.2.2.2.1 == bt318.2.2.2.1 && (bt308.2.2.2.2.1 == bt318.2.2.2.2.1 && (bt308.2.2.2.2.2.1 == bt318.2.2.2.2.2.1 && (bt308.2.2.2.2.2.2.1.toList == bt318.2.2.2.2.2.2.1.toList && (bt308.2.2.2.2.2.2.2.1.toList == bt318.2.2.2.2.2.2.2.1.toList)))))))) = true then (if bt308.2.2.2.2.2.2.2.2 = bt318.2.2.2.2.2.2.2.2 then ((aquiferlaw20_works.f).bind fun t330 => (some t330)) else (none)) else (none)) else (none)) else (none)) else (none)))))))) else (none)) else (none))) = some r := h
  clear h
  replace H := Option.bind_eq_some_iff.mp H
  obtain ⟨⟨t296, t297, t298, t299, t300, t301, t302, t303⟩, A30, H⟩ := H
  replace H : (if 0 ≤ (mn (a1.size : Int) 9000) then (if (mn (a1.size : Int) 9000) ≤ (a1.size : Int) then ((talk_Request.f t296 t297 t298 t299 t300 t301 t302 t303).bind fun bt304 => ((aquiferref20_Request.f k t296 t297 t298 t299 t300 t301 t302 t303).bind fun bt306 => ((talk_ReadRequest.f (a1.extract 0 ((mn (a1.size : Int) 9000) : Int).toNat)).bind fun bt308 => ((aquiferref20_ReadRequest.f k (a1.extract 0 ((mn (a1.size : Int) 9000) : Int).toNat)).bind fun bt318 => ((talk_CheckRequest.f t296 t297 t298 t299 t300 t301 t302 t303).bind fun t328 => ((aquiferref20_CheckRequest.f t296 t297 t298 t299 t300 t301 t302 t303).bind fun t329 => (if t328 = t329 then (if bt304.1.toList = bt306.1.toList then (if bt304.2 = bt306.2 then (if (bt308.1 == bt318.1 && (bt308.2.1 == bt318.2.1 && (bt308.2.2.1 == bt318.2.2.1 && (bt308.2.2.2.1 == bt318.2.2.2.1 && (bt308.2.2.2.2.1 == bt318.2.2.2.2.1 && (bt308.2.2.2.2.2.1 == bt318.2.2.2.2.2.1 && (bt308.2.2.2.2.2.2.1.toList == bt318.2.2.2.2.2.2.1.toList && (bt308.2.2.2.2.2.2.2.1.toList == bt318.2.2.2.2.2.2.2.1.toList)))))))) = true then (if bt308.2.2.2.2.2.2.2.2 = bt318.2.2.2.2.2.2.2.2 then ((aquiferlaw20_works.f).bind fun t330 => (some t330)) else (none)) else (none)) else (none)) else (none)) else (none)))))))) else (none)) else (none)) = some r := H
  have A3 := Aside0.mk A30
  clear A30
  obtain ⟨ji4, hji4⟩ : ∃ j_ : Int, (mn (a1.size : Int) 9000) = j_ := ⟨_, rfl⟩
  replace H : (if 0 ≤ (ji4) then (if (ji4) ≤ (a1.size : Int) then ((talk_Request.f t296 t297 t298 t299 t300 t301 t302 t303).bind fun bt304 => ((aquiferref20_Request.f k t296 t297 t298 t299 t300 t301 t302 t303).bind fun bt306 => ((talk_ReadRequest.f (a1.extract 0 ((ji4) : Int).toNat)).bind fun bt308 => ((aquiferref20_ReadRequest.f k (a1.extract 0 ((ji4) : Int).toNat)).bind fun bt318 => ((talk_CheckRequest.f t296 t297 t298 t299 t300 t301 t302 t303).bind fun t328 => ((aquiferref20_CheckRequest.f t296 t297 t298 t299 t300 t301 t302 t303).bind fun t329 => (if t328 = t329 then (if bt304.1.toList = bt306.1.toList then (if bt304.2 = bt306.2 then (if (bt308.1 == bt318.1 && (bt308.2.1 == bt318.2.1 && (bt308.2.2.1 == bt318.2.2.1 && (bt308.2.2.2.1 == bt318.2.2.2.1 && (bt308.2.2.2.2.1 == bt318.2.2.2.2.1 && (bt308.2.2.2.2.2.1 == bt318.2.2.2.2.2.1 && (bt308.2.2.2.2.2.2.1.toList == bt318.2.2.2.2.2.2.1.toList && (bt308.2.2.2.2.2.2.2.1.toList == bt318.2.2.2.2.2.2.2.1.toList)))))))) = true then (if bt308.2.2.2.2.2.2.2.2 = bt318.2.2.2.2.2.2.2.2 then ((aquiferlaw20_works.f).bind fun t330 => (some t330)) else (none)) else (none)) else (none)) else (none)) else (none)))))))) else (none)) else (none)) = some r := by first | (rw [hji4] at H; exact H) | (simp only [hji4] at H ⊢; exact H)
  (try rw [hji4] at A3)
  (try (have hji4h : ji4 ≤ 9000 := by (rw [← hji4]; unfold mn; (repeat' split) <;> omega)))
  (try (have hji4g : ji4 ≤ 64 := by omega))
  (try (have hji4l : 0 ≤ ji4 := by (rw [← hji4]; unfold mn; (repeat' split) <;> omega)))
  (try (have hji4m : 0 ≤ ji4 := by omega))
  have hji4_ : (if 9000 < (a1.size : Int) then 9000 else (a1.size : Int)) = ji4 := hji4
  by_cases c5 : 0 ≤ (ji4)
  · rw [if_pos c5] at H
    have c5b0 := eq_true c5
    have c5b1 : decide (0 ≤ (ji4)) = true := decide_eq_true c5
    clear c5
    by_cases c6 : (ji4) ≤ (a1.size : Int)
    · rw [if_pos c6] at H
      have c6b0 := eq_true c6
      have c6b1 : decide ((ji4) ≤ (a1.size : Int)) = true := decide_eq_true c6
      clear c6
      replace H := Option.bind_eq_some_iff.mp H
      obtain ⟨⟨t304, t305⟩, A70, H⟩ := H
      replace H : ((aquiferref20_Request.f k t296 t297 t298 t299 t300 t301 t302 t303).bind fun bt306 => ((talk_ReadRequest.f (a1.extract 0 ((ji4) : Int).toNat)).bind fun bt308 => ((aquiferref20_ReadRequest.f k (a1.extract 0 ((ji4) : Int).toNat)).bind fun bt318 => ((talk_CheckRequest.f t296 t297 t298 t299 t300 t301 t302 t303).bind fun t328 => ((aquiferref20_CheckRequest.f t296 t297 t298 t299 t300 t301 t302 t303).bind fun t329 => (if t328 = t329 then (if t304.toList = bt306.1.toList then (if t305 = bt306.2 then (if (bt308.1 == bt318.1 && (bt308.2.1 == bt318.2.1 && (bt308.2.2.1 == bt318.2.2.1 && (bt308.2.2.2.1 == bt318.2.2.2.1 && (bt308.2.2.2.2.1 == bt318.2.2.2.2.1 && (bt308.2.2.2.2.2.1 == bt318.2.2.2.2.2.1 && (bt308.2.2.2.2.2.2.1.toList == bt318.2.2.2.2.2.2.1.toList && (bt308.2.2.2.2.2.2.2.1.toList == bt318.2.2.2.2.2.2.2.1.toList)))))))) = true then (if bt308.2.2.2.2.2.2.2.2 = bt318.2.2.2.2.2.2.2.2 then ((aquiferlaw20_works.f).bind fun t330 => (some t330)) else (none)) else (none)) else (none)) else (none)) else (none))))))) = some r := H
      have A7 := Aside0.mk A70
      clear A70
      replace H := Option.bind_eq_some_iff.mp H
      obtain ⟨⟨t306, t307⟩, A80, H⟩ := H
      replace H : ((talk_ReadRequest.f (a1.extract 0 ((ji4) : Int).toNat)).bind fun bt308 => ((aquiferref20_ReadRequest.f k (a1.extract 0 ((ji4) : Int).toNat)).bind fun bt318 => ((talk_CheckRequest.f t296 t297 t298 t299 t300 t301 t302 t303).bind fun t328 => ((aquiferref20_CheckRequest.f t296 t297 t298 t299 t300 t301 t302 t303).bind fun t329 => (if t328 = t329 then (if t304.toList = t306.toList then (if t305 = t307 then (if (bt308.1 == bt318.1 && (bt308.2.1 == bt318.2.1 && (bt308.2.2.1 == bt318.2.2.1 && (bt308.2.2.2.1 == bt318.2.2.2.1 && (bt308.2.2.2.2.1 == bt318.2.2.2.2.1 && (bt308.2.2.2.2.2.1 == bt318.2.2.2.2.2.1 && (bt308.2.2.2.2.2.2.1.toList == bt318.2.2.2.2.2.2.1.toList && (bt308.2.2.2.2.2.2.2.1.toList == bt318.2.2.2.2.2.2.2.1.toList)))))))) = true then (if bt308.2.2.2.2.2.2.2.2 = bt318.2.2.2.2.2.2.2.2 then ((aquiferlaw20_works.f).bind fun t330 => (some t330)) else (none)) else (none)) else (none)) else (none)) else (none)))))) = some r := H
      have A8 := Aside0.mk A80
      clear A80
      replace H := Option.bind_eq_some_iff.mp H
      obtain ⟨⟨t308, t309, t310, t311, t312, t313, t314, t315, t316⟩, A90, H⟩ := H
      replace H : ((aquiferref20_ReadRequest.f k (a1.extract 0 ((ji4) : Int).toNat)).bind fun bt318 => ((talk_CheckRequest.f t296 t297 t298 t299 t300 t301 t302 t303).bind fun t328 => ((aquiferref20_CheckRequest.f t296 t297 t298 t299 t300 t301 t302 t303).bind fun t329 => (if t328 = t329 then (if t304.toList = t306.toList then (if t305 = t307 then (if (t308 == bt318.1 && (t309 == bt318.2.1 && (t310 == bt318.2.2.1 && (t311 == bt318.2.2.2.1 && (t312 == bt318.2.2.2.2.1 && (t313 == bt318.2.2.2.2.2.1 && (t314.toList == bt318.2.2.2.2.2.2.1.toList && (t315.toList == bt318.2.2.2.2.2.2.2.1.toList)))))))) = true then (if t316 = bt318.2.2.2.2.2.2.2.2 then ((aquiferlaw20_works.f).bind fun t330 => (some t330)) else (none)) else (none)) else (none)) else (none)) else (none))))) = some r := H
      have A9 := Aside0.mk A90
      clear A90
      replace H := Option.bind_eq_some_iff.mp H
      obtain ⟨⟨t318, t319, t320, t321, t322, t323, t324, t325, t326⟩, A100, H⟩ := H
      replace H : ((talk_CheckRequest.f t296 t297 t298 t299 t300 t301 t302 t303).bind fun t328 => ((aquiferref20_CheckRequest.f t296 t297 t298 t299 t300 t301 t302 t303).bind fun t329 => (if t328 = t329 then (if t304.toList = t306.toList then (if t305 = t307 then (if (t308 == t318 && (t309 == t319 && (t310 == t320 && (t311 == t321 && (t312 == t322 && (t313 == t323 && (t314.toList == t324.toList && (t315.toList == t325.toList)))))))) = true then (if t316 = t326 then ((aquiferlaw20_works.f).bind fun t330 => (some t330)) else (none)) else (none)) else (none)) else (none)) else (none)))) = some r := H
      have A10 := Aside0.mk A100
      clear A100
      replace H := Option.bind_eq_some_iff.mp H
      obtain ⟨t328, A110, H⟩ := H
      replace H : ((aquiferref20_CheckRequest.f t296 t297 t298 t299 t300 t301 t302 t303).bind fun t329 => (if t328 = t329 then (if t304.toList = t306.toList then (if t305 = t307 then (if (t308 == t318 && (t309 == t319 && (t310 == t320 && (t311 == t321 && (t312 == t322 && (t313 == t323 && (t314.toList == t324.toList && (t315.toList == t325.toList)))))))) = true then (if t316 = t326 then ((aquiferlaw20_works.f).bind fun t330 => (some t330)) else (none)) else (none)) else (none)) else (none)) else (none))) = some r := H
      have A11 := Aside0.mk A110
      clear A110
      replace H := Option.bind_eq_some_iff.mp H
      obtain ⟨t329, A120, H⟩ := H
      replace H : (if t328 = t329 then (if t304.toList = t306.toList then (if t305 = t307 then (if (t308 == t318 && (t309 == t319 && (t310 == t320 && (t311 == t321 && (t312 == t322 && (t313 == t323 && (t314.toList == t324.toList && (t315.toList == t325.toList)))))))) = true then (if t316 = t326 then ((aquiferlaw20_works.f).bind fun t330 => (some t330)) else (none)) else (none)) else (none)) else (none)) else (none)) = some r := H
      have A12 := Aside0.mk A120
      clear A120
      by_cases c13 : t328 = t329
      · rw [if_pos c13] at H
        have c13b0 : (t328 == t329) = true := beq_iff_eq.mpr c13
        have c13b1 : (t328 != t329) = false := bne_eq_false_iff_eq.mpr c13
        clear c13
        by_cases c14 : t304.toList = t306.toList
        · rw [if_pos c14] at H
          have c14b0 : (t304.toList == t306.toList) = true := beq_iff_eq.mpr c14
          have c14b1 : (t304.toList != t306.toList) = false := bne_eq_false_iff_eq.mpr c14
          clear c14
          by_cases c15 : t305 = t307
          · rw [if_pos c15] at H
            have c15b0 : (t305 == t307) = true := beq_iff_eq.mpr c15
            have c15b1 : (t305 != t307) = false := bne_eq_false_iff_eq.mpr c15
            clear c15
            by_cases c16 : (t308 == t318 && (t309 == t319 && (t310 == t320 && (t311 == t321 && (t312 == t322 && (t313 == t323 && (t314.toList == t324.toList && (t315.toList == t325.toList)))))))) = true
            · rw [if_pos c16] at H
              have c16b0 : (t308 == t318 && (t309 == t319 && (t310 == t320 && (t311 == t321 && (t312 == t322 && (t313 == t323 && (t314.toList == t324.toList && (t315.toList == t325.toList)))))))) = true := c16
              (try (have c16b1 : decide (t308 = t318 && (t309 == t319 && (t310 == t320 && (t311 == t321 && (t312 == t322 && (t313 == t323 && (t314.toList == t324.toList && (t315.toList == t325.toList)))))))) = true := by simpa using c16))
              (try (have c16b2 : (t308 == t318 && (t309 == t319 && (t310 == t320 && (t311 == t321 && (t312 == t322 && (t313 == t323 && (t314.toList == t324.toList && (t315.toList == t325.toList)))))))) = true := by simpa using c16))
              clear c16
              by_cases c17 : t316 = t326
              · rw [if_pos c17] at H
                have c17b0 : (t316 == t326) = true := beq_iff_eq.mpr c17
                have c17b1 : (t316 != t326) = false := bne_eq_false_iff_eq.mpr c17
                clear c17
                replace H := Option.bind_eq_some_iff.mp H
                obtain ⟨t330, A180, H⟩ := H
                replace H : (some t330) = some r := H
                have A18 := Aside0.mk A180
                clear A180
                obtain rfl := Option.some.inj H
                go_enter Try.func3, Try.ntmps3
                try go_wp2_with (first | ((with_reducible refine gate_dst (N := 2) rfl ?_); refine box_event ?hg (N := 2) ?hd (cs := #[.int .i64 a0_0, .int .i64 a0_1, .int .i64 a0_2, .int .i64 a0_3, .int .i64 a0_4, .int .i64 a0_5, .string a0_6, .string a0_7]) (t := 23) ?hr ?_; (case hd => rfl); (case hg => rfl); (case hr => first | (go_simp; done) | (go_simp; rfl)); intro gb295 hg w19 hbox hb; have n0_ := Aside0.mk (below_step (belU HB.out) hb); have n1_ := Aside0.mk (hbox); have n2_ := Aside0.mk ((by rw [hg]; exact (sizU HB.out) : w.heap.size ≤ gb295)); have n3_ := Aside0.mk ((by rw [hg]; exact (sizU HB.out) : w.heap.size ≤ gb295)); clear HB; have HB := n0_; have BK295 := n1_; have GW295 := n2_; have GE295 := n3_; clear n0_ n1_ n2_ n3_; clear hb hbox hg))
                have n0_ := Aside0.mk (blk_drew BK295.out)
                have n1_ := Aside0.mk (below_drew1 HB.out)
                clear BK295
                clear HB
                have BK295 := n0_
                have HB := n1_
                clear n0_ n1_
                refine start_ (n := 9) (S := fun w' => w'.cell? ⟨gb295, 0, none⟩ = some (.int .i64 a0_0) ∧ w'.cell? ⟨gb295, 1, none⟩ = some (.int .i64 a0_1) ∧ w'.cell? ⟨gb295, 2, none⟩ = some (.int .i64 a0_2) ∧ w'.cell? ⟨gb295, 3, none⟩ = some (.int .i64 a0_3) ∧ w'.cell? ⟨gb295, 4, none⟩ = some (.int .i64 a0_4) ∧ w'.cell? ⟨gb295, 5, none⟩ = some (.int .i64 a0_5) ∧ w'.cell? ⟨gb295, 6, none⟩ = some (.string a0_6) ∧ w'.cell? ⟨gb295, 7, none⟩ = some (.string a0_7)) (ds := [7]) #[false, false, false, false, false, false, false, false, false] (by kernel_rfl) rfl rfl ⟨(blk_cell BK295.out 0).trans rfl, (blk_cell BK295.out 1).trans rfl, (blk_cell BK295.out 2).trans rfl, (blk_cell BK295.out 3).trans rfl, (blk_cell BK295.out 4).trans rfl, (blk_cell BK295.out 5).trans rfl, (blk_cell BK295.out 6).trans rfl, (blk_cell BK295.out 7).trans rfl⟩ (fun hHeld => ?_); refine with_tabW aquiferlaw20_TalkRequests.tab1 aquiferlaw20_TalkRequests.bits1 (fun HT_ HW_ => ?_)
                generalize w19.drew = w20 at BK295 HB hHeld ⊢
                refine pure_ (i := 2) (N := some 15) (v := ?_) (a' := ?_) #[false, false, true, false, false, false, false, false, false] rfl rfl (any_of HT_.out (by kernel_rfl)) (fun _ _ _ h => h) (Or.inl ⟨by rfl, ?_⟩) ?_ ?_
                rotate_left
                · intro w'
                  go_simp
                  with_reducible rfl
                rotate_left
                · simp only [Act.put, List.setIfInBounds_toArray, List.set_cons_zero, List.set_cons_succ, i64_w, i32_w]
                  rfl
                refine pure_ (i := 3) (N := some 16) (v := ?_) (a' := ?_) #[false, false, true, true, false, false, false, false, false] rfl rfl (any_of HT_.out (by kernel_rfl)) (fun _ _ _ h => h) (Or.inl ⟨by rfl, ?_⟩) ?_ ?_
                rotate_left
                · intro w'
                  go_simp
                  with_reducible rfl
                rotate_left
                · simp only [Act.put, List.setIfInBounds_toArray, List.set_cons_zero, List.set_cons_succ, i64_w, i32_w]
                  rfl
                refine pure_ (i := 4) (N := some 17) (v := ?_) (a' := ?_) #[false, false, true, true, true, false, false, false, false] rfl rfl (any_of HT_.out (by kernel_rfl)) (fun _ _ _ h => h) (Or.inl ⟨by rfl, ?_⟩) ?_ ?_
                rotate_left
                · intro w'
                  go_simp
                  with_reducible rfl
                rotate_left
                · simp only [Act.put, List.setIfInBounds_toArray, List.set_cons_zero, List.set_cons_succ, i64_w, i32_w]
                  rfl
                refine pure_ (i := 5) (N := some 18) (v := ?_) (a' := ?_) #[false, false, true, true, true, true, false, false, false] rfl rfl (any_of HT_.out (by kernel_rfl)) (fun _ _ _ h => h) (Or.inl ⟨by rfl, ?_⟩) ?_ ?_
                rotate_left
                · intro w'
                  go_simp
                  with_reducible rfl
                rotate_left
                · simp only [Act.put, List.setIfInBounds_toArray, List.set_cons_zero, List.set_cons_succ, i64_w, i32_w]
                  rfl
                refine pure_ (i := 6) (N := some 19) (v := ?_) (a' := ?_) #[false, false, true, true, true, true, true, false, false] rfl rfl (any_of HT_.out (by kernel_rfl)) (fun _ _ _ h => h) (Or.inl ⟨by rfl, ?_⟩) ?_ ?_
                rotate_left
                · intro w'
                  go_simp
                  with_reducible rfl
                rotate_left
                · simp only [Act.put, List.setIfInBounds_toArray, List.set_cons_zero, List.set_cons_succ, i64_w, i32_w]
                  rfl
                refine take_ (i := 0) (N := some 13) (v := ?_) (a' := ?_) #[true, false, true, true, true, true, true, false, false] rfl rfl (take_ofW HT_.out HW_.out (by kernel_rfl)) (fun _ _ _ h => h) (Or.inl ⟨by rfl, ?_⟩) hHeld ?_ ?_
                rotate_left
                · rintro w' ⟨s0, s1, s2, s3, s4, s5, s6, s7⟩
                  go_simp
                  with_reducible rfl
                rotate_left
                · simp only [Act.put, List.setIfInBounds_toArray, List.set_cons_zero, List.set_cons_succ, i64_w, i32_w]
                  rfl
                refine one_ (i := 1) (N := some 14) #[true, true, true, true, true, true, true, false, false] rfl rfl (one_of HT_.out (by kernel_rfl)) (by decide) (fun K hK => ?_)
                refine goes_ Try.func8 (by kernel_rfl) rfl #[.agg #[.int .i64 a0_0, .int .i64 a0_1, .int .i64 a0_2, .int .i64 a0_3, .int .i64 a0_4, .int .i64 a0_5, .string a0_6, .string a0_7]] (by rfl) rfl rfl (by (try simp only [List.map_toArray, List.map_cons, List.map_nil]); first | done | rfl | (simp only [List.length_drop, List.length_take]; rfl)) ?_
                with_reducible refine (aquiferlaw20_few.calls a0_0 a0_1 a0_2 a0_3 a0_4 a0_5 a0_6 a0_7 t296 t297 t298 t299 t300 t301 t302 t303 _ A3.out).mono ?_
                rintro e w21 ⟨rfl, hb⟩
                refine ⟨_, rfl, ?_⟩
                have n0_ := Aside0.mk (blk_below (blkU BK295.out) hb)
                have n1_ := Aside0.mk (below_step (belG HB.out GE295.out) hb)
                clear BK295
                clear HB
                have BK295 := n0_
                have HB := n1_
                clear n0_ n1_
                (try clear hb)
                (try clear hb2)
                (try clear hk)
                (try clear hi)
                refine hK.out _ _ ⟨(blk_cell BK295.out 0).trans rfl, (blk_cell BK295.out 1).trans rfl, (blk_cell BK295.out 2).trans rfl, (blk_cell BK295.out 3).trans rfl, (blk_cell BK295.out 4).trans rfl, (blk_cell BK295.out 5).trans rfl, (blk_cell BK295.out 6).trans rfl, (blk_cell BK295.out 7).trans rfl⟩ (fun hHeld => ?_)
                clear hK K
                refine norm_ (a' := ?_) ?_ ?_
                rotate_left
                · show Act.put _ (some 14) _ = _
                  simp only [Act.put, List.setIfInBounds_toArray, List.set_cons_zero, List.set_cons_succ, i64_w, i32_w]
                  rfl
                refine last_ (i := 7) (N := none) #[true, true, true, true, true, true, true, true, false] rfl rfl (one_of HT_.out (by kernel_rfl)) (by decide) (fun K hK => ?_)
                have hs22 : w21.cell? ⟨gb295, 0, none⟩ = some (.int .i64 a0_0) := (blk_cell BK295.out 0).trans rfl
                have hfs22 := blk_frozen BK295.out 0
                have hs23 : w21.cell? ⟨gb295, 1, none⟩ = some (.int .i64 a0_1) := (blk_cell BK295.out 1).trans rfl
                have hfs23 := blk_frozen BK295.out 1
                have hs24 : w21.cell? ⟨gb295, 2, none⟩ = some (.int .i64 a0_2) := (blk_cell BK295.out 2).trans rfl
                have hfs24 := blk_frozen BK295.out 2
                have hs25 : w21.cell? ⟨gb295, 3, none⟩ = some (.int .i64 a0_3) := (blk_cell BK295.out 3).trans rfl
                have hfs25 := blk_frozen BK295.out 3
                have hs26 : w21.cell? ⟨gb295, 4, none⟩ = some (.int .i64 a0_4) := (blk_cell BK295.out 4).trans rfl
                have hfs26 := blk_frozen BK295.out 4
                have hs27 : w21.cell? ⟨gb295, 5, none⟩ = some (.int .i64 a0_5) := (blk_cell BK295.out 5).trans rfl
                have hfs27 := blk_frozen BK295.out 5
                have hs28 : w21.cell? ⟨gb295, 6, none⟩ = some (.string a0_6) := (blk_cell BK295.out 6).trans rfl
                have hfs28 := blk_frozen BK295.out 6
                have hs29 : w21.cell? ⟨gb295, 7, none⟩ = some (.string a0_7) := (blk_cell BK295.out 7).trans rfl
                have hfs29 := blk_frozen BK295.out 7
                refine skip_ (w1 := ?_) (by rfl) rfl ?_ ?_
                rotate_left
                · go_simp
                  rfl
                refine hK.out _ _ ?_
                clear hK K
                refine pure_ (i := 8) (N := some 1) (v := ?_) (a' := ?_) #[true, true, true, true, true, true, true, true, true] rfl rfl (any_of HT_.out (by kernel_rfl)) (fun _ _ _ h => h) (Or.inl ⟨by rfl, ?_⟩) ?_ ?_
                rotate_left
                · intro w'
                  go_simp
                  with_reducible rfl
                rotate_left
                · simp only [Act.put, List.setIfInBounds_toArray, List.set_cons_zero, List.set_cons_succ, i64_w, i32_w]
                  rfl
                refine done_ (done_of HT_.out (by kernel_rfl)) ?_
                have hcz30_0 : w21.cell? ⟨gb295, 0, none⟩ = some (.int .i64 a0_0) := (blk_cell BK295.out 0).trans rfl
                have hcz30_1 : w21.cell? ⟨gb295, 1, none⟩ = some (.int .i64 a0_1) := (blk_cell BK295.out 1).trans rfl
                have hcz30_2 : w21.cell? ⟨gb295, 2, none⟩ = some (.int .i64 a0_2) := (blk_cell BK295.out 2).trans rfl
                have hcz30_3 : w21.cell? ⟨gb295, 3, none⟩ = some (.int .i64 a0_3) := (blk_cell BK295.out 3).trans rfl
                have hcz30_4 : w21.cell? ⟨gb295, 4, none⟩ = some (.int .i64 a0_4) := (blk_cell BK295.out 4).trans rfl
                have hcz30_5 : w21.cell? ⟨gb295, 5, none⟩ = some (.int .i64 a0_5) := (blk_cell BK295.out 5).trans rfl
                have hcz30_6 : w21.cell? ⟨gb295, 6, none⟩ = some (.string a0_6) := (blk_cell BK295.out 6).trans rfl
                have hcz30_7 : w21.cell? ⟨gb295, 7, none⟩ = some (.string a0_7) := (blk_cell BK295.out 7).trans rfl
                have hfz30_0 := blk_frozen BK295.out 0
                have hfz30_1 := blk_frozen BK295.out 1
                have hfz30_2 := blk_frozen BK295.out 2
                have hfz30_3 := blk_frozen BK295.out 3
                have hfz30_4 := blk_frozen BK295.out 4
                have hfz30_5 := blk_frozen BK295.out 5
                have hfz30_6 := blk_frozen BK295.out 6
                have hfz30_7 := blk_frozen BK295.out 7
                try go_wp2_with (first | ((with_reducible refine gate_callee (f := 9) rfl ?_); refine goesL_ (some 22) rfl rfl Try.func9 (by kernel_rfl) rfl #[.agg #[.int .i64 t296, .int .i64 t297, .int .i64 t298, .int .i64 t299, .int .i64 t300, .int .i64 t301, .string t302, .string t303]] rfl (by (try simp only [List.map_toArray, List.map_cons, List.map_nil]); first | done | rfl | (simp only [List.length_drop, List.length_take]; rfl)) ?_; (with_reducible refine (talk_Request.calls t296 t297 t298 t299 t300 t301 t302 t303 t304 t305 _ A7.out).mono ?_); rintro e w31 ⟨rfl, hb⟩; refine ⟨_, rfl, ?_⟩; have n0_ := Aside0.mk (blk_below (blkP BK295.out (by rfl)) hb); have n1_ := Aside0.mk (below_step (belG HB.out GE295.out) hb); clear BK295; clear HB; have BK295 := n0_; have HB := n1_; clear n0_ n1_; (try clear hb); (try clear hb2); (try clear hk); (try clear hi); have hcz32_0 : w31.cell? ⟨gb295, 0, none⟩ = some (.int .i64 t296) := (blk_cell BK295.out 0).trans rfl; have hcz32_1 : w31.cell? ⟨gb295, 1, none⟩ = some (.int .i64 t297) := (blk_cell BK295.out 1).trans rfl; have hcz32_2 : w31.cell? ⟨gb295, 2, none⟩ = some (.int .i64 t298) := (blk_cell BK295.out 2).trans rfl; have hcz32_3 : w31.cell? ⟨gb295, 3, none⟩ = some (.int .i64 t299) := (blk_cell BK295.out 3).trans rfl; have hcz32_4 : w31.cell? ⟨gb295, 4, none⟩ = some (.int .i64 t300) := (blk_cell BK295.out 4).trans rfl; have hcz32_5 : w31.cell? ⟨gb295, 5, none⟩ = some (.int .i64 t301) := (blk_cell BK295.out 5).trans rfl; have hcz32_6 : w31.cell? ⟨gb295, 6, none⟩ = some (.string t302) := (blk_cell BK295.out 6).trans rfl; have hcz32_7 : w31.cell? ⟨gb295, 7, none⟩ = some (.string t303) := (blk_cell BK295.out 7).trans rfl; have hfz32_0 := blk_frozen BK295.out 0; have hfz32_1 := blk_frozen BK295.out 1; have hfz32_2 := blk_frozen BK295.out 2; have hfz32_3 := blk_frozen BK295.out 3; have hfz32_4 := blk_frozen BK295.out 4; have hfz32_5 := blk_frozen BK295.out 5; have hfz32_6 := blk_frozen BK295.out 6; have hfz32_7 := blk_frozen BK295.out 7) | ((with_reducible refine gate_callee (f := 10) rfl ?_); refine goesL_ (some 27) rfl rfl Try.func10 (by kernel_rfl) rfl #[.agg #[.int .i64 t296, .int .i64 t297, .int .i64 t298, .int .i64 t299, .int .i64 t300, .int .i64 t301, .string t302, .string t303]] rfl (by (try simp only [List.map_toArray, List.map_cons, List.map_nil]); first | done | rfl | (simp only [List.length_drop, List.length_take]; rfl)) ?_; (with_reducible refine (aquiferref20_Request.calls k t296 t297 t298 t299 t300 t301 t302 t303 t306 t307 _ A8.out).mono ?_); rintro e w33 ⟨rfl, hb⟩; refine ⟨_, rfl, ?_⟩; have n0_ := Aside0.mk (blk_below (blkU BK295.out) hb); have n1_ := Aside0.mk (below_step (belG HB.out GE295.out) hb); clear BK295; clear HB; have BK295 := n0_; have HB := n1_; clear n0_ n1_; (try clear hb); (try clear hb2); (try clear hk); (try clear hi)) | ((with_reducible refine gate_callee (f := 11) rfl ?_); refine goesL_ (some 32) rfl rfl Try.func11 (by kernel_rfl) rfl #[.string (a1.extract 0 ((ji4) : Int).toNat)] rfl (by (try simp only [List.map_toArray, List.map_cons, List.map_nil]); first | done | (simp only [hji4]; rfl) | rfl | (simp only [List.length_drop, List.length_take]; rfl)) ?_; (with_reducible refine (talk_ReadRequest.calls (a1.extract 0 ((ji4) : Int).toNat) t308 t309 t310 t311 t312 t313 t314 t315 t316 _ A9.out).mono ?_); rintro e w34 ⟨rfl, hb⟩; refine ⟨_, rfl, ?_⟩; have n0_ := Aside0.mk (blk_below (blkU BK295.out) hb); have n1_ := Aside0.mk (below_step (belG HB.out GE295.out) hb); clear BK295; clear HB; have BK295 := n0_; have HB := n1_; clear n0_ n1_; (try clear hb); (try clear hb2); (try clear hk); (try clear hi)) | ((with_reducible refine gate_dst (N := 9) rfl ?_); refine box_event ?hg (N := 9) ?hd (cs := #[.int .i64 0, .int .i64 0, .int .i64 0, .int .i64 0, .int .i64 0, .int .i64 0, .string (⟨#[]⟩ : ByteArray), .string (⟨#[]⟩ : ByteArray)]) (t := 23) ?hr ?_; (case hd => rfl); (case hg => rfl); (case hr => first | (go_simp; done) | (go_simp; rfl)); intro gb317 hg w35 hbox hb; have n0_ := Aside0.mk (blk_below (blkU BK295.out) hb); have n1_ := Aside0.mk (below_step (belG HB.out GE295.out) hb); have n2_ := Aside0.mk (hbox); have n3_ := Aside0.mk ((by rw [hg]; exact (sizG HB.out GE295.out) : w.heap.size ≤ gb317)); have n4_ := Aside0.mk ((by rw [hg]; exact (sizG HB.out GE295.out) : w.heap.size ≤ gb317)); have n5_ := Aside0.mk ((by rw [hg]; exact Nat.ne_of_lt (blk_lt (g := gb295) (o := .cells #[.int .i64 t296, .int .i64 t297, .int .i64 t298, .int .i64 t299, .int .i64 t300, .int .i64 t301, .string t302, .string t303] 23 (0, 0)) (blkU BK295.out)) : gb295 ≠ gb317)); have n6_ := Aside0.mk ((by rw [hg]; exact Nat.ne_of_gt (blk_lt (g := gb295) (o := .cells #[.int .i64 t296, .int .i64 t297, .int .i64 t298, .int .i64 t299, .int .i64 t300, .int .i64 t301, .string t302, .string t303] 23 (0, 0)) (blkU BK295.out)) : gb317 ≠ gb295)); clear BK295; clear HB; have BK295 := n0_; have HB := n1_; have BK317 := n2_; have GW317 := n3_; have GE317 := n4_; have NB295_317 := n5_; have NB317_295 := n6_; clear n0_ n1_ n2_ n3_ n4_ n5_ n6_; clear hb hbox hg; have hnb36 := NB317_295.out; have hnc36 := NB295_317.out; have hcz37_0 : w35.cell? ⟨gb317, 0, none⟩ = some (.int .i64 0) := (blk_cell BK317.out 0).trans rfl; have hcz37_1 : w35.cell? ⟨gb317, 1, none⟩ = some (.int .i64 0) := (blk_cell BK317.out 1).trans rfl; have hcz37_2 : w35.cell? ⟨gb317, 2, none⟩ = some (.int .i64 0) := (blk_cell BK317.out 2).trans rfl; have hcz37_3 : w35.cell? ⟨gb317, 3, none⟩ = some (.int .i64 0) := (blk_cell BK317.out 3).trans rfl; have hcz37_4 : w35.cell? ⟨gb317, 4, none⟩ = some (.int .i64 0) := (blk_cell BK317.out 4).trans rfl; have hcz37_5 : w35.cell? ⟨gb317, 5, none⟩ = some (.int .i64 0) := (blk_cell BK317.out 5).trans rfl; have hcz37_6 : w35.cell? ⟨gb317, 6, none⟩ = some (.string (⟨#[]⟩ : ByteArray)) := (blk_cell BK317.out 6).trans rfl; have hcz37_7 : w35.cell? ⟨gb317, 7, none⟩ = some (.string (⟨#[]⟩ : ByteArray)) := (blk_cell BK317.out 7).trans rfl; have hfz37_0 := blk_frozen BK317.out 0; have hfz37_1 := blk_frozen BK317.out 1; have hfz37_2 := blk_frozen BK317.out 2; have hfz37_3 := blk_frozen BK317.out 3; have hfz37_4 := blk_frozen BK317.out 4; have hfz37_5 := blk_frozen BK317.out 5; have hfz37_6 := blk_frozen BK317.out 6; have hfz37_7 := blk_frozen BK317.out 7) | ((with_reducible refine gate_callee (f := 12) rfl ?_); refine goesL_ (some 37) rfl rfl Try.func12 (by kernel_rfl) rfl #[.string (a1.extract 0 ((ji4) : Int).toNat)] rfl (by (try simp only [List.map_toArray, List.map_cons, List.map_nil]); first | done | (simp only [hji4]; rfl) | rfl | (simp only [List.length_drop, List.length_take]; rfl)) ?_; (with_reducible refine (aquiferref20_ReadRequest.calls k (a1.extract 0 ((ji4) : Int).toNat) t318 t319 t320 t321 t322 t323 t324 t325 t326 _ A10.out).mono ?_); rintro e w38 ⟨rfl, hb⟩; refine ⟨_, rfl, ?_⟩; have n0_ := Aside0.mk (blk_below (blkF BK295.out NB295_317.out) hb); have n1_ := Aside0.mk (blk_below (blkP BK317.out (by rfl)) hb); have n2_ := Aside0.mk (below_step (belG2 HB.out GE295.out GE317.out) hb); clear BK295; clear BK317; clear HB; have BK295 := n0_; have BK317 := n1_; have HB := n2_; clear n0_ n1_ n2_; (try clear hb); (try clear hb2); (try clear hk); (try clear hi)) | ((with_reducible refine gate_dst (N := 11) rfl ?_); refine box_event ?hg (N := 11) ?hd (cs := #[.int .i64 0, .int .i64 0, .int .i64 0, .int .i64 0, .int .i64 0, .int .i64 0, .string (⟨#[]⟩ : ByteArray), .string (⟨#[]⟩ : ByteArray)]) (t := 23) ?hr ?_; (case hd => rfl); (case hg => rfl); (case hr => first | (go_simp; done) | (go_simp; rfl)); intro gb327 hg w39 hbox hb; have n0_ := Aside0.mk (blk_below (blkU BK295.out) hb); have n1_ := Aside0.mk (blk_below (blkU BK317.out) hb); have n2_ := Aside0.mk (below_step (belG2 HB.out GE295.out GE317.out) hb); have n3_ := Aside0.mk (hbox); have n4_ := Aside0.mk ((by rw [hg]; exact (below_size (belG2 HB.out GE295.out GE317.out)) : w.heap.size ≤ gb327)); have n5_ := Aside0.mk ((by rw [hg]; exact (below_size (belG2 HB.out GE295.out GE317.out)) : w.heap.size ≤ gb327)); have n6_ := Aside0.mk ((by rw [hg]; exact Nat.ne_of_lt (blk_lt (g := gb295) (o := .cells #[.int .i64 t296, .int .i64 t297, .int .i64 t298, .int .i64 t299, .int .i64 t300, .int .i64 t301, .string t302, .string t303] 23 (0, 0)) (blkU BK295.out)) : gb295 ≠ gb327)); have n7_ := Aside0.mk ((by rw [hg]; exact Nat.ne_of_gt (blk_lt (g := gb295) (o := .cells #[.int .i64 t296, .int .i64 t297, .int .i64 t298, .int .i64 t299, .int .i64 t300, .int .i64 t301, .string t302, .string t303] 23 (0, 0)) (blkU BK295.out)) : gb327 ≠ gb295)); have n8_ := Aside0.mk ((by rw [hg]; exact Nat.ne_of_lt (blk_lt (g := gb317) (o := .cells #[.int .i64 t308, .int .i64 t309, .int .i64 t310, .int .i64 t311, .int .i64 t312, .int .i64 t313, .string t314, .string t315] 23 (0, 0)) (blkU BK317.out)) : gb317 ≠ gb327)); have n9_ := Aside0.mk ((by rw [hg]; exact Nat.ne_of_gt (blk_lt (g := gb317) (o := .cells #[.int .i64 t308, .int .i64 t309, .int .i64 t310, .int .i64 t311, .int .i64 t312, .int .i64 t313, .string t314, .string t315] 23 (0, 0)) (blkU BK317.out)) : gb327 ≠ gb317)); clear BK295; clear BK317; clear HB; have BK295 := n0_; have BK317 := n1_; have HB := n2_; have BK327 := n3_; have GW327 := n4_; have GE327 := n5_; have NB295_327 := n6_; have NB327_295 := n7_; have NB317_327 := n8_; have NB327_317 := n9_; clear n0_ n1_ n2_ n3_ n4_ n5_ n6_ n7_ n8_ n9_; clear hb hbox hg; have hnb40 := NB327_295.out; have hnc40 := NB295_327.out; have hnb41 := NB327_317.out; have hnc41 := NB317_327.out; have hcz42_0 : w39.cell? ⟨gb327, 0, none⟩ = some (.int .i64 0) := (blk_cell BK327.out 0).trans rfl; have hcz42_1 : w39.cell? ⟨gb327, 1, none⟩ = some (.int .i64 0) := (blk_cell BK327.out 1).trans rfl; have hcz42_2 : w39.cell? ⟨gb327, 2, none⟩ = some (.int .i64 0) := (blk_cell BK327.out 2).trans rfl; have hcz42_3 : w39.cell? ⟨gb327, 3, none⟩ = some (.int .i64 0) := (blk_cell BK327.out 3).trans rfl; have hcz42_4 : w39.cell? ⟨gb327, 4, none⟩ = some (.int .i64 0) := (blk_cell BK327.out 4).trans rfl; have hcz42_5 : w39.cell? ⟨gb327, 5, none⟩ = some (.int .i64 0) := (blk_cell BK327.out 5).trans rfl; have hcz42_6 : w39.cell? ⟨gb327, 6, none⟩ = some (.string (⟨#[]⟩ : ByteArray)) := (blk_cell BK327.out 6).trans rfl; have hcz42_7 : w39.cell? ⟨gb327, 7, none⟩ = some (.string (⟨#[]⟩ : ByteArray)) := (blk_cell BK327.out 7).trans rfl; have hfz42_0 := blk_frozen BK327.out 0; have hfz42_1 := blk_frozen BK327.out 1; have hfz42_2 := blk_frozen BK327.out 2; have hfz42_3 := blk_frozen BK327.out 3; have hfz42_4 := blk_frozen BK327.out 4; have hfz42_5 := blk_frozen BK327.out 5; have hfz42_6 := blk_frozen BK327.out 6; have hfz42_7 := blk_frozen BK327.out 7))
                have n0_ : Aside0 (((((((((w39.setCell ⟨gb327, 0, none⟩ (.int .i64 t318)).setCell ⟨gb327, 1, none⟩ (.int .i64 t319)).setCell ⟨gb327, 2, none⟩ (.int .i64 t320)).setCell ⟨gb327, 3, none⟩ (.int .i64 t321)).setCell ⟨gb327, 4, none⟩ (.int .i64 t322)).setCell ⟨gb327, 5, none⟩ (.int .i64 t323)).setCell ⟨gb327, 6, none⟩ (.string t324)).setCell ⟨gb327, 7, none⟩ (.string t325)).heap[gb295]? = some (.cells #[.int .i64 t296, .int .i64 t297, .int .i64 t298, .int .i64 t299, .int .i64 t300, .int .i64 t301, .string t302, .string t303] 23 (0, 0))) := ⟨blkF BK295.out NB295_327.out⟩
                have n1_ : Aside0 (((((((((w39.setCell ⟨gb327, 0, none⟩ (.int .i64 t318)).setCell ⟨gb327, 1, none⟩ (.int .i64 t319)).setCell ⟨gb327, 2, none⟩ (.int .i64 t320)).setCell ⟨gb327, 3, none⟩ (.int .i64 t321)).setCell ⟨gb327, 4, none⟩ (.int .i64 t322)).setCell ⟨gb327, 5, none⟩ (.int .i64 t323)).setCell ⟨gb327, 6, none⟩ (.string t324)).setCell ⟨gb327, 7, none⟩ (.string t325)).heap[gb317]? = some (.cells #[.int .i64 t308, .int .i64 t309, .int .i64 t310, .int .i64 t311, .int .i64 t312, .int .i64 t313, .string t314, .string t315] 23 (0, 0))) := ⟨blkF BK317.out NB317_327.out⟩
                have n2_ : Aside0 (((((((((w39.setCell ⟨gb327, 0, none⟩ (.int .i64 t318)).setCell ⟨gb327, 1, none⟩ (.int .i64 t319)).setCell ⟨gb327, 2, none⟩ (.int .i64 t320)).setCell ⟨gb327, 3, none⟩ (.int .i64 t321)).setCell ⟨gb327, 4, none⟩ (.int .i64 t322)).setCell ⟨gb327, 5, none⟩ (.int .i64 t323)).setCell ⟨gb327, 6, none⟩ (.string t324)).setCell ⟨gb327, 7, none⟩ (.string t325)).heap[gb327]? = some (.cells #[.int .i64 t318, .int .i64 t319, .int .i64 t320, .int .i64 t321, .int .i64 t322, .int .i64 t323, .string t324, .string t325] 23 (0, 0))) := ⟨blkP BK327.out (by rfl)⟩
                have n3_ : Aside0 (Below w.heap.size w ((((((((w39.setCell ⟨gb327, 0, none⟩ (.int .i64 t318)).setCell ⟨gb327, 1, none⟩ (.int .i64 t319)).setCell ⟨gb327, 2, none⟩ (.int .i64 t320)).setCell ⟨gb327, 3, none⟩ (.int .i64 t321)).setCell ⟨gb327, 4, none⟩ (.int .i64 t322)).setCell ⟨gb327, 5, none⟩ (.int .i64 t323)).setCell ⟨gb327, 6, none⟩ (.string t324)).setCell ⟨gb327, 7, none⟩ (.string t325))) := ⟨belG3 HB.out GE295.out GE317.out GE327.out⟩
                (try clear BK295)
                (try clear BK317)
                (try clear BK327)
                (try clear HB)
                generalize ((((((((w39.setCell ⟨gb327, 0, none⟩ (.int .i64 t318)).setCell ⟨gb327, 1, none⟩ (.int .i64 t319)).setCell ⟨gb327, 2, none⟩ (.int .i64 t320)).setCell ⟨gb327, 3, none⟩ (.int .i64 t321)).setCell ⟨gb327, 4, none⟩ (.int .i64 t322)).setCell ⟨gb327, 5, none⟩ (.int .i64 t323)).setCell ⟨gb327, 6, none⟩ (.string t324)).setCell ⟨gb327, 7, none⟩ (.string t325)) = w43 at n0_ n1_ n2_ n3_ ⊢
                have BK295 := n0_
                have BK317 := n1_
                have BK327 := n2_
                have HB := n3_
                clear n0_ n1_ n2_ n3_
                have n0_ := Aside0.mk (blk_drew BK295.out)
                have n1_ := Aside0.mk (blk_drew BK317.out)
                have n2_ := Aside0.mk (blk_drew BK327.out)
                have n3_ := Aside0.mk (below_drew1 HB.out)
                clear BK295
                clear BK317
                clear BK327
                clear HB
                have BK295 := n0_
                have BK317 := n1_
                have BK327 := n2_
                have HB := n3_
                clear n0_ n1_ n2_ n3_
                refine start_ (n := 29) (S := fun w' => w'.cell? ⟨gb295, 0, none⟩ = some (.int .i64 t296) ∧ w'.cell? ⟨gb295, 1, none⟩ = some (.int .i64 t297) ∧ w'.cell? ⟨gb295, 2, none⟩ = some (.int .i64 t298) ∧ w'.cell? ⟨gb295, 3, none⟩ = some (.int .i64 t299) ∧ w'.cell? ⟨gb295, 4, none⟩ = some (.int .i64 t300) ∧ w'.cell? ⟨gb295, 5, none⟩ = some (.int .i64 t301) ∧ w'.cell? ⟨gb295, 6, none⟩ = some (.string t302) ∧ w'.cell? ⟨gb295, 7, none⟩ = some (.string t303) ∧ w'.cell? ⟨gb317, 0, none⟩ = some (.int .i64 t308) ∧ w'.cell? ⟨gb317, 1, none⟩ = some (.int .i64 t309) ∧ w'.cell? ⟨gb317, 2, none⟩ = some (.int .i64 t310) ∧ w'.cell? ⟨gb317, 3, none⟩ = some (.int .i64 t311) ∧ w'.cell? ⟨gb317, 4, none⟩ = some (.int .i64 t312) ∧ w'.cell? ⟨gb317, 5, none⟩ = some (.int .i64 t313) ∧ w'.cell? ⟨gb317, 6, none⟩ = some (.string t314) ∧ w'.cell? ⟨gb317, 7, none⟩ = some (.string t315) ∧ w'.cell? ⟨gb327, 0, none⟩ = some (.int .i64 t318) ∧ w'.cell? ⟨gb327, 1, none⟩ = some (.int .i64 t319) ∧ w'.cell? ⟨gb327, 2, none⟩ = some (.int .i64 t320) ∧ w'.cell? ⟨gb327, 3, none⟩ = some (.int .i64 t321) ∧ w'.cell? ⟨gb327, 4, none⟩ = some (.int .i64 t322) ∧ w'.cell? ⟨gb327, 5, none⟩ = some (.int .i64 t323) ∧ w'.cell? ⟨gb327, 6, none⟩ = some (.string t324) ∧ w'.cell? ⟨gb327, 7, none⟩ = some (.string t325)) (ds := []) #[false, false, false, false, false, false, false, false, false, false, false, false, false, false, false, false, false, false, false, false, false, false, false, false, false, false, false, false, false] (by kernel_rfl) rfl rfl ⟨(blk_cell BK295.out 0).trans rfl, (blk_cell BK295.out 1).trans rfl, (blk_cell BK295.out 2).trans rfl, (blk_cell BK295.out 3).trans rfl, (blk_cell BK295.out 4).trans rfl, (blk_cell BK295.out 5).trans rfl, (blk_cell BK295.out 6).trans rfl, (blk_cell BK295.out 7).trans rfl, (blk_cell BK317.out 0).trans rfl, (blk_cell BK317.out 1).trans rfl, (blk_cell BK317.out 2).trans rfl, (blk_cell BK317.out 3).trans rfl, (blk_cell BK317.out 4).trans rfl, (blk_cell BK317.out 5).trans rfl, (blk_cell BK317.out 6).trans rfl, (blk_cell BK317.out 7).trans rfl, (blk_cell BK327.out 0).trans rfl, (blk_cell BK327.out 1).trans rfl, (blk_cell BK327.out 2).trans rfl, (blk_cell BK327.out 3).trans rfl, (blk_cell BK327.out 4).trans rfl, (blk_cell BK327.out 5).trans rfl, (blk_cell BK327.out 6).trans rfl, (blk_cell BK327.out 7).trans rfl⟩ (fun hHeld => ?_); refine with_tabW aquiferlaw20_TalkRequests.tab6 aquiferlaw20_TalkRequests.bits6 (fun HT_ HW_ => ?_)
                generalize w43.drew = w44 at BK295 BK317 BK327 HB hHeld ⊢
                refine take_ (i := 0) (N := some 40) (v := ?_) (a' := ?_) #[true, false, false, false, false, false, false, false, false, false, false, false, false, false, false, false, false, false, false, false, false, false, false, false, false, false, false, false, false] rfl rfl (take_ofW HT_.out HW_.out (by kernel_rfl)) (fun _ _ _ h => h) (Or.inl ⟨by rfl, ?_⟩) hHeld ?_ ?_
                rotate_left
                · rintro w' ⟨s0, s1, s2, s3, s4, s5, s6, s7, s8, s9, s10, s11, s12, s13, s14, s15, s16, s17, s18, s19, s20, s21, s22, s23⟩
                  go_simp
                  with_reducible rfl
                rotate_left
                · simp only [Act.put, List.setIfInBounds_toArray, List.set_cons_zero, List.set_cons_succ, i64_w, i32_w]
                  rfl
                refine take_ (i := 2) (N := some 42) (v := ?_) (a' := ?_) #[true, false, true, false, false, false, false, false, false, false, false, false, false, false, false, false, false, false, false, false, false, false, false, false, false, false, false, false, false] rfl rfl (take_ofW HT_.out HW_.out (by kernel_rfl)) (fun _ _ _ h => h) (Or.inl ⟨by rfl, ?_⟩) hHeld ?_ ?_
                rotate_left
                · rintro w' ⟨s0, s1, s2, s3, s4, s5, s6, s7, s8, s9, s10, s11, s12, s13, s14, s15, s16, s17, s18, s19, s20, s21, s22, s23⟩
                  go_simp
                  with_reducible rfl
                rotate_left
                · simp only [Act.put, List.setIfInBounds_toArray, List.set_cons_zero, List.set_cons_succ, i64_w, i32_w]
                  rfl
                refine one_ (i := 1) (N := some 41) #[true, true, true, false, false, false, false, false, false, false, false, false, false, false, false, false, false, false, false, false, false, false, false, false, false, false, false, false, false] rfl rfl (one_of HT_.out (by kernel_rfl)) (by decide) (fun K hK => ?_)
                refine goes_ Try.func13 (by kernel_rfl) rfl #[.agg #[.int .i64 t296, .int .i64 t297, .int .i64 t298, .int .i64 t299, .int .i64 t300, .int .i64 t301, .string t302, .string t303]] (by rfl) rfl rfl (by (try simp only [List.map_toArray, List.map_cons, List.map_nil]); first | done | rfl | (simp only [List.length_drop, List.length_take]; rfl)) ?_
                with_reducible refine (talk_CheckRequest.calls t296 t297 t298 t299 t300 t301 t302 t303 t328 _ A11.out).mono ?_
                rintro e w45 ⟨rfl, hb⟩
                refine ⟨_, rfl, ?_⟩
                have n0_ := Aside0.mk (blk_below (blkU BK295.out) hb)
                have n1_ := Aside0.mk (blk_below (blkU BK317.out) hb)
                have n2_ := Aside0.mk (blk_below (blkU BK327.out) hb)
                have n3_ := Aside0.mk (below_step (belG3 HB.out GE295.out GE317.out GE327.out) hb)
                clear BK295
                clear BK317
                clear BK327
                clear HB
                have BK295 := n0_
                have BK317 := n1_
                have BK327 := n2_
                have HB := n3_
                clear n0_ n1_ n2_ n3_
                (try clear hb)
                (try clear hb2)
                (try clear hk)
                (try clear hi)
                refine hK.out _ _ ⟨(blk_cell BK295.out 0).trans rfl, (blk_cell BK295.out 1).trans rfl, (blk_cell BK295.out 2).trans rfl, (blk_cell BK295.out 3).trans rfl, (blk_cell BK295.out 4).trans rfl, (blk_cell BK295.out 5).trans rfl, (blk_cell BK295.out 6).trans rfl, (blk_cell BK295.out 7).trans rfl, (blk_cell BK317.out 0).trans rfl, (blk_cell BK317.out 1).trans rfl, (blk_cell BK317.out 2).trans rfl, (blk_cell BK317.out 3).trans rfl, (blk_cell BK317.out 4).trans rfl, (blk_cell BK317.out 5).trans rfl, (blk_cell BK317.out 6).trans rfl, (blk_cell BK317.out 7).trans rfl, (blk_cell BK327.out 0).trans rfl, (blk_cell BK327.out 1).trans rfl, (blk_cell BK327.out 2).trans rfl, (blk_cell BK327.out 3).trans rfl, (blk_cell BK327.out 4).trans rfl, (blk_cell BK327.out 5).trans rfl, (blk_cell BK327.out 6).trans rfl, (blk_cell BK327.out 7).trans rfl⟩ (fun hHeld => ?_)
                clear hK K
                refine norm_ (a' := ?_) ?_ ?_
                rotate_left
                · show Act.put _ (some 41) _ = _
                  simp only [Act.put, List.setIfInBounds_toArray, List.set_cons_zero, List.set_cons_succ, i64_w, i32_w]
                  rfl
                refine one_ (i := 3) (N := some 43) #[true, true, true, true, false, false, false, false, false, false, false, false, false, false, false, false, false, false, false, false, false, false, false, false, false, false, false, false, false] rfl rfl (one_of HT_.out (by kernel_rfl)) (by decide) (fun K hK => ?_)
                refine goes_ Try.func14 (by kernel_rfl) rfl #[.agg #[.int .i64 t296, .int .i64 t297, .int .i64 t298, .int .i64 t299, .int .i64 t300, .int .i64 t301, .string t302, .string t303]] (by rfl) rfl rfl (by (try simp only [List.map_toArray, List.map_cons, List.map_nil]); first | done | rfl | (simp only [List.length_drop, List.length_take]; rfl)) ?_
                with_reducible refine (aquiferref20_CheckRequest.calls t296 t297 t298 t299 t300 t301 t302 t303 t329 _ A12.out).mono ?_
                rintro e w46 ⟨rfl, hb⟩
                refine ⟨_, rfl, ?_⟩
                have n0_ := Aside0.mk (blk_below (blkU BK295.out) hb)
                have n1_ := Aside0.mk (blk_below (blkU BK317.out) hb)
                have n2_ := Aside0.mk (blk_below (blkU BK327.out) hb)
                have n3_ := Aside0.mk (below_step (belG3 HB.out GE295.out GE317.out GE327.out) hb)
                clear BK295
                clear BK317
                clear BK327
                clear HB
                have BK295 := n0_
                have BK317 := n1_
                have BK327 := n2_
                have HB := n3_
                clear n0_ n1_ n2_ n3_
                (try clear hb)
                (try clear hb2)
                (try clear hk)
                (try clear hi)
                refine hK.out _ _ ⟨(blk_cell BK295.out 0).trans rfl, (blk_cell BK295.out 1).trans rfl, (blk_cell BK295.out 2).trans rfl, (blk_cell BK295.out 3).trans rfl, (blk_cell BK295.out 4).trans rfl, (blk_cell BK295.out 5).trans rfl, (blk_cell BK295.out 6).trans rfl, (blk_cell BK295.out 7).trans rfl, (blk_cell BK317.out 0).trans rfl, (blk_cell BK317.out 1).trans rfl, (blk_cell BK317.out 2).trans rfl, (blk_cell BK317.out 3).trans rfl, (blk_cell BK317.out 4).trans rfl, (blk_cell BK317.out 5).trans rfl, (blk_cell BK317.out 6).trans rfl, (blk_cell BK317.out 7).trans rfl, (blk_cell BK327.out 0).trans rfl, (blk_cell BK327.out 1).trans rfl, (blk_cell BK327.out 2).trans rfl, (blk_cell BK327.out 3).trans rfl, (blk_cell BK327.out 4).trans rfl, (blk_cell BK327.out 5).trans rfl, (blk_cell BK327.out 6).trans rfl, (blk_cell BK327.out 7).trans rfl⟩ (fun hHeld => ?_)
                clear hK K
                refine norm_ (a' := ?_) ?_ ?_
                rotate_left
                · show Act.put _ (some 43) _ = _
                  simp only [Act.put, List.setIfInBounds_toArray, List.set_cons_zero, List.set_cons_succ, i64_w, i32_w]
                  rfl
                refine pure_ (i := 4) (N := some 44) (v := ?_) (a' := ?_) #[true, true, true, true, true, false, false, false, false, false, false, false, false, false, false, false, false, false, false, false, false, false, false, false, false, false, false, false, false] rfl rfl (any_of HT_.out (by kernel_rfl)) (fun _ _ _ h => h) (Or.inl ⟨by rfl, ?_⟩) ?_ ?_
                rotate_left
                · intro w'
                  go_simp
                  with_reducible rfl
                rotate_left
                · simp only [Act.put, List.setIfInBounds_toArray, List.set_cons_zero, List.set_cons_succ, i64_w, i32_w]
                  rfl
                refine pure_ (i := 5) (N := some 45) (v := ?_) (a' := ?_) #[true, true, true, true, true, true, false, false, false, false, false, false, false, false, false, false, false, false, false, false, false, false, false, false, false, false, false, false, false] rfl rfl (any_of HT_.out (by kernel_rfl)) (fun _ _ _ h => h) (Or.inl ⟨by rfl, ?_⟩) ?_ ?_
                rotate_left
                · intro w'
                  go_simp
                  with_reducible rfl
                rotate_left
                · simp only [Act.put, List.setIfInBounds_toArray, List.set_cons_zero, List.set_cons_succ, i64_w, i32_w]
                  rfl
                refine pure_ (i := 6) (N := some 46) (v := ?_) (a' := ?_) #[true, true, true, true, true, true, true, false, false, false, false, false, false, false, false, false, false, false, false, false, false, false, false, false, false, false, false, false, false] rfl rfl (any_of HT_.out (by kernel_rfl)) (fun _ _ _ h => h) (Or.inl ⟨by rfl, ?_⟩) ?_ ?_
                rotate_left
                · intro w'
                  go_simp
                  with_reducible rfl
                rotate_left
                · simp only [Act.put, List.setIfInBounds_toArray, List.set_cons_zero, List.set_cons_succ, i64_w, i32_w]
                  rfl
                refine pure_ (i := 7) (N := some 47) (v := ?_) (a' := ?_) #[true, true, true, true, true, true, true, true, false, false, false, false, false, false, false, false, false, false, false, false, false, false, false, false, false, false, false, false, false] rfl rfl (any_of HT_.out (by kernel_rfl)) (fun _ _ _ h => h) (Or.inl ⟨by rfl, ?_⟩) ?_ ?_
                rotate_left
                · intro w'
                  go_simp
                  with_reducible rfl
                rotate_left
                · simp only [Act.put, List.setIfInBounds_toArray, List.set_cons_zero, List.set_cons_succ, i64_w, i32_w]
                  rfl
                refine pure_ (i := 8) (N := some 48) (v := ?_) (a' := ?_) #[true, true, true, true, true, true, true, true, true, false, false, false, false, false, false, false, false, false, false, false, false, false, false, false, false, false, false, false, false] rfl rfl (any_of HT_.out (by kernel_rfl)) (fun _ _ _ h => h) (Or.inl ⟨by rfl, ?_⟩) ?_ ?_
                rotate_left
                · intro w'
                  go_simp
                  with_reducible rfl
                rotate_left
                · simp only [Act.put, List.setIfInBounds_toArray, List.set_cons_zero, List.set_cons_succ, i64_w, i32_w]
                  rfl
                refine pure_ (i := 9) (N := some 49) (v := ?_) (a' := ?_) #[true, true, true, true, true, true, true, true, true, true, false, false, false, false, false, false, false, false, false, false, false, false, false, false, false, false, false, false, false] rfl rfl (any_of HT_.out (by kernel_rfl)) (fun _ _ _ h => h) (Or.inl ⟨by rfl, ?_⟩) ?_ ?_
                rotate_left
                · intro w'
                  go_simp
                  with_reducible rfl
                rotate_left
                · simp only [Act.put, List.setIfInBounds_toArray, List.set_cons_zero, List.set_cons_succ, i64_w, i32_w]
                  rfl
                refine pure_ (i := 10) (N := some 50) (v := ?_) (a' := ?_) #[true, true, true, true, true, true, true, true, true, true, true, false, false, false, false, false, false, false, false, false, false, false, false, false, false, false, false, false, false] rfl rfl (any_of HT_.out (by kernel_rfl)) (fun _ _ _ h => h) (Or.inl ⟨by rfl, ?_⟩) ?_ ?_
                rotate_left
                · intro w'
                  go_simp
                  with_reducible rfl
                rotate_left
                · simp only [Act.put, List.setIfInBounds_toArray, List.set_cons_zero, List.set_cons_succ, i64_w, i32_w]
                  rfl
                refine pure_ (i := 11) (N := some 51) (v := ?_) (a' := ?_) #[true, true, true, true, true, true, true, true, true, true, true, true, false, false, false, false, false, false, false, false, false, false, false, false, false, false, false, false, false] rfl rfl (any_of HT_.out (by kernel_rfl)) (fun _ _ _ h => h) (Or.inl ⟨by rfl, ?_⟩) ?_ ?_
                rotate_left
                · intro w'
                  go_simp
                  with_reducible rfl
                rotate_left
                · simp only [Act.put, List.setIfInBounds_toArray, List.set_cons_zero, List.set_cons_succ, i64_w, i32_w]
                  rfl
                refine pure_ (i := 12) (N := some 52) (v := ?_) (a' := ?_) #[true, true, true, true, true, true, true, true, true, true, true, true, true, false, false, false, false, false, false, false, false, false, false, false, false, false, false, false, false] rfl rfl (any_of HT_.out (by kernel_rfl)) (fun _ _ _ h => h) (Or.inl ⟨by rfl, ?_⟩) ?_ ?_
                rotate_left
                · intro w'
                  go_simp
                  with_reducible rfl
                rotate_left
                · simp only [Act.put, List.setIfInBounds_toArray, List.set_cons_zero, List.set_cons_succ, i64_w, i32_w]
                  rfl
                refine pure_ (i := 13) (N := some 53) (v := ?_) (a' := ?_) #[true, true, true, true, true, true, true, true, true, true, true, true, true, true, false, false, false, false, false, false, false, false, false, false, false, false, false, false, false] rfl rfl (any_of HT_.out (by kernel_rfl)) (fun _ _ _ h => h) (Or.inl ⟨by rfl, ?_⟩) ?_ ?_
                rotate_left
                · intro w'
                  go_simp
                  with_reducible rfl
                rotate_left
                · simp only [Act.put, List.setIfInBounds_toArray, List.set_cons_zero, List.set_cons_succ, i64_w, i32_w]
                  rfl
                refine pure_ (i := 14) (N := some 54) (v := ?_) (a' := ?_) #[true, true, true, true, true, true, true, true, true, true, true, true, true, true, true, false, false, false, false, false, false, false, false, false, false, false, false, false, false] rfl rfl (any_of HT_.out (by kernel_rfl)) (fun _ _ _ h => h) (Or.inl ⟨by rfl, ?_⟩) ?_ ?_
                rotate_left
                · intro w'
                  go_simp
                  with_reducible rfl
                rotate_left
                · simp only [Act.put, List.setIfInBounds_toArray, List.set_cons_zero, List.set_cons_succ, i64_w, i32_w]
                  rfl
                refine pure_ (i := 15) (N := some 55) (v := ?_) (a' := ?_) #[true, true, true, true, true, true, true, true, true, true, true, true, true, true, true, true, false, false, false, false, false, false, false, false, false, false, false, false, false] rfl rfl (any_of HT_.out (by kernel_rfl)) (fun _ _ _ h => h) (Or.inl ⟨by rfl, ?_⟩) ?_ ?_
                rotate_left
                · intro w'
                  go_simp
                  with_reducible rfl
                rotate_left
                · simp only [Act.put, List.setIfInBounds_toArray, List.set_cons_zero, List.set_cons_succ, i64_w, i32_w]
                  rfl
                refine take_ (i := 16) (N := some 56) (v := ?_) (a' := ?_) #[true, true, true, true, true, true, true, true, true, true, true, true, true, true, true, true, true, false, false, false, false, false, false, false, false, false, false, false, false] rfl rfl (take_ofW HT_.out HW_.out (by kernel_rfl)) (fun _ _ _ h => h) (Or.inl ⟨by rfl, ?_⟩) hHeld ?_ ?_
                rotate_left
                · rintro w' ⟨s0, s1, s2, s3, s4, s5, s6, s7, s8, s9, s10, s11, s12, s13, s14, s15, s16, s17, s18, s19, s20, s21, s22, s23⟩
                  go_simp
                  with_reducible rfl
                rotate_left
                · simp only [Act.put, List.setIfInBounds_toArray, List.set_cons_zero, List.set_cons_succ, i64_w, i32_w]
                  rfl
                refine take_ (i := 17) (N := some 57) (v := ?_) (a' := ?_) #[true, true, true, true, true, true, true, true, true, true, true, true, true, true, true, true, true, true, false, false, false, false, false, false, false, false, false, false, false] rfl rfl (take_ofW HT_.out HW_.out (by kernel_rfl)) (fun _ _ _ h => h) (Or.inl ⟨by rfl, ?_⟩) hHeld ?_ ?_
                rotate_left
                · rintro w' ⟨s0, s1, s2, s3, s4, s5, s6, s7, s8, s9, s10, s11, s12, s13, s14, s15, s16, s17, s18, s19, s20, s21, s22, s23⟩
                  go_simp
                  with_reducible rfl
                rotate_left
                · simp only [Act.put, List.setIfInBounds_toArray, List.set_cons_zero, List.set_cons_succ, i64_w, i32_w]
                  rfl
                refine pure_ (i := 18) (N := some 58) (v := ?_) (a' := ?_) #[true, true, true, true, true, true, true, true, true, true, true, true, true, true, true, true, true, true, true, false, false, false, false, false, false, false, false, false, false] rfl rfl (any_of HT_.out (by kernel_rfl)) (fun _ _ _ h => h) (Or.inl ⟨by rfl, ?_⟩) ?_ ?_
                rotate_left
                · intro w'
                  go_simp
                  with_reducible rfl
                rotate_left
                · simp only [Act.put, List.setIfInBounds_toArray, List.set_cons_zero, List.set_cons_succ, i64_w, i32_w]
                  rfl
                refine pure_ (i := 19) (N := some 59) (v := ?_) (a' := ?_) #[true, true, true, true, true, true, true, true, true, true, true, true, true, true, true, true, true, true, true, true, false, false, false, false, false, false, false, false, false] rfl rfl (any_of HT_.out (by kernel_rfl)) (fun _ _ _ h => h) (Or.inl ⟨by rfl, ?_⟩) ?_ ?_
                rotate_left
                · intro w'
                  go_simp
                  with_reducible rfl
                rotate_left
                · simp only [Act.put, List.setIfInBounds_toArray, List.set_cons_zero, List.set_cons_succ, i64_w, i32_w]
                  rfl
                refine pure_ (i := 20) (N := some 60) (v := ?_) (a' := ?_) #[true, true, true, true, true, true, true, true, true, true, true, true, true, true, true, true, true, true, true, true, true, false, false, false, false, false, false, false, false] rfl rfl (any_of HT_.out (by kernel_rfl)) (fun _ _ _ h => h) (Or.inl ⟨by rfl, ?_⟩) ?_ ?_
                rotate_left
                · intro w'
                  go_simp
                  with_reducible rfl
                rotate_left
                · simp only [Act.put, List.setIfInBounds_toArray, List.set_cons_zero, List.set_cons_succ, i64_w, i32_w]
                  rfl
                refine pure_ (i := 21) (N := some 61) (v := ?_) (a' := ?_) #[true, true, true, true, true, true, true, true, true, true, true, true, true, true, true, true, true, true, true, true, true, true, false, false, false, false, false, false, false] rfl rfl (any_of HT_.out (by kernel_rfl)) (fun _ _ _ h => h) (Or.inl ⟨by rfl, ?_⟩) ?_ ?_
                rotate_left
                · intro w'
                  go_simp
                  with_reducible rfl
                rotate_left
                · simp only [Act.put, List.setIfInBounds_toArray, List.set_cons_zero, List.set_cons_succ, i64_w, i32_w]
                  rfl
                refine pure_ (i := 22) (N := some 62) (v := ?_) (a' := ?_) #[true, true, true, true, true, true, true, true, true, true, true, true, true, true, true, true, true, true, true, true, true, true, true, false, false, false, false, false, false] rfl rfl (any_of HT_.out (by kernel_rfl)) (fun _ _ _ h => h) (Or.inl ⟨by rfl, ?_⟩) ?_ ?_
                rotate_left
                · intro w'
                  go_simp
                  with_reducible rfl
                rotate_left
                · simp only [Act.put, List.setIfInBounds_toArray, List.set_cons_zero, List.set_cons_succ, i64_w, i32_w]
                  rfl
                refine pure_ (i := 23) (N := some 63) (v := ?_) (a' := ?_) #[true, true, true, true, true, true, true, true, true, true, true, true, true, true, true, true, true, true, true, true, true, true, true, true, false, false, false, false, false] rfl rfl (any_of HT_.out (by kernel_rfl)) (fun _ _ _ h => h) (Or.inl ⟨by rfl, ?_⟩) ?_ ?_
                rotate_left
                · intro w'
                  go_simp
                  with_reducible rfl
                rotate_left
                · simp only [Act.put, List.setIfInBounds_toArray, List.set_cons_zero, List.set_cons_succ, i64_w, i32_w]
                  rfl
                refine pure_ (i := 24) (N := some 64) (v := ?_) (a' := ?_) #[true, true, true, true, true, true, true, true, true, true, true, true, true, true, true, true, true, true, true, true, true, true, true, true, true, false, false, false, false] rfl rfl (any_of HT_.out (by kernel_rfl)) (fun _ _ _ h => h) (Or.inl ⟨by rfl, ?_⟩) ?_ ?_
                rotate_left
                · intro w'
                  go_simp
                  with_reducible rfl
                rotate_left
                · simp only [Act.put, List.setIfInBounds_toArray, List.set_cons_zero, List.set_cons_succ, i64_w, i32_w]
                  rfl
                refine pure_ (i := 25) (N := some 65) (v := ?_) (a' := ?_) #[true, true, true, true, true, true, true, true, true, true, true, true, true, true, true, true, true, true, true, true, true, true, true, true, true, true, false, false, false] rfl rfl (any_of HT_.out (by kernel_rfl)) (fun _ _ _ h => h) (Or.inl ⟨by rfl, ?_⟩) ?_ ?_
                rotate_left
                · intro w'
                  go_simp
                  with_reducible rfl
                rotate_left
                · simp only [Act.put, List.setIfInBounds_toArray, List.set_cons_zero, List.set_cons_succ, i64_w, i32_w]
                  rfl
                refine one_ (i := 26) (N := some 66) #[true, true, true, true, true, true, true, true, true, true, true, true, true, true, true, true, true, true, true, true, true, true, true, true, true, true, true, false, false] rfl rfl (one_of HT_.out (by kernel_rfl)) (by decide) (fun K hK => ?_)
                refine goes_ Try.func15 (by kernel_rfl) rfl #[] (by rfl) rfl rfl (by (try simp only [List.map_toArray, List.map_cons, List.map_nil]); first | done | rfl | (simp only [List.length_drop, List.length_take]; rfl)) ?_
                with_reducible refine (aquiferlaw20_works.calls  t330 _ A18.out).mono ?_
                rintro e w47 ⟨rfl, hb⟩
                refine ⟨_, rfl, ?_⟩
                have n0_ := Aside0.mk (blk_below (blkU BK295.out) hb)
                have n1_ := Aside0.mk (blk_below (blkU BK317.out) hb)
                have n2_ := Aside0.mk (blk_below (blkU BK327.out) hb)
                have n3_ := Aside0.mk (below_step (belG3 HB.out GE295.out GE317.out GE327.out) hb)
                clear BK295
                clear BK317
                clear BK327
                clear HB
                have BK295 := n0_
                have BK317 := n1_
                have BK327 := n2_
                have HB := n3_
                clear n0_ n1_ n2_ n3_
                (try clear hb)
                (try clear hb2)
                (try clear hk)
                (try clear hi)
                refine hK.out _ _ ⟨(blk_cell BK295.out 0).trans rfl, (blk_cell BK295.out 1).trans rfl, (blk_cell BK295.out 2).trans rfl, (blk_cell BK295.out 3).trans rfl, (blk_cell BK295.out 4).trans rfl, (blk_cell BK295.out 5).trans rfl, (blk_cell BK295.out 6).trans rfl, (blk_cell BK295.out 7).trans rfl, (blk_cell BK317.out 0).trans rfl, (blk_cell BK317.out 1).trans rfl, (blk_cell BK317.out 2).trans rfl, (blk_cell BK317.out 3).trans rfl, (blk_cell BK317.out 4).trans rfl, (blk_cell BK317.out 5).trans rfl, (blk_cell BK317.out 6).trans rfl, (blk_cell BK317.out 7).trans rfl, (blk_cell BK327.out 0).trans rfl, (blk_cell BK327.out 1).trans rfl, (blk_cell BK327.out 2).trans rfl, (blk_cell BK327.out 3).trans rfl, (blk_cell BK327.out 4).trans rfl, (blk_cell BK327.out 5).trans rfl, (blk_cell BK327.out 6).trans rfl, (blk_cell BK327.out 7).trans rfl⟩ (fun hHeld => ?_)
                clear hK K
                refine norm_ (a' := ?_) ?_ ?_
                rotate_left
                · show Act.put _ (some 66) _ = _
                  simp only [Act.put, List.setIfInBounds_toArray, List.set_cons_zero, List.set_cons_succ, i64_w, i32_w]
                  rfl
                refine pure_ (i := 27) (N := some 67) (v := ?_) (a' := ?_) #[true, true, true, true, true, true, true, true, true, true, true, true, true, true, true, true, true, true, true, true, true, true, true, true, true, true, true, true, false] rfl rfl (any_of HT_.out (by kernel_rfl)) (fun _ _ _ h => h) (Or.inl ⟨by rfl, ?_⟩) ?_ ?_
                rotate_left
                · intro w'
                  go_simp
                  with_reducible rfl
                rotate_left
                · simp only [Act.put, List.setIfInBounds_toArray, List.set_cons_zero, List.set_cons_succ, i64_w, i32_w]
                  rfl
                refine pure_ (i := 28) (N := some 4) (v := ?_) (a' := ?_) #[true, true, true, true, true, true, true, true, true, true, true, true, true, true, true, true, true, true, true, true, true, true, true, true, true, true, true, true, true] rfl rfl (any_of HT_.out (by kernel_rfl)) (fun _ _ _ h => h) (Or.inl ⟨by rfl, ?_⟩) ?_ ?_
                rotate_left
                · intro w'
                  go_simp
                  with_reducible rfl
                rotate_left
                · simp only [Act.put, List.setIfInBounds_toArray, List.set_cons_zero, List.set_cons_succ, i64_w, i32_w]
                  rfl
                refine done_ (done_of HT_.out (by kernel_rfl)) ?_
                try go_wp2
                go_ret
                exact ⟨by first | rfl | (simp [errW_none, errW_some] <;> rfl) | (simp only [← hji4]; first | rfl | (simp [errW_none, errW_some] <;> rfl)) | (simp [*, errW_none, errW_some] <;> rfl), belG3 HB.out GE295.out GE317.out GE327.out⟩
              · rw [if_neg c17] at H
                have c17b0 : (t316 == t326) = false := beq_eq_false_iff_ne.mpr c17
                have c17b1 : (t316 != t326) = true := bne_iff_ne.mpr c17
                exact absurd H (by simp)
            · rw [if_neg c16] at H
              have c16b0 : (t308 == t318 && (t309 == t319 && (t310 == t320 && (t311 == t321 && (t312 == t322 && (t313 == t323 && (t314.toList == t324.toList && (t315.toList == t325.toList)))))))) = false := by simpa using c16
              (try (have c16b1 : decide (t308 = t318 && (t309 == t319 && (t310 == t320 && (t311 == t321 && (t312 == t322 && (t313 == t323 && (t314.toList == t324.toList && (t315.toList == t325.toList)))))))) = false := by simpa using c16))
              (try (have c16b2 : (t308 == t318 && (t309 == t319 && (t310 == t320 && (t311 == t321 && (t312 == t322 && (t313 == t323 && (t314.toList == t324.toList && (t315.toList == t325.toList)))))))) = false := by simpa using c16))
              (try (have c16b3 : ¬ (t308 = t318 && (t309 == t319 && (t310 == t320 && (t311 == t321 && (t312 == t322 && (t313 == t323 && (t314.toList == t324.toList && (t315.toList == t325.toList)))))))) := by simpa using c16))
              clear c16
              exact absurd H (by simp)
          · rw [if_neg c15] at H
            have c15b0 : (t305 == t307) = false := beq_eq_false_iff_ne.mpr c15
            have c15b1 : (t305 != t307) = true := bne_iff_ne.mpr c15
            exact absurd H (by simp)
        · rw [if_neg c14] at H
          have c14b0 : (t304.toList == t306.toList) = false := beq_eq_false_iff_ne.mpr c14
          have c14b1 : (t304.toList != t306.toList) = true := bne_iff_ne.mpr c14
          exact absurd H (by simp)
      · rw [if_neg c13] at H
        have c13b0 : (t328 == t329) = false := beq_eq_false_iff_ne.mpr c13
        have c13b1 : (t328 != t329) = true := bne_iff_ne.mpr c13
        exact absurd H (by simp)
    · rw [if_neg c6] at H
      exact absurd H (by simp)
  · rw [if_neg c5] at H
    exact absurd H (by simp)

end Go.Proofs.Ytjaneipklpgnlaa.Q

namespace Go.Proofs.Ytjaneipklpgnlaa.Q
open Go Go.RowKit Go.Proofs.YtjaneipklpgnlaaW.PrintWords Go.Proofs.YtjaneipklpgnlaaW.PrintLast Go.Proofs.YtjaneipklpgnlaaW.PrintMore
set_option linter.unusedSimpArgs false
set_option linter.unusedVariables false
/-! ### The reference's reading, on lists -/
def refN : Nat → Int → Int → List UInt8 → Option (Int × List UInt8)
  | 0, _, _, _ => none
  | _ + 1, _, _, [] => none
  | f + 1, w, n, c :: t => if c.toNat < 128 then some (n + (c.toNat : Int) * w, t) else refN f (w * 128) (n + ((c.toNat - 128 : Nat) : Int) * w) t
def refD (s : ByteArray) : Nat → List S84 → List UInt8 → List S84 × Int
  | 0, _, _ => ([], 5)
  | _ + 1, out, [] => if (encGo out 0 []).2 = 0 ∧ (encGo out 0 []).1.toList = s.toList then (out, 0) else ([], 5)
  | m + 1, out, c :: t => match refN 9 1 0 t with
    | none => ([], 5)
    | some (v, u) => if c.toNat % 2 = 0 then (if t = u8 (numB v.toNat) ++ u then refD s m (out ++ [⟨(c.toNat / 2 : Nat), (c.toNat % 2 : Nat), v, mkS []⟩]) u else ([], 5))
      else if v > (u.length : Int) then ([], 5)
      else if t = u8 (numB v.toNat) ++ u then refD s m (out ++ [⟨(c.toNat / 2 : Nat), (c.toNat % 2 : Nat), 0, mkS (u.take v.toNat)⟩]) (u.drop v.toNat) else ([], 5)
theorem refN_pre (f : Nat) : ∀ (w n v : Int) (l u : List UInt8), refN f w n l = some (v, u) → 0 ≤ n → 0 ≤ w → ∃ pre, l = pre ++ u ∧ 1 ≤ pre.length ∧ n ≤ v := by
  induction f with
  | zero => intro w n v l u h; cases h
  | succ f ih =>
    intro w n v l u h hn hp
    cases l with
    | nil => cases h
    | cons c t =>
      unfold refN at h
      by_cases hc : c.toNat < 128
      · rw [if_pos hc] at h
        injection h with h
        injection h with h1 h2
        have := Int.mul_nonneg (Int.natCast_nonneg c.toNat) hp
        exact ⟨[c], by rw [h2]; rfl, Nat.le_refl _, by omega⟩
      · rw [if_neg hc] at h
        have h0 := Int.mul_nonneg (Int.natCast_nonneg (c.toNat - 128)) hp
        obtain ⟨pre, hl, _, hv⟩ := ih _ _ _ _ _ h (by omega) (by omega)
        exact ⟨c :: pre, by rw [hl]; rfl, by simp, by omega⟩
theorem refN_lt (f : Nat) : ∀ (w n v : Int) (l u : List UInt8), refN f w n l = some (v, u) → 0 ≤ w → n < w → v < w * 128 ^ f := by
  induction f with
  | zero => intro w n v l u h; cases h
  | succ f ih =>
    intro w n v l u h hp hn
    cases l with
    | nil => cases h
    | cons c t =>
      have hcl := c.toNat_lt
      have hstep : ∀ a : Nat, a < 128 → n + (a : Int) * w < w * 128 := by
        intro a ha
        have : (a : Int) * w ≤ 127 * w := Int.mul_le_mul_of_nonneg_right (by omega) (by omega)
        omega
      have hpw : w * 128 * 128 ^ f = w * 128 ^ (f + 1) := by rw [Int.pow_succ, Int.mul_assoc, Int.mul_comm 128]
      unfold refN at h
      by_cases hc : c.toNat < 128
      · rw [if_pos hc] at h
        injection h with h
        injection h with h1 _
        rw [← h1, ← hpw]
        have h1 : (1 : Int) ≤ 128 ^ f := Int.pow_pos (by decide)
        have h3 : w * 128 * 1 ≤ w * 128 * 128 ^ f := Int.mul_le_mul_of_nonneg_left h1 (by omega)
        have h4 := hstep _ hc
        omega
      · rw [if_neg hc] at h
        have := ih _ _ _ _ _ h (by omega) (hstep _ (by omega))
        rw [hpw] at this
        exact this
theorem refN_num (j : Nat) : ∀ (m : Nat) (w acc : Int) (t : List UInt8) (f : Nat), m < 128 ^ (j + 1) → j < f → refN f w acc (u8 (numBf j m) ++ t) = some (acc + (m : Int) * w, t) := by
  induction j with
  | zero =>
    intro m w acc t f hm hf
    obtain ⟨f, rfl⟩ : ∃ g, f = g + 1 := ⟨f - 1, by omega⟩
    simp at hm
    have e : u8 (numBf 0 m) ++ t = UInt8.ofNat m :: t := rfl
    rw [e]
    unfold refN
    rw [u8_of m (by omega), if_pos hm]
  | succ j ih =>
    intro m w acc t f hm hf
    obtain ⟨f, rfl⟩ : ∃ g, f = g + 1 := ⟨f - 1, by omega⟩
    by_cases c : m < 128
    · have e : u8 (numBf (j + 1) m) ++ t = UInt8.ofNat m :: t := by
        unfold numBf
        rw [if_pos c]
        rfl
      rw [e]
      unfold refN
      rw [u8_of m (by omega), if_pos c]
    · have e : u8 (numBf (j + 1) m) ++ t = UInt8.ofNat (128 + m % 128) :: (u8 (numBf j (m / 128)) ++ t) := by
        conv => lhs; unfold numBf
        rw [if_neg c]
        rfl
      have hd : m / 128 < 128 ^ (j + 1) := by rw [Nat.pow_succ] at hm; exact Nat.div_lt_of_lt_mul (by rw [Nat.mul_comm]; exact hm)
      rw [e]
      unfold refN
      rw [u8_of _ (by omega), if_neg (by omega), ih (m / 128) (w * 128) _ t f hd (by omega)]
      have hval : acc + ((128 + m % 128 - 128 : Nat) : Int) * w + ((m / 128 : Nat) : Int) * (w * 128) = acc + (m : Int) * w := by
        have hm2 : (m : Int) = ((m % 128 : Nat) : Int) + 128 * ((m / 128 : Nat) : Int) := by omega
        rw [show 128 + m % 128 - 128 = m % 128 by omega, Int.add_assoc]
        congr 1
        conv => rhs; rw [hm2]
        rw [Int.add_mul]
        congr 1
        rw [Int.mul_comm w 128, ← Int.mul_assoc, Int.mul_comm _ 128]
      rw [hval]
/-- Of a record's bytes the reference makes the record. -/
theorem refD_flat (s : ByteArray) (L : List S84) : ∀ (m : Nat) (out : List S84), (∀ f ∈ L, wf f) → (flat L).length < m → refD s m out (flat L) = refD s 1 (out ++ L) [] := by
  induction L with
  | nil =>
    intro m out _ hm
    obtain ⟨m, rfl⟩ : ∃ g, m = g + 1 := ⟨m - 1, by omega⟩
    rw [List.append_nil]
    rfl
  | cons f l ih =>
    intro m out hw hm
    obtain ⟨m, rfl⟩ : ∃ g, m = g + 1 := ⟨m - 1, by omega⟩
    obtain ⟨hb, hs⟩ := hw f List.mem_cons_self
    obtain ⟨h1, h2, h3⟩ := (bad_iff f).1 hb
    have hrest := fun m' out' hm' => ih m' out' (fun x hx => hw x (List.mem_cons_of_mem _ hx)) hm'
    have e0 : out ++ f :: l = (out ++ [f]) ++ l := by simp
    have hln : (flat l).length < m := by
      obtain ⟨c, t, hc⟩ := fldU_ne f
      rw [flat_cons, hc] at hm
      simp at hm
      omega
    rw [e0, ← hrest m (out ++ [f]) hln]
    obtain ⟨tg, kd, n, x⟩ := f
    simp only at h1 h2 h3 hs
    rcases h3 with ⟨rfl, hs0, hn0, hn1⟩ | ⟨rfl, rfl⟩
    · obtain ⟨q, rfl⟩ := Int.eq_ofNat_of_zero_le hn0
      obtain rfl := toList_mk hs0
      have e : flat ((⟨tg, 0, (q : Int), mkS []⟩ : S84) :: l) = UInt8.ofNat (2 * tg + 0).toNat :: (u8 (numB q) ++ flat l) := by
        rw [flat_cons]
        simp only [fldU, fldB, u8_cons, List.cons_append, Int.toNat_natCast, if_pos]
      have hc : (UInt8.ofNat (2 * tg + 0).toNat).toNat = (2 * tg + 0).toNat := u8_of _ (by omega)
      have hnum : refN 9 1 0 (u8 (numB q) ++ flat l) = some ((q : Int), flat l) := by
        unfold numB
        rw [numBf_more 8 q (lt128' q (by omega)), refN_num 8 q 1 0 (flat l) 9 (lt128' q (by omega)) (by omega)]
        simp
      rw [e, refD, hnum]
      simp only [hc, Int.toNat_natCast]
      rw [if_pos (by omega), if_pos trivial, show (2 * tg + 0).toNat / 2 = tg.toNat by omega, show (2 * tg + 0).toNat % 2 = 0 by omega, show ((tg.toNat : Nat) : Int) = tg by omega]
      rfl
    · have hsl : x.data.toList.length = x.size := by simp
      have e : flat ((⟨tg, 1, 0, x⟩ : S84) :: l) = UInt8.ofNat (2 * tg + 1).toNat :: (u8 (numB x.size) ++ (x.data.toList ++ flat l)) := by
        rw [flat_cons]
        unfold fldU fldB
        rw [if_neg (show ¬ (1 : Int) = 0 by decide), u8_cons, u8_append, u8_bytes, List.cons_append, List.append_assoc]
      have hc : (UInt8.ofNat (2 * tg + 1).toNat).toNat = (2 * tg + 1).toNat := u8_of _ (by omega)
      have hnum : refN 9 1 0 (u8 (numB x.size) ++ (x.data.toList ++ flat l)) = some ((x.size : Int), x.data.toList ++ flat l) := by
        unfold numB
        rw [numBf_more 8 x.size (lt128' _ (by omega)), refN_num 8 x.size 1 0 _ 9 (lt128' _ (by omega)) (by omega)]
        simp
      rw [e, refD, hnum]
      simp only [hc, Int.toNat_natCast]
      rw [if_neg (by omega), if_neg (by rw [List.length_append, hsl]; omega), if_pos trivial, show (2 * tg + 1).toNat / 2 = tg.toNat by omega, show (2 * tg + 1).toNat % 2 = 1 by omega, show ((tg.toNat : Nat) : Int) = tg by omega,
        ← hsl, List.take_left, List.drop_left, mkS_data]
      rfl
theorem refD_end (s : ByteArray) (out : List S84) : refD s 1 out [] = if (encGo out 0 []).2 = 0 ∧ (encGo out 0 []).1.toList = s.toList then (out, 0) else ([], 5) := rfl
theorem toList_inj {a b : ByteArray} (h : a.toList = b.toList) : a = b := by
  rw [ByteArray.toList_eq, ByteArray.toList_eq] at h
  rw [← mkS_data a, ← mkS_data b, h]
theorem refD_cases (s : ByteArray) (m : Nat) : ∀ (out : List S84) (l : List UInt8), refD s m out l = ([], 5) ∨ ∃ M, refD s m out l = (M, 0) ∧ encGo M 0 [] = (s, 0) := by
  induction m with
  | zero => intro out l; exact .inl rfl
  | succ m ih =>
    intro out l
    cases l with
    | nil =>
      show (if (encGo out 0 []).2 = 0 ∧ (encGo out 0 []).1.toList = s.toList then (out, (0 : Int)) else ([], 5)) = _ ∨ ∃ M, (if (encGo out 0 []).2 = 0 ∧ (encGo out 0 []).1.toList = s.toList then (out, (0 : Int)) else ([], 5)) = _ ∧ _
      by_cases h : (encGo out 0 []).2 = 0 ∧ (encGo out 0 []).1.toList = s.toList
      · rw [if_pos h]
        exact .inr ⟨out, rfl, Prod.ext (toList_inj h.2) h.1⟩
      · rw [if_neg h]
        exact .inl rfl
    | cons c t =>
      rw [refD]
      cases refN 9 1 0 t with
      | none => exact .inl rfl
      | some p =>
        obtain ⟨v, u⟩ := p
        simp only
        split
        · split
          · exact ih _ _
          · exact .inl rfl
        · split
          · exact .inl rfl
          · split
            · exact ih _ _
            · exact .inl rfl
theorem refD_dec (s : ByteArray) (hs : s.size ≤ 65536) (m : Nat) (hm : s.size < m) : refD s m [] s.data.toList = decS s := by
  have hsl : s.data.toList.length = s.size := by simp
  rcases refD_cases s m [] s.data.toList with h | ⟨M, h, he⟩
  · rcases decS_total s with h0 | h0
    · obtain ⟨M, e, hd⟩ : ∃ M e, decS s = (M, e) := ⟨_, _, rfl⟩
      rw [hd] at h0
      simp only at h0
      subst h0
      obtain ⟨hv, hl, hM⟩ := (decS_iff s M).1 hd
      have hfl : s.data.toList = flat M := by rw [hM, data_mkS]
      have he := (dec_enc M s).1 hd
      rw [hfl, refD_flat s M m [] (valid_wf hv) (by rw [← hfl]; omega), List.nil_append, refD_end, he, if_pos ⟨rfl, rfl⟩] at h
      injection h with _ h
      cases h
    · rw [h, h0]
  · rw [h, (dec_enc M s).2 he]
end Go.Proofs.Ytjaneipklpgnlaa.Q

namespace Go.Proofs.Ytjaneipklpgnlaa.Q
open Go Go.RowKit Go.Proofs.YtjaneipklpgnlaaW.PrintWords Go.Proofs.YtjaneipklpgnlaaW.PrintLast Go.Proofs.YtjaneipklpgnlaaW.PrintMore
set_option linter.unusedSimpArgs false
set_option linter.unusedVariables false
theorem wrap_id (x : Int) (h0 : -9223372036854775808 ≤ x) (h1 : x < 9223372036854775808) : wrap64 x = x := by unfold wrap64; omega
theorem bt_nat (s : ByteArray) (i : Nat) (h : i < s.data.toList.length) : bt s (i : Int) = ((s.data.toList[i]).toNat : Int) := by
  have h' : i < s.size := by simpa using h
  unfold bt
  rw [dif_pos (by simpa using h')]
  simp only [Int.toNat_natCast, Array.getElem_toList]
  rfl
theorem drop_cons (l : List UInt8) (i : Nat) (h : i < l.length) : l.drop i = l[i] :: l.drop (i + 1) := List.drop_eq_getElem_cons h
theorem number_ok' (j : Nat) : ∀ (n : Nat) (k : Nat), n < 128 ^ (j + 1) → n < 9223372036854775808 → j < 20 → j < k → aquiferref04_number.f k (n : Int) = some (numBf j n) := by
  induction j with
  | zero =>
    intro n k hn h63 hj hk
    obtain ⟨k, rfl⟩ : ∃ m, k = m + 1 := ⟨k - 1, by omega⟩
    simp at hn
    simp only [aquiferref04_number.f, numBf]
    rw [if_pos (by omega), Int.emod_eq_of_lt (by omega) (by omega)]
  | succ j ih =>
    intro n k hn h63 hj hk
    obtain ⟨k, rfl⟩ : ∃ m, k = m + 1 := ⟨k - 1, by omega⟩
    simp only [aquiferref04_number.f, numBf]
    by_cases c : n < 128
    · rw [if_pos (by omega), if_pos c, Int.emod_eq_of_lt (by omega) (by omega)]
    · have e1 : (wrap64 (128 + (n : Int).tmod 128)) % 256 = ((128 + n % 128 : Nat) : Int) := by
        rw [Int.tmod_eq_emod_of_nonneg (by omega)]
        unfold wrap64
        omega
      have e2 : wrap64 ((n : Int).tdiv 128) = ((n / 128 : Nat) : Int) := by
        rw [Int.tdiv_eq_ediv_of_nonneg (by omega)]
        unfold wrap64
        omega
      have hl := numBf_len j (n / 128)
      rw [if_neg (by omega), if_neg c, e1, e2, Option.bind_some, ih (n / 128) k (by rw [Nat.pow_succ] at hn; exact Nat.div_lt_of_lt_mul (by rw [Nat.mul_comm]; exact hn)) (by omega) (by omega) (by omega), Option.bind_some, if_pos (by simp; omega)]
      rfl
theorem number_gen (k : Nat) (hk : 10 ≤ k) (n : Nat) (hn : n < 9223372036854775808) : aquiferref04_number.f k (n : Int) = some (numB n) :=
  number_ok' 9 n k (by rw [p128]; omega) hn (by omega) (by omega)
theorem bytes_gen (k : Nat) (hk : 10 ≤ k) (c : UInt8) (n : Int) (x : ByteArray) (h0 : 0 ≤ n) (hn : n < 9223372036854775808) (hx : x.size ≤ 65536) :
    aquiferref04_bytes.f k ((c.toNat / 2 : Nat) : Int) ((c.toNat % 2 : Nat) : Int) n x = some ((c.toNat : Int) :: (if ((c.toNat % 2 : Nat) : Int) = 0 then numB n.toNat else numB x.size ++ bytesOf x)) := by
  have hc := c.toNat_lt
  obtain ⟨m, rfl⟩ := Int.eq_ofNat_of_zero_le h0
  have hb : (wrap64 ((wrap64 (2 * ((c.toNat / 2 : Nat) : Int))) + ((c.toNat % 2 : Nat) : Int))) % 256 = (c.toNat : Int) := by
    rw [wrap_id (2 * ((c.toNat / 2 : Nat) : Int)) (by omega) (by omega), wrap_id _ (by omega) (by omega)]
    omega
  have h1 := numB_len m
  have h2 := numB_len x.size
  unfold aquiferref04_bytes.f
  rw [hb, Option.bind_some]
  by_cases e : ((c.toNat % 2 : Nat) : Int) = 0
  · rw [if_pos e, if_pos e, number_gen k hk m (by omega), Option.bind_some, if_pos (by simp; omega)]
    rfl
  · rw [if_neg e, if_neg e, number_gen k hk x.size (by omega), Option.bind_some, if_pos (by simp; omega), Option.bind_some, if_pos (by simp; omega)]
    rfl
/-- How great a byte's weight may be, so many bytes ahead of the last one. -/
def bnd : Nat → Int
  | 0 => 9223372036854775808
  | f + 1 => bnd f / 128
theorem bnd_le (f : Nat) : 0 ≤ bnd f ∧ bnd (f + 1) ≤ 72057594037927936 := by
  induction f with
  | zero => exact ⟨by decide, by decide⟩
  | succ f ih =>
    obtain ⟨h1, h2⟩ := ih
    have h3 : bnd (f + 1) = bnd f / 128 := rfl
    have h4 : bnd (f + 1 + 1) = bnd (f + 1) / 128 := rfl
    omega
theorem byte_mul (a : Nat) (w : Int) (ha : a < 128) (hw : 0 ≤ w) (hw2 : w ≤ 72057594037927936) : 0 ≤ (a : Int) * w ∧ (a : Int) * w ≤ 127 * w ∧ wrap64 ((a : Int) * w) = (a : Int) * w := by
  have h1 : (a : Int) * w ≤ 127 * w := Int.mul_le_mul_of_nonneg_right (by omega) hw
  have h2 : 0 ≤ (a : Int) * w := Int.mul_nonneg (by omega) hw
  exact ⟨h2, h1, wrap_id _ (by omega) (by omega)⟩
def jb (kd v u : Int) : Bool := if kd = 1 then decide (v > u) else false
theorem j3_true (k : Nat) (s : ByteArray) (out : List S84) (a b c d e f g : Int) (x : ByteArray) : aquiferref04_Decode.j3 (k + 1) s out a b c d true e f g x = some ([], 5) := by
  simp only [aquiferref04_Decode.j3]
  rw [if_pos trivial]
theorem j2_out (k : Nat) (s : ByteArray) (out : List S84) (a b c d e f g : Int) (x : ByteArray) (h : d ≥ (s.size : Int) ∨ wrap64 (d - a) ≥ 10) : aquiferref04_Decode.j2 (k + 2) s out a b c d e f g x = some ([], 5) := by
  simp only [aquiferref04_Decode.j2]
  by_cases h1 : d ≥ (s.size : Int)
  · rw [if_pos h1]
    exact j3_true _ _ _ _ _ _ _ _ _ _ _
  · rw [if_neg h1]
    rw [decide_eq_true (h.resolve_left h1)]
    exact j3_true _ _ _ _ _ _ _ _ _ _ _
theorem j2_in (k : Nat) (s : ByteArray) (out : List S84) (a n w e kd g : Int) (x : ByteArray) (p c : Nat) (v : Int) (hs : s.size ≤ 65536) (hp : p < s.size) (ha : wrap64 ((p : Int) - a) < 10) (hc : wrap64 (bt s (p : Int)) = (c : Int)) (hv : wrap64 (n + (wrap64 ((c : Int) * w))) = v) (hv0 : 0 ≤ v) :
    aquiferref04_Decode.j2 (k + 2) s out a n w (p : Int) e kd g x = aquiferref04_Decode.j4 k s out a v ((p + 1 : Nat) : Int) (jb kd v ((s.size - (p + 1) : Nat) : Int)) e kd g x := by
  have hwp1 : wrap64 ((p : Int) + 1) = ((p + 1 : Nat) : Int) := by rw [wrap_id _ (by omega) (by omega)]; omega
  have hws : wrap64 ((s.size : Int) - ((p + 1 : Nat) : Int)) = ((s.size - (p + 1) : Nat) : Int) := by rw [wrap_id _ (by omega) (by omega)]; omega
  simp only [aquiferref04_Decode.j2]
  rw [if_neg (by omega), decide_eq_false (by omega)]
  simp only [aquiferref04_Decode.j3]
  rw [if_neg (by decide), if_pos (by omega), if_pos (by omega), hc, hv, if_neg (by omega), hwp1, hws]
  unfold jb
  by_cases hk : kd = 1
  · rw [if_pos hk, if_pos hk]
  · rw [if_neg hk, if_neg hk]
/-- The number's loop. -/
theorem l1_ok (s : ByteArray) (hs : s.size ≤ 65536) (out : List S84) (at_ tg kd : Nat) (r : List S84 × Int) (K0 : Nat) (f : Nat) : ∀ (p : Nat) (n w w' : Int) (k : Nat), p + f = at_ + 10 → at_ < p → p ≤ s.size + 10 → (1 ≤ f → w' = w ∧ 0 < w ∧ w ≤ bnd f ∧ 0 ≤ n ∧ n < w) →
    (refN f w n (s.data.toList.drop p) = none → r = ([], 5)) →
    (∀ v u, refN f w n (s.data.toList.drop p) = some (v, u) → ∀ k', K0 ≤ k' → aquiferref04_Decode.j4 k' s out (at_ : Int) v ((s.size - u.length : Nat) : Int) (jb (kd : Int) v (u.length : Int)) (tg : Int) (kd : Int) 0 (⟨#[]⟩ : ByteArray) = some r) →
    K0 + f + 3 ≤ k → aquiferref04_Decode.l1 k s out (at_ : Int) n w' (p : Int) (tg : Int) (kd : Int) 0 (⟨#[]⟩ : ByteArray) = some r := by
  have hsl : s.data.toList.length = s.size := by simp
  induction f with
  | zero =>
    intro p n w w' k hp hat hps _ hnone _ hk
    obtain ⟨k, rfl⟩ : ∃ m, k = m + 3 := ⟨k - 3, by omega⟩
    rw [hnone rfl]
    have hw : wrap64 ((p : Int) - (at_ : Int)) = 10 := by rw [wrap_id _ (by omega) (by omega)]; omega
    have hj := j2_out k s out (at_ : Int) n w' (p : Int) (tg : Int) (kd : Int) 0 ⟨#[]⟩ (.inr (by omega))
    simp only [aquiferref04_Decode.l1]
    rw [hw, if_neg (show ¬ (10 : Int) < 10 by decide), hj]
    split <;> rfl
  | succ f ih =>
    intro p n w w' k hp hat hps hinv hnone hsome hk
    obtain ⟨k, rfl⟩ : ∃ m, k = m + 3 := ⟨k - 3, by omega⟩
    obtain ⟨rfl, hw0, hwb, hn0, hn1⟩ := hinv (by omega)
    by_cases hlt : p < s.size
    · have g1 : (p : Int) < (s.size : Int) := by omega
      have g2 : (0 : Int) ≤ (p : Int) := by omega
      have hlt' : p < s.data.toList.length := by omega
      rw [drop_cons _ _ hlt'] at hnone hsome
      have hbt := bt_nat s p hlt'
      generalize s.data.toList[p] = c at hnone hsome hbt
      have hcl := c.toNat_lt
      have hb := (bnd_le f).2
      have hwp := Aside0.mk (show wrap64 ((p : Int) - (at_ : Int)) < 10 by rw [wrap_id _ (by omega) (by omega)]; omega)
      have hwc := Aside0.mk (show wrap64 (bt s (p : Int)) = (c.toNat : Int) by rw [hbt, wrap_id _ (by omega) (by omega)])
      by_cases hc : c.toNat < 128
      · rw [refN, if_pos hc] at hsome
        have hs1 := hsome _ _ rfl
        obtain ⟨m0, m1, m2_⟩ := byte_mul c.toNat w' hc (by omega) (by omega)
        have m2 := Aside0.mk m2_
        clear m2_
        have hv := Aside0.mk (show wrap64 (n + (wrap64 ((c.toNat : Int) * w'))) = n + (c.toNat : Int) * w' by
          rw [m2.out, wrap_id _ (by omega) (by omega)])
        have hlen : (s.data.toList.drop (p + 1)).length = s.size - (p + 1) := by rw [List.length_drop, hsl]
        have hpl : s.size - (s.data.toList.drop (p + 1)).length = p + 1 := by rw [hlen]; omega
        rw [hpl, hlen] at hs1
        have hj := j2_in k s out (at_ : Int) n w' (tg : Int) (kd : Int) 0 ⟨#[]⟩ p c.toNat _ hs hlt hwp.out hwc.out hv.out (by omega)
        simp only [aquiferref04_Decode.l1]
        rw [if_pos (show (p : Int) < (s.size : Int) by omega), if_pos hwp.out, if_pos (show (0 : Int) ≤ (p : Int) by omega), if_neg (show ¬ bt s (p : Int) ≥ 128 by rw [hbt]; omega), hj]
        exact hs1 k (by omega)
      · have g3 : bt s (p : Int) ≥ 128 := by rw [hbt]; omega
        rw [refN, if_neg hc] at hnone hsome
        have hcc := Aside0.mk (show wrap64 ((wrap64 (bt s (p : Int))) - 128) = ((c.toNat - 128 : Nat) : Int) by rw [hwc.out, wrap_id _ (by omega) (by omega)]; omega)
        obtain ⟨m0, m1, m2_⟩ := byte_mul (c.toNat - 128) w' (by omega) (by omega) (by omega)
        have m2 := Aside0.mk m2_
        clear m2_
        have hv := Aside0.mk (show wrap64 (n + (wrap64 (((c.toNat - 128 : Nat) : Int) * w'))) = n + ((c.toNat - 128 : Nat) : Int) * w' by
          rw [m2.out, wrap_id _ (by omega) (by omega)])
        have hwp1 := Aside0.mk (show wrap64 ((p : Int) + 1) = ((p + 1 : Nat) : Int) by rw [wrap_id _ (by omega) (by omega)]; omega)
        simp only [aquiferref04_Decode.l1]
        rw [if_pos g1, if_pos hwp.out, if_pos g2, if_pos g3, hcc.out, hv.out, hwp1.out]
        refine ih (p + 1) _ (w' * 128) _ (k + 2) (by omega) (by omega) (by omega) ?_ hnone hsome (by omega)
        intro hf1
        have hb2 : bnd (f + 1) = bnd f / 128 := rfl
        obtain ⟨g, rfl⟩ : ∃ g, f = g + 1 := ⟨f - 1, by omega⟩
        have hb3 := (bnd_le g).2
        exact ⟨wrap_id _ (by omega) (by omega), by omega, by omega, by omega, by omega⟩
    · have hnil : s.data.toList.drop p = [] := List.drop_of_length_le (by omega)
      rw [hnil] at hnone
      rw [hnone rfl]
      have hj := j2_out k s out (at_ : Int) n w' (p : Int) (tg : Int) (kd : Int) 0 ⟨#[]⟩ (.inl (by omega))
      simp only [aquiferref04_Decode.l1]
      rw [if_neg (show ¬ (p : Int) < (s.size : Int) by omega), hj]
end Go.Proofs.Ytjaneipklpgnlaa.Q

namespace Go.Proofs.Ytjaneipklpgnlaa.Q
open Go Go.RowKit Go.Proofs.YtjaneipklpgnlaaW.PrintWords Go.Proofs.YtjaneipklpgnlaaW.PrintLast Go.Proofs.YtjaneipklpgnlaaW.PrintMore
set_option linter.unusedSimpArgs false
set_option linter.unusedVariables false
theorem extract_toList (s : ByteArray) (a b : Nat) : (s.extract a b).toList = (s.data.toList.drop a).take (b - a) := by
  rw [ByteArray.toList_eq, ByteArray.data_extract, Array.toList_extract, List.extract_eq_take_drop]
theorem extract_mkS (s : ByteArray) (a b : Nat) : s.extract a b = mkS ((s.data.toList.drop a).take (b - a)) := by
  rw [← mkS_data (s.extract a b), ← ByteArray.toList_eq, extract_toList]
theorem tag_tdiv (c : Nat) (hc : c < 256) : wrap64 (Int.tdiv (wrap64 (c : Int)) 2) = ((c / 2 : Nat) : Int) ∧ Int.tmod (wrap64 (c : Int)) 2 = ((c % 2 : Nat) : Int) := by
  rw [wrap_id (c : Int) (by omega) (by omega), Int.tdiv_eq_ediv_of_nonneg (by omega), Int.tmod_eq_emod_of_nonneg (by omega)]
  refine ⟨?_, by omega⟩
  rw [wrap_id _ (by omega) (by omega)]
  omega
theorem mul9 : (1 : Int) * 128 ^ 9 = 9223372036854775808 := by decide +kernel
/-- Behind the number: the field is told, or refused. -/
theorem j4_ok (s : ByteArray) (hs : s.size ≤ 65536) (out : List S84) (p : Nat) (c : UInt8) (t u pre : List UInt8) (v : Int) (k : Nat) (hk : 20 ≤ k) (hout : out.length ≤ 65536) (hd : s.data.toList.drop p = c :: t) (hp : p < s.size) (ht : t = pre ++ u) (hv0 : 0 ≤ v) (hv : v < 9223372036854775808) (m : Nat)
    (hnext : ∀ out' u', (∃ q, u = q ++ u') → out'.length = out.length + 1 → aquiferref04_Decode.l0 k s out' ((s.size - u'.length : Nat) : Int) = some (refD s m out' u')) :
    aquiferref04_Decode.j4 (k + 1) s out (p : Int) v ((s.size - u.length : Nat) : Int) (jb ((c.toNat % 2 : Nat) : Int) v (u.length : Int)) ((c.toNat / 2 : Nat) : Int) ((c.toNat % 2 : Nat) : Int) 0 (⟨#[]⟩ : ByteArray) =
      some (if c.toNat % 2 = 0 then (if t = u8 (numB v.toNat) ++ u then refD s m (out ++ [⟨(c.toNat / 2 : Nat), (c.toNat % 2 : Nat), v, mkS []⟩]) u else ([], 5))
        else if v > (u.length : Int) then ([], 5)
        else if t = u8 (numB v.toNat) ++ u then refD s m (out ++ [⟨(c.toNat / 2 : Nat), (c.toNat % 2 : Nat), 0, mkS (u.take v.toNat)⟩]) (u.drop v.toNat) else ([], 5)) := by
  have hsl : s.data.toList.length = s.size := by simp
  have hcl := c.toNat_lt
  have hlen : s.size - p = t.length + 1 := by
    have := congrArg List.length hd
    rw [List.length_drop, hsl] at this
    simpa using this
  have hlt : t.length = pre.length + u.length := by rw [ht, List.length_append]
  have hc0 : UInt8.ofNat ((c.toNat : Int)).toNat = c := by simp
  obtain ⟨n, rfl⟩ := Int.eq_ofNat_of_zero_le hv0
  rw [Int.toNat_natCast]
  by_cases e : c.toNat % 2 = 0
  · have e' : ((c.toNat % 2 : Nat) : Int) = 0 := by omega
    have hb := bytes_gen k (by omega) c (n : Int) ⟨#[]⟩ (by omega) hv (by decide)
    rw [if_pos e'] at hb
    have hj : jb ((c.toNat % 2 : Nat) : Int) (n : Int) (u.length : Int) = false := by unfold jb; rw [if_neg (by omega)]
    have hx : (s.extract p (s.size - u.length)).toList = c :: pre := by
      rw [extract_toList, hd, ht, show s.size - u.length - p = pre.length + 1 by omega, List.take_succ_cons, List.take_left]
    have hy : (strOfNums ((c.toNat : Int) :: numB n)).toList = c :: u8 (numB n) := by
      rw [strOf, toList_mkS, u8_cons, hc0]
    simp only [aquiferref04_Decode.j4]
    rw [hj, if_neg (by decide), if_pos e', hb, Option.bind_some, if_pos (by omega), if_pos (by omega), if_pos (by omega), Int.toNat_natCast, Int.toNat_natCast, Int.toNat_natCast, hx, hy, if_pos e]
    by_cases hh : t = u8 (numB n) ++ u
    · have hpre : u8 (numB n) = pre := by
        rw [ht] at hh
        exact (List.append_cancel_right hh).symm
      rw [if_pos (by rw [hpre]), if_pos hh, if_pos (by omega)]
      exact hnext _ u ⟨[], rfl⟩ (by simp)
    · rw [if_neg hh, if_neg]
      intro h
      injection h with _ h
      exact hh (by rw [ht, h])
  · have e' : ¬ ((c.toNat % 2 : Nat) : Int) = 0 := by omega
    have e1 : ((c.toNat % 2 : Nat) : Int) = 1 := by omega
    rw [if_neg e]
    by_cases hn : (n : Int) > (u.length : Int)
    · have hj : jb ((c.toNat % 2 : Nat) : Int) (n : Int) (u.length : Int) = true := by unfold jb; rw [if_pos e1, decide_eq_true hn]
      simp only [aquiferref04_Decode.j4]
      rw [hj, if_pos rfl, if_pos hn]
    · have hj : jb ((c.toNat % 2 : Nat) : Int) (n : Int) (u.length : Int) = false := by unfold jb; rw [if_pos e1, decide_eq_false hn]
      rw [if_neg hn]
      have hw := Aside0.mk (show wrap64 (((s.size - u.length : Nat) : Int) + (n : Int)) = ((s.size - u.length + n : Nat) : Int) by rw [wrap_id _ (by omega) (by omega)]; omega)
      have hdu : s.data.toList.drop (s.size - u.length) = u := by
        have h1 : s.data.toList.drop (s.size - u.length) = (s.data.toList.drop p).drop (s.size - u.length - p) := by rw [List.drop_drop, show p + (s.size - u.length - p) = s.size - u.length by omega]
        rw [h1, hd, ht, show s.size - u.length - p = pre.length + 1 by omega, List.drop_succ_cons, List.drop_left]
      have hX : s.extract (s.size - u.length) (s.size - u.length + n) = mkS (u.take n) := by
        rw [extract_mkS, hdu, show s.size - u.length + n - (s.size - u.length) = n by omega]
      have hXs : (mkS (u.take n)).size = n := by rw [size_mkS, List.length_take]; omega
      have hb := bytes_gen k (by omega) c 0 (mkS (u.take n)) (by omega) (by omega) (by omega)
      rw [if_neg e', hXs] at hb
      have hx : (s.extract p (s.size - u.length + n)).toList = c :: (pre ++ u.take n) := by
        rw [extract_toList, hd, ht, show s.size - u.length + n - p = (pre.length + n) + 1 by omega, List.take_succ_cons, List.take_length_add_append]
      have hy : (strOfNums ((c.toNat : Int) :: (numB n ++ bytesOf (mkS (u.take n))))).toList = c :: (u8 (numB n) ++ u.take n) := by
        rw [strOf, toList_mkS, u8_cons, u8_append, u8_bytes, data_mkS, hc0]
      simp only [aquiferref04_Decode.j4]
      rw [hj, if_neg (by decide), if_neg e', hw.out, if_pos (by omega), if_pos (by omega), if_pos (by omega), Int.toNat_natCast, Int.toNat_natCast, hX, hb, Option.bind_some, if_pos (by omega), if_pos (by omega), Int.toNat_natCast, hx, hy]
      by_cases hh : t = u8 (numB n) ++ u
      · have hpre : u8 (numB n) = pre := by
          rw [ht] at hh
          exact (List.append_cancel_right hh).symm
        rw [if_pos (by rw [hpre]), if_pos hh, if_pos (by omega)]
        have := hnext (out ++ [⟨(c.toNat / 2 : Nat), (c.toNat % 2 : Nat), 0, mkS (u.take n)⟩]) (u.drop n) ⟨u.take n, (List.take_append_drop _ _).symm⟩ (by simp)
        rw [show s.size - (u.drop n).length = s.size - u.length + n by rw [List.length_drop]; omega] at this
        exact this
      · rw [if_neg hh, if_neg]
        intro h
        injection h with _ h
        exact hh (by rw [ht, List.append_cancel_right h])
theorem l0_ok (s : ByteArray) (hs : s.size ≤ 65536) (m : Nat) : ∀ (out : List S84) (l : List UInt8) (k : Nat), (∃ q, s.data.toList = q ++ l) → l.length < m → out.length + l.length ≤ 65536 → 20 * m + 2 * 65536 + 100 ≤ k →
    aquiferref04_Decode.l0 k s out ((s.size - l.length : Nat) : Int) = some (refD s m out l) := by
  have hsl : s.data.toList.length = s.size := by simp
  induction m with
  | zero => intro out l k _ h; omega
  | succ m ih =>
    intro out l k hq hm hout hk
    obtain ⟨k, rfl⟩ : ∃ g, k = g + 1 := ⟨k - 1, by omega⟩
    obtain ⟨q, hq⟩ := hq
    have hql : q.length + l.length = s.size := by rw [← hsl, hq, List.length_append]
    cases l with
    | nil =>
      simp only [aquiferref04_Decode.l0]
      simp only [List.length_nil] at hout ⊢
      rw [if_neg (by omega), ref_fn out (by omega) k (by omega), Option.bind_some]
      show _ = some (if (encGo out 0 []).2 = 0 ∧ (encGo out 0 []).1.toList = s.toList then (out, (0 : Int)) else ([], 5))
      by_cases h1 : (encGo out 0 []).2 = 0
      · rw [if_pos h1]
        by_cases h2 : (encGo out 0 []).1.toList = s.toList
        · rw [if_pos h2, if_pos ⟨h1, h2⟩]
        · rw [if_neg h2, if_neg (fun h => h2 h.2)]
      · rw [if_neg h1, if_neg (fun h => h1 h.1)]
    | cons c t =>
      have hcl := c.toNat_lt
      simp only [List.length_cons] at hql hm hout
      obtain ⟨p, hp⟩ : ∃ p, s.size - (c :: t).length = p := ⟨_, rfl⟩
      have hpq : p = q.length := by rw [← hp, List.length_cons]; omega
      have hd : s.data.toList.drop p = c :: t := by rw [hq, hpq, List.drop_left]
      have hps : p < s.size := by omega
      have hbt : bt s (p : Int) = (c.toNat : Int) := by
        rw [bt_nat s p (by omega)]
        have h1 := List.drop_eq_getElem_cons (show p < s.data.toList.length by omega)
        rw [hd] at h1
        injection h1 with h1 _
        rw [← h1]
      have hp1 := Aside0.mk (show wrap64 ((p : Int) + 1) = ((p + 1 : Nat) : Int) by rw [wrap_id _ (by omega) (by omega)]; omega)
      have E := Aside0.mk (tag_tdiv c.toNat hcl)
      have hd1 : s.data.toList.drop (p + 1) = t := by
        have : s.data.toList.drop (p + 1) = (s.data.toList.drop p).drop 1 := by rw [List.drop_drop]
        rw [this, hd]
        rfl
      simp only [aquiferref04_Decode.l0]
      rw [hp, if_pos (by omega), if_pos (by omega), hbt, E.out.1, E.out.2, hp1.out]
      refine l1_ok s hs out p (c.toNat / 2) (c.toNat % 2) _ (20 * m + 2 * 65536 + 101) 9 (p + 1) 0 1 1 k (by omega) (by omega) (by omega) (fun _ => ⟨rfl, by decide, by decide, by decide, by decide⟩) ?_ ?_ (by omega)
      · intro h
        rw [hd1] at h
        rw [refD, h]
      · intro v u h k' hk'
        rw [hd1] at h
        obtain ⟨pre, ht, hpre, hv0⟩ := refN_pre 9 1 0 v t u h (by decide) (by decide)
        have hv := refN_lt 9 1 0 v t u h (by decide) (by decide)
        rw [mul9] at hv
        obtain ⟨k', rfl⟩ : ∃ g, k' = g + 1 := ⟨k' - 1, by omega⟩
        have hlt : t.length = pre.length + u.length := by rw [ht, List.length_append]
        rw [refD, h]
        refine j4_ok s hs out p c t u pre v k' (by omega) (by omega) hd hps ht hv0 hv m ?_
        intro out' u' hu ho
        obtain ⟨q', hu⟩ := hu
        have hul : u.length = q'.length + u'.length := by rw [hu, List.length_append]
        exact ih out' u' k' ⟨q ++ c :: pre ++ q', by rw [hq, ht, hu]; simp⟩ (by omega) (by omega) (by omega)
theorem refdec_fn (s : ByteArray) (hs : s.size ≤ 65536) (k : Nat) (hk : 20 * (s.size + 1) + 2 * 65536 + 100 ≤ k) : aquiferref04_Decode.f k s = some (decS s) := by
  have hsl : s.data.toList.length = s.size := by simp
  unfold aquiferref04_Decode.f
  rw [if_neg (by omega)]
  have := l0_ok s hs (s.size + 1) [] s.data.toList k ⟨[], rfl⟩ (by omega) (by simp only [List.length_nil]; omega) hk
  rw [hsl, Nat.sub_self] at this
  rw [← refD_dec s hs (s.size + 1) (by omega)]
  exact this
end Go.Proofs.Ytjaneipklpgnlaa.Q

namespace Go.Proofs.Ytjaneipklpgnlaa.Q
open Go Go.RowKit Go.Proofs.YtjaneipklpgnlaaW.PrintWords Go.Proofs.YtjaneipklpgnlaaW.PrintLast Go.Proofs.YtjaneipklpgnlaaW.PrintMore
set_option linter.unusedSimpArgs false
set_option linter.unusedVariables false
/-! ### The reference's requests -/
theorem rnum_not (n : Int) : aquiferref20_num.f n = some (!badN n) := by
  unfold aquiferref20_num.f badN
  by_cases h : n ≥ 0
  · rw [if_pos h]
    have e1 : decide (n < 0) = false := decide_eq_false (by omega)
    have e2 : decide (n > 4611686018427387904) = !decide (n ≤ 4611686018427387904) := by
      by_cases h2 : n ≤ 4611686018427387904
      · rw [decide_eq_true h2, decide_eq_false (by omega)]; rfl
      · rw [decide_eq_false h2, decide_eq_true (by omega)]; rfl
    rw [e1, e2]
    simp
  · rw [if_neg h, decide_eq_true (show n < 0 by omega)]
    rfl
theorem refcheck_fn (r : S23) : aquiferref20_CheckRequest.f r.f0 r.f1 r.f2 r.f3 r.f4 r.f5 r.f6 r.f7 = some (if reqOk r = true then 0 else 2) := by
  unfold aquiferref20_CheckRequest.f
  simp only [rnum_not, Option.bind_some]
  by_cases h1 : r.f0 < 1
  · rw [if_pos h1]
    have hk : reqOk r = false := by unfold reqOk; rw [decide_eq_false (show ¬ 1 ≤ r.f0 by omega)]; simp
    rw [hk]
    rfl
  · rw [if_neg h1]
    by_cases h2 : r.f0 > 8
    · rw [if_pos h2]
      have hk : reqOk r = false := by unfold reqOk; rw [decide_eq_false (show ¬ r.f0 ≤ 8 by omega)]; simp
      rw [hk]
      rfl
    · rw [if_neg h2]
      have hk : reqOk r = (!badN r.f1 && (!badN r.f2 && (!badN r.f3 && (!badN r.f4 && (!badN r.f5 && (!badT r.f6 && !badT r.f7)))))) := by
        unfold reqOk
        rw [decide_eq_true (show 1 ≤ r.f0 by omega), decide_eq_true (show r.f0 ≤ 8 by omega)]
        simp [Bool.and_assoc]
      rw [hk]
      have t6 : badT r.f6 = decide ((r.f6.size : Int) > 4096) := rfl
      have t7 : badT r.f7 = decide ((r.f7.size : Int) > 4096) := rfl
      rw [t6, t7]
      cases badN r.f1 <;> simp
      cases badN r.f2 <;> simp
      cases badN r.f3 <;> simp
      cases badN r.f4 <;> simp
      cases badN r.f5 <;> simp
      by_cases h6 : (r.f6.size : Int) > 4096
      · rw [if_pos (by omega), if_neg (by omega)]
      · rw [if_neg (by omega)]
        by_cases h7 : (r.f7.size : Int) > 4096
        · rw [if_pos (by omega), if_neg (by omega)]
        · rw [if_neg (by omega), if_pos (by omega)]
theorem refnumb_fn (t n : Int) : aquiferref20_number.f t n = some (layN t [n]) := by
  unfold aquiferref20_number.f
  by_cases h : n = 0
  · rw [if_pos h, h]; rfl
  · rw [if_neg h]; simp [layN, h, fldN]
theorem reftext1_fn (t : Int) (s : ByteArray) : aquiferref20_text.f t s = some (layT t [s]) := by
  unfold aquiferref20_text.f
  by_cases h : s.toList = []
  · rw [if_pos h]; simp [layT, h]
  · rw [if_neg h]; simp [layT, h, fldT]
theorem layN_one (t n : Int) : (layN t [n]).length ≤ 1 := layN_len [n] t
theorem layT_one (t : Int) (s : ByteArray) : (layT t [s]).length ≤ 1 := layT_len [s] t
theorem layN_cons (t n : Int) (l : List Int) : layN t (n :: l) = layN t [n] ++ layN (t + 1) l := by simp [layN]
theorem layT_cons (t : Int) (n : ByteArray) (l : List ByteArray) : layT t (n :: l) = layT t [n] ++ layT (t + 1) l := by simp [layT]
theorem refreq_fn (r : S23) (k : Nat) (hk : 100 ≤ k) : aquiferref20_Request.f k r.f0 r.f1 r.f2 r.f3 r.f4 r.f5 r.f6 r.f7 = some (reqS r) := by
  unfold aquiferref20_Request.f
  rw [refcheck_fn, Option.bind_some]
  unfold reqS
  by_cases ho : reqOk r = true
  · rw [if_pos ho, if_pos rfl, if_pos ho]
    have a1 := layN_one 1 r.f0
    have a2 := layN_one 2 r.f1
    have a3 := layN_one 3 r.f2
    have a4 := layN_one 4 r.f3
    have a5 := layN_one 5 r.f4
    have a6 := layN_one 6 r.f5
    have a7 := layT_one 7 r.f6
    have a8 := layT_one 8 r.f7
    simp only [refnumb_fn, reftext1_fn, Option.bind_some]
    rw [if_pos (by omega), if_pos (by simp only [List.length_append]; omega), if_pos (by simp only [List.length_append]; omega), if_pos (by simp only [List.length_append]; omega), if_pos (by simp only [List.length_append]; omega), if_pos (by simp only [List.length_append]; omega), if_pos (by simp only [List.length_append]; omega)]
    have e : layN 1 [r.f0] ++ layN 2 [r.f1] ++ layN 3 [r.f2] ++ layN 4 [r.f3] ++ layN 5 [r.f4] ++ layN 6 [r.f5] ++ layT 7 [r.f6] ++ layT 8 [r.f7] = reqL r := by
      simp only [reqL, layN, layT, List.append_nil, List.append_assoc]
      rfl
    rw [e, ref_fn (reqL r) (by have := reqL_len r; omega) k (by have := reqL_len r; omega)]
    rfl
  · rw [if_neg ho, if_neg (by decide), if_neg ho]
theorem refget_fn (L : List S84) (hl : L.length ≤ 1048576) (t : Int) (k : Nat) (hk : L.length < k) : aquiferref20_get.f k L t = some (getN L t) := by
  unfold aquiferref20_get.f
  rw [refNum_fn L hl t k hk]
  rfl
theorem refword_fn (L : List S84) (hl : L.length ≤ 1048576) (t : Int) (k : Nat) (hk : L.length < k) : aquiferref20_word.f k L t = some (getT L t) := by
  unfold aquiferref20_word.f
  rw [refText_fn L hl t k hk]
  rfl
def flatR (p : S23 × Int) : Int × Int × Int × Int × Int × Int × ByteArray × ByteArray × Int := (p.1.f0, p.1.f1, p.1.f2, p.1.f3, p.1.f4, p.1.f5, p.1.f6, p.1.f7, p.2)
theorem read_fn (s : ByteArray) : talk_ReadRequest.f s = some (flatR (rrS s)) := rfl
theorem refread_fn (s : ByteArray) (hs : s.size ≤ 65536) (k : Nat) (hk : 20 * (s.size + 1) + 2000000 ≤ k) : aquiferref20_ReadRequest.f k s = some (flatR (rrS s)) := by
  have hl := dec_len s
  unfold aquiferref20_ReadRequest.f
  rw [refdec_fn s hs k (by omega), Option.bind_some]
  unfold rrS
  by_cases hd : (decS s).2 = 0
  · rw [if_pos hd, if_pos hd]
    simp only [refget_fn (decS s).1 hl _ k (by omega), refword_fn (decS s).1 hl _ k (by omega), Option.bind_some]
    have hr : aquiferref20_Request.f k (getN (decS s).1 1) (getN (decS s).1 2) (getN (decS s).1 3) (getN (decS s).1 4) (getN (decS s).1 5) (getN (decS s).1 6) (getT (decS s).1 7) (getT (decS s).1 8) = some (reqS (reqOf (decS s).1)) := refreq_fn (reqOf (decS s).1) k (by omega)
    rw [hr, Option.bind_some]
    by_cases h2 : (reqS (reqOf (decS s).1)).2 = 0
    · rw [if_pos h2]
      by_cases h3 : (reqS (reqOf (decS s).1)).1.toList = s.toList
      · rw [if_pos h3, if_pos (And.intro h2 h3)]
        rfl
      · have h4 : ¬ ((reqS (reqOf (decS s).1)).2 = 0 ∧ (reqS (reqOf (decS s).1)).1.toList = s.toList) := fun h => h3 h.2
        rw [if_neg h3, if_neg h4]
        rfl
    · have h4 : ¬ ((reqS (reqOf (decS s).1)).2 = 0 ∧ (reqS (reqOf (decS s).1)).1.toList = s.toList) := fun h => h2 h.1
      rw [if_neg h2, if_neg h4]
      rfl
  · rw [if_neg hd, if_neg hd]
    rfl
theorem tworks_fn : aquiferlaw20_works.f = some true := by
  unfold aquiferlaw20_works.f talk_Request.f
  decide +kernel
def cutR (r : S23) : S23 := ⟨r.f0, r.f1, r.f2, r.f3, r.f4, r.f5, r.f6.extract 0 (mn (r.f6.size : Int) 4100).toNat, r.f7.extract 0 (mn (r.f7.size : Int) 4100).toNat⟩
theorem few_fn (r : S23) : aquiferlaw20_few.f r.f0 r.f1 r.f2 r.f3 r.f4 r.f5 r.f6 r.f7 = some ((cutR r).f0, (cutR r).f1, (cutR r).f2, (cutR r).f3, (cutR r).f4, (cutR r).f5, (cutR r).f6, (cutR r).f7) := by
  have h6 : 0 ≤ mn (r.f6.size : Int) 4100 ∧ mn (r.f6.size : Int) 4100 ≤ (r.f6.size : Int) := by unfold mn; split <;> omega
  have h7 : 0 ≤ mn (r.f7.size : Int) 4100 ∧ mn (r.f7.size : Int) 4100 ≤ (r.f7.size : Int) := by unfold mn; split <;> omega
  unfold aquiferlaw20_few.f
  rw [if_pos h6.1, if_pos h6.2, if_pos h7.1, if_pos h7.2]
  rfl
end Go.Proofs.Ytjaneipklpgnlaa.Q

namespace Go.Proofs.Ytjaneipklpgnlaa.Q
open Go Go.RowKit Go.Proofs.YtjaneipklpgnlaaW.PrintWords Go.Proofs.YtjaneipklpgnlaaW.PrintLast Go.Proofs.YtjaneipklpgnlaaW.PrintMore
set_option linter.unusedSimpArgs false
set_option linter.unusedVariables false
theorem same23 (p : Int × Int × Int × Int × Int × Int × ByteArray × ByteArray × Int) : (p.1 == p.1 && (p.2.1 == p.2.1 && (p.2.2.1 == p.2.2.1 && (p.2.2.2.1 == p.2.2.2.1 && (p.2.2.2.2.1 == p.2.2.2.2.1 && (p.2.2.2.2.2.1 == p.2.2.2.2.2.1 && (p.2.2.2.2.2.2.1.toList == p.2.2.2.2.2.2.1.toList && (p.2.2.2.2.2.2.2.1.toList == p.2.2.2.2.2.2.2.1.toList)))))))) = true := by simp
theorem TalkRequests_pure (x0 : S23) (a1 : ByteArray) (_h0 : good23 x0) (_h1 : a1.size ≤ 140737488351232) : ∃ k, aquiferlaw20_TalkRequests.f k x0.f0 x0.f1 x0.f2 x0.f3 x0.f4 x0.f5 x0.f6 x0.f7 a1 = some true := by
  suffices hh : ∀ k, 3000000 ≤ k → aquiferlaw20_TalkRequests.f k x0.f0 x0.f1 x0.f2 x0.f3 x0.f4 x0.f5 x0.f6 x0.f7 a1 = some true from ⟨3000000, hh 3000000 (Nat.le_refl _)⟩
  intro k hk
  have hm : 0 ≤ mn (a1.size : Int) 9000 ∧ mn (a1.size : Int) 9000 ≤ (a1.size : Int) ∧ mn (a1.size : Int) 9000 ≤ 9000 := by unfold mn; split <;> omega
  unfold aquiferlaw20_TalkRequests.f
  rw [few_fn x0, Option.bind_some, if_pos hm.1, if_pos hm.2.1]
  have hsz : (a1.extract 0 (mn (a1.size : Int) 9000).toNat).size ≤ 9000 := by rw [ByteArray.size_extract]; omega
  generalize a1.extract 0 (mn (a1.size : Int) 9000).toNat = s at hsz
  generalize cutR x0 = r
  have h1 : talk_Request.f r.f0 r.f1 r.f2 r.f3 r.f4 r.f5 r.f6 r.f7 = some (reqS r) := rfl
  simp only [h1, refreq_fn r k (by omega), read_fn, refread_fn s (by omega) k (by omega), check_fn r, refcheck_fn r, Option.bind_some]
  rw [if_pos trivial, if_pos trivial, if_pos trivial, if_pos (same23 (flatR (rrS s))), if_pos trivial, tworks_fn, Option.bind_some]
end Go.Proofs.Ytjaneipklpgnlaa.Q

namespace Go.Proofs.Ytjaneipklpgnlaa.talkRequests
open Go.ChangeShapes Go.WideShapes Go.ChangeAt Go.RowKit Go.Proofs.YtjaneipklpgnlaaK Go.Proofs.YtjaneipklpgnlaaW.PrintWords Go.Proofs.Ytjaneipklpgnlaa.Q
open Go.ChangeMaps (open_string shut_string)
set_option linter.unusedVariables false
theorem own : ownKnob Try.prog.godebug = none := by kernel_rfl
theorem laidOut : laidOutB Try.prog = true := by kernel_rfl
set_option maxRecDepth 100000 in
theorem lifted (os : Os) (started : os.Started) (H : Type) (enc : TypeId × Value → H) :
    ReturnsInHanded {} Try.checked os 3 .any (Rows.talkRequestsSpec.pre6 enc Try.prog Try.f3 Rows.talkRequestsRow.domain false) (Rows.talkRequestsSpec.post enc Try.prog Try.f3 false true false false) := by
  refine returnsInHanded_of_change_sized (C := Try.checked) own started (by kernel_rfl) Try.func3
    (ChangeSpec.witness6 (enc := enc) (C := Try.checked) false ⟨#[], #[.agg #[.int .i64 0, .int .i64 0, .int .i64 0, .int .i64 0, .int .i64 0, .int .i64 0, .string ByteArray.empty, .string ByteArray.empty], .string ByteArray.empty], []⟩ 8 (by kernel_rfl) (by kernel_rfl) (by kernel_rfl) (by kernel_rfl)) ?_
  intro W base args ds gs before hval0 hW hcnd hsz0 _
  have hsz : (DataW.weightsEach Try.prog (Try.f3.params.toList ++ Rows.talkRequestsSpec.plain.varTypes Try.prog) (ds ++ gs)).all (· ≤ reachBytes) = true := hsz0
  have hval : ∀ (j : Nat) t v, Try.f3.params[j]? = some t → args[j]? = some v → Value.okWide Try.prog W .any base t v := hval0
  have hW' := hW
  obtain ⟨p, q, hA0, hV, rfl, hfz, hnd⟩ := hW
  have hA : DataW.TrodAll enc Try.prog W 0 (fun _ => true) true Try.f3.params.toList args.toList ds p := hA0
  rw [Try.params3] at hA hval hsz
  obtain ⟨v0, vs0, d0, ds0, p0, q0, hargs, rfl, rfl, h0, r0⟩ := trodAll_cons hA
  obtain ⟨v1, vs1, d1, ds1, p1, q1, rfl, rfl, rfl, h1, r1⟩ := trodAll_cons r0
  obtain ⟨rfl, rfl, rfl⟩ := trodAll_nil r1
  obtain rfl : args = #[v0, v1] := by cases args; simp_all
  obtain ⟨rfl, rfl⟩ := trodVars_none hV
  obtain ⟨cs0, rfl, hz0⟩ := okWide_struct Try.underlying23 (hval 0 23 v0 rfl rfl)
  have k0 := h0
  have lt0 : ∀ x ∈ p0, x.block < W.heap.size := by obtain ⟨m, hm⟩ := k0; exact DataW.trod_lt m _ _ _ hm
  obtain ⟨x0, hK0, hG0⟩ : ∃ x, k23.K W x cs0.toList ∧ good23 x := by
    obtain ⟨fuel, hf⟩ := h0
    exact opens23 _ _ _ _ _ _ _ _ _ hf
  obtain rfl : cs0 = #[.int .i64 x0.f0, .int .i64 x0.f1, .int .i64 x0.f2, .int .i64 x0.f3, .int .i64 x0.f4, .int .i64 x0.f5, .string x0.f6, .string x0.f7] := by
    have e_ := k23_open hK0
    cases cs0
    exact congrArg Array.mk e_
  obtain ⟨a1, rfl, rfl, rfl, y1⟩ := open_string Try.underlying9 (hval 1 9 v1 rfl rfl) h1
  have w1 : a1.size ≤ 140737488351232 := by
    have z := sized_string hsz (j := 1) (t := 9) rfl rfl
    rw [Array.length_toList] at z
    exact z
  clear hA0 hval0 hsz0 hsz
  obtain ⟨k, hP⟩ := TalkRequests_pure x0 a1 hG0 w1
  refine (aquiferlaw20_TalkRequests.calls k x0.f0 x0.f1 x0.f2 x0.f3 x0.f4 x0.f5 x0.f6 x0.f7 a1 true W  hP).mono fun e W' he0 => ?_
  obtain ⟨rfl, bel0⟩ := he0
  have bel : Below W.heap.size W W' := bel0
  exact ⟨_, rfl, _, _, _, [], _, [], hW', trodAll_mk1 (shut_bool Try.underlying4 _), (trodAll_cons_mk (Below.trod laidOut (by kernel_rfl) (of_decide_eq_true (by kernel_rfl)) k0 bel lt0) (trodAll_cons_mk (shut_string Try.underlying9 y1) trodAll_mk0)), rfl, bel.frame _, fun h => by cases h⟩
theorem over : Rows.talkRequestsRow.holds Try.pinned (OpenSpec.ofChange Rows.talkRequestsSpec) :=
  OpenClaim.holds_of_wide 3 Try.f3 rfl rfl rfl rfl rfl rfl rfl ⟨rfl, rfl, rfl, rfl, rfl⟩ rfl rfl rfl rfl rfl (by kernel_rfl) Try.func3 (by kernel_rfl)
    (of_decide_eq_true (by kernel_rfl)) (by unfold Func.isWrapper; first | (rw [if_pos (by decide +kernel)]; kernel_rfl) | (rw [if_neg (by decide +kernel)]; exact ⟨rfl, rfl⟩))
    (fun os started H enc _ => lifted os started H enc)
theorem proved : Rows.TalkRequestsSaid := over
#print axioms proved
end Go.Proofs.Ytjaneipklpgnlaa.talkRequests
namespace Go.Proofs.Ytjaneipklpgnlaa
/-- The row, under a short name, for the claim. -/
theorem talkRequests_holds : Rows.TalkRequestsSaid := talkRequests.proved
end Go.Proofs.Ytjaneipklpgnlaa
