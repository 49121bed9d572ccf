/- Parts of the proof: Q21, Q23, Q26, Q27, Q28. -/
import Derived.Test.YtjaneipklpgnlaaZTR1
import Derived.Test.YtjaneipklpgnlaaZTR2
import Derived.Test.YtjaneipklpgnlaaZTR3
namespace Go.Proofs.Ytjaneipklpgnlaa.Q
open Go.RowKit Go.Proofs.YtjaneipklpgnlaaW.PrintWords Go.Proofs.YtjaneipklpgnlaaW.PrintLast Go.Proofs.YtjaneipklpgnlaaW.PrintMore Go.Proofs.YtjaneipklpgnlaaK
attribute [local go_sem] max2_int min2_int max_two min_two max_three min_three max_four min_four   -- for this text's walks alone
attribute [local go_sem ↓] Go.Proofs.YtjaneipklpgnlaaK.isSome_setCell
set_option linter.unusedVariables false
set_option linter.unusedSimpArgs false

/-! ### aquiferref04_Decode: function 36 -/
mutual
def aquiferref04_Decode.l0 : Nat → ByteArray → List (S84) → Int → Option ((List (S84)) × Int)
  | 0, _, _, _ => none
  | k + 1, x0, x4, x5 => if x5 < (x0.size : Int) then (if 0 ≤ x5 then (aquiferref04_Decode.l1 k x0 x4 x5 0 1 (wrap64 (x5 + 1)) (wrap64 (Int.tdiv (wrap64 (bt x0 x5)) 2)) (Int.tmod (wrap64 (bt x0 x5)) 2) 0 (⟨#[]⟩ : ByteArray)) else (none)) else ((aquiferref04_Encode.f k x4).bind fun bt245 => (if bt245.2 = 0 then (if bt245.1.toList = x0.toList then (some (x4, 0)) else (some (([] : List (S84)), 5))) else (some (([] : List (S84)), 5))))
def aquiferref04_Decode.j2 : Nat → ByteArray → List (S84) → Int → Int → Int → Int → Int → Int → Int → ByteArray → Option ((List (S84)) × Int)
  | 0, _, _, _, _, _, _, _, _, _, _ => none
  | k + 1, x0, x4, x5, x7, x8, x9, x248000, x248001, x248002, x248003 => if x9 ≥ (x0.size : Int) then (aquiferref04_Decode.j3 k x0 x4 x5 x7 x8 x9 true x248000 x248001 x248002 x248003) else (aquiferref04_Decode.j3 k x0 x4 x5 x7 x8 x9 (decide ((wrap64 (x9 - x5)) ≥ 10)) x248000 x248001 x248002 x248003)
def aquiferref04_Decode.j3 : Nat → ByteArray → List (S84) → Int → Int → Int → Int → Bool → Int → Int → Int → ByteArray → Option ((List (S84)) × Int)
  | 0, _, _, _, _, _, _, _, _, _, _, _ => none
  | k + 1, x0, x4, x5, x7, x8, x9, x70, x248000, x248001, x248002, x248003 => if x70 = true then (some (([] : List (S84)), 5)) else (if 0 ≤ x9 then (if x9 < (x0.size : Int) then (if (wrap64 (x7 + (wrap64 ((wrap64 (bt x0 x9)) * x8)))) < 0 then (aquiferref04_Decode.j4 k x0 x4 x5 (wrap64 (x7 + (wrap64 ((wrap64 (bt x0 x9)) * x8)))) (wrap64 (x9 + 1)) true x248000 x248001 x248002 x248003) else (if x248001 = 1 then (aquiferref04_Decode.j4 k x0 x4 x5 (wrap64 (x7 + (wrap64 ((wrap64 (bt x0 x9)) * x8)))) (wrap64 (x9 + 1)) (decide ((wrap64 (x7 + (wrap64 ((wrap64 (bt x0 x9)) * x8)))) > (wrap64 ((x0.size : Int) - (wrap64 (x9 + 1)))))) x248000 x248001 x248002 x248003) else (aquiferref04_Decode.j4 k x0 x4 x5 (wrap64 (x7 + (wrap64 ((wrap64 (bt x0 x9)) * x8)))) (wrap64 (x9 + 1)) false x248000 x248001 x248002 x248003))) else (none)) else (none))
def aquiferref04_Decode.j4 : Nat → ByteArray → List (S84) → Int → Int → Int → Bool → Int → Int → Int → ByteArray → Option ((List (S84)) × Int)
  | 0, _, _, _, _, _, _, _, _, _, _ => none
  | k + 1, x0, x4, x5, x7, x9, x95, x248000, x248001, x248002, x248003 => if x95 = true then (some (([] : List (S84)), 5)) else (if x248001 = 0 then ((aquiferref04_bytes.f k x248000 x248001 x7 x248003).bind fun t248 => (if 0 ≤ x5 then (if x5 ≤ x9 then (if x9 ≤ (x0.size : Int) then (if (strOfNums t248).toList = (x0.extract (x5 : Int).toNat (x9 : Int).toNat).toList then (if x4.length < 3518437208883 then (aquiferref04_Decode.l0 k x0 (x4 ++ [(⟨x248000, x248001, x7, x248003⟩ : S84)]) x9) else (none)) else (some (([] : List (S84)), 5))) else (none)) else (none)) else (none))) else (if 0 ≤ x9 then (if x9 ≤ (wrap64 (x9 + x7)) then (if (wrap64 (x9 + x7)) ≤ (x0.size : Int) then ((aquiferref04_bytes.f k x248000 x248001 x248002 (x0.extract (x9 : Int).toNat ((wrap64 (x9 + x7)) : Int).toNat)).bind fun t254 => (if 0 ≤ x5 then (if x5 ≤ (wrap64 (x9 + x7)) then (if (strOfNums t254).toList = (x0.extract (x5 : Int).toNat ((wrap64 (x9 + x7)) : Int).toNat).toList then (if x4.length < 3518437208883 then (aquiferref04_Decode.l0 k x0 (x4 ++ [(⟨x248000, x248001, x248002, x0.extract (x9 : Int).toNat ((wrap64 (x9 + x7)) : Int).toNat⟩ : S84)]) (wrap64 (x9 + x7))) else (none)) else (some (([] : List (S84)), 5))) else (none)) else (none))) else (none)) else (none)) else (none)))
def aquiferref04_Decode.l1 : Nat → ByteArray → List (S84) → Int → Int → Int → Int → Int → Int → Int → ByteArray → Option ((List (S84)) × Int)
  | 0, _, _, _, _, _, _, _, _, _, _ => none
  | k + 1, x0, x4, x5, x7, x8, x9, x248000, x248001, x248002, x248003 => if x9 < (x0.size : Int) then (if (wrap64 (x9 - x5)) < 10 then (if 0 ≤ x9 then (if (bt x0 x9) ≥ 128 then (aquiferref04_Decode.l1 k x0 x4 x5 (wrap64 (x7 + (wrap64 ((wrap64 ((wrap64 (bt x0 x9)) - 128)) * x8)))) (wrap64 (x8 * 128)) (wrap64 (x9 + 1)) x248000 x248001 x248002 x248003) else (aquiferref04_Decode.j2 k x0 x4 x5 x7 x8 x9 x248000 x248001 x248002 x248003)) else (none)) else (aquiferref04_Decode.j2 k x0 x4 x5 x7 x8 x9 x248000 x248001 x248002 x248003)) else (aquiferref04_Decode.j2 k x0 x4 x5 x7 x8 x9 x248000 x248001 x248002 x248003)
end
def aquiferref04_Decode.f (k : Nat) (a0 : ByteArray) : Option ((List (S84)) × Int) := if (a0.size : Int) > 65536 then (some (([] : List (S84)), 5)) else (aquiferref04_Decode.l0 k a0 ([] : List (S84)) 0)
theorem aquiferref04_Decode.mono_l : ∀ k, (∀ y0 y1 y2, LeO (aquiferref04_Decode.l0 k y0 y1 y2) (aquiferref04_Decode.l0 (k + 1) y0 y1 y2)) ∧ (∀ y0 y1 y2 y3 y4 y5 y6 y7 y8 y9, LeO (aquiferref04_Decode.j2 k y0 y1 y2 y3 y4 y5 y6 y7 y8 y9) (aquiferref04_Decode.j2 (k + 1) y0 y1 y2 y3 y4 y5 y6 y7 y8 y9)) ∧ (∀ y0 y1 y2 y3 y4 y5 y6 y7 y8 y9 y10, LeO (aquiferref04_Decode.j3 k y0 y1 y2 y3 y4 y5 y6 y7 y8 y9 y10) (aquiferref04_Decode.j3 (k + 1) y0 y1 y2 y3 y4 y5 y6 y7 y8 y9 y10)) ∧ (∀ y0 y1 y2 y3 y4 y5 y6 y7 y8 y9, LeO (aquiferref04_Decode.j4 k y0 y1 y2 y3 y4 y5 y6 y7 y8 y9) (aquiferref04_Decode.j4 (k + 1) y0 y1 y2 y3 y4 y5 y6 y7 y8 y9)) ∧ (∀ y0 y1 y2 y3 y4 y5 y6 y7 y8 y9, LeO (aquiferref04_Decode.l1 k y0 y1 y2 y3 y4 y5 y6 y7 y8 y9) (aquiferref04_Decode.l1 (k + 1) y0 y1 y2 y3 y4 y5 y6 y7 y8 y9))
  | 0 => ⟨fun _ _ _ r h => by simp [aquiferref04_Decode.l0] at h, fun _ _ _ _ _ _ _ _ _ _ r h => by simp [aquiferref04_Decode.j2] at h, fun _ _ _ _ _ _ _ _ _ _ _ r h => by simp [aquiferref04_Decode.j3] at h, fun _ _ _ _ _ _ _ _ _ _ r h => by simp [aquiferref04_Decode.j4] at h, fun _ _ _ _ _ _ _ _ _ _ r h => by simp [aquiferref04_Decode.l1] at h⟩
  | k + 1 => by
    obtain ⟨ih0, ih1, ih2, ih3, ih4⟩ := aquiferref04_Decode.mono_l k
    refine ⟨?_, ?_, ?_, ?_, ?_⟩
    · intro y0 y1 y2
      unfold aquiferref04_Decode.l0
      repeat' first
      | (with_reducible exact ih0 _ _ _)
      | (with_reducible exact ih1 _ _ _ _ _ _ _ _ _ _)
      | (with_reducible exact ih2 _ _ _ _ _ _ _ _ _ _ _)
      | (with_reducible exact ih3 _ _ _ _ _ _ _ _ _ _)
      | (with_reducible exact ih4 _ _ _ _ _ _ _ _ _ _)
      | (with_reducible exact aquiferref04_Encode.mono _ _)
      | (with_reducible exact aquiferref04_bytes.mono _ _ _ _ _)
      | (with_reducible exact LeO.refl _)
      | (with_reducible exact LeO.none _)
      | (with_reducible refine LeO.ite ?_ ?_)
      | (with_reducible refine LeO.bind ?_ (fun _ => ?_))
      | exact ih0 _ _ _
      | exact ih1 _ _ _ _ _ _ _ _ _ _
      | exact ih2 _ _ _ _ _ _ _ _ _ _ _
      | exact ih3 _ _ _ _ _ _ _ _ _ _
      | exact ih4 _ _ _ _ _ _ _ _ _ _
      | exact aquiferref04_Encode.mono _ _
      | exact aquiferref04_bytes.mono _ _ _ _ _
      | exact LeO.none _
      | refine LeO.ite ?_ ?_
      | refine LeO.bind ?_ (fun _ => ?_)
    · intro y0 y1 y2 y3 y4 y5 y6 y7 y8 y9
      unfold aquiferref04_Decode.j2
      repeat' first
      | (with_reducible exact ih0 _ _ _)
      | (with_reducible exact ih1 _ _ _ _ _ _ _ _ _ _)
      | (with_reducible exact ih2 _ _ _ _ _ _ _ _ _ _ _)
      | (with_reducible exact ih3 _ _ _ _ _ _ _ _ _ _)
      | (with_reducible exact ih4 _ _ _ _ _ _ _ _ _ _)
      | (with_reducible exact aquiferref04_Encode.mono _ _)
      | (with_reducible exact aquiferref04_bytes.mono _ _ _ _ _)
      | (with_reducible exact LeO.refl _)
      | (with_reducible exact LeO.none _)
      | (with_reducible refine LeO.ite ?_ ?_)
      | (with_reducible refine LeO.bind ?_ (fun _ => ?_))
      | exact ih0 _ _ _
      | exact ih1 _ _ _ _ _ _ _ _ _ _
      | exact ih2 _ _ _ _ _ _ _ _ _ _ _
      | exact ih3 _ _ _ _ _ _ _ _ _ _
      | exact ih4 _ _ _ _ _ _ _ _ _ _
      | exact aquiferref04_Encode.mono _ _
      | exact aquiferref04_bytes.mono _ _ _ _ _
      | exact LeO.none _
      | refine LeO.ite ?_ ?_
      | refine LeO.bind ?_ (fun _ => ?_)
    · intro y0 y1 y2 y3 y4 y5 y6 y7 y8 y9 y10
      unfold aquiferref04_Decode.j3
      repeat' first
      | (with_reducible exact ih0 _ _ _)
      | (with_reducible exact ih1 _ _ _ _ _ _ _ _ _ _)
      | (with_reducible exact ih2 _ _ _ _ _ _ _ _ _ _ _)
      | (with_reducible exact ih3 _ _ _ _ _ _ _ _ _ _)
      | (with_reducible exact ih4 _ _ _ _ _ _ _ _ _ _)
      | (with_reducible exact aquiferref04_Encode.mono _ _)
      | (with_reducible exact aquiferref04_bytes.mono _ _ _ _ _)
      | (with_reducible exact LeO.refl _)
      | (with_reducible exact LeO.none _)
      | (with_reducible refine LeO.ite ?_ ?_)
      | (with_reducible refine LeO.bind ?_ (fun _ => ?_))
      | exact ih0 _ _ _
      | exact ih1 _ _ _ _ _ _ _ _ _ _
      | exact ih2 _ _ _ _ _ _ _ _ _ _ _
      | exact ih3 _ _ _ _ _ _ _ _ _ _
      | exact ih4 _ _ _ _ _ _ _ _ _ _
      | exact aquiferref04_Encode.mono _ _
      | exact aquiferref04_bytes.mono _ _ _ _ _
      | exact LeO.none _
      | refine LeO.ite ?_ ?_
      | refine LeO.bind ?_ (fun _ => ?_)
    · intro y0 y1 y2 y3 y4 y5 y6 y7 y8 y9
      unfold aquiferref04_Decode.j4
      repeat' first
      | (with_reducible exact ih0 _ _ _)
      | (with_reducible exact ih1 _ _ _ _ _ _ _ _ _ _)
      | (with_reducible exact ih2 _ _ _ _ _ _ _ _ _ _ _)
      | (with_reducible exact ih3 _ _ _ _ _ _ _ _ _ _)
      | (with_reducible exact ih4 _ _ _ _ _ _ _ _ _ _)
      | (with_reducible exact aquiferref04_Encode.mono _ _)
      | (with_reducible exact aquiferref04_bytes.mono _ _ _ _ _)
      | (with_reducible exact LeO.refl _)
      | (with_reducible exact LeO.none _)
      | (with_reducible refine LeO.ite ?_ ?_)
      | (with_reducible refine LeO.bind ?_ (fun _ => ?_))
      | exact ih0 _ _ _
      | exact ih1 _ _ _ _ _ _ _ _ _ _
      | exact ih2 _ _ _ _ _ _ _ _ _ _ _
      | exact ih3 _ _ _ _ _ _ _ _ _ _
      | exact ih4 _ _ _ _ _ _ _ _ _ _
      | exact aquiferref04_Encode.mono _ _
      | exact aquiferref04_bytes.mono _ _ _ _ _
      | exact LeO.none _
      | refine LeO.ite ?_ ?_
      | refine LeO.bind ?_ (fun _ => ?_)
    · intro y0 y1 y2 y3 y4 y5 y6 y7 y8 y9
      unfold aquiferref04_Decode.l1
      repeat' first
      | (with_reducible exact ih0 _ _ _)
      | (with_reducible exact ih1 _ _ _ _ _ _ _ _ _ _)
      | (with_reducible exact ih2 _ _ _ _ _ _ _ _ _ _ _)
      | (with_reducible exact ih3 _ _ _ _ _ _ _ _ _ _)
      | (with_reducible exact ih4 _ _ _ _ _ _ _ _ _ _)
      | (with_reducible exact aquiferref04_Encode.mono _ _)
      | (with_reducible exact aquiferref04_bytes.mono _ _ _ _ _)
      | (with_reducible exact LeO.refl _)
      | (with_reducible exact LeO.none _)
      | (with_reducible refine LeO.ite ?_ ?_)
      | (with_reducible refine LeO.bind ?_ (fun _ => ?_))
      | exact ih0 _ _ _
      | exact ih1 _ _ _ _ _ _ _ _ _ _
      | exact ih2 _ _ _ _ _ _ _ _ _ _ _
      | exact ih3 _ _ _ _ _ _ _ _ _ _
      | exact ih4 _ _ _ _ _ _ _ _ _ _
      | exact aquiferref04_Encode.mono _ _
      | exact aquiferref04_bytes.mono _ _ _ _ _
      | exact LeO.none _
      | refine LeO.ite ?_ ?_
      | refine LeO.bind ?_ (fun _ => ?_)
theorem aquiferref04_Decode.mono : ∀ a0 k, LeO (aquiferref04_Decode.f k a0) (aquiferref04_Decode.f (k + 1) a0) := by
  intro a0 k
  obtain ⟨ih0, ih1, ih2, ih3, ih4⟩ := aquiferref04_Decode.mono_l k
  unfold aquiferref04_Decode.f
  repeat' first
      | (with_reducible exact ih0 _ _ _)
      | (with_reducible exact ih1 _ _ _ _ _ _ _ _ _ _)
      | (with_reducible exact ih2 _ _ _ _ _ _ _ _ _ _ _)
      | (with_reducible exact ih3 _ _ _ _ _ _ _ _ _ _)
      | (with_reducible exact ih4 _ _ _ _ _ _ _ _ _ _)
      | (with_reducible exact aquiferref04_Encode.mono _ _)
      | (with_reducible exact aquiferref04_bytes.mono _ _ _ _ _)
      | (with_reducible exact LeO.refl _)
      | (with_reducible exact LeO.none _)
      | (with_reducible refine LeO.ite ?_ ?_)
      | (with_reducible refine LeO.bind ?_ (fun _ => ?_))
      | exact ih0 _ _ _
      | exact ih1 _ _ _ _ _ _ _ _ _ _
      | exact ih2 _ _ _ _ _ _ _ _ _ _ _
      | exact ih3 _ _ _ _ _ _ _ _ _ _
      | exact ih4 _ _ _ _ _ _ _ _ _ _
      | exact aquiferref04_Encode.mono _ _
      | exact aquiferref04_bytes.mono _ _ _ _ _
      | exact LeO.none _
      | refine LeO.ite ?_ ?_
      | refine LeO.bind ?_ (fun _ => ?_)
def aquiferref04_Decode.T6 : Bool × List (List Nat × List Nat) := (true, [([], []), ([], []), ([0, 1], [0, 1]), ([2], [2]), ([3], [3]), ([], []), ([], []), ([5, 6], [5, 6]), ([7], [7]), ([8], [8]), ([4, 9], [4, 9]), ([], []), ([11, 10, 0, 1, 2, 3, 4, 5, 6, 7, 8, 9, 10, 11], [10, 11])])
def aquiferref04_Decode.B6 : List Nat := [0, 0, 3, 7, 15, 0, 0, 96, 224, 480, 1023, 0, 4095]
theorem aquiferref04_Decode.tab6 : rtab .any (opsOf Try.f36 6) = aquiferref04_Decode.T6 := by kernel_rfl
theorem aquiferref04_Decode.bits6 : waitsOk aquiferref04_Decode.T6.2 aquiferref04_Decode.B6 = true := by kernel_rfl
def aquiferref04_Decode.T24 : Bool × List (List Nat × List Nat) := (true, [([], []), ([0], [0]), ([1], [1]), ([], []), ([], []), ([], []), ([3, 4, 5], [3, 4, 5]), ([2, 6], [2, 6])])
def aquiferref04_Decode.B24 : List Nat := [0, 1, 3, 0, 0, 0, 56, 127]
theorem aquiferref04_Decode.tab24 : rtab .any (opsOf Try.f36 24) = aquiferref04_Decode.T24 := by kernel_rfl
theorem aquiferref04_Decode.bits24 : waitsOk aquiferref04_Decode.T24.2 aquiferref04_Decode.B24 = true := by kernel_rfl
set_option maxHeartbeats 8000000 in
set_option maxRecDepth 100000 in
theorem aquiferref04_Decode.calls (k : Nat) (a0 : ByteArray) (r1 : List (S84)) (r2 : Int) (w : World) (h : aquiferref04_Decode.f k a0 = some (r1, r2)) :
    Calls Try.prog 36 #[.string a0] w fun e w' => ∃ v0_ : Value, e = .returned (.tuple #[v0_, .int .i64 r2]) ∧ Kd.R k84 84 w' w.heap.size (fun _ => True) v0_ r1 ∧ Below w.heap.size w w' := by
  have hu84 := Try.underlying84
  have HB := Aside0.mk (Below.refl w.heap.size w)
  have H : (if (a0.size : Int) > 65536 then (some (([] : List (S84)), 5)) else (aquiferref04_Decode.l0 k a0 ([] : List (S84)) 0)) = some (r1, r2) := h
  clear h
  by_cases c2 : (a0.size : Int) > 65536
  · rw [if_pos c2] at H
    have c2b0 : decide (65536 < (a0.size : Int)) = true := decide_eq_true c2
    have c2b1 : decide (65536 < a0.size) = true := decide_eq_true (by omega)
    clear c2
    simp only [Option.some.injEq, Prod.mk.injEq] at H
    obtain ⟨rfl, rfl⟩ := H
    go_enter Try.func36, Try.ntmps36
    go_wp2
    go_ret2
    exact ⟨_, by first | rfl | (simp [errW_none, errW_some] <;> rfl) | (simp [*, errW_none, errW_some] <;> rfl), by first | exact Kd.R_nil _ _ _ _ _ | exact Kd.N_nil _ _ _ _ _ | exact Kd.V_nil _ _ _ _ _ | exact Kd.Q_nil _ _ _ _ _ | exact Kd.S_nil _ _ _ _ _, belU HB.out⟩
  · rw [if_neg c2] at H
    have c2b0 : decide (65536 < (a0.size : Int)) = false := decide_eq_false c2
    have c2b1 : decide (65536 < a0.size) = false := decide_eq_false (by omega)
    clear c2
    have H' := Aside0.mk H
    clear H
    go_enter Try.func36, Try.ntmps36
    go_wp2
    go_loopg [4, 5] k (fun kq v4 v5 w' => ∃ (x4_1 : List (S84)) (x5_1 : Int), v5 = .int .i64 x5_1 ∧ Aside0 (aquiferref04_Decode.l0 kq a0 x4_1 x5_1 = some (r1, r2)) ∧ Aside0 (kq ≤ k) ∧ Aside0 (Kd.R k84 84 w' w.heap.size (fun _ => True) v4 x4_1) ∧ Aside0 (Below w.heap.size w w'))
    case atStart => exact ⟨(([] : List (S84))), (0), (by first | rfl | (simp; done) | (simp [*]; done)), H', ⟨Nat.le_refl _⟩, ⟨by first | exact Kd.R_nil _ _ _ _ _ | exact Kd.N_nil _ _ _ _ _ | exact Kd.V_nil _ _ _ _ _ | exact Kd.Q_nil _ _ _ _ _ | exact Kd.S_nil _ _ _ _ _⟩, ⟨belU HB.out⟩⟩
    case round =>
      clear H'
      try clear c2
      try clear c2b0
      try clear c2b1
      try clear p2
      obtain ⟨x4_1, x5_1, rfl, HA, HK1, HO_4, HB⟩ := hrel
      cases gk with
      | zero => exact absurd HA.out (by simp [aquiferref04_Decode.l0])
      | succ k1 =>
        have H := HA.out
        clear HA
        simp only [aquiferref04_Decode.l0] at H
        by_cases c3 : x5_1 < (a0.size : Int)
        · rw [if_pos c3] at H
          have c3b0 : decide (x5_1 < (a0.size : Int)) = true := decide_eq_true c3
          clear c3
          by_cases c4 : 0 ≤ x5_1
          · rw [if_pos c4] at H
            have c4b0 : decide (0 ≤ x5_1) = true := decide_eq_true c4
            clear c4
            have HC7 := Aside0.mk H
            clear H
            try go_wp2
            have n0_ := Aside0.mk (Kd.R_drew HO_4.out)
            have n1_ := Aside0.mk (below_drew1 HB.out)
            clear HO_4
            clear HB
            have HO_4 := n0_
            have HB := n1_
            clear n0_ n1_
            have p5 : 0 ≤ (x5_1 : Int) := of_decide_eq_true (by first | (with_reducible assumption) | assumption)
            have q5 : x5_1 < (a0.size : Int) := of_decide_eq_true (by first | (with_reducible assumption) | assumption)
            have hx5 := bt_at a0 x5_1
            replace p5 := eq_true p5
            replace q5 := eq_true q5
            have p6 : 0 ≤ (x5_1 : Int) := of_decide_eq_true (by first | (with_reducible assumption) | assumption)
            have q6 : x5_1 < (a0.size : Int) := of_decide_eq_true (by first | (with_reducible assumption) | assumption)
            have hx6 := bt_at a0 x5_1
            replace p6 := eq_true p6
            replace q6 := eq_true q6
            refine start_ (n := 13) (S := fun w' => True) (ds := []) #[false, false, false, false, false, false, false, false, false, false, false, false, false] (by kernel_rfl) rfl rfl trivial (fun hHeld => ?_); refine with_tabW aquiferref04_Decode.tab6 aquiferref04_Decode.bits6 (fun HT_ HW_ => ?_)
            generalize wr.drew = w8 at HO_4 HB hHeld ⊢
            refine pure_ (i := 0) (N := some 19) (v := ?_) (a' := ?_) #[true, false, false, false, false, false, false, false, false, false, false, false, false] rfl rfl (any_of HT_.out (by kernel_rfl)) (fun _ _ _ h => h) (Or.inl ⟨by rfl, ?_⟩) ?_ ?_
            rotate_left
            · intro w'
              go_simp
              with_reducible rfl
            rotate_left
            · simp only [Act.put, List.setIfInBounds_toArray, List.set_cons_zero, List.set_cons_succ, i64_w, i32_w]
              rfl
            refine pure_ (i := 1) (N := some 20) (v := ?_) (a' := ?_) #[true, true, false, false, false, false, false, false, false, false, false, false, false] rfl rfl (any_of HT_.out (by kernel_rfl)) (fun _ _ _ h => h) (Or.inl ⟨by rfl, ?_⟩) ?_ ?_
            rotate_left
            · intro w'
              go_simp
              with_reducible rfl
            rotate_left
            · simp only [Act.put, List.setIfInBounds_toArray, List.set_cons_zero, List.set_cons_succ, i64_w, i32_w]
              rfl
            refine pure_ (i := 5) (N := some 24) (v := ?_) (a' := ?_) #[true, true, false, false, false, true, false, false, false, false, false, false, false] rfl rfl (any_of HT_.out (by kernel_rfl)) (fun _ _ _ h => h) (Or.inl ⟨by rfl, ?_⟩) ?_ ?_
            rotate_left
            · intro w'
              go_simp
              with_reducible rfl
            rotate_left
            · simp only [Act.put, List.setIfInBounds_toArray, List.set_cons_zero, List.set_cons_succ, i64_w, i32_w]
              rfl
            refine pure_ (i := 6) (N := some 25) (v := ?_) (a' := ?_) #[true, true, false, false, false, true, true, false, false, false, false, false, false] rfl rfl (any_of HT_.out (by kernel_rfl)) (fun _ _ _ h => h) (Or.inl ⟨by rfl, ?_⟩) ?_ ?_
            rotate_left
            · intro w'
              go_simp
              with_reducible rfl
            rotate_left
            · simp only [Act.put, List.setIfInBounds_toArray, List.set_cons_zero, List.set_cons_succ, i64_w, i32_w]
              rfl
            refine take_ (i := 2) (N := some 21) (v := ?_) (a' := ?_) #[true, true, true, false, false, true, true, false, false, false, false, false, false] rfl rfl (take_ofW HT_.out HW_.out (by kernel_rfl)) (fun _ _ _ h => h) (Or.inl ⟨by rfl, ?_⟩) hHeld ?_ ?_
            rotate_left
            · intro w' _
              go_simp
              with_reducible rfl
            rotate_left
            · simp only [Act.put, List.setIfInBounds_toArray, List.set_cons_zero, List.set_cons_succ, i64_w, i32_w]
              rfl
            refine pure_ (i := 3) (N := some 22) (v := ?_) (a' := ?_) #[true, true, true, true, false, true, true, false, false, false, false, false, false] rfl rfl (any_of HT_.out (by kernel_rfl)) (fun _ _ _ h => h) (Or.inl ⟨by rfl, ?_⟩) ?_ ?_
            rotate_left
            · intro w'
              go_simp
              with_reducible rfl
            rotate_left
            · simp only [Act.put, List.setIfInBounds_toArray, List.set_cons_zero, List.set_cons_succ, i64_w, i32_w]
              rfl
            refine pure_ (i := 4) (N := some 23) (v := ?_) (a' := ?_) #[true, true, true, true, true, true, true, false, false, false, false, false, false] rfl rfl (any_of HT_.out (by kernel_rfl)) (fun _ _ _ h => h) (Or.inl ⟨by rfl, ?_⟩) ?_ ?_
            rotate_left
            · intro w'
              go_simp
              with_reducible rfl
            rotate_left
            · simp only [Act.put, List.setIfInBounds_toArray, List.set_cons_zero, List.set_cons_succ, i64_w, i32_w]
              rfl
            refine take_ (i := 7) (N := some 26) (v := ?_) (a' := ?_) #[true, true, true, true, true, true, true, true, false, false, false, false, false] rfl rfl (take_ofW HT_.out HW_.out (by kernel_rfl)) (fun _ _ _ h => h) (Or.inl ⟨by rfl, ?_⟩) hHeld ?_ ?_
            rotate_left
            · intro w' _
              go_simp
              with_reducible rfl
            rotate_left
            · simp only [Act.put, List.setIfInBounds_toArray, List.set_cons_zero, List.set_cons_succ, i64_w, i32_w]
              rfl
            refine pure_ (i := 8) (N := some 27) (v := ?_) (a' := ?_) #[true, true, true, true, true, true, true, true, true, false, false, false, false] rfl rfl (any_of HT_.out (by kernel_rfl)) (fun _ _ _ h => h) (Or.inl ⟨by rfl, ?_⟩) ?_ ?_
            rotate_left
            · intro w'
              go_simp
              with_reducible rfl
            rotate_left
            · simp only [Act.put, List.setIfInBounds_toArray, List.set_cons_zero, List.set_cons_succ, i64_w, i32_w]
              rfl
            refine pure_ (i := 9) (N := some 28) (v := ?_) (a' := ?_) #[true, true, true, true, true, true, true, true, true, true, false, false, false] rfl rfl (any_of HT_.out (by kernel_rfl)) (fun _ _ _ h => h) (Or.inl ⟨by rfl, ?_⟩) ?_ ?_
            rotate_left
            · intro w'
              go_simp
              with_reducible rfl
            rotate_left
            · simp only [Act.put, List.setIfInBounds_toArray, List.set_cons_zero, List.set_cons_succ, i64_w, i32_w]
              rfl
            refine pure_ (i := 10) (N := some 29) (v := ?_) (a' := ?_) #[true, true, true, true, true, true, true, true, true, true, true, false, false] rfl rfl (any_of HT_.out (by kernel_rfl)) (fun _ _ _ h => h) (Or.inl ⟨by rfl, ?_⟩) ?_ ?_
            rotate_left
            · intro w'
              go_simp
              with_reducible rfl
            rotate_left
            · simp only [Act.put, List.setIfInBounds_toArray, List.set_cons_zero, List.set_cons_succ, i64_w, i32_w]
              rfl
            refine one_ (i := 11) (N := some 6) #[true, true, true, true, true, true, true, true, true, true, true, true, false] rfl rfl (one_of HT_.out (by kernel_rfl)) (by decide) (fun K hK => ?_)
            refine box_step ?hg (N := 6) ?hd (cs := #[.int .i64 0, .int .i64 0, .int .i64 0, .string (⟨#[]⟩ : ByteArray)]) (t := 84) ?hr ?_; (case hd => rfl); (case hg => rfl); (case hr => first | (go_simp; done) | (go_simp; rfl))
            intro gb247 hg w9 hbox hb
            have n0_ := Aside0.mk (Kd.R_below (Kd.R_elderB (RU HO_4.out) gb247 (Nat.le_of_eq hg.symm)) hb)
            have n1_ := Aside0.mk (below_step (belU HB.out) hb)
            have n2_ := Aside0.mk (hbox)
            have n3_ := Aside0.mk ((by rw [hg]; exact (sizU HB.out) : w.heap.size ≤ gb247))
            have n4_ := Aside0.mk ((by rw [hg]; exact (sizU HB.out) : w.heap.size ≤ gb247))
            clear HO_4
            clear HB
            have HO_4 := n0_
            have HB := n1_
            have BK247 := n2_
            have GW247 := n3_
            have GE247 := n4_
            clear n0_ n1_ n2_ n3_ n4_
            clear hb hbox hg
            refine hK.out _ _ trivial (fun hHeld => ?_)
            clear hK K
            refine norm_ (a' := ?_) ?_ ?_
            rotate_left
            · show Act.put _ (some 6) _ = _
              simp only [Act.put, List.setIfInBounds_toArray, List.set_cons_zero, List.set_cons_succ, i64_w, i32_w]
              rfl
            refine one_ (i := 12) (N := none) #[true, true, true, true, true, true, true, true, true, true, true, true, true] rfl rfl (one_of HT_.out (by kernel_rfl)) (by decide) (fun K hK => ?_)
            have hs10 : w9.cell? ⟨gb247, 0, none⟩ = some (.int .i64 0) := (blk_cell BK247.out 0).trans rfl
            have hfs10 := blk_frozen BK247.out 0
            have hs11 : w9.cell? ⟨gb247, 1, none⟩ = some (.int .i64 0) := (blk_cell BK247.out 1).trans rfl
            have hfs11 := blk_frozen BK247.out 1
            have hs12 : w9.cell? ⟨gb247, 2, none⟩ = some (.int .i64 0) := (blk_cell BK247.out 2).trans rfl
            have hfs12 := blk_frozen BK247.out 2
            have hs13 : w9.cell? ⟨gb247, 3, none⟩ = some (.string (⟨#[]⟩ : ByteArray)) := (blk_cell BK247.out 3).trans rfl
            have hfs13 := blk_frozen BK247.out 3
            refine skip_ (w1 := ?_) (by rfl) rfl ?_ ?_
            rotate_left
            · go_simp
              rfl
            refine hK.out _ _ trivial (fun hHeld => ?_)
            clear hK K
            refine done_ (done_of HT_.out (by kernel_rfl)) ?_
            go_upto_block 2 with (fail)
            go_cut [7, 8, 9] (fun v7 v8 v9 wc => ∃ (kq : Nat) (x7_6 : Int) (x8_6 : Int) (x9_6 : Int), v7 = .int .i64 x7_6 ∧ v8 = .int .i64 x8_6 ∧ v9 = .int .i64 x9_6 ∧ Aside0 (aquiferref04_Decode.j2 kq a0 x4_1 x5_1 x7_6 x8_6 x9_6 (wrap64 (Int.tdiv (wrap64 (bt a0 x5_1)) 2)) (Int.tmod (wrap64 (bt a0 x5_1)) 2) 0 (⟨#[]⟩ : ByteArray) = some (r1, r2)) ∧ Aside0 (kq ≤ k1) ∧ Aside0 (Kd.R k84 84 wc w.heap.size (fun k_ => k_ ≠ gb247) u4 x4_1) ∧ Aside0 (wc.heap[gb247]? = some (.cells #[.int .i64 (wrap64 (Int.tdiv (wrap64 (bt a0 x5_1)) 2)), .int .i64 (Int.tmod (wrap64 (bt a0 x5_1)) 2), .int .i64 0, .string (⟨#[]⟩ : ByteArray)] 84 (0, 0))) ∧ Aside0 (Below w.heap.size w wc))
            case first =>
              have H := HC7.out
              clear HC7
              have H' := Aside0.mk H
              clear H
              go_wp2
              go_loopg [7, 8, 9] k1 (fun kq v7 v8 v9 w' => ∃ (x7_2 : Int) (x8_2 : Int) (x9_2 : Int), v7 = .int .i64 x7_2 ∧ v8 = .int .i64 x8_2 ∧ v9 = .int .i64 x9_2 ∧ Aside0 (aquiferref04_Decode.l1 kq a0 x4_1 x5_1 x7_2 x8_2 x9_2 (wrap64 (Int.tdiv (wrap64 (bt a0 x5_1)) 2)) (Int.tmod (wrap64 (bt a0 x5_1)) 2) 0 (⟨#[]⟩ : ByteArray) = some (r1, r2)) ∧ Aside0 (kq ≤ k1) ∧ Aside0 (Kd.R k84 84 w' w.heap.size (fun k_ => k_ ≠ gb247) u4 x4_1) ∧ Aside0 (w'.heap[gb247]? = some (.cells #[.int .i64 (wrap64 (Int.tdiv (wrap64 (bt a0 x5_1)) 2)), .int .i64 (Int.tmod (wrap64 (bt a0 x5_1)) 2), .int .i64 0, .string (⟨#[]⟩ : ByteArray)] 84 (0, 0))) ∧ Aside0 (Below w.heap.size w w'))
              case atStart => exact ⟨(0), (1), (wrap64 (x5_1 + 1)), (by first | rfl | (simp; done) | (simp [*]; done)), (by first | rfl | (simp; done) | (simp [*]; done)), (by first | rfl | (simp; done) | (simp [*]; done)), H', ⟨Nat.le_refl _⟩, ⟨by (with_reducible repeat (first | apply Kd.R_alloc | apply Kd.R_drewN | apply Kd.R_drew)); exact Kd.R_mono (Kd.R_far (p := ⟨gb247, 3, none⟩) (Kd.R_far (p := ⟨gb247, 2, none⟩) (Kd.R_far (p := ⟨gb247, 1, none⟩) (Kd.R_far (p := ⟨gb247, 0, none⟩) (Kd.R_mono HO_4.out (fun k_ hk => (⟨hk, hk.2⟩ : _ ∧ k_ ≠ gb247))) (fun _ hk => hk.2) (.int .i64 (wrap64 (Int.tdiv (wrap64 (bt a0 x5_1)) 2)))) (fun _ hk => hk.2) (.int .i64 (Int.tmod (wrap64 (bt a0 x5_1)) 2))) (fun _ hk => hk.2) (.int .i64 0)) (fun _ hk => hk.2) (.string (⟨#[]⟩ : ByteArray))) (fun _ hk => hk.1.2)⟩, ⟨blkP BK247.out (by rfl)⟩, ⟨belG HB.out GE247.out⟩⟩
              case round =>
                clear H'
                try clear c2
                try clear c2b0
                try clear c2b1
                try clear p2
                try clear c3
                try clear c3b0
                try clear c4
                try clear c4b0
                try clear p5
                try clear q5
                try clear hx5
                try clear p6
                try clear q6
                try clear hx6
                try clear p2
                try clear p5
                try clear p6
                try clear q5
                try clear q6
                obtain ⟨x7_2, x8_2, x9_2, rfl, rfl, rfl, HA, HK2, HO_4, BK247, HB⟩ := hrel
                cases gk with
                | zero => exact absurd HA.out (by simp [aquiferref04_Decode.l1])
                | succ k2 =>
                  have H := HA.out
                  clear HA
                  simp only [aquiferref04_Decode.l1] at H
                  by_cases c14 : x9_2 < (a0.size : Int)
                  · rw [if_pos c14] at H
                    have c14b0 : decide (x9_2 < (a0.size : Int)) = true := decide_eq_true c14
                    clear c14
                    (first | rw [c14b0] | (simp only [i64_w, i32_w]; rw [c14b0]) | skip)
                    by_cases c15 : (wrap64 (x9_2 - x5_1)) < 10
                    · rw [if_pos c15] at H
                      have c15b0 : decide ((wrap64 (x9_2 - x5_1)) < 10) = true := decide_eq_true c15
                      clear c15
                      by_cases c16 : 0 ≤ x9_2
                      · rw [if_pos c16] at H
                        have c16b0 : decide (0 ≤ x9_2) = true := decide_eq_true c16
                        clear c16
                        by_cases c18 : (bt a0 x9_2) ≥ 128
                        · rw [if_pos c18] at H
                          have c18b0 : decide (128 ≤ (bt a0 x9_2)) = true := decide_eq_true c18
                          clear c18
                          have H' := Aside0.mk H
                          clear H
                          have p17 : 0 ≤ (x9_2 : Int) := of_decide_eq_true (by first | (with_reducible assumption) | assumption)
                          have q17 : x9_2 < (a0.size : Int) := of_decide_eq_true (by first | (with_reducible assumption) | assumption)
                          have hx17 := bt_at a0 x9_2
                          replace p17 := eq_true p17
                          replace q17 := eq_true q17
                          have p19 : 0 ≤ (x9_2 : Int) := of_decide_eq_true (by first | (with_reducible assumption) | assumption)
                          have q19 : x9_2 < (a0.size : Int) := of_decide_eq_true (by first | (with_reducible assumption) | assumption)
                          have hx19 := bt_at a0 x9_2
                          replace p19 := eq_true p19
                          replace q19 := eq_true q19
                          go_wp2
                          go_roundg k2
                          case measure => have := HK1.out; have := HK2.out; omega
                          case rel => exact ⟨(wrap64 (x7_2 + (wrap64 ((wrap64 ((wrap64 (bt a0 x9_2)) - 128)) * x8_2)))), (wrap64 (x8_2 * 128)), (wrap64 (x9_2 + 1)), (by first | rfl | (simp; done) | (simp [*]; done)), (by first | rfl | (simp; done) | (simp [*]; done)), (by first | rfl | (simp; done) | (simp [*]; done)), H', ⟨by have := HK1.out; have := HK2.out; omega⟩, ⟨RU HO_4.out⟩, ⟨blkU BK247.out⟩, ⟨belG HB.out GE247.out⟩⟩
                        · rw [if_neg c18] at H
                          have c18b0 : decide (128 ≤ (bt a0 x9_2)) = false := decide_eq_false c18
                          clear c18
                          have H' := Aside0.mk H
                          clear H
                          have p17 : 0 ≤ (x9_2 : Int) := of_decide_eq_true (by first | (with_reducible assumption) | assumption)
                          have q17 : x9_2 < (a0.size : Int) := of_decide_eq_true (by first | (with_reducible assumption) | assumption)
                          have hx17 := bt_at a0 x9_2
                          replace p17 := eq_true p17
                          replace q17 := eq_true q17
                          go_wp2
                          go_meet
                          case rel => exact ⟨_, (x7_2), (x8_2), (x9_2), (by first | rfl | (simp; done) | (simp [*]; done)), (by first | rfl | (simp; done) | (simp [*]; done)), (by first | rfl | (simp; done) | (simp [*]; done)), H', ⟨by have := HK1.out; have := HK2.out; first | omega | exact Nat.le_refl _⟩, ⟨RU HO_4.out⟩, ⟨blkU BK247.out⟩, ⟨belG HB.out GE247.out⟩⟩
                      · rw [if_neg c16] at H
                        exact absurd H (by simp)
                    · rw [if_neg c15] at H
                      have c15b0 : decide ((wrap64 (x9_2 - x5_1)) < 10) = false := decide_eq_false c15
                      clear c15
                      have H' := Aside0.mk H
                      clear H
                      go_wp2
                      go_meet
                      case rel => exact ⟨_, (x7_2), (x8_2), (x9_2), (by first | rfl | (simp; done) | (simp [*]; done)), (by first | rfl | (simp; done) | (simp [*]; done)), (by first | rfl | (simp; done) | (simp [*]; done)), H', ⟨by have := HK1.out; have := HK2.out; first | omega | exact Nat.le_refl _⟩, ⟨RU HO_4.out⟩, ⟨blkU BK247.out⟩, ⟨belG HB.out GE247.out⟩⟩
                  · rw [if_neg c14] at H
                    have c14b0 : decide (x9_2 < (a0.size : Int)) = false := decide_eq_false c14
                    clear c14
                    (first | rw [c14b0] | (simp only [i64_w, i32_w]; rw [c14b0]) | skip)
                    have H' := Aside0.mk H
                    clear H
                    go_wp2
                    go_meet
                    case rel => exact ⟨_, (x7_2), (x8_2), (x9_2), (by first | rfl | (simp; done) | (simp [*]; done)), (by first | rfl | (simp; done) | (simp [*]; done)), (by first | rfl | (simp; done) | (simp [*]; done)), H', ⟨by have := HK1.out; have := HK2.out; first | omega | exact Nat.le_refl _⟩, ⟨RU HO_4.out⟩, ⟨blkU BK247.out⟩, ⟨belG HB.out GE247.out⟩⟩
            case rest =>
              clear HC7
              try clear c1
              try clear p1
              try clear q1
              try clear hx1
              try clear c2
              try clear c2b0
              try clear c2b1
              try clear p2
              try clear c3
              try clear c3b0
              try clear c4
              try clear c4b0
              try clear p5
              try clear q5
              try clear hx5
              try clear p6
              try clear q6
              try clear hx6
              try clear c14
              try clear c14b0
              try clear c15
              try clear c15b0
              try clear c16
              try clear c16b0
              try clear p17
              try clear q17
              try clear hx17
              try clear c18
              try clear c18b0
              try clear p19
              try clear q19
              try clear hx19
              try clear p17
              try clear p19
              try clear p2
              try clear p5
              try clear p6
              try clear q17
              try clear q19
              try clear q5
              try clear q6
              obtain ⟨kq, x7_6, x8_6, x9_6, rfl, rfl, rfl, HA, HJ6, HO_4, BK247, HB⟩ := hcut
              cases kq with
              | zero => exact absurd HA.out (by simp [aquiferref04_Decode.j2])
              | succ kj6 =>
                have H := HA.out
                clear HA
                simp only [aquiferref04_Decode.j2] at H
                have HC20 := Aside0.mk H
                clear H
                go_upto_region 14 with (fail)
                go_cut [70] (fun v70 wc => ∃ (kq : Nat) (x70_19 : Bool), v70 = .bool x70_19 ∧ Aside0 (aquiferref04_Decode.j3 kq a0 x4_1 x5_1 x7_6 x8_6 x9_6 x70_19 (wrap64 (Int.tdiv (wrap64 (bt a0 x5_1)) 2)) (Int.tmod (wrap64 (bt a0 x5_1)) 2) 0 (⟨#[]⟩ : ByteArray) = some (r1, r2)) ∧ Aside0 (kq ≤ kj6) ∧ Aside0 (Kd.R k84 84 wc w.heap.size (fun k_ => k_ ≠ gb247) u4 x4_1) ∧ Aside0 (wc.heap[gb247]? = some (.cells #[.int .i64 (wrap64 (Int.tdiv (wrap64 (bt a0 x5_1)) 2)), .int .i64 (Int.tmod (wrap64 (bt a0 x5_1)) 2), .int .i64 0, .string (⟨#[]⟩ : ByteArray)] 84 (0, 0))) ∧ Aside0 (Below w.heap.size w wc))
                case first =>
                  have H := HC20.out
                  clear HC20
                  by_cases c21 : x9_6 ≥ (a0.size : Int)
                  · rw [if_pos c21] at H
                    have c21b0 : decide ((a0.size : Int) ≤ x9_6) = true := decide_eq_true c21
                    clear c21
                    (first | rw [c21b0] | (simp only [i64_w, i32_w]; rw [c21b0]) | skip)
                    have H' := Aside0.mk H
                    clear H
                    go_wp2
                    go_meet
                    case rel => exact ⟨_, (true), (by first | rfl | (simp; done) | (simp [*]; done)), H', ⟨by have := HK1.out; have := HJ6.out; first | omega | exact Nat.le_refl _⟩, ⟨RU HO_4.out⟩, ⟨blkU BK247.out⟩, ⟨belG HB.out GE247.out⟩⟩
                  · rw [if_neg c21] at H
                    have c21b0 : decide ((a0.size : Int) ≤ x9_6) = false := decide_eq_false c21
                    clear c21
                    (first | rw [c21b0] | (simp only [i64_w, i32_w]; rw [c21b0]) | skip)
                    have H' := Aside0.mk H
                    clear H
                    go_wp2
                    go_meet
                    case rel => exact ⟨_, (decide ((wrap64 (x9_6 - x5_1)) ≥ 10)), (by first | rfl | (simp; done) | (simp [*]; done)), H', ⟨by have := HK1.out; have := HJ6.out; first | omega | exact Nat.le_refl _⟩, ⟨RU HO_4.out⟩, ⟨blkU BK247.out⟩, ⟨belG HB.out GE247.out⟩⟩
                case rest =>
                  clear HC20
                  try clear c1
                  try clear p1
                  try clear q1
                  try clear hx1
                  try clear c2
                  try clear c2b0
                  try clear c2b1
                  try clear p2
                  try clear c3
                  try clear c3b0
                  try clear c4
                  try clear c4b0
                  try clear p5
                  try clear q5
                  try clear hx5
                  try clear p6
                  try clear q6
                  try clear hx6
                  try clear c14
                  try clear c14b0
                  try clear c15
                  try clear c15b0
                  try clear c16
                  try clear c16b0
                  try clear p17
                  try clear q17
                  try clear hx17
                  try clear c18
                  try clear c18b0
                  try clear p19
                  try clear q19
                  try clear hx19
                  try clear c21
                  try clear c21b0
                  try clear p1
                  try clear p17
                  try clear p19
                  try clear p2
                  try clear p5
                  try clear p6
                  try clear q1
                  try clear q17
                  try clear q19
                  try clear q5
                  try clear q6
                  obtain ⟨kq, x70_19, rfl, HA, HJ19, HO_4, BK247, HB⟩ := hcut
                  cases kq with
                  | zero => exact absurd HA.out (by simp [aquiferref04_Decode.j3])
                  | succ kj19 =>
                    have H := HA.out
                    clear HA
                    simp only [aquiferref04_Decode.j3] at H
                    by_cases c22 : x70_19 = true
                    · subst c22
                      have H1 : (some (([] : List (S84)), 5)) = some (r1, r2) := by rw [if_pos rfl] at H; exact H
                      clear H
                      have H := H1
                      clear H1
                      simp only [Option.some.injEq, Prod.mk.injEq] at H
                      obtain ⟨rfl, rfl⟩ := H
                      go_wp2
                      go_ret2
                      exact ⟨_, by first | rfl | (simp [errW_none, errW_some] <;> rfl) | (simp [*, errW_none, errW_some] <;> rfl), by first | exact Kd.R_nil _ _ _ _ _ | exact Kd.N_nil _ _ _ _ _ | exact Kd.V_nil _ _ _ _ _ | exact Kd.Q_nil _ _ _ _ _ | exact Kd.S_nil _ _ _ _ _, belG HB.out GE247.out⟩
                    · replace c22 := Bool.eq_false_iff.mpr c22
                      subst c22
                      have H1 : (if 0 ≤ x9_6 then (if x9_6 < (a0.size : Int) then (if (wrap64 (x7_6 + (wrap64 ((wrap64 (bt a0 x9_6)) * x8_6)))) < 0 then (aquiferref04_Decode.j4 kj19 a0 x4_1 x5_1 (wrap64 (x7_6 + (wrap64 ((wrap64 (bt a0 x9_6)) * x8_6)))) (wrap64 (x9_6 + 1)) true (wrap64 (Int.tdiv (wrap64 (bt a0 x5_1)) 2)) (Int.tmod (wrap64 (bt a0 x5_1)) 2) 0 (⟨#[]⟩ : ByteArray)) else (if (Int.tmod (wrap64 (bt a0 x5_1)) 2) = 1 then (aquiferref04_Decode.j4 kj19 a0 x4_1 x5_1 (wrap64 (x7_6 + (wrap64 ((wrap64 (bt a0 x9_6)) * x8_6)))) (wrap64 (x9_6 + 1)) (decide ((wrap64 (x7_6 + (wrap64 ((wrap64 (bt a0 x9_6)) * x8_6)))) > (wrap64 ((a0.size : Int) - (wrap64 (x9_6 + 1)))))) (wrap64 (Int.tdiv (wrap64 (bt a0 x5_1)) 2)) (Int.tmod (wrap64 (bt a0 x5_1)) 2) 0 (⟨#[]⟩ : ByteArray)) else (aquiferref04_Decode.j4 kj19 a0 x4_1 x5_1 (wrap64 (x7_6 + (wrap64 ((wrap64 (bt a0 x9_6)) * x8_6)))) (wrap64 (x9_6 + 1)) false (wrap64 (Int.tdiv (wrap64 (bt a0 x5_1)) 2)) (Int.tmod (wrap64 (bt a0 x5_1)) 2) 0 (⟨#[]⟩ : ByteArray)))) else (none)) else (none)) = some (r1, r2) := by rw [if_neg (show ¬ (false = true) by decide)] at H; exact H
                      clear H
                      have H := H1
                      clear H1
                      by_cases c23 : 0 ≤ x9_6
                      · rw [if_pos c23] at H
                        have c23b0 : decide (0 ≤ x9_6) = true := decide_eq_true c23
                        clear c23
                        by_cases c24 : x9_6 < (a0.size : Int)
                        · rw [if_pos c24] at H
                          have c24b0 : decide (x9_6 < (a0.size : Int)) = true := decide_eq_true c24
                          clear c24
                          have HC26 := Aside0.mk H
                          clear H
                          have p25 : 0 ≤ (x9_6 : Int) := of_decide_eq_true (by first | (with_reducible assumption) | assumption)
                          have q25 : x9_6 < (a0.size : Int) := of_decide_eq_true (by first | (with_reducible assumption) | assumption)
                          have hx25 := bt_at a0 x9_6
                          replace p25 := eq_true p25
                          replace q25 := eq_true q25
                          go_upto_region 18 with (fail)
                          go_cut [95] (fun v95 wc => ∃ (kq : Nat) (x95_25 : Bool), v95 = .bool x95_25 ∧ Aside0 (aquiferref04_Decode.j4 kq a0 x4_1 x5_1 (wrap64 (x7_6 + (wrap64 ((wrap64 (bt a0 x9_6)) * x8_6)))) (wrap64 (x9_6 + 1)) x95_25 (wrap64 (Int.tdiv (wrap64 (bt a0 x5_1)) 2)) (Int.tmod (wrap64 (bt a0 x5_1)) 2) 0 (⟨#[]⟩ : ByteArray) = some (r1, r2)) ∧ Aside0 (kq ≤ kj19) ∧ Aside0 (Kd.R k84 84 wc w.heap.size (fun k_ => k_ ≠ gb247) u4 x4_1) ∧ Aside0 (wc.heap[gb247]? = some (.cells #[.int .i64 (wrap64 (Int.tdiv (wrap64 (bt a0 x5_1)) 2)), .int .i64 (Int.tmod (wrap64 (bt a0 x5_1)) 2), .int .i64 0, .string (⟨#[]⟩ : ByteArray)] 84 (0, 0))) ∧ Aside0 (Below w.heap.size w wc))
                          case first =>
                            have H := HC26.out
                            clear HC26
                            by_cases c27 : (wrap64 (x7_6 + (wrap64 ((wrap64 (bt a0 x9_6)) * x8_6)))) < 0
                            · rw [if_pos c27] at H
                              have c27b0 : decide ((wrap64 (x7_6 + (wrap64 ((wrap64 (bt a0 x9_6)) * x8_6)))) < 0) = true := decide_eq_true c27
                              clear c27
                              (first | rw [c27b0] | (simp only [i64_w, i32_w]; rw [c27b0]) | skip)
                              have H' := Aside0.mk H
                              clear H
                              go_wp2
                              go_meet
                              case rel => exact ⟨_, (true), (by first | rfl | (simp; done) | (simp [*]; done)), H', ⟨by have := HK1.out; have := HJ6.out; have := HJ19.out; first | omega | exact Nat.le_refl _⟩, ⟨RU HO_4.out⟩, ⟨blkU BK247.out⟩, ⟨belG HB.out GE247.out⟩⟩
                            · rw [if_neg c27] at H
                              have c27b0 : decide ((wrap64 (x7_6 + (wrap64 ((wrap64 (bt a0 x9_6)) * x8_6)))) < 0) = false := decide_eq_false c27
                              clear c27
                              (first | rw [c27b0] | (simp only [i64_w, i32_w]; rw [c27b0]) | skip)
                              by_cases c28 : (Int.tmod (wrap64 (bt a0 x5_1)) 2) = 1
                              · rw [if_pos c28] at H
                                have c28b0 : ((Int.tmod (wrap64 (bt a0 x5_1)) 2) == 1) = true := beq_iff_eq.mpr c28
                                have c28b1 : ((Int.tmod (wrap64 (bt a0 x5_1)) 2) != 1) = false := bne_eq_false_iff_eq.mpr c28
                                clear c28
                                have H' := Aside0.mk H
                                clear H
                                have hcz29_0 : wc.cell? ⟨gb247, 0, none⟩ = some (.int .i64 (wrap64 (Int.tdiv (wrap64 (bt a0 x5_1)) 2))) := (blk_cell BK247.out 0).trans rfl
                                have hcz29_1 : wc.cell? ⟨gb247, 1, none⟩ = some (.int .i64 (Int.tmod (wrap64 (bt a0 x5_1)) 2)) := (blk_cell BK247.out 1).trans rfl
                                have hcz29_2 : wc.cell? ⟨gb247, 2, none⟩ = some (.int .i64 0) := (blk_cell BK247.out 2).trans rfl
                                have hcz29_3 : wc.cell? ⟨gb247, 3, none⟩ = some (.string (⟨#[]⟩ : ByteArray)) := (blk_cell BK247.out 3).trans rfl
                                have hfz29_0 := blk_frozen BK247.out 0
                                have hfz29_1 := blk_frozen BK247.out 1
                                have hfz29_2 := blk_frozen BK247.out 2
                                have hfz29_3 := blk_frozen BK247.out 3
                                go_wp2
                                go_meet
                                case rel => exact ⟨_, (decide ((wrap64 (x7_6 + (wrap64 ((wrap64 (bt a0 x9_6)) * x8_6)))) > (wrap64 ((a0.size : Int) - (wrap64 (x9_6 + 1)))))), (by first | rfl | (simp; done) | (simp [*]; done)), H', ⟨by have := HK1.out; have := HJ6.out; have := HJ19.out; first | omega | exact Nat.le_refl _⟩, ⟨RU HO_4.out⟩, ⟨blkU BK247.out⟩, ⟨belG HB.out GE247.out⟩⟩
                              · rw [if_neg c28] at H
                                have c28b0 : ((Int.tmod (wrap64 (bt a0 x5_1)) 2) == 1) = false := beq_eq_false_iff_ne.mpr c28
                                have c28b1 : ((Int.tmod (wrap64 (bt a0 x5_1)) 2) != 1) = true := bne_iff_ne.mpr c28
                                have H' := Aside0.mk H
                                clear H
                                have hcz30_0 : wc.cell? ⟨gb247, 0, none⟩ = some (.int .i64 (wrap64 (Int.tdiv (wrap64 (bt a0 x5_1)) 2))) := (blk_cell BK247.out 0).trans rfl
                                have hcz30_1 : wc.cell? ⟨gb247, 1, none⟩ = some (.int .i64 (Int.tmod (wrap64 (bt a0 x5_1)) 2)) := (blk_cell BK247.out 1).trans rfl
                                have hcz30_2 : wc.cell? ⟨gb247, 2, none⟩ = some (.int .i64 0) := (blk_cell BK247.out 2).trans rfl
                                have hcz30_3 : wc.cell? ⟨gb247, 3, none⟩ = some (.string (⟨#[]⟩ : ByteArray)) := (blk_cell BK247.out 3).trans rfl
                                have hfz30_0 := blk_frozen BK247.out 0
                                have hfz30_1 := blk_frozen BK247.out 1
                                have hfz30_2 := blk_frozen BK247.out 2
                                have hfz30_3 := blk_frozen BK247.out 3
                                go_wp2
                                go_meet
                                case rel => exact ⟨_, (false), (by first | rfl | (simp; done) | (simp [*]; done)), H', ⟨by have := HK1.out; have := HJ6.out; have := HJ19.out; first | omega | exact Nat.le_refl _⟩, ⟨RU HO_4.out⟩, ⟨blkU BK247.out⟩, ⟨belG HB.out GE247.out⟩⟩
                          case rest =>
                            clear HC26
                            try clear c1
                            try clear p1
                            try clear q1
                            try clear hx1
                            try clear c2
                            try clear c2b0
                            try clear c2b1
                            try clear p2
                            try clear q2
                            try clear hx2
                            try clear c3
                            try clear c3b0
                            try clear c4
                            try clear c4b0
                            try clear p5
                            try clear q5
                            try clear hx5
                            try clear p6
                            try clear q6
                            try clear hx6
                            try clear c14
                            try clear c14b0
                            try clear c15
                            try clear c15b0
                            try clear c16
                            try clear c16b0
                            try clear p17
                            try clear q17
                            try clear hx17
                            try clear c18
                            try clear c18b0
                            try clear p19
                            try clear q19
                            try clear hx19
                            try clear c21
                            try clear c21b0
                            try clear c22
                            try clear c23
                            try clear c23b0
                            try clear c24
                            try clear c24b0
                            try clear p25
                            try clear q25
                            try clear hx25
                            try clear c27
                            try clear c27b0
                            try clear c28
                            try clear c28b0
                            try clear c28b1
                            try clear hcz29_0
                            try clear hcz29_1
                            try clear hcz29_2
                            try clear hcz29_3
                            try clear hcz30_0
                            try clear hcz30_1
                            try clear hcz30_2
                            try clear hcz30_3
                            try clear hfz29_0
                            try clear hfz29_1
                            try clear hfz29_2
                            try clear hfz29_3
                            try clear hfz30_0
                            try clear hfz30_1
                            try clear hfz30_2
                            try clear hfz30_3
                            try clear p1
                            try clear p17
                            try clear p19
                            try clear p2
                            try clear p25
                            try clear p5
                            try clear p6
                            try clear q1
                            try clear q17
                            try clear q19
                            try clear q25
                            try clear q5
                            try clear q6
                            obtain ⟨kq, x95_25, rfl, HA, HJ25, HO_4, BK247, HB⟩ := hcut
                            cases kq with
                            | zero => exact absurd HA.out (by simp [aquiferref04_Decode.j4])
                            | succ kj25 =>
                              have H := HA.out
                              clear HA
                              simp only [aquiferref04_Decode.j4] at H
                              by_cases c31 : x95_25 = true
                              · subst c31
                                have H1 : (some (([] : List (S84)), 5)) = some (r1, r2) := by rw [if_pos rfl] at H; exact H
                                clear H
                                have H := H1
                                clear H1
                                simp only [Option.some.injEq, Prod.mk.injEq] at H
                                obtain ⟨rfl, rfl⟩ := H
                                go_wp2
                                go_ret2
                                exact ⟨_, by first | rfl | (simp [errW_none, errW_some] <;> rfl) | (simp [*, errW_none, errW_some] <;> rfl), by first | exact Kd.R_nil _ _ _ _ _ | exact Kd.N_nil _ _ _ _ _ | exact Kd.V_nil _ _ _ _ _ | exact Kd.Q_nil _ _ _ _ _ | exact Kd.S_nil _ _ _ _ _, belG HB.out GE247.out⟩
                              · replace c31 := Bool.eq_false_iff.mpr c31
                                subst c31
                                have H1 : (if (Int.tmod (wrap64 (bt a0 x5_1)) 2) = 0 then ((aquiferref04_bytes.f kj25 (wrap64 (Int.tdiv (wrap64 (bt a0 x5_1)) 2)) (Int.tmod (wrap64 (bt a0 x5_1)) 2) (wrap64 (x7_6 + (wrap64 ((wrap64 (bt a0 x9_6)) * x8_6)))) (⟨#[]⟩ : ByteArray)).bind fun t248 => (if 0 ≤ x5_1 then (if x5_1 ≤ (wrap64 (x9_6 + 1)) then (if (wrap64 (x9_6 + 1)) ≤ (a0.size : Int) then (if (strOfNums t248).toList = (a0.extract (x5_1 : Int).toNat ((wrap64 (x9_6 + 1)) : Int).toNat).toList then (if x4_1.length < 3518437208883 then (aquiferref04_Decode.l0 kj25 a0 (x4_1 ++ [(⟨(wrap64 (Int.tdiv (wrap64 (bt a0 x5_1)) 2)), (Int.tmod (wrap64 (bt a0 x5_1)) 2), (wrap64 (x7_6 + (wrap64 ((wrap64 (bt a0 x9_6)) * x8_6)))), (⟨#[]⟩ : ByteArray)⟩ : S84)]) (wrap64 (x9_6 + 1))) else (none)) else (some (([] : List (S84)), 5))) else (none)) else (none)) else (none))) else (if 0 ≤ (wrap64 (x9_6 + 1)) then (if (wrap64 (x9_6 + 1)) ≤ (wrap64 ((wrap64 (x9_6 + 1)) + (wrap64 (x7_6 + (wrap64 ((wrap64 (bt a0 x9_6)) * x8_6)))))) then (if (wrap64 ((wrap64 (x9_6 + 1)) + (wrap64 (x7_6 + (wrap64 ((wrap64 (bt a0 x9_6)) * x8_6)))))) ≤ (a0.size : Int) then ((aquiferref04_bytes.f kj25 (wrap64 (Int.tdiv (wrap64 (bt a0 x5_1)) 2)) (Int.tmod (wrap64 (bt a0 x5_1)) 2) 0 (a0.extract ((wrap64 (x9_6 + 1)) : Int).toNat ((wrap64 ((wrap64 (x9_6 + 1)) + (wrap64 (x7_6 + (wrap64 ((wrap64 (bt a0 x9_6)) * x8_6)))))) : Int).toNat)).bind fun t254 => (if 0 ≤ x5_1 then (if x5_1 ≤ (wrap64 ((wrap64 (x9_6 + 1)) + (wrap64 (x7_6 + (wrap64 ((wrap64 (bt a0 x9_6)) * x8_6)))))) then (if (strOfNums t254).toList = (a0.extract (x5_1 : Int).toNat ((wrap64 ((wrap64 (x9_6 + 1)) + (wrap64 (x7_6 + (wrap64 ((wrap64 (bt a0 x9_6)) * x8_6)))))) : Int).toNat).toList then (if x4_1.length < 3518437208883 then (aquiferref04_Decode.l0 kj25 a0 (x4_1 ++ [(⟨(wrap64 (Int.tdiv (wrap64 (bt a0 x5_1)) 2)), (Int.tmod (wrap64 (bt a0 x5_1)) 2), 0, a0.extract ((wrap64 (x9_6 + 1)) : Int).toNat ((wrap64 ((wrap64 (x9_6 + 1)) + (wrap64 (x7_6 + (wrap64 ((wrap64 (bt a0 x9_6)) * x8_6)))))) : Int).toNat⟩ : S84)]) (wrap64 ((wrap64 (x9_6 + 1)) + (wrap64 (x7_6 + (wrap64 ((wrap64 (bt a0 x9_6)) * x8_6))))))) else (none)) else (some (([] : List (S84)), 5))) else (none)) else (none))) else (none)) else (none)) else (none))) = some (r1, r2) := by rw [if_neg (show ¬ (false = true) by decide)] at H; exact H
                                clear H
                                have H := H1
                                clear H1
                                by_cases c32 : (Int.tmod (wrap64 (bt a0 x5_1)) 2) = 0
                                · rw [if_pos c32] at H
                                  have c32b0 : ((Int.tmod (wrap64 (bt a0 x5_1)) 2) == 0) = true := beq_iff_eq.mpr c32
                                  have c32b1 : ((Int.tmod (wrap64 (bt a0 x5_1)) 2) != 0) = false := bne_eq_false_iff_eq.mpr c32
                                  clear c32
                                  replace H := Option.bind_eq_some_iff.mp H
                                  obtain ⟨t248, A330, H⟩ := H
                                  replace H : (if 0 ≤ x5_1 then (if x5_1 ≤ (wrap64 (x9_6 + 1)) then (if (wrap64 (x9_6 + 1)) ≤ (a0.size : Int) then (if (strOfNums t248).toList = (a0.extract (x5_1 : Int).toNat ((wrap64 (x9_6 + 1)) : Int).toNat).toList then (if x4_1.length < 3518437208883 then (aquiferref04_Decode.l0 kj25 a0 (x4_1 ++ [(⟨(wrap64 (Int.tdiv (wrap64 (bt a0 x5_1)) 2)), (Int.tmod (wrap64 (bt a0 x5_1)) 2), (wrap64 (x7_6 + (wrap64 ((wrap64 (bt a0 x9_6)) * x8_6)))), (⟨#[]⟩ : ByteArray)⟩ : S84)]) (wrap64 (x9_6 + 1))) else (none)) else (some (([] : List (S84)), 5))) else (none)) else (none)) else (none)) = some (r1, r2) := H
                                  have A33 := Aside0.mk A330
                                  clear A330
                                  by_cases c34 : 0 ≤ x5_1
                                  · rw [if_pos c34] at H
                                    have c34b0 := eq_true c34
                                    have c34b1 : decide (0 ≤ x5_1) = true := decide_eq_true c34
                                    clear c34
                                    by_cases c35 : x5_1 ≤ (wrap64 (x9_6 + 1))
                                    · rw [if_pos c35] at H
                                      have c35b0 := eq_true c35
                                      have c35b1 : decide (x5_1 ≤ (wrap64 (x9_6 + 1))) = true := decide_eq_true c35
                                      by_cases c36 : (wrap64 (x9_6 + 1)) ≤ (a0.size : Int)
                                      · rw [if_pos c36] at H
                                        have c36b0 := eq_true c36
                                        have c36b1 : decide ((wrap64 (x9_6 + 1)) ≤ (a0.size : Int)) = true := decide_eq_true c36
                                        by_cases c37 : (strOfNums t248).toList = (a0.extract (x5_1 : Int).toNat ((wrap64 (x9_6 + 1)) : Int).toNat).toList
                                        · rw [if_pos c37] at H
                                          have c37b0 : ((strOfNums t248).toList == (a0.extract (x5_1 : Int).toNat ((wrap64 (x9_6 + 1)) : Int).toNat).toList) = true := beq_iff_eq.mpr c37
                                          have c37b1 : ((strOfNums t248).toList != (a0.extract (x5_1 : Int).toNat ((wrap64 (x9_6 + 1)) : Int).toNat).toList) = false := bne_eq_false_iff_eq.mpr c37
                                          clear c37
                                          by_cases c38 : x4_1.length < 3518437208883
                                          · rw [if_pos c38] at H
                                            have LMc38 := Aside0.mk c38
                                            clear c38
                                            obtain ⟨y251, hy251⟩ : ∃ y_ : List (S84), y_ = (x4_1 ++ [(⟨(wrap64 (Int.tdiv (wrap64 (bt a0 x5_1)) 2)), (Int.tmod (wrap64 (bt a0 x5_1)) 2), (wrap64 (x7_6 + (wrap64 ((wrap64 (bt a0 x9_6)) * x8_6)))), (⟨#[]⟩ : ByteArray)⟩ : S84)]) := ⟨_, rfl⟩
                                            replace H : (aquiferref04_Decode.l0 kj25 a0 y251 (wrap64 (x9_6 + 1))) = some (r1, r2) := by first | (rw [hy251]; with_reducible exact H) | (have H2_ := (Option.bind_some _ _).symm.trans H; rw [hy251]; with_reducible exact H2_) | (have H2_ := (Option.bind_some _ _).symm.trans H; with_reducible exact H2_) | with_reducible exact H | (rw [hy251]; exact H) | exact H
                                            have Ny251 := Aside0.mk hy251
                                            clear hy251
                                            have H' := Aside0.mk H
                                            clear H
                                            have hcz39_0 : wc.cell? ⟨gb247, 0, none⟩ = some (.int .i64 (wrap64 (Int.tdiv (wrap64 (bt a0 x5_1)) 2))) := (blk_cell BK247.out 0).trans rfl
                                            have hcz39_1 : wc.cell? ⟨gb247, 1, none⟩ = some (.int .i64 (Int.tmod (wrap64 (bt a0 x5_1)) 2)) := (blk_cell BK247.out 1).trans rfl
                                            have hcz39_2 : wc.cell? ⟨gb247, 2, none⟩ = some (.int .i64 0) := (blk_cell BK247.out 2).trans rfl
                                            have hcz39_3 : wc.cell? ⟨gb247, 3, none⟩ = some (.string (⟨#[]⟩ : ByteArray)) := (blk_cell BK247.out 3).trans rfl
                                            have hfz39_0 := blk_frozen BK247.out 0
                                            have hfz39_1 := blk_frozen BK247.out 1
                                            have hfz39_2 := blk_frozen BK247.out 2
                                            have hfz39_3 := blk_frozen BK247.out 3
                                            try go_wp2
                                            have n0_ : Aside0 (Kd.R k84 84 (wc.setCell ⟨gb247, 2, none⟩ (.int .i64 (wrap64 (x7_6 + (wrap64 ((wrap64 (bt a0 x9_6)) * x8_6)))))) w.heap.size (fun k_ => k_ ≠ gb247) u4 x4_1) := ⟨by (with_reducible repeat (first | apply Kd.R_alloc | apply Kd.R_drewN | apply Kd.R_drew)); exact Kd.R_mono (Kd.R_far (p := ⟨gb247, 2, none⟩) (Kd.R_mono HO_4.out (fun k_ hk => (⟨hk, hk⟩ : _ ∧ k_ ≠ gb247))) (fun _ hk => hk.2) (.int .i64 (wrap64 (x7_6 + (wrap64 ((wrap64 (bt a0 x9_6)) * x8_6)))))) (fun _ hk => hk.1)⟩
                                            have n1_ : Aside0 ((wc.setCell ⟨gb247, 2, none⟩ (.int .i64 (wrap64 (x7_6 + (wrap64 ((wrap64 (bt a0 x9_6)) * x8_6)))))).heap[gb247]? = some (.cells #[.int .i64 (wrap64 (Int.tdiv (wrap64 (bt a0 x5_1)) 2)), .int .i64 (Int.tmod (wrap64 (bt a0 x5_1)) 2), .int .i64 (wrap64 (x7_6 + (wrap64 ((wrap64 (bt a0 x9_6)) * x8_6)))), .string (⟨#[]⟩ : ByteArray)] 84 (0, 0))) := ⟨blkP BK247.out (by rfl)⟩
                                            have n2_ : Aside0 (Below w.heap.size w (wc.setCell ⟨gb247, 2, none⟩ (.int .i64 (wrap64 (x7_6 + (wrap64 ((wrap64 (bt a0 x9_6)) * x8_6))))))) := ⟨belG HB.out GE247.out⟩
                                            (try clear HO_4)
                                            (try clear BK247)
                                            (try clear HB)
                                            generalize (wc.setCell ⟨gb247, 2, none⟩ (.int .i64 (wrap64 (x7_6 + (wrap64 ((wrap64 (bt a0 x9_6)) * x8_6)))))) = w40 at n0_ n1_ n2_ ⊢
                                            have HO_4 := n0_
                                            have BK247 := n1_
                                            have HB := n2_
                                            clear n0_ n1_ n2_
                                            have n0_ := Aside0.mk (Kd.R_drew HO_4.out)
                                            have n1_ := Aside0.mk (blk_drew BK247.out)
                                            have n2_ := Aside0.mk (below_drew1 HB.out)
                                            clear HO_4
                                            clear BK247
                                            clear HB
                                            have HO_4 := n0_
                                            have BK247 := n1_
                                            have HB := n2_
                                            clear n0_ n1_ n2_
                                            refine start_ (n := 8) (S := fun w' => w'.cell? ⟨gb247, 0, none⟩ = some (.int .i64 (wrap64 (Int.tdiv (wrap64 (bt a0 x5_1)) 2))) ∧ w'.cell? ⟨gb247, 1, none⟩ = some (.int .i64 (Int.tmod (wrap64 (bt a0 x5_1)) 2)) ∧ w'.cell? ⟨gb247, 2, none⟩ = some (.int .i64 (wrap64 (x7_6 + (wrap64 ((wrap64 (bt a0 x9_6)) * x8_6))))) ∧ w'.cell? ⟨gb247, 3, none⟩ = some (.string (⟨#[]⟩ : ByteArray))) (ds := []) #[false, false, false, false, false, false, false, false] (by kernel_rfl) rfl rfl ⟨(blk_cell BK247.out 0).trans rfl, (blk_cell BK247.out 1).trans rfl, (blk_cell BK247.out 2).trans rfl, (blk_cell BK247.out 3).trans rfl⟩ (fun hHeld => ?_); refine with_tabW aquiferref04_Decode.tab24 aquiferref04_Decode.bits24 (fun HT_ HW_ => ?_)
                                            generalize w40.drew = w41 at HO_4 BK247 HB hHeld ⊢
                                            refine pure_ (i := 3) (N := some 114) (v := ?_) (a' := ?_) #[false, false, false, true, false, false, false, false] rfl rfl (any_of HT_.out (by kernel_rfl)) (fun _ _ _ h => h) (Or.inl ⟨by rfl, ?_⟩) ?_ ?_
                                            rotate_left
                                            · intro w'
                                              go_simp
                                              with_reducible rfl
                                            rotate_left
                                            · simp only [Act.put, List.setIfInBounds_toArray, List.set_cons_zero, List.set_cons_succ, i64_w, i32_w]
                                              rfl
                                            refine pure_ (i := 4) (N := some 115) (v := ?_) (a' := ?_) #[false, false, false, true, true, false, false, false] rfl rfl (any_of HT_.out (by kernel_rfl)) (fun _ _ _ h => h) (Or.inl ⟨by rfl, ?_⟩) ?_ ?_
                                            rotate_left
                                            · intro w'
                                              go_simp
                                              with_reducible rfl
                                            rotate_left
                                            · simp only [Act.put, List.setIfInBounds_toArray, List.set_cons_zero, List.set_cons_succ, i64_w, i32_w]
                                              rfl
                                            refine pure_ (i := 5) (N := some 116) (v := ?_) (a' := ?_) #[false, false, false, true, true, true, false, false] rfl rfl (any_of HT_.out (by kernel_rfl)) (fun _ _ _ h => h) (Or.inl ⟨by rfl, ?_⟩) ?_ ?_
                                            rotate_left
                                            · intro w'
                                              go_simp
                                              with_reducible rfl
                                            rotate_left
                                            · simp only [Act.put, List.setIfInBounds_toArray, List.set_cons_zero, List.set_cons_succ, i64_w, i32_w]
                                              rfl
                                            refine pure_ (i := 6) (N := some 117) (v := ?_) (a' := ?_) #[false, false, false, true, true, true, true, false] rfl rfl (any_of HT_.out (by kernel_rfl)) (fun _ _ _ h => h) (Or.inl ⟨by rfl, ?_⟩) ?_ ?_
                                            rotate_left
                                            · intro w'
                                              go_simp
                                              with_reducible rfl
                                            rotate_left
                                            · simp only [Act.put, List.setIfInBounds_toArray, List.set_cons_zero, List.set_cons_succ, i64_w, i32_w]
                                              rfl
                                            refine take_ (i := 0) (N := some 111) (v := ?_) (a' := ?_) #[true, false, false, true, true, true, true, false] rfl rfl (take_ofW HT_.out HW_.out (by kernel_rfl)) (fun _ _ _ h => h) (Or.inl ⟨by rfl, ?_⟩) hHeld ?_ ?_
                                            rotate_left
                                            · rintro w' ⟨s0, s1, s2, s3⟩
                                              go_simp
                                              with_reducible rfl
                                            rotate_left
                                            · simp only [Act.put, List.setIfInBounds_toArray, List.set_cons_zero, List.set_cons_succ, i64_w, i32_w]
                                              rfl
                                            refine one_ (i := 1) (N := some 112) #[true, true, false, true, true, true, true, false] rfl rfl (one_of HT_.out (by kernel_rfl)) (by decide) (fun K hK => ?_)
                                            refine goes_ Try.func55 (by kernel_rfl) rfl #[.agg #[.int .i64 (wrap64 (Int.tdiv (wrap64 (bt a0 x5_1)) 2)), .int .i64 (Int.tmod (wrap64 (bt a0 x5_1)) 2), .int .i64 (wrap64 (x7_6 + (wrap64 ((wrap64 (bt a0 x9_6)) * x8_6)))), .string (⟨#[]⟩ : ByteArray)]] (by rfl) rfl rfl (by (try simp only [List.map_toArray, List.map_cons, List.map_nil]); first | done | rfl | (simp only [List.length_drop, List.length_take]; rfl)) ?_
                                            with_reducible refine (aquiferref04_bytes.calls kj25 (wrap64 (Int.tdiv (wrap64 (bt a0 x5_1)) 2)) (Int.tmod (wrap64 (bt a0 x5_1)) 2) (wrap64 (x7_6 + (wrap64 ((wrap64 (bt a0 x9_6)) * x8_6)))) (⟨#[]⟩ : ByteArray) t248 _ A33.out).mono ?_
                                            rintro e w42 ⟨v249, rfl, ho0, hb⟩
                                            refine ⟨_, rfl, ?_⟩
                                            have n0_ := Aside0.mk (Kd.R_below (RU HO_4.out) hb)
                                            have n1_ := Aside0.mk (Kd.R_lower ho0 (sizG HB.out GE247.out))
                                            have n2_ := Aside0.mk (blk_below (blkU BK247.out) hb)
                                            have n3_ := Aside0.mk (below_step (belG HB.out GE247.out) hb)
                                            clear HO_4
                                            clear BK247
                                            clear HB
                                            have HO_4 := n0_
                                            have HO250 := n1_
                                            have BK247 := n2_
                                            have HB := n3_
                                            clear n0_ n1_ n2_ n3_
                                            (try clear hb)
                                            (try clear hb2)
                                            (try clear hk)
                                            (try clear hi)
                                            (try clear ho0)
                                            refine hK.out _ _ ⟨(blk_cell BK247.out 0).trans rfl, (blk_cell BK247.out 1).trans rfl, (blk_cell BK247.out 2).trans rfl, (blk_cell BK247.out 3).trans rfl⟩ (fun hHeld => ?_)
                                            clear hK K
                                            refine norm_ (a' := ?_) ?_ ?_
                                            rotate_left
                                            · show Act.put _ (some 112) _ = _
                                              simp only [Act.put, List.setIfInBounds_toArray, List.set_cons_zero, List.set_cons_succ, i64_w, i32_w]
                                              rfl
                                            refine one_ (i := 2) (N := some 113) #[true, true, true, true, true, true, true, false] rfl rfl (one_of HT_.out (by kernel_rfl)) (by decide) (fun K hK => ?_)
                                            have hcv43 := own_string (P := Try.prog) Try.underlying38 Try.underlying5 Try.underlying9 (Kd.own_of_R HO250.out)
                                            refine value_ (w1 := ?_) (v := ?_) (by rfl) rfl ?_ ?_
                                            rotate_left 2
                                            · go_simp
                                              constructor
                                              · rfl
                                              · rfl
                                            clear hcv43
                                            refine hK.out _ _ ⟨(blk_cell BK247.out 0).trans rfl, (blk_cell BK247.out 1).trans rfl, (blk_cell BK247.out 2).trans rfl, (blk_cell BK247.out 3).trans rfl⟩ (fun hHeld => ?_)
                                            clear hK K
                                            refine norm_ (a' := ?_) ?_ ?_
                                            rotate_left
                                            · show Act.put _ (some 113) _ = _
                                              simp only [Act.put, List.setIfInBounds_toArray, List.set_cons_zero, List.set_cons_succ, i64_w, i32_w]
                                              rfl
                                            refine pure_ (i := 7) (N := some 118) (v := ?_) (a' := ?_) #[true, true, true, true, true, true, true, true] rfl rfl (any_of HT_.out (by kernel_rfl)) (fun _ _ _ h => h) (Or.inl ⟨by rfl, ?_⟩) ?_ ?_
                                            rotate_left
                                            · intro w'
                                              go_simp
                                              with_reducible rfl
                                            rotate_left
                                            · simp only [Act.put, List.setIfInBounds_toArray, List.set_cons_zero, List.set_cons_succ, i64_w, i32_w]
                                              rfl
                                            refine done_ (done_of HT_.out (by kernel_rfl)) ?_
                                            have hcz44_0 : w42.cell? ⟨gb247, 0, none⟩ = some (.int .i64 (wrap64 (Int.tdiv (wrap64 (bt a0 x5_1)) 2))) := (blk_cell BK247.out 0).trans rfl
                                            have hcz44_1 : w42.cell? ⟨gb247, 1, none⟩ = some (.int .i64 (Int.tmod (wrap64 (bt a0 x5_1)) 2)) := (blk_cell BK247.out 1).trans rfl
                                            have hcz44_2 : w42.cell? ⟨gb247, 2, none⟩ = some (.int .i64 (wrap64 (x7_6 + (wrap64 ((wrap64 (bt a0 x9_6)) * x8_6))))) := (blk_cell BK247.out 2).trans rfl
                                            have hcz44_3 : w42.cell? ⟨gb247, 3, none⟩ = some (.string (⟨#[]⟩ : ByteArray)) := (blk_cell BK247.out 3).trans rfl
                                            have hfz44_0 := blk_frozen BK247.out 0
                                            have hfz44_1 := blk_frozen BK247.out 1
                                            have hfz44_2 := blk_frozen BK247.out 2
                                            have hfz44_3 := blk_frozen BK247.out 3
                                            try go_wp2_with (first | ((with_reducible refine gate_builtin (b := .append) (xs := #[.tmp 119, .tmp 121]) rfl ?_); (try (refine gate_guard (by rfl) ?_; dsimp only)); at_builtin; refine Kd.R_append k84 (w0 := w) w.heap.size rfl (.tmp 119) (.tmp 121) 57 84 (.agg #[(.int .i64 0), (.int .i64 0), (.int .i64 0), (.string ⟨#[]⟩)]) 40 rfl Try.underlying57 info84 rfl (by decide) (by omega) u4 x4_1 (⟨(wrap64 (Int.tdiv (wrap64 (bt a0 x5_1)) 2)), (Int.tmod (wrap64 (bt a0 x5_1)) 2), (wrap64 (x7_6 + (wrap64 ((wrap64 (bt a0 x9_6)) * x8_6)))), (⟨#[]⟩ : ByteArray)⟩ : S84) [.int .i64 (wrap64 (Int.tdiv (wrap64 (bt a0 x5_1)) 2)), .int .i64 (Int.tmod (wrap64 (bt a0 x5_1)) 2), .int .i64 (wrap64 (x7_6 + (wrap64 ((wrap64 (bt a0 x9_6)) * x8_6)))), .string (⟨#[]⟩ : ByteArray)] (fun k_ => k_ ≠ gb247) (fun _ => False) rfl rfl ?aP (fun _ hk => hk.elim) ?aF ?aO ?aB ?aS ?aL ?_; (case aP => exact k84_mkM _ _ _ (⟨(wrap64 (Int.tdiv (wrap64 (bt a0 x5_1)) 2)), (Int.tmod (wrap64 (bt a0 x5_1)) 2), (wrap64 (x7_6 + (wrap64 ((wrap64 (bt a0 x9_6)) * x8_6)))), (⟨#[]⟩ : ByteArray)⟩ : S84)); (case aB => exact (belG HB.out GE247.out)); (case aF => exact (fun k_ hk => Kd.freshB (g := gb247) (o := .cells #[.int .i64 (wrap64 (Int.tdiv (wrap64 (bt a0 x5_1)) 2)), .int .i64 (Int.tmod (wrap64 (bt a0 x5_1)) 2), .int .i64 (wrap64 (x7_6 + (wrap64 ((wrap64 (bt a0 x9_6)) * x8_6)))), .string (⟨#[]⟩ : ByteArray)] 84 (0, 0)) (blkU BK247.out) k_ hk)); (case aO => exact (RU HO_4.out)); (case aS => exact (sizG HB.out GE247.out)); (case aL => have := LMc38.out; omega); intro v252 w45 ho hb hg hat; rw [← Ny251.out] at ho; have n0_ := Aside0.mk (blk_grown (g := gb247) (o := .cells #[.int .i64 (wrap64 (Int.tdiv (wrap64 (bt a0 x5_1)) 2)), .int .i64 (Int.tmod (wrap64 (bt a0 x5_1)) 2), .int .i64 (wrap64 (x7_6 + (wrap64 ((wrap64 (bt a0 x9_6)) * x8_6)))), .string (⟨#[]⟩ : ByteArray)] 84 (0, 0)) (blkU BK247.out) hg (Kd.R_away HO_4.out (fun _ hk => hk))); have n1_ := Aside0.mk (Kd.R_over' (RU HO250.out) (Kd.R_typed (RU HO_4.out)) (by decide) hg); have n2_ := Aside0.mk (hb); have n3_ := Aside0.mk (ho); clear BK247; clear HO250; clear HB; clear HO_4; have BK247 := n0_; have HO250 := n1_; have HB := n2_; have HO253 := n3_; clear n0_ n1_ n2_ n3_; clear ho hb hg hat))
                                            go_roundg kj25
                                            case measure => have := HK1.out; have := HJ6.out; have := HJ19.out; have := HJ25.out; omega
                                            case rel => exact ⟨(y251), ((wrap64 (x9_6 + 1))), (by first | rfl | (simp; done) | (simp [*]; done)), H', ⟨by have := HK1.out; have := HJ6.out; have := HJ19.out; have := HJ25.out; omega⟩, ⟨by (with_reducible repeat (first | apply Kd.R_alloc | apply Kd.R_drewN | apply Kd.R_drew)); exact Kd.R_mono HO253.out (fun _ hk => trivial)⟩, ⟨belG HB.out GE247.out⟩⟩
                                          · rw [if_neg c38] at H
                                            exact absurd H (by simp)
                                        · rw [if_neg c37] at H
                                          have c37b0 : ((strOfNums t248).toList == (a0.extract (x5_1 : Int).toNat ((wrap64 (x9_6 + 1)) : Int).toNat).toList) = false := beq_eq_false_iff_ne.mpr c37
                                          have c37b1 : ((strOfNums t248).toList != (a0.extract (x5_1 : Int).toNat ((wrap64 (x9_6 + 1)) : Int).toNat).toList) = true := bne_iff_ne.mpr c37
                                          simp only [Option.some.injEq, Prod.mk.injEq] at H
                                          obtain ⟨rfl, rfl⟩ := H
                                          have hcz46_0 : wc.cell? ⟨gb247, 0, none⟩ = some (.int .i64 (wrap64 (Int.tdiv (wrap64 (bt a0 x5_1)) 2))) := (blk_cell BK247.out 0).trans rfl
                                          have hcz46_1 : wc.cell? ⟨gb247, 1, none⟩ = some (.int .i64 (Int.tmod (wrap64 (bt a0 x5_1)) 2)) := (blk_cell BK247.out 1).trans rfl
                                          have hcz46_2 : wc.cell? ⟨gb247, 2, none⟩ = some (.int .i64 0) := (blk_cell BK247.out 2).trans rfl
                                          have hcz46_3 : wc.cell? ⟨gb247, 3, none⟩ = some (.string (⟨#[]⟩ : ByteArray)) := (blk_cell BK247.out 3).trans rfl
                                          have hfz46_0 := blk_frozen BK247.out 0
                                          have hfz46_1 := blk_frozen BK247.out 1
                                          have hfz46_2 := blk_frozen BK247.out 2
                                          have hfz46_3 := blk_frozen BK247.out 3
                                          try go_wp2
                                          have n0_ : Aside0 (Kd.R k84 84 (wc.setCell ⟨gb247, 2, none⟩ (.int .i64 (wrap64 (x7_6 + (wrap64 ((wrap64 (bt a0 x9_6)) * x8_6)))))) w.heap.size (fun k_ => k_ ≠ gb247) u4 x4_1) := ⟨by (with_reducible repeat (first | apply Kd.R_alloc | apply Kd.R_drewN | apply Kd.R_drew)); exact Kd.R_mono (Kd.R_far (p := ⟨gb247, 2, none⟩) (Kd.R_mono HO_4.out (fun k_ hk => (⟨hk, hk⟩ : _ ∧ k_ ≠ gb247))) (fun _ hk => hk.2) (.int .i64 (wrap64 (x7_6 + (wrap64 ((wrap64 (bt a0 x9_6)) * x8_6)))))) (fun _ hk => hk.1)⟩
                                          have n1_ : Aside0 ((wc.setCell ⟨gb247, 2, none⟩ (.int .i64 (wrap64 (x7_6 + (wrap64 ((wrap64 (bt a0 x9_6)) * x8_6)))))).heap[gb247]? = some (.cells #[.int .i64 (wrap64 (Int.tdiv (wrap64 (bt a0 x5_1)) 2)), .int .i64 (Int.tmod (wrap64 (bt a0 x5_1)) 2), .int .i64 (wrap64 (x7_6 + (wrap64 ((wrap64 (bt a0 x9_6)) * x8_6)))), .string (⟨#[]⟩ : ByteArray)] 84 (0, 0))) := ⟨blkP BK247.out (by rfl)⟩
                                          have n2_ : Aside0 (Below w.heap.size w (wc.setCell ⟨gb247, 2, none⟩ (.int .i64 (wrap64 (x7_6 + (wrap64 ((wrap64 (bt a0 x9_6)) * x8_6))))))) := ⟨belG HB.out GE247.out⟩
                                          (try clear HO_4)
                                          (try clear BK247)
                                          (try clear HB)
                                          generalize (wc.setCell ⟨gb247, 2, none⟩ (.int .i64 (wrap64 (x7_6 + (wrap64 ((wrap64 (bt a0 x9_6)) * x8_6)))))) = w47 at n0_ n1_ n2_ ⊢
                                          have HO_4 := n0_
                                          have BK247 := n1_
                                          have HB := n2_
                                          clear n0_ n1_ n2_
                                          have n0_ := Aside0.mk (Kd.R_drew HO_4.out)
                                          have n1_ := Aside0.mk (blk_drew BK247.out)
                                          have n2_ := Aside0.mk (below_drew1 HB.out)
                                          clear HO_4
                                          clear BK247
                                          clear HB
                                          have HO_4 := n0_
                                          have BK247 := n1_
                                          have HB := n2_
                                          clear n0_ n1_ n2_
                                          refine start_ (n := 8) (S := fun w' => w'.cell? ⟨gb247, 0, none⟩ = some (.int .i64 (wrap64 (Int.tdiv (wrap64 (bt a0 x5_1)) 2))) ∧ w'.cell? ⟨gb247, 1, none⟩ = some (.int .i64 (Int.tmod (wrap64 (bt a0 x5_1)) 2)) ∧ w'.cell? ⟨gb247, 2, none⟩ = some (.int .i64 (wrap64 (x7_6 + (wrap64 ((wrap64 (bt a0 x9_6)) * x8_6))))) ∧ w'.cell? ⟨gb247, 3, none⟩ = some (.string (⟨#[]⟩ : ByteArray))) (ds := []) #[false, false, false, false, false, false, false, false] (by kernel_rfl) rfl rfl ⟨(blk_cell BK247.out 0).trans rfl, (blk_cell BK247.out 1).trans rfl, (blk_cell BK247.out 2).trans rfl, (blk_cell BK247.out 3).trans rfl⟩ (fun hHeld => ?_); refine with_tabW aquiferref04_Decode.tab24 aquiferref04_Decode.bits24 (fun HT_ HW_ => ?_)
                                          generalize w47.drew = w48 at HO_4 BK247 HB hHeld ⊢
                                          refine pure_ (i := 3) (N := some 114) (v := ?_) (a' := ?_) #[false, false, false, true, false, false, false, false] rfl rfl (any_of HT_.out (by kernel_rfl)) (fun _ _ _ h => h) (Or.inl ⟨by rfl, ?_⟩) ?_ ?_
                                          rotate_left
                                          · intro w'
                                            go_simp
                                            with_reducible rfl
                                          rotate_left
                                          · simp only [Act.put, List.setIfInBounds_toArray, List.set_cons_zero, List.set_cons_succ, i64_w, i32_w]
                                            rfl
                                          refine pure_ (i := 4) (N := some 115) (v := ?_) (a' := ?_) #[false, false, false, true, true, false, false, false] rfl rfl (any_of HT_.out (by kernel_rfl)) (fun _ _ _ h => h) (Or.inl ⟨by rfl, ?_⟩) ?_ ?_
                                          rotate_left
                                          · intro w'
                                            go_simp
                                            with_reducible rfl
                                          rotate_left
                                          · simp only [Act.put, List.setIfInBounds_toArray, List.set_cons_zero, List.set_cons_succ, i64_w, i32_w]
                                            rfl
                                          refine pure_ (i := 5) (N := some 116) (v := ?_) (a' := ?_) #[false, false, false, true, true, true, false, false] rfl rfl (any_of HT_.out (by kernel_rfl)) (fun _ _ _ h => h) (Or.inl ⟨by rfl, ?_⟩) ?_ ?_
                                          rotate_left
                                          · intro w'
                                            go_simp
                                            with_reducible rfl
                                          rotate_left
                                          · simp only [Act.put, List.setIfInBounds_toArray, List.set_cons_zero, List.set_cons_succ, i64_w, i32_w]
                                            rfl
                                          refine pure_ (i := 6) (N := some 117) (v := ?_) (a' := ?_) #[false, false, false, true, true, true, true, false] rfl rfl (any_of HT_.out (by kernel_rfl)) (fun _ _ _ h => h) (Or.inl ⟨by rfl, ?_⟩) ?_ ?_
                                          rotate_left
                                          · intro w'
                                            go_simp
                                            with_reducible rfl
                                          rotate_left
                                          · simp only [Act.put, List.setIfInBounds_toArray, List.set_cons_zero, List.set_cons_succ, i64_w, i32_w]
                                            rfl
                                          refine take_ (i := 0) (N := some 111) (v := ?_) (a' := ?_) #[true, false, false, true, true, true, true, false] rfl rfl (take_ofW HT_.out HW_.out (by kernel_rfl)) (fun _ _ _ h => h) (Or.inl ⟨by rfl, ?_⟩) hHeld ?_ ?_
                                          rotate_left
                                          · rintro w' ⟨s0, s1, s2, s3⟩
                                            go_simp
                                            with_reducible rfl
                                          rotate_left
                                          · simp only [Act.put, List.setIfInBounds_toArray, List.set_cons_zero, List.set_cons_succ, i64_w, i32_w]
                                            rfl
                                          refine one_ (i := 1) (N := some 112) #[true, true, false, true, true, true, true, false] rfl rfl (one_of HT_.out (by kernel_rfl)) (by decide) (fun K hK => ?_)
                                          refine goes_ Try.func55 (by kernel_rfl) rfl #[.agg #[.int .i64 (wrap64 (Int.tdiv (wrap64 (bt a0 x5_1)) 2)), .int .i64 (Int.tmod (wrap64 (bt a0 x5_1)) 2), .int .i64 (wrap64 (x7_6 + (wrap64 ((wrap64 (bt a0 x9_6)) * x8_6)))), .string (⟨#[]⟩ : ByteArray)]] (by rfl) rfl rfl (by (try simp only [List.map_toArray, List.map_cons, List.map_nil]); first | done | rfl | (simp only [List.length_drop, List.length_take]; rfl)) ?_
                                          with_reducible refine (aquiferref04_bytes.calls kj25 (wrap64 (Int.tdiv (wrap64 (bt a0 x5_1)) 2)) (Int.tmod (wrap64 (bt a0 x5_1)) 2) (wrap64 (x7_6 + (wrap64 ((wrap64 (bt a0 x9_6)) * x8_6)))) (⟨#[]⟩ : ByteArray) t248 _ A33.out).mono ?_
                                          rintro e w49 ⟨v249, rfl, ho0, hb⟩
                                          refine ⟨_, rfl, ?_⟩
                                          have n0_ := Aside0.mk (Kd.R_below (RU HO_4.out) hb)
                                          have n1_ := Aside0.mk (Kd.R_lower ho0 (sizG HB.out GE247.out))
                                          have n2_ := Aside0.mk (blk_below (blkU BK247.out) hb)
                                          have n3_ := Aside0.mk (below_step (belG HB.out GE247.out) hb)
                                          clear HO_4
                                          clear BK247
                                          clear HB
                                          have HO_4 := n0_
                                          have HO250 := n1_
                                          have BK247 := n2_
                                          have HB := n3_
                                          clear n0_ n1_ n2_ n3_
                                          (try clear hb)
                                          (try clear hb2)
                                          (try clear hk)
                                          (try clear hi)
                                          (try clear ho0)
                                          refine hK.out _ _ ⟨(blk_cell BK247.out 0).trans rfl, (blk_cell BK247.out 1).trans rfl, (blk_cell BK247.out 2).trans rfl, (blk_cell BK247.out 3).trans rfl⟩ (fun hHeld => ?_)
                                          clear hK K
                                          refine norm_ (a' := ?_) ?_ ?_
                                          rotate_left
                                          · show Act.put _ (some 112) _ = _
                                            simp only [Act.put, List.setIfInBounds_toArray, List.set_cons_zero, List.set_cons_succ, i64_w, i32_w]
                                            rfl
                                          refine one_ (i := 2) (N := some 113) #[true, true, true, true, true, true, true, false] rfl rfl (one_of HT_.out (by kernel_rfl)) (by decide) (fun K hK => ?_)
                                          have hcv50 := own_string (P := Try.prog) Try.underlying38 Try.underlying5 Try.underlying9 (Kd.own_of_R HO250.out)
                                          refine value_ (w1 := ?_) (v := ?_) (by rfl) rfl ?_ ?_
                                          rotate_left 2
                                          · go_simp
                                            constructor
                                            · rfl
                                            · rfl
                                          clear hcv50
                                          refine hK.out _ _ ⟨(blk_cell BK247.out 0).trans rfl, (blk_cell BK247.out 1).trans rfl, (blk_cell BK247.out 2).trans rfl, (blk_cell BK247.out 3).trans rfl⟩ (fun hHeld => ?_)
                                          clear hK K
                                          refine norm_ (a' := ?_) ?_ ?_
                                          rotate_left
                                          · show Act.put _ (some 113) _ = _
                                            simp only [Act.put, List.setIfInBounds_toArray, List.set_cons_zero, List.set_cons_succ, i64_w, i32_w]
                                            rfl
                                          refine pure_ (i := 7) (N := some 118) (v := ?_) (a' := ?_) #[true, true, true, true, true, true, true, true] rfl rfl (any_of HT_.out (by kernel_rfl)) (fun _ _ _ h => h) (Or.inl ⟨by rfl, ?_⟩) ?_ ?_
                                          rotate_left
                                          · intro w'
                                            go_simp
                                            with_reducible rfl
                                          rotate_left
                                          · simp only [Act.put, List.setIfInBounds_toArray, List.set_cons_zero, List.set_cons_succ, i64_w, i32_w]
                                            rfl
                                          refine done_ (done_of HT_.out (by kernel_rfl)) ?_
                                          try go_wp2
                                          go_ret2
                                          exact ⟨_, by first | rfl | (simp [errW_none, errW_some] <;> rfl) | (simp [*, errW_none, errW_some] <;> rfl), by first | exact Kd.R_nil _ _ _ _ _ | exact Kd.N_nil _ _ _ _ _ | exact Kd.V_nil _ _ _ _ _ | exact Kd.Q_nil _ _ _ _ _ | exact Kd.S_nil _ _ _ _ _, belG HB.out GE247.out⟩
                                      · rw [if_neg c36] at H
                                        exact absurd H (by simp)
                                    · rw [if_neg c35] at H
                                      exact absurd H (by simp)
                                  · rw [if_neg c34] at H
                                    exact absurd H (by simp)
                                · rw [if_neg c32] at H
                                  have c32b0 : ((Int.tmod (wrap64 (bt a0 x5_1)) 2) == 0) = false := beq_eq_false_iff_ne.mpr c32
                                  have c32b1 : ((Int.tmod (wrap64 (bt a0 x5_1)) 2) != 0) = true := bne_iff_ne.mpr c32
                                  obtain ⟨ji51, hji51⟩ : ∃ j_ : Int, (wrap64 (x9_6 + 1)) = j_ := ⟨_, rfl⟩
                                  replace H : (if 0 ≤ (ji51) then (if (ji51) ≤ (wrap64 ((ji51) + (wrap64 (x7_6 + (wrap64 ((wrap64 (bt a0 x9_6)) * x8_6)))))) then (if (wrap64 ((ji51) + (wrap64 (x7_6 + (wrap64 ((wrap64 (bt a0 x9_6)) * x8_6)))))) ≤ (a0.size : Int) then ((aquiferref04_bytes.f kj25 (wrap64 (Int.tdiv (wrap64 (bt a0 x5_1)) 2)) (Int.tmod (wrap64 (bt a0 x5_1)) 2) 0 (a0.extract ((ji51) : Int).toNat ((wrap64 ((ji51) + (wrap64 (x7_6 + (wrap64 ((wrap64 (bt a0 x9_6)) * x8_6)))))) : Int).toNat)).bind fun t254 => (if 0 ≤ x5_1 then (if x5_1 ≤ (wrap64 ((ji51) + (wrap64 (x7_6 + (wrap64 ((wrap64 (bt a0 x9_6)) * x8_6)))))) then (if (strOfNums t254).toList = (a0.extract (x5_1 : Int).toNat ((wrap64 ((ji51) + (wrap64 (x7_6 + (wrap64 ((wrap64 (bt a0 x9_6)) * x8_6)))))) : Int).toNat).toList then (if x4_1.length < 3518437208883 then (aquiferref04_Decode.l0 kj25 a0 (x4_1 ++ [(⟨(wrap64 (Int.tdiv (wrap64 (bt a0 x5_1)) 2)), (Int.tmod (wrap64 (bt a0 x5_1)) 2), 0, a0.extract ((ji51) : Int).toNat ((wrap64 ((ji51) + (wrap64 (x7_6 + (wrap64 ((wrap64 (bt a0 x9_6)) * x8_6)))))) : Int).toNat⟩ : S84)]) (wrap64 ((ji51) + (wrap64 (x7_6 + (wrap64 ((wrap64 (bt a0 x9_6)) * x8_6))))))) else (none)) else (some (([] : List (S84)), 5))) else (none)) else (none))) else (none)) else (none)) else (none)) = some (r1, r2) := by first | (rw [hji51] at H; exact H) | (simp only [hji51] at H ⊢; exact H)
                                  have hji51w : (IntKind.i64.wrap (x9_6 + 1)) = ji51 := (i64_w _).trans hji51
                                  by_cases c52 : 0 ≤ (ji51)
                                  · rw [if_pos c52] at H
                                    have c52b0 := eq_true c52
                                    have c52b1 : decide (0 ≤ (ji51)) = true := decide_eq_true c52
                                    clear c52
                                    by_cases c53 : (ji51) ≤ (wrap64 ((ji51) + (wrap64 (x7_6 + (wrap64 ((wrap64 (bt a0 x9_6)) * x8_6))))))
                                    · rw [if_pos c53] at H
                                      have c53b0 := eq_true c53
                                      have c53b1 : decide ((ji51) ≤ (wrap64 ((ji51) + (wrap64 (x7_6 + (wrap64 ((wrap64 (bt a0 x9_6)) * x8_6))))))) = true := decide_eq_true c53
                                      by_cases c54 : (wrap64 ((ji51) + (wrap64 (x7_6 + (wrap64 ((wrap64 (bt a0 x9_6)) * x8_6)))))) ≤ (a0.size : Int)
                                      · rw [if_pos c54] at H
                                        have c54b0 := eq_true c54
                                        have c54b1 : decide ((wrap64 ((ji51) + (wrap64 (x7_6 + (wrap64 ((wrap64 (bt a0 x9_6)) * x8_6)))))) ≤ (a0.size : Int)) = true := decide_eq_true c54
                                        replace H := Option.bind_eq_some_iff.mp H
                                        obtain ⟨t254, A550, H⟩ := H
                                        replace H : (if 0 ≤ x5_1 then (if x5_1 ≤ (wrap64 ((ji51) + (wrap64 (x7_6 + (wrap64 ((wrap64 (bt a0 x9_6)) * x8_6)))))) then (if (strOfNums t254).toList = (a0.extract (x5_1 : Int).toNat ((wrap64 ((ji51) + (wrap64 (x7_6 + (wrap64 ((wrap64 (bt a0 x9_6)) * x8_6)))))) : Int).toNat).toList then (if x4_1.length < 3518437208883 then (aquiferref04_Decode.l0 kj25 a0 (x4_1 ++ [(⟨(wrap64 (Int.tdiv (wrap64 (bt a0 x5_1)) 2)), (Int.tmod (wrap64 (bt a0 x5_1)) 2), 0, a0.extract ((ji51) : Int).toNat ((wrap64 ((ji51) + (wrap64 (x7_6 + (wrap64 ((wrap64 (bt a0 x9_6)) * x8_6)))))) : Int).toNat⟩ : S84)]) (wrap64 ((ji51) + (wrap64 (x7_6 + (wrap64 ((wrap64 (bt a0 x9_6)) * x8_6))))))) else (none)) else (some (([] : List (S84)), 5))) else (none)) else (none)) = some (r1, r2) := H
                                        have A55 := Aside0.mk A550
                                        clear A550
                                        by_cases c56 : 0 ≤ x5_1
                                        · rw [if_pos c56] at H
                                          have c56b0 := eq_true c56
                                          have c56b1 : decide (0 ≤ x5_1) = true := decide_eq_true c56
                                          clear c56
                                          by_cases c57 : x5_1 ≤ (wrap64 ((ji51) + (wrap64 (x7_6 + (wrap64 ((wrap64 (bt a0 x9_6)) * x8_6))))))
                                          · rw [if_pos c57] at H
                                            have c57b0 := eq_true c57
                                            have c57b1 : decide (x5_1 ≤ (wrap64 ((ji51) + (wrap64 (x7_6 + (wrap64 ((wrap64 (bt a0 x9_6)) * x8_6))))))) = true := decide_eq_true c57
                                            have c58b0 := eq_true (of_decide_eq_true (by first | (with_reducible assumption) | assumption) : (wrap64 ((ji51) + (wrap64 (x7_6 + (wrap64 ((wrap64 (bt a0 x9_6)) * x8_6)))))) ≤ (a0.size : Int))
                                            by_cases c59 : (strOfNums t254).toList = (a0.extract (x5_1 : Int).toNat ((wrap64 ((ji51) + (wrap64 (x7_6 + (wrap64 ((wrap64 (bt a0 x9_6)) * x8_6)))))) : Int).toNat).toList
                                            · rw [if_pos c59] at H
                                              have c59b0 : ((strOfNums t254).toList == (a0.extract (x5_1 : Int).toNat ((wrap64 ((ji51) + (wrap64 (x7_6 + (wrap64 ((wrap64 (bt a0 x9_6)) * x8_6)))))) : Int).toNat).toList) = true := beq_iff_eq.mpr c59
                                              have c59b1 : ((strOfNums t254).toList != (a0.extract (x5_1 : Int).toNat ((wrap64 ((ji51) + (wrap64 (x7_6 + (wrap64 ((wrap64 (bt a0 x9_6)) * x8_6)))))) : Int).toNat).toList) = false := bne_eq_false_iff_eq.mpr c59
                                              clear c59
                                              by_cases c60 : x4_1.length < 3518437208883
                                              · rw [if_pos c60] at H
                                                have LMc60 := Aside0.mk c60
                                                clear c60
                                                obtain ⟨y257, hy257⟩ : ∃ y_ : List (S84), y_ = (x4_1 ++ [(⟨(wrap64 (Int.tdiv (wrap64 (bt a0 x5_1)) 2)), (Int.tmod (wrap64 (bt a0 x5_1)) 2), 0, a0.extract ((ji51) : Int).toNat ((wrap64 ((ji51) + (wrap64 (x7_6 + (wrap64 ((wrap64 (bt a0 x9_6)) * x8_6)))))) : Int).toNat⟩ : S84)]) := ⟨_, rfl⟩
                                                replace H : (aquiferref04_Decode.l0 kj25 a0 y257 (wrap64 ((ji51) + (wrap64 (x7_6 + (wrap64 ((wrap64 (bt a0 x9_6)) * x8_6))))))) = some (r1, r2) := by first | (rw [hy257]; with_reducible exact H) | (have H2_ := (Option.bind_some _ _).symm.trans H; rw [hy257]; with_reducible exact H2_) | (have H2_ := (Option.bind_some _ _).symm.trans H; with_reducible exact H2_) | with_reducible exact H | (rw [hy257]; exact H) | exact H
                                                have Ny257 := Aside0.mk hy257
                                                clear hy257
                                                have H' := Aside0.mk H
                                                clear H
                                                have hcz61_0 : wc.cell? ⟨gb247, 0, none⟩ = some (.int .i64 (wrap64 (Int.tdiv (wrap64 (bt a0 x5_1)) 2))) := (blk_cell BK247.out 0).trans rfl
                                                have hcz61_1 : wc.cell? ⟨gb247, 1, none⟩ = some (.int .i64 (Int.tmod (wrap64 (bt a0 x5_1)) 2)) := (blk_cell BK247.out 1).trans rfl
                                                have hcz61_2 : wc.cell? ⟨gb247, 2, none⟩ = some (.int .i64 0) := (blk_cell BK247.out 2).trans rfl
                                                have hcz61_3 : wc.cell? ⟨gb247, 3, none⟩ = some (.string (⟨#[]⟩ : ByteArray)) := (blk_cell BK247.out 3).trans rfl
                                                have hfz61_0 := blk_frozen BK247.out 0
                                                have hfz61_1 := blk_frozen BK247.out 1
                                                have hfz61_2 := blk_frozen BK247.out 2
                                                have hfz61_3 := blk_frozen BK247.out 3
                                                try go_wp2
                                                have n0_ : Aside0 (Kd.R k84 84 (wc.setCell ⟨gb247, 3, none⟩ (.string (a0.extract ((ji51) : Int).toNat ((wrap64 ((ji51) + (wrap64 (x7_6 + (wrap64 ((wrap64 (bt a0 x9_6)) * x8_6)))))) : Int).toNat))) w.heap.size (fun k_ => k_ ≠ gb247) u4 x4_1) := ⟨by (with_reducible repeat (first | apply Kd.R_alloc | apply Kd.R_drewN | apply Kd.R_drew)); exact Kd.R_mono (Kd.R_far (p := ⟨gb247, 3, none⟩) (Kd.R_mono HO_4.out (fun k_ hk => (⟨hk, hk⟩ : _ ∧ k_ ≠ gb247))) (fun _ hk => hk.2) (.string (a0.extract ((ji51) : Int).toNat ((wrap64 ((ji51) + (wrap64 (x7_6 + (wrap64 ((wrap64 (bt a0 x9_6)) * x8_6)))))) : Int).toNat))) (fun _ hk => hk.1)⟩
                                                have n1_ : Aside0 ((wc.setCell ⟨gb247, 3, none⟩ (.string (a0.extract ((ji51) : Int).toNat ((wrap64 ((ji51) + (wrap64 (x7_6 + (wrap64 ((wrap64 (bt a0 x9_6)) * x8_6)))))) : Int).toNat))).heap[gb247]? = some (.cells #[.int .i64 (wrap64 (Int.tdiv (wrap64 (bt a0 x5_1)) 2)), .int .i64 (Int.tmod (wrap64 (bt a0 x5_1)) 2), .int .i64 0, .string (a0.extract ((ji51) : Int).toNat ((wrap64 ((ji51) + (wrap64 (x7_6 + (wrap64 ((wrap64 (bt a0 x9_6)) * x8_6)))))) : Int).toNat)] 84 (0, 0))) := ⟨blkP BK247.out (by rfl)⟩
                                                have n2_ : Aside0 (Below w.heap.size w (wc.setCell ⟨gb247, 3, none⟩ (.string (a0.extract ((ji51) : Int).toNat ((wrap64 ((ji51) + (wrap64 (x7_6 + (wrap64 ((wrap64 (bt a0 x9_6)) * x8_6)))))) : Int).toNat)))) := ⟨belG HB.out GE247.out⟩
                                                (try clear HO_4)
                                                (try clear BK247)
                                                (try clear HB)
                                                generalize (wc.setCell ⟨gb247, 3, none⟩ (.string (a0.extract ((ji51) : Int).toNat ((wrap64 ((ji51) + (wrap64 (x7_6 + (wrap64 ((wrap64 (bt a0 x9_6)) * x8_6)))))) : Int).toNat))) = w62 at n0_ n1_ n2_ ⊢
                                                have HO_4 := n0_
                                                have BK247 := n1_
                                                have HB := n2_
                                                clear n0_ n1_ n2_
                                                have n0_ := Aside0.mk (Kd.R_drew HO_4.out)
                                                have n1_ := Aside0.mk (blk_drew BK247.out)
                                                have n2_ := Aside0.mk (below_drew1 HB.out)
                                                clear HO_4
                                                clear BK247
                                                clear HB
                                                have HO_4 := n0_
                                                have BK247 := n1_
                                                have HB := n2_
                                                clear n0_ n1_ n2_
                                                refine start_ (n := 8) (S := fun w' => w'.cell? ⟨gb247, 0, none⟩ = some (.int .i64 (wrap64 (Int.tdiv (wrap64 (bt a0 x5_1)) 2))) ∧ w'.cell? ⟨gb247, 1, none⟩ = some (.int .i64 (Int.tmod (wrap64 (bt a0 x5_1)) 2)) ∧ w'.cell? ⟨gb247, 2, none⟩ = some (.int .i64 0) ∧ w'.cell? ⟨gb247, 3, none⟩ = some (.string (a0.extract ((ji51) : Int).toNat ((wrap64 ((ji51) + (wrap64 (x7_6 + (wrap64 ((wrap64 (bt a0 x9_6)) * x8_6)))))) : Int).toNat))) (ds := []) #[false, false, false, false, false, false, false, false] (by kernel_rfl) rfl rfl ⟨(blk_cell BK247.out 0).trans rfl, (blk_cell BK247.out 1).trans rfl, (blk_cell BK247.out 2).trans rfl, (blk_cell BK247.out 3).trans rfl⟩ (fun hHeld => ?_); refine with_tabW aquiferref04_Decode.tab24 aquiferref04_Decode.bits24 (fun HT_ HW_ => ?_)
                                                generalize w62.drew = w63 at HO_4 BK247 HB hHeld ⊢
                                                refine pure_ (i := 3) (N := some 114) (v := ?_) (a' := ?_) #[false, false, false, true, false, false, false, false] rfl rfl (any_of HT_.out (by kernel_rfl)) (fun _ _ _ h => h) (Or.inl ⟨by rfl, ?_⟩) ?_ ?_
                                                rotate_left
                                                · intro w'
                                                  go_simp
                                                  with_reducible rfl
                                                rotate_left
                                                · simp only [Act.put, List.setIfInBounds_toArray, List.set_cons_zero, List.set_cons_succ, i64_w, i32_w]
                                                  rfl
                                                refine pure_ (i := 4) (N := some 115) (v := ?_) (a' := ?_) #[false, false, false, true, true, false, false, false] rfl rfl (any_of HT_.out (by kernel_rfl)) (fun _ _ _ h => h) (Or.inl ⟨by rfl, ?_⟩) ?_ ?_
                                                rotate_left
                                                · intro w'
                                                  go_simp
                                                  with_reducible rfl
                                                rotate_left
                                                · simp only [Act.put, List.setIfInBounds_toArray, List.set_cons_zero, List.set_cons_succ, i64_w, i32_w]
                                                  rfl
                                                refine pure_ (i := 5) (N := some 116) (v := ?_) (a' := ?_) #[false, false, false, true, true, true, false, false] rfl rfl (any_of HT_.out (by kernel_rfl)) (fun _ _ _ h => h) (Or.inl ⟨by rfl, ?_⟩) ?_ ?_
                                                rotate_left
                                                · intro w'
                                                  go_simp
                                                  with_reducible rfl
                                                rotate_left
                                                · simp only [Act.put, List.setIfInBounds_toArray, List.set_cons_zero, List.set_cons_succ, i64_w, i32_w]
                                                  rfl
                                                refine pure_ (i := 6) (N := some 117) (v := ?_) (a' := ?_) #[false, false, false, true, true, true, true, false] rfl rfl (any_of HT_.out (by kernel_rfl)) (fun _ _ _ h => h) (Or.inl ⟨by rfl, ?_⟩) ?_ ?_
                                                rotate_left
                                                · intro w'
                                                  go_simp
                                                  with_reducible rfl
                                                rotate_left
                                                · simp only [Act.put, List.setIfInBounds_toArray, List.set_cons_zero, List.set_cons_succ, i64_w, i32_w]
                                                  rfl
                                                refine take_ (i := 0) (N := some 111) (v := ?_) (a' := ?_) #[true, false, false, true, true, true, true, false] rfl rfl (take_ofW HT_.out HW_.out (by kernel_rfl)) (fun _ _ _ h => h) (Or.inl ⟨by rfl, ?_⟩) hHeld ?_ ?_
                                                rotate_left
                                                · rintro w' ⟨s0, s1, s2, s3⟩
                                                  go_simp
                                                  with_reducible rfl
                                                rotate_left
                                                · simp only [Act.put, List.setIfInBounds_toArray, List.set_cons_zero, List.set_cons_succ, i64_w, i32_w]
                                                  rfl
                                                refine one_ (i := 1) (N := some 112) #[true, true, false, true, true, true, true, false] rfl rfl (one_of HT_.out (by kernel_rfl)) (by decide) (fun K hK => ?_)
                                                refine goes_ Try.func55 (by kernel_rfl) rfl #[.agg #[.int .i64 (wrap64 (Int.tdiv (wrap64 (bt a0 x5_1)) 2)), .int .i64 (Int.tmod (wrap64 (bt a0 x5_1)) 2), .int .i64 0, .string (a0.extract ((ji51) : Int).toNat ((wrap64 ((ji51) + (wrap64 (x7_6 + (wrap64 ((wrap64 (bt a0 x9_6)) * x8_6)))))) : Int).toNat)]] (by rfl) rfl rfl (by (try simp only [List.map_toArray, List.map_cons, List.map_nil]); first | done | (simp only [hji51]; rfl) | rfl | (simp only [List.length_drop, List.length_take]; rfl)) ?_
                                                with_reducible refine (aquiferref04_bytes.calls kj25 (wrap64 (Int.tdiv (wrap64 (bt a0 x5_1)) 2)) (Int.tmod (wrap64 (bt a0 x5_1)) 2) 0 (a0.extract ((ji51) : Int).toNat ((wrap64 ((ji51) + (wrap64 (x7_6 + (wrap64 ((wrap64 (bt a0 x9_6)) * x8_6)))))) : Int).toNat) t254 _ A55.out).mono ?_
                                                rintro e w64 ⟨v255, rfl, ho0, hb⟩
                                                refine ⟨_, rfl, ?_⟩
                                                have n0_ := Aside0.mk (Kd.R_below (RU HO_4.out) hb)
                                                have n1_ := Aside0.mk (Kd.R_lower ho0 (sizG HB.out GE247.out))
                                                have n2_ := Aside0.mk (blk_below (blkU BK247.out) hb)
                                                have n3_ := Aside0.mk (below_step (belG HB.out GE247.out) hb)
                                                clear HO_4
                                                clear BK247
                                                clear HB
                                                have HO_4 := n0_
                                                have HO256 := n1_
                                                have BK247 := n2_
                                                have HB := n3_
                                                clear n0_ n1_ n2_ n3_
                                                (try clear hb)
                                                (try clear hb2)
                                                (try clear hk)
                                                (try clear hi)
                                                (try clear ho0)
                                                refine hK.out _ _ ⟨(blk_cell BK247.out 0).trans rfl, (blk_cell BK247.out 1).trans rfl, (blk_cell BK247.out 2).trans rfl, (blk_cell BK247.out 3).trans rfl⟩ (fun hHeld => ?_)
                                                clear hK K
                                                refine norm_ (a' := ?_) ?_ ?_
                                                rotate_left
                                                · show Act.put _ (some 112) _ = _
                                                  simp only [Act.put, List.setIfInBounds_toArray, List.set_cons_zero, List.set_cons_succ, i64_w, i32_w]
                                                  rfl
                                                refine one_ (i := 2) (N := some 113) #[true, true, true, true, true, true, true, false] rfl rfl (one_of HT_.out (by kernel_rfl)) (by decide) (fun K hK => ?_)
                                                have hcv65 := own_string (P := Try.prog) Try.underlying38 Try.underlying5 Try.underlying9 (Kd.own_of_R HO256.out)
                                                refine value_ (w1 := ?_) (v := ?_) (by rfl) rfl ?_ ?_
                                                rotate_left 2
                                                · go_simp
                                                  constructor
                                                  · rfl
                                                  · rfl
                                                clear hcv65
                                                refine hK.out _ _ ⟨(blk_cell BK247.out 0).trans rfl, (blk_cell BK247.out 1).trans rfl, (blk_cell BK247.out 2).trans rfl, (blk_cell BK247.out 3).trans rfl⟩ (fun hHeld => ?_)
                                                clear hK K
                                                refine norm_ (a' := ?_) ?_ ?_
                                                rotate_left
                                                · show Act.put _ (some 113) _ = _
                                                  simp only [Act.put, List.setIfInBounds_toArray, List.set_cons_zero, List.set_cons_succ, i64_w, i32_w]
                                                  rfl
                                                refine pure_ (i := 7) (N := some 118) (v := ?_) (a' := ?_) #[true, true, true, true, true, true, true, true] rfl rfl (any_of HT_.out (by kernel_rfl)) (fun _ _ _ h => h) (Or.inl ⟨by rfl, ?_⟩) ?_ ?_
                                                rotate_left
                                                · intro w'
                                                  go_simp
                                                  with_reducible rfl
                                                rotate_left
                                                · simp only [Act.put, List.setIfInBounds_toArray, List.set_cons_zero, List.set_cons_succ, i64_w, i32_w]
                                                  rfl
                                                refine done_ (done_of HT_.out (by kernel_rfl)) ?_
                                                have hcz66_0 : w64.cell? ⟨gb247, 0, none⟩ = some (.int .i64 (wrap64 (Int.tdiv (wrap64 (bt a0 x5_1)) 2))) := (blk_cell BK247.out 0).trans rfl
                                                have hcz66_1 : w64.cell? ⟨gb247, 1, none⟩ = some (.int .i64 (Int.tmod (wrap64 (bt a0 x5_1)) 2)) := (blk_cell BK247.out 1).trans rfl
                                                have hcz66_2 : w64.cell? ⟨gb247, 2, none⟩ = some (.int .i64 0) := (blk_cell BK247.out 2).trans rfl
                                                have hcz66_3 : w64.cell? ⟨gb247, 3, none⟩ = some (.string (a0.extract ((ji51) : Int).toNat ((wrap64 ((ji51) + (wrap64 (x7_6 + (wrap64 ((wrap64 (bt a0 x9_6)) * x8_6)))))) : Int).toNat)) := (blk_cell BK247.out 3).trans rfl
                                                have hfz66_0 := blk_frozen BK247.out 0
                                                have hfz66_1 := blk_frozen BK247.out 1
                                                have hfz66_2 := blk_frozen BK247.out 2
                                                have hfz66_3 := blk_frozen BK247.out 3
                                                try go_wp2_with (first | ((with_reducible refine gate_builtin (b := .append) (xs := #[.tmp 119, .tmp 121]) rfl ?_); (try (refine gate_guard (by rfl) ?_; dsimp only)); at_builtin; refine Kd.R_append k84 (w0 := w) w.heap.size rfl (.tmp 119) (.tmp 121) 57 84 (.agg #[(.int .i64 0), (.int .i64 0), (.int .i64 0), (.string ⟨#[]⟩)]) 40 rfl Try.underlying57 info84 rfl (by decide) (by omega) u4 x4_1 (⟨(wrap64 (Int.tdiv (wrap64 (bt a0 x5_1)) 2)), (Int.tmod (wrap64 (bt a0 x5_1)) 2), 0, a0.extract ((ji51) : Int).toNat ((wrap64 ((ji51) + (wrap64 (x7_6 + (wrap64 ((wrap64 (bt a0 x9_6)) * x8_6)))))) : Int).toNat⟩ : S84) [.int .i64 (wrap64 (Int.tdiv (wrap64 (bt a0 x5_1)) 2)), .int .i64 (Int.tmod (wrap64 (bt a0 x5_1)) 2), .int .i64 0, .string (a0.extract ((ji51) : Int).toNat ((wrap64 ((ji51) + (wrap64 (x7_6 + (wrap64 ((wrap64 (bt a0 x9_6)) * x8_6)))))) : Int).toNat)] (fun k_ => k_ ≠ gb247) (fun _ => False) rfl rfl ?aP (fun _ hk => hk.elim) ?aF ?aO ?aB ?aS ?aL ?_; (case aP => exact k84_mkM _ _ _ (⟨(wrap64 (Int.tdiv (wrap64 (bt a0 x5_1)) 2)), (Int.tmod (wrap64 (bt a0 x5_1)) 2), 0, a0.extract ((ji51) : Int).toNat ((wrap64 ((ji51) + (wrap64 (x7_6 + (wrap64 ((wrap64 (bt a0 x9_6)) * x8_6)))))) : Int).toNat⟩ : S84)); (case aB => exact (belG HB.out GE247.out)); (case aF => exact (fun k_ hk => Kd.freshB (g := gb247) (o := .cells #[.int .i64 (wrap64 (Int.tdiv (wrap64 (bt a0 x5_1)) 2)), .int .i64 (Int.tmod (wrap64 (bt a0 x5_1)) 2), .int .i64 0, .string (a0.extract ((ji51) : Int).toNat ((wrap64 ((ji51) + (wrap64 (x7_6 + (wrap64 ((wrap64 (bt a0 x9_6)) * x8_6)))))) : Int).toNat)] 84 (0, 0)) (blkU BK247.out) k_ hk)); (case aO => exact (RU HO_4.out)); (case aS => exact (sizG HB.out GE247.out)); (case aL => have := LMc60.out; omega); intro v258 w67 ho hb hg hat; rw [← Ny257.out] at ho; have n0_ := Aside0.mk (blk_grown (g := gb247) (o := .cells #[.int .i64 (wrap64 (Int.tdiv (wrap64 (bt a0 x5_1)) 2)), .int .i64 (Int.tmod (wrap64 (bt a0 x5_1)) 2), .int .i64 0, .string (a0.extract ((ji51) : Int).toNat ((wrap64 ((ji51) + (wrap64 (x7_6 + (wrap64 ((wrap64 (bt a0 x9_6)) * x8_6)))))) : Int).toNat)] 84 (0, 0)) (blkU BK247.out) hg (Kd.R_away HO_4.out (fun _ hk => hk))); have n1_ := Aside0.mk (Kd.R_over' (RU HO256.out) (Kd.R_typed (RU HO_4.out)) (by decide) hg); have n2_ := Aside0.mk (hb); have n3_ := Aside0.mk (ho); clear BK247; clear HO256; clear HB; clear HO_4; have BK247 := n0_; have HO256 := n1_; have HB := n2_; have HO259 := n3_; clear n0_ n1_ n2_ n3_; clear ho hb hg hat))
                                                go_roundg kj25
                                                case measure => have := HK1.out; have := HJ6.out; have := HJ19.out; have := HJ25.out; omega
                                                case rel => exact ⟨(y257), (wrap64 ((ji51) + (wrap64 (x7_6 + (wrap64 ((wrap64 (bt a0 x9_6)) * x8_6)))))), (by first | rfl | (simp; done) | (simp only [← hji51] <;> (first | rfl | simp)) | (simp [*]; done)), H', ⟨by have := HK1.out; have := HJ6.out; have := HJ19.out; have := HJ25.out; omega⟩, ⟨by (with_reducible repeat (first | apply Kd.R_alloc | apply Kd.R_drewN | apply Kd.R_drew)); exact Kd.R_mono HO259.out (fun _ hk => trivial)⟩, ⟨belG HB.out GE247.out⟩⟩
                                              · rw [if_neg c60] at H
                                                exact absurd H (by simp)
                                            · rw [if_neg c59] at H
                                              have c59b0 : ((strOfNums t254).toList == (a0.extract (x5_1 : Int).toNat ((wrap64 ((ji51) + (wrap64 (x7_6 + (wrap64 ((wrap64 (bt a0 x9_6)) * x8_6)))))) : Int).toNat).toList) = false := beq_eq_false_iff_ne.mpr c59
                                              have c59b1 : ((strOfNums t254).toList != (a0.extract (x5_1 : Int).toNat ((wrap64 ((ji51) + (wrap64 (x7_6 + (wrap64 ((wrap64 (bt a0 x9_6)) * x8_6)))))) : Int).toNat).toList) = true := bne_iff_ne.mpr c59
                                              simp only [Option.some.injEq, Prod.mk.injEq] at H
                                              obtain ⟨rfl, rfl⟩ := H
                                              have hcz68_0 : wc.cell? ⟨gb247, 0, none⟩ = some (.int .i64 (wrap64 (Int.tdiv (wrap64 (bt a0 x5_1)) 2))) := (blk_cell BK247.out 0).trans rfl
                                              have hcz68_1 : wc.cell? ⟨gb247, 1, none⟩ = some (.int .i64 (Int.tmod (wrap64 (bt a0 x5_1)) 2)) := (blk_cell BK247.out 1).trans rfl
                                              have hcz68_2 : wc.cell? ⟨gb247, 2, none⟩ = some (.int .i64 0) := (blk_cell BK247.out 2).trans rfl
                                              have hcz68_3 : wc.cell? ⟨gb247, 3, none⟩ = some (.string (⟨#[]⟩ : ByteArray)) := (blk_cell BK247.out 3).trans rfl
                                              have hfz68_0 := blk_frozen BK247.out 0
                                              have hfz68_1 := blk_frozen BK247.out 1
                                              have hfz68_2 := blk_frozen BK247.out 2
                                              have hfz68_3 := blk_frozen BK247.out 3
                                              try go_wp2
                                              have n0_ : Aside0 (Kd.R k84 84 (wc.setCell ⟨gb247, 3, none⟩ (.string (a0.extract ((ji51) : Int).toNat ((wrap64 ((ji51) + (wrap64 (x7_6 + (wrap64 ((wrap64 (bt a0 x9_6)) * x8_6)))))) : Int).toNat))) w.heap.size (fun k_ => k_ ≠ gb247) u4 x4_1) := ⟨by (with_reducible repeat (first | apply Kd.R_alloc | apply Kd.R_drewN | apply Kd.R_drew)); exact Kd.R_mono (Kd.R_far (p := ⟨gb247, 3, none⟩) (Kd.R_mono HO_4.out (fun k_ hk => (⟨hk, hk⟩ : _ ∧ k_ ≠ gb247))) (fun _ hk => hk.2) (.string (a0.extract ((ji51) : Int).toNat ((wrap64 ((ji51) + (wrap64 (x7_6 + (wrap64 ((wrap64 (bt a0 x9_6)) * x8_6)))))) : Int).toNat))) (fun _ hk => hk.1)⟩
                                              have n1_ : Aside0 ((wc.setCell ⟨gb247, 3, none⟩ (.string (a0.extract ((ji51) : Int).toNat ((wrap64 ((ji51) + (wrap64 (x7_6 + (wrap64 ((wrap64 (bt a0 x9_6)) * x8_6)))))) : Int).toNat))).heap[gb247]? = some (.cells #[.int .i64 (wrap64 (Int.tdiv (wrap64 (bt a0 x5_1)) 2)), .int .i64 (Int.tmod (wrap64 (bt a0 x5_1)) 2), .int .i64 0, .string (a0.extract ((ji51) : Int).toNat ((wrap64 ((ji51) + (wrap64 (x7_6 + (wrap64 ((wrap64 (bt a0 x9_6)) * x8_6)))))) : Int).toNat)] 84 (0, 0))) := ⟨blkP BK247.out (by rfl)⟩
                                              have n2_ : Aside0 (Below w.heap.size w (wc.setCell ⟨gb247, 3, none⟩ (.string (a0.extract ((ji51) : Int).toNat ((wrap64 ((ji51) + (wrap64 (x7_6 + (wrap64 ((wrap64 (bt a0 x9_6)) * x8_6)))))) : Int).toNat)))) := ⟨belG HB.out GE247.out⟩
                                              (try clear HO_4)
                                              (try clear BK247)
                                              (try clear HB)
                                              generalize (wc.setCell ⟨gb247, 3, none⟩ (.string (a0.extract ((ji51) : Int).toNat ((wrap64 ((ji51) + (wrap64 (x7_6 + (wrap64 ((wrap64 (bt a0 x9_6)) * x8_6)))))) : Int).toNat))) = w69 at n0_ n1_ n2_ ⊢
                                              have HO_4 := n0_
                                              have BK247 := n1_
                                              have HB := n2_
                                              clear n0_ n1_ n2_
                                              have n0_ := Aside0.mk (Kd.R_drew HO_4.out)
                                              have n1_ := Aside0.mk (blk_drew BK247.out)
                                              have n2_ := Aside0.mk (below_drew1 HB.out)
                                              clear HO_4
                                              clear BK247
                                              clear HB
                                              have HO_4 := n0_
                                              have BK247 := n1_
                                              have HB := n2_
                                              clear n0_ n1_ n2_
                                              refine start_ (n := 8) (S := fun w' => w'.cell? ⟨gb247, 0, none⟩ = some (.int .i64 (wrap64 (Int.tdiv (wrap64 (bt a0 x5_1)) 2))) ∧ w'.cell? ⟨gb247, 1, none⟩ = some (.int .i64 (Int.tmod (wrap64 (bt a0 x5_1)) 2)) ∧ w'.cell? ⟨gb247, 2, none⟩ = some (.int .i64 0) ∧ w'.cell? ⟨gb247, 3, none⟩ = some (.string (a0.extract ((ji51) : Int).toNat ((wrap64 ((ji51) + (wrap64 (x7_6 + (wrap64 ((wrap64 (bt a0 x9_6)) * x8_6)))))) : Int).toNat))) (ds := []) #[false, false, false, false, false, false, false, false] (by kernel_rfl) rfl rfl ⟨(blk_cell BK247.out 0).trans rfl, (blk_cell BK247.out 1).trans rfl, (blk_cell BK247.out 2).trans rfl, (blk_cell BK247.out 3).trans rfl⟩ (fun hHeld => ?_); refine with_tabW aquiferref04_Decode.tab24 aquiferref04_Decode.bits24 (fun HT_ HW_ => ?_)
                                              generalize w69.drew = w70 at HO_4 BK247 HB hHeld ⊢
                                              refine pure_ (i := 3) (N := some 114) (v := ?_) (a' := ?_) #[false, false, false, true, false, false, false, false] rfl rfl (any_of HT_.out (by kernel_rfl)) (fun _ _ _ h => h) (Or.inl ⟨by rfl, ?_⟩) ?_ ?_
                                              rotate_left
                                              · intro w'
                                                go_simp
                                                with_reducible rfl
                                              rotate_left
                                              · simp only [Act.put, List.setIfInBounds_toArray, List.set_cons_zero, List.set_cons_succ, i64_w, i32_w]
                                                rfl
                                              refine pure_ (i := 4) (N := some 115) (v := ?_) (a' := ?_) #[false, false, false, true, true, false, false, false] rfl rfl (any_of HT_.out (by kernel_rfl)) (fun _ _ _ h => h) (Or.inl ⟨by rfl, ?_⟩) ?_ ?_
                                              rotate_left
                                              · intro w'
                                                go_simp
                                                with_reducible rfl
                                              rotate_left
                                              · simp only [Act.put, List.setIfInBounds_toArray, List.set_cons_zero, List.set_cons_succ, i64_w, i32_w]
                                                rfl
                                              refine pure_ (i := 5) (N := some 116) (v := ?_) (a' := ?_) #[false, false, false, true, true, true, false, false] rfl rfl (any_of HT_.out (by kernel_rfl)) (fun _ _ _ h => h) (Or.inl ⟨by rfl, ?_⟩) ?_ ?_
                                              rotate_left
                                              · intro w'
                                                go_simp
                                                with_reducible rfl
                                              rotate_left
                                              · simp only [Act.put, List.setIfInBounds_toArray, List.set_cons_zero, List.set_cons_succ, i64_w, i32_w]
                                                rfl
                                              refine pure_ (i := 6) (N := some 117) (v := ?_) (a' := ?_) #[false, false, false, true, true, true, true, false] rfl rfl (any_of HT_.out (by kernel_rfl)) (fun _ _ _ h => h) (Or.inl ⟨by rfl, ?_⟩) ?_ ?_
                                              rotate_left
                                              · intro w'
                                                go_simp
                                                with_reducible rfl
                                              rotate_left
                                              · simp only [Act.put, List.setIfInBounds_toArray, List.set_cons_zero, List.set_cons_succ, i64_w, i32_w]
                                                rfl
                                              refine take_ (i := 0) (N := some 111) (v := ?_) (a' := ?_) #[true, false, false, true, true, true, true, false] rfl rfl (take_ofW HT_.out HW_.out (by kernel_rfl)) (fun _ _ _ h => h) (Or.inl ⟨by rfl, ?_⟩) hHeld ?_ ?_
                                              rotate_left
                                              · rintro w' ⟨s0, s1, s2, s3⟩
                                                go_simp
                                                with_reducible rfl
                                              rotate_left
                                              · simp only [Act.put, List.setIfInBounds_toArray, List.set_cons_zero, List.set_cons_succ, i64_w, i32_w]
                                                rfl
                                              refine one_ (i := 1) (N := some 112) #[true, true, false, true, true, true, true, false] rfl rfl (one_of HT_.out (by kernel_rfl)) (by decide) (fun K hK => ?_)
                                              refine goes_ Try.func55 (by kernel_rfl) rfl #[.agg #[.int .i64 (wrap64 (Int.tdiv (wrap64 (bt a0 x5_1)) 2)), .int .i64 (Int.tmod (wrap64 (bt a0 x5_1)) 2), .int .i64 0, .string (a0.extract ((ji51) : Int).toNat ((wrap64 ((ji51) + (wrap64 (x7_6 + (wrap64 ((wrap64 (bt a0 x9_6)) * x8_6)))))) : Int).toNat)]] (by rfl) rfl rfl (by (try simp only [List.map_toArray, List.map_cons, List.map_nil]); first | done | (simp only [hji51]; rfl) | rfl | (simp only [List.length_drop, List.length_take]; rfl)) ?_
                                              with_reducible refine (aquiferref04_bytes.calls kj25 (wrap64 (Int.tdiv (wrap64 (bt a0 x5_1)) 2)) (Int.tmod (wrap64 (bt a0 x5_1)) 2) 0 (a0.extract ((ji51) : Int).toNat ((wrap64 ((ji51) + (wrap64 (x7_6 + (wrap64 ((wrap64 (bt a0 x9_6)) * x8_6)))))) : Int).toNat) t254 _ A55.out).mono ?_
                                              rintro e w71 ⟨v255, rfl, ho0, hb⟩
                                              refine ⟨_, rfl, ?_⟩
                                              have n0_ := Aside0.mk (Kd.R_below (RU HO_4.out) hb)
                                              have n1_ := Aside0.mk (Kd.R_lower ho0 (sizG HB.out GE247.out))
                                              have n2_ := Aside0.mk (blk_below (blkU BK247.out) hb)
                                              have n3_ := Aside0.mk (below_step (belG HB.out GE247.out) hb)
                                              clear HO_4
                                              clear BK247
                                              clear HB
                                              have HO_4 := n0_
                                              have HO256 := n1_
                                              have BK247 := n2_
                                              have HB := n3_
                                              clear n0_ n1_ n2_ n3_
                                              (try clear hb)
                                              (try clear hb2)
                                              (try clear hk)
                                              (try clear hi)
                                              (try clear ho0)
                                              refine hK.out _ _ ⟨(blk_cell BK247.out 0).trans rfl, (blk_cell BK247.out 1).trans rfl, (blk_cell BK247.out 2).trans rfl, (blk_cell BK247.out 3).trans rfl⟩ (fun hHeld => ?_)
                                              clear hK K
                                              refine norm_ (a' := ?_) ?_ ?_
                                              rotate_left
                                              · show Act.put _ (some 112) _ = _
                                                simp only [Act.put, List.setIfInBounds_toArray, List.set_cons_zero, List.set_cons_succ, i64_w, i32_w]
                                                rfl
                                              refine one_ (i := 2) (N := some 113) #[true, true, true, true, true, true, true, false] rfl rfl (one_of HT_.out (by kernel_rfl)) (by decide) (fun K hK => ?_)
                                              have hcv72 := own_string (P := Try.prog) Try.underlying38 Try.underlying5 Try.underlying9 (Kd.own_of_R HO256.out)
                                              refine value_ (w1 := ?_) (v := ?_) (by rfl) rfl ?_ ?_
                                              rotate_left 2
                                              · go_simp
                                                constructor
                                                · rfl
                                                · rfl
                                              clear hcv72
                                              refine hK.out _ _ ⟨(blk_cell BK247.out 0).trans rfl, (blk_cell BK247.out 1).trans rfl, (blk_cell BK247.out 2).trans rfl, (blk_cell BK247.out 3).trans rfl⟩ (fun hHeld => ?_)
                                              clear hK K
                                              refine norm_ (a' := ?_) ?_ ?_
                                              rotate_left
                                              · show Act.put _ (some 113) _ = _
                                                simp only [Act.put, List.setIfInBounds_toArray, List.set_cons_zero, List.set_cons_succ, i64_w, i32_w]
                                                rfl
                                              refine pure_ (i := 7) (N := some 118) (v := ?_) (a' := ?_) #[true, true, true, true, true, true, true, true] rfl rfl (any_of HT_.out (by kernel_rfl)) (fun _ _ _ h => h) (Or.inl ⟨by rfl, ?_⟩) ?_ ?_
                                              rotate_left
                                              · intro w'
                                                go_simp
                                                with_reducible rfl
                                              rotate_left
                                              · simp only [Act.put, List.setIfInBounds_toArray, List.set_cons_zero, List.set_cons_succ, i64_w, i32_w]
                                                rfl
                                              refine done_ (done_of HT_.out (by kernel_rfl)) ?_
                                              try go_wp2
                                              go_ret2
                                              exact ⟨_, by first | rfl | (simp [errW_none, errW_some] <;> rfl) | (simp only [← hji51]; first | rfl | (simp [errW_none, errW_some] <;> rfl)) | (simp [*, errW_none, errW_some] <;> rfl), by first | exact Kd.R_nil _ _ _ _ _ | exact Kd.N_nil _ _ _ _ _ | exact Kd.V_nil _ _ _ _ _ | exact Kd.Q_nil _ _ _ _ _ | exact Kd.S_nil _ _ _ _ _, belG HB.out GE247.out⟩
                                          · rw [if_neg c57] at H
                                            exact absurd H (by simp)
                                        · rw [if_neg c56] at H
                                          exact absurd H (by simp)
                                      · rw [if_neg c54] at H
                                        exact absurd H (by simp)
                                    · rw [if_neg c53] at H
                                      exact absurd H (by simp)
                                  · rw [if_neg c52] at H
                                    exact absurd H (by simp)
                        · rw [if_neg c24] at H
                          exact absurd H (by simp)
                      · rw [if_neg c23] at H
                        exact absurd H (by simp)
          · rw [if_neg c4] at H
            exact absurd H (by simp)
        · rw [if_neg c3] at H
          have c3b0 : decide (x5_1 < (a0.size : Int)) = false := decide_eq_false c3
          clear c3
          replace H := Option.bind_eq_some_iff.mp H
          obtain ⟨⟨t245, t246⟩, A730, H⟩ := H
          replace H : (if t246 = 0 then (if t245.toList = a0.toList then (some (x4_1, 0)) else (some (([] : List (S84)), 5))) else (some (([] : List (S84)), 5))) = some (r1, r2) := H
          have A73 := Aside0.mk A730
          clear A730
          by_cases c74 : t246 = 0
          · rw [if_pos c74] at H
            have c74b0 : (t246 == 0) = true := beq_iff_eq.mpr c74
            have c74b1 : (t246 != 0) = false := bne_eq_false_iff_eq.mpr c74
            clear c74
            by_cases c75 : t245.toList = a0.toList
            · rw [if_pos c75] at H
              have c75b0 : (t245.toList == a0.toList) = true := beq_iff_eq.mpr c75
              have c75b1 : (t245.toList != a0.toList) = false := bne_eq_false_iff_eq.mpr c75
              clear c75
              simp only [Option.some.injEq, Prod.mk.injEq] at H
              obtain ⟨rfl, rfl⟩ := H
              obtain ⟨Ao76, co76, eo76⟩ := Kd.R_slice HO_4.out
              subst eo76
              go_wp2_with (first | ((with_reducible refine gate_callee (f := 31) rfl ?_); refine goesL_ (some 126) rfl rfl Try.func31 (by kernel_rfl) rfl #[.slice Ao76 x4_1.length co76] rfl (by (try simp only [List.map_toArray, List.map_cons, List.map_nil]); first | done | rfl | (simp only [List.length_drop, List.length_take]; rfl)) ?_; (with_reducible refine (aquiferref04_Encode.calls k1 _ _ x4_1 t245 t246 _ ?side1 ?side2 A73.out).mono ?_); (case side1 => exact CU (Kd.R_reads' HO_4.out).2.2); (case side2 => exact (Kd.R_reads' HO_4.out).2.1); rintro e w77 ⟨rfl, hb⟩; refine ⟨_, rfl, ?_⟩; have n0_ := Aside0.mk (Kd.R_below (RU HO_4.out) hb); have n1_ := Aside0.mk (below_step (belU HB.out) hb); clear HO_4; clear HB; have HO_4 := n0_; have HB := n1_; clear n0_ n1_; (try clear hb); (try clear hb2); (try clear hk); (try clear hi)))
              go_ret2
              exact ⟨_, by first | rfl | (simp [errW_none, errW_some] <;> rfl) | (simp [*, errW_none, errW_some] <;> rfl), by (with_reducible repeat (first | apply Kd.R_alloc | apply Kd.R_drewN | apply Kd.R_drew)); exact HO_4.out, belU HB.out⟩
            · rw [if_neg c75] at H
              have c75b0 : (t245.toList == a0.toList) = false := beq_eq_false_iff_ne.mpr c75
              have c75b1 : (t245.toList != a0.toList) = true := bne_iff_ne.mpr c75
              simp only [Option.some.injEq, Prod.mk.injEq] at H
              obtain ⟨rfl, rfl⟩ := H
              obtain ⟨Ao78, co78, eo78⟩ := Kd.R_slice HO_4.out
              subst eo78
              go_wp2_with (first | ((with_reducible refine gate_callee (f := 31) rfl ?_); refine goesL_ (some 126) rfl rfl Try.func31 (by kernel_rfl) rfl #[.slice Ao78 x4_1.length co78] rfl (by (try simp only [List.map_toArray, List.map_cons, List.map_nil]); first | done | rfl | (simp only [List.length_drop, List.length_take]; rfl)) ?_; (with_reducible refine (aquiferref04_Encode.calls k1 _ _ x4_1 t245 t246 _ ?side1 ?side2 A73.out).mono ?_); (case side1 => exact CU (Kd.R_reads' HO_4.out).2.2); (case side2 => exact (Kd.R_reads' HO_4.out).2.1); rintro e w79 ⟨rfl, hb⟩; refine ⟨_, rfl, ?_⟩; have n0_ := Aside0.mk (Kd.R_below (RU HO_4.out) hb); have n1_ := Aside0.mk (below_step (belU HB.out) hb); clear HO_4; clear HB; have HO_4 := n0_; have HB := n1_; clear n0_ n1_; (try clear hb); (try clear hb2); (try clear hk); (try clear hi)))
              go_ret2
              exact ⟨_, by first | rfl | (simp [errW_none, errW_some] <;> rfl) | (simp [*, errW_none, errW_some] <;> rfl), by first | exact Kd.R_nil _ _ _ _ _ | exact Kd.N_nil _ _ _ _ _ | exact Kd.V_nil _ _ _ _ _ | exact Kd.Q_nil _ _ _ _ _ | exact Kd.S_nil _ _ _ _ _, belU HB.out⟩
          · rw [if_neg c74] at H
            have c74b0 : (t246 == 0) = false := beq_eq_false_iff_ne.mpr c74
            have c74b1 : (t246 != 0) = true := bne_iff_ne.mpr c74
            simp only [Option.some.injEq, Prod.mk.injEq] at H
            obtain ⟨rfl, rfl⟩ := H
            obtain ⟨Ao80, co80, eo80⟩ := Kd.R_slice HO_4.out
            subst eo80
            go_wp2_with (first | ((with_reducible refine gate_callee (f := 31) rfl ?_); refine goesL_ (some 126) rfl rfl Try.func31 (by kernel_rfl) rfl #[.slice Ao80 x4_1.length co80] rfl (by (try simp only [List.map_toArray, List.map_cons, List.map_nil]); first | done | rfl | (simp only [List.length_drop, List.length_take]; rfl)) ?_; (with_reducible refine (aquiferref04_Encode.calls k1 _ _ x4_1 t245 t246 _ ?side1 ?side2 A73.out).mono ?_); (case side1 => exact CU (Kd.R_reads' HO_4.out).2.2); (case side2 => exact (Kd.R_reads' HO_4.out).2.1); rintro e w81 ⟨rfl, hb⟩; refine ⟨_, rfl, ?_⟩; have n0_ := Aside0.mk (Kd.R_below (RU HO_4.out) hb); have n1_ := Aside0.mk (below_step (belU HB.out) hb); clear HO_4; clear HB; have HO_4 := n0_; have HB := n1_; clear n0_ n1_; (try clear hb); (try clear hb2); (try clear hk); (try clear hi)))
            go_ret2
            exact ⟨_, by first | rfl | (simp [errW_none, errW_some] <;> rfl) | (simp [*, errW_none, errW_some] <;> rfl), by first | exact Kd.R_nil _ _ _ _ _ | exact Kd.N_nil _ _ _ _ _ | exact Kd.V_nil _ _ _ _ _ | exact Kd.Q_nil _ _ _ _ _ | exact Kd.S_nil _ _ _ _ _, belU HB.out⟩

end Go.Proofs.Ytjaneipklpgnlaa.Q

namespace Go.Proofs.Ytjaneipklpgnlaa.Q
open Go.RowKit Go.Proofs.YtjaneipklpgnlaaW.PrintWords Go.Proofs.YtjaneipklpgnlaaW.PrintLast Go.Proofs.YtjaneipklpgnlaaW.PrintMore Go.Proofs.YtjaneipklpgnlaaK
attribute [local go_sem] max2_int min2_int max_two min_two max_three min_three max_four min_four   -- for this text's walks alone
attribute [local go_sem ↓] Go.Proofs.YtjaneipklpgnlaaK.isSome_setCell
set_option linter.unusedVariables false
set_option linter.unusedSimpArgs false

/-! ### aquiferref20_get: function 37 -/
def aquiferref20_get.f (k : Nat) (l0 : List (S84)) (a1 : Int) : Option (Int) := (aquiferref04_Num.f k l0 a1).bind fun bt263 => (some bt263.1)
theorem aquiferref20_get.mono : ∀ a0 a1 k, LeO (aquiferref20_get.f k a0 a1) (aquiferref20_get.f (k + 1) a0 a1) := by
  intro a0 a1 k
  unfold aquiferref20_get.f
  repeat' first
      | (with_reducible exact aquiferref04_Num.mono _ _ _)
      | (with_reducible exact LeO.refl _)
      | (with_reducible exact LeO.none _)
      | (with_reducible refine LeO.ite ?_ ?_)
      | (with_reducible refine LeO.bind ?_ (fun _ => ?_))
      | exact aquiferref04_Num.mono _ _ _
      | exact LeO.none _
      | refine LeO.ite ?_ ?_
      | refine LeO.bind ?_ (fun _ => ?_)
set_option maxHeartbeats 8000000 in
set_option maxRecDepth 100000 in
theorem aquiferref20_get.calls (k : Nat) (A0 : Option Addr) (c0 : Nat) (l0 : List (S84)) (a1 : Int) (r : Int) (w : World) (hr0 : Kd.C k84 w A0 l0.length l0) (hc0 : l0.length ≤ c0) (h : aquiferref20_get.f k l0 a1 = some r) :
    Calls Try.prog 37 #[.slice A0 l0.length c0, .int .i64 a1] w fun e w' => e = .returned (.int .i64 r) ∧ Drawn0 w w' := by
  have HR0 := Aside0.mk hr0
  have HC0 := Aside0.mk hc0
  clear hr0 hc0
  have H : ((aquiferref04_Num.f k l0 a1).bind fun bt263 => (some bt263.1)) = some r := h
  clear h
  replace H := Option.bind_eq_some_iff.mp H
  obtain ⟨⟨t263, t264⟩, A30, H⟩ := H
  replace H : (some t263) = some r := H
  have A3 := Aside0.mk A30
  clear A30
  obtain rfl := Option.some.inj H
  go_enter Try.func37, Try.ntmps37
  go_wp2_with (first | ((with_reducible refine gate_callee (f := 59) rfl ?_); refine goesL_ (some 10) rfl rfl Try.func59 (by kernel_rfl) rfl #[.slice A0 l0.length c0, .int .i64 a1] rfl (by (try simp only [List.map_toArray, List.map_cons, List.map_nil]); first | done | rfl | (simp only [List.length_drop, List.length_take]; rfl)) ?_; (with_reducible refine (aquiferref04_Num.calls k _ _ l0 a1 t263 t264 _ ?side1 ?side2 A3.out).mono ?_); (case side1 => exact CU HR0.out); (case side2 => exact HC0.out); rintro e w' ⟨rfl, ⟨nd, rfl⟩⟩; refine ⟨_, rfl, ?_⟩))
  go_ret
  exact ⟨by first | rfl | (simp; done) | (simp [*]; done), by repeat (first | exact Drawn0.refl _ | apply Drawn0.step)⟩

end Go.Proofs.Ytjaneipklpgnlaa.Q

namespace Go.Proofs.Ytjaneipklpgnlaa.Q
open Go.RowKit Go.Proofs.YtjaneipklpgnlaaW.PrintWords Go.Proofs.YtjaneipklpgnlaaW.PrintLast Go.Proofs.YtjaneipklpgnlaaW.PrintMore Go.Proofs.YtjaneipklpgnlaaK
attribute [local go_sem] max2_int min2_int max_two min_two max_three min_three max_four min_four   -- for this text's walks alone
attribute [local go_sem ↓] Go.Proofs.YtjaneipklpgnlaaK.isSome_setCell
set_option linter.unusedVariables false
set_option linter.unusedSimpArgs false

/-! ### aquiferref20_word: function 38 -/
def aquiferref20_word.f (k : Nat) (l0 : List (S84)) (a1 : Int) : Option (ByteArray) := (aquiferref04_Text.f k l0 a1).bind fun bt275 => (some bt275.1)
theorem aquiferref20_word.mono : ∀ a0 a1 k, LeO (aquiferref20_word.f k a0 a1) (aquiferref20_word.f (k + 1) a0 a1) := by
  intro a0 a1 k
  unfold aquiferref20_word.f
  repeat' first
      | (with_reducible exact aquiferref04_Text.mono _ _ _)
      | (with_reducible exact LeO.refl _)
      | (with_reducible exact LeO.none _)
      | (with_reducible refine LeO.ite ?_ ?_)
      | (with_reducible refine LeO.bind ?_ (fun _ => ?_))
      | exact aquiferref04_Text.mono _ _ _
      | exact LeO.none _
      | refine LeO.ite ?_ ?_
      | refine LeO.bind ?_ (fun _ => ?_)
set_option maxHeartbeats 8000000 in
set_option maxRecDepth 100000 in
theorem aquiferref20_word.calls (k : Nat) (A0 : Option Addr) (c0 : Nat) (l0 : List (S84)) (a1 : Int) (r : ByteArray) (w : World) (hr0 : Kd.C k84 w A0 l0.length l0) (hc0 : l0.length ≤ c0) (h : aquiferref20_word.f k l0 a1 = some r) :
    Calls Try.prog 38 #[.slice A0 l0.length c0, .int .i64 a1] w fun e w' => e = .returned (.string r) ∧ Below w.heap.size w w' := by
  have HR0 := Aside0.mk hr0
  have HC0 := Aside0.mk hc0
  clear hr0 hc0
  have HB := Aside0.mk (Below.refl w.heap.size w)
  have H : ((aquiferref04_Text.f k l0 a1).bind fun bt275 => (some bt275.1)) = some r := h
  clear h
  replace H := Option.bind_eq_some_iff.mp H
  obtain ⟨⟨t275, t276⟩, A30, H⟩ := H
  replace H : (some t275) = some r := H
  have A3 := Aside0.mk A30
  clear A30
  obtain rfl := Option.some.inj H
  go_enter Try.func38, Try.ntmps38
  go_wp2_with (first | ((with_reducible refine gate_callee (f := 60) rfl ?_); refine goesL_ (some 10) rfl rfl Try.func60 (by kernel_rfl) rfl #[.slice A0 l0.length c0, .int .i64 a1] rfl (by (try simp only [List.map_toArray, List.map_cons, List.map_nil]); first | done | rfl | (simp only [List.length_drop, List.length_take]; rfl)) ?_; (with_reducible refine (aquiferref04_Text.calls k _ _ l0 a1 t275 t276 _ ?side1 ?side2 A3.out).mono ?_); (case side1 => exact CU HR0.out); (case side2 => exact HC0.out); rintro e w4 ⟨rfl, hb⟩; refine ⟨_, rfl, ?_⟩; have n0_ := Aside0.mk (below_step (belU HB.out) hb); clear HB; have HB := n0_; clear n0_; (try clear hb); (try clear hb2); (try clear hk); (try clear hi)))
  go_ret
  exact ⟨by first | rfl | (simp [errW_none, errW_some] <;> rfl) | (simp [*, errW_none, errW_some] <;> rfl), belU HB.out⟩

end Go.Proofs.Ytjaneipklpgnlaa.Q

namespace Go.Proofs.Ytjaneipklpgnlaa.Q
open Go.RowKit Go.Proofs.YtjaneipklpgnlaaW.PrintWords Go.Proofs.YtjaneipklpgnlaaW.PrintLast Go.Proofs.YtjaneipklpgnlaaW.PrintMore Go.Proofs.YtjaneipklpgnlaaK
attribute [local go_sem] max2_int min2_int max_two min_two max_three min_three max_four min_four   -- for this text's walks alone
attribute [local go_sem ↓] Go.Proofs.YtjaneipklpgnlaaK.isSome_setCell
set_option linter.unusedVariables false
set_option linter.unusedSimpArgs false

/-! ### aquiferref20_ReadRequest: function 12 -/
def aquiferref20_ReadRequest.f (k : Nat) (a0 : ByteArray) : Option (Int × Int × Int × Int × Int × Int × ByteArray × ByteArray × Int) := (aquiferref04_Decode.f k a0).bind fun bt278 => (if bt278.2 = 0 then ((aquiferref20_get.f k bt278.1 1).bind fun t282 => ((aquiferref20_get.f k bt278.1 2).bind fun t283 => ((aquiferref20_get.f k bt278.1 3).bind fun t284 => ((aquiferref20_get.f k bt278.1 4).bind fun t285 => ((aquiferref20_get.f k bt278.1 5).bind fun t286 => ((aquiferref20_get.f k bt278.1 6).bind fun t287 => ((aquiferref20_word.f k bt278.1 7).bind fun t288 => ((aquiferref20_word.f k bt278.1 8).bind fun t289 => ((aquiferref20_Request.f k t282 t283 t284 t285 t286 t287 t288 t289).bind fun bt291 => (if bt291.2 = 0 then (if bt291.1.toList = a0.toList then (some (t282, t283, t284, t285, t286, t287, t288, t289, 0)) else (some (0, 0, 0, 0, 0, 0, (⟨#[]⟩ : ByteArray), (⟨#[]⟩ : ByteArray), 5))) else (some (0, 0, 0, 0, 0, 0, (⟨#[]⟩ : ByteArray), (⟨#[]⟩ : ByteArray), 5)))))))))))) else (some (0, 0, 0, 0, 0, 0, (⟨#[]⟩ : ByteArray), (⟨#[]⟩ : ByteArray), 5)))
theorem aquiferref20_ReadRequest.mono : ∀ a0 k, LeO (aquiferref20_ReadRequest.f k a0) (aquiferref20_ReadRequest.f (k + 1) a0) := by
  intro a0 k
  unfold aquiferref20_ReadRequest.f
  repeat' first
      | (with_reducible exact aquiferref04_Decode.mono _ _)
      | (with_reducible exact aquiferref20_Request.mono _ _ _ _ _ _ _ _ _)
      | (with_reducible exact aquiferref20_get.mono _ _ _)
      | (with_reducible exact aquiferref20_word.mono _ _ _)
      | (with_reducible exact LeO.refl _)
      | (with_reducible exact LeO.none _)
      | (with_reducible refine LeO.ite ?_ ?_)
      | (with_reducible refine LeO.bind ?_ (fun _ => ?_))
      | exact aquiferref04_Decode.mono _ _
      | exact aquiferref20_Request.mono _ _ _ _ _ _ _ _ _
      | exact aquiferref20_get.mono _ _ _
      | exact aquiferref20_word.mono _ _ _
      | exact LeO.none _
      | refine LeO.ite ?_ ?_
      | refine LeO.bind ?_ (fun _ => ?_)
set_option maxHeartbeats 8000000 in
set_option maxRecDepth 100000 in
theorem aquiferref20_ReadRequest.calls (k : Nat) (a0 : ByteArray) (r1 : Int) (r2 : Int) (r3 : Int) (r4 : Int) (r5 : Int) (r6 : Int) (r7 : ByteArray) (r8 : ByteArray) (r9 : Int) (w : World) (h : aquiferref20_ReadRequest.f k a0 = some (r1, r2, r3, r4, r5, r6, r7, r8, r9)) :
    Calls Try.prog 12 #[.string a0] w fun e w' => e = .returned (.tuple #[.agg #[.int .i64 r1, .int .i64 r2, .int .i64 r3, .int .i64 r4, .int .i64 r5, .int .i64 r6, .string r7, .string r8], .int .i64 r9]) ∧ Below w.heap.size w w' := by
  have hu23 := Try.underlying23
  have HB := Aside0.mk (Below.refl w.heap.size w)
  have H : ((aquiferref04_Decode.f k a0).bind fun bt278 => (if bt278.2 = 0 then ((aquiferref20_get.f k bt278.1 1).bind fun t282 => ((aquiferref20_get.f k bt278.1 2).bind fun t283 => ((aquiferref20_get.f k bt278.1 3).bind fun t284 => ((aquiferref20_get.f k bt278.1 4).bind fun t285 => ((aquiferref20_get.f k bt278.1 5).bind fun t286 => ((aquiferref20_get.f k bt278.1 6).bind fun t287 => ((aquiferref20_word.f k bt278.1 7).bind fun t288 => ((aquiferref20_word.f k bt278.1 8).bind fun t289 => ((aquiferref20_Request.f k t282 t283 t284 t285 t286 t287 t288 t289).bind fun bt291 => (if bt291.2 = 0 then (if bt291.1.toList = a0.toList then (some (t282, t283, t284, t285, t286, t287, t288, t289, 0)) else (some (0, 0, 0, 0, 0, 0, (⟨#[]⟩ : ByteArray), (⟨#[]⟩ : ByteArray), 5))) else (some (0, 0, 0, 0, 0, 0, (⟨#[]⟩ : ByteArray), (⟨#[]⟩ : ByteArray), 5)))))))))))) else (some (0, 0, 0, 0, 0, 0, (⟨#[]⟩ : ByteArray), (⟨#[]⟩ : ByteArray), 5)))) = some (r1, r2, r3, r4, r5, r6, r7, r8, r9) := h
  clear h
  replace H := Option.bind_eq_some_iff.mp H
  obtain ⟨⟨t278, t279⟩, A20, H⟩ := H
  replace H : (if t279 = 0 then ((aquiferref20_get.f k t278 1).bind fun t282 => ((aquiferref20_get.f k t278 2).bind fun t283 => ((aquiferref20_get.f k t278 3).bind fun t284 => ((aquiferref20_get.f k t278 4).bind fun t285 => ((aquiferref20_get.f k t278 5).bind fun t286 => ((aquiferref20_get.f k t278 6).bind fun t287 => ((aquiferref20_word.f k t278 7).bind fun t288 => ((aquiferref20_word.f k t278 8).bind fun t289 => ((aquiferref20_Request.f k t282 t283 t284 t285 t286 t287 t288 t289).bind fun bt291 => (if bt291.2 = 0 then (if bt291.1.toList = a0.toList then (some (t282, t283, t284, t285, t286, t287, t288, t289, 0)) else (some (0, 0, 0, 0, 0, 0, (⟨#[]⟩ : ByteArray), (⟨#[]⟩ : ByteArray), 5))) else (some (0, 0, 0, 0, 0, 0, (⟨#[]⟩ : ByteArray), (⟨#[]⟩ : ByteArray), 5)))))))))))) else (some (0, 0, 0, 0, 0, 0, (⟨#[]⟩ : ByteArray), (⟨#[]⟩ : ByteArray), 5))) = some (r1, r2, r3, r4, r5, r6, r7, r8, r9) := H
  have A2 := Aside0.mk A20
  clear A20
  by_cases c3 : t279 = 0
  · rw [if_pos c3] at H
    have c3b0 : (t279 == 0) = true := beq_iff_eq.mpr c3
    have c3b1 : (t279 != 0) = false := bne_eq_false_iff_eq.mpr c3
    clear c3
    replace H := Option.bind_eq_some_iff.mp H
    obtain ⟨t282, A40, H⟩ := H
    replace H : ((aquiferref20_get.f k t278 2).bind fun t283 => ((aquiferref20_get.f k t278 3).bind fun t284 => ((aquiferref20_get.f k t278 4).bind fun t285 => ((aquiferref20_get.f k t278 5).bind fun t286 => ((aquiferref20_get.f k t278 6).bind fun t287 => ((aquiferref20_word.f k t278 7).bind fun t288 => ((aquiferref20_word.f k t278 8).bind fun t289 => ((aquiferref20_Request.f k t282 t283 t284 t285 t286 t287 t288 t289).bind fun bt291 => (if bt291.2 = 0 then (if bt291.1.toList = a0.toList then (some (t282, t283, t284, t285, t286, t287, t288, t289, 0)) else (some (0, 0, 0, 0, 0, 0, (⟨#[]⟩ : ByteArray), (⟨#[]⟩ : ByteArray), 5))) else (some (0, 0, 0, 0, 0, 0, (⟨#[]⟩ : ByteArray), (⟨#[]⟩ : ByteArray), 5))))))))))) = some (r1, r2, r3, r4, r5, r6, r7, r8, r9) := H
    have A4 := Aside0.mk A40
    clear A40
    replace H := Option.bind_eq_some_iff.mp H
    obtain ⟨t283, A50, H⟩ := H
    replace H : ((aquiferref20_get.f k t278 3).bind fun t284 => ((aquiferref20_get.f k t278 4).bind fun t285 => ((aquiferref20_get.f k t278 5).bind fun t286 => ((aquiferref20_get.f k t278 6).bind fun t287 => ((aquiferref20_word.f k t278 7).bind fun t288 => ((aquiferref20_word.f k t278 8).bind fun t289 => ((aquiferref20_Request.f k t282 t283 t284 t285 t286 t287 t288 t289).bind fun bt291 => (if bt291.2 = 0 then (if bt291.1.toList = a0.toList then (some (t282, t283, t284, t285, t286, t287, t288, t289, 0)) else (some (0, 0, 0, 0, 0, 0, (⟨#[]⟩ : ByteArray), (⟨#[]⟩ : ByteArray), 5))) else (some (0, 0, 0, 0, 0, 0, (⟨#[]⟩ : ByteArray), (⟨#[]⟩ : ByteArray), 5)))))))))) = some (r1, r2, r3, r4, r5, r6, r7, r8, r9) := H
    have A5 := Aside0.mk A50
    clear A50
    replace H := Option.bind_eq_some_iff.mp H
    obtain ⟨t284, A60, H⟩ := H
    replace H : ((aquiferref20_get.f k t278 4).bind fun t285 => ((aquiferref20_get.f k t278 5).bind fun t286 => ((aquiferref20_get.f k t278 6).bind fun t287 => ((aquiferref20_word.f k t278 7).bind fun t288 => ((aquiferref20_word.f k t278 8).bind fun t289 => ((aquiferref20_Request.f k t282 t283 t284 t285 t286 t287 t288 t289).bind fun bt291 => (if bt291.2 = 0 then (if bt291.1.toList = a0.toList then (some (t282, t283, t284, t285, t286, t287, t288, t289, 0)) else (some (0, 0, 0, 0, 0, 0, (⟨#[]⟩ : ByteArray), (⟨#[]⟩ : ByteArray), 5))) else (some (0, 0, 0, 0, 0, 0, (⟨#[]⟩ : ByteArray), (⟨#[]⟩ : ByteArray), 5))))))))) = some (r1, r2, r3, r4, r5, r6, r7, r8, r9) := H
    have A6 := Aside0.mk A60
    clear A60
    replace H := Option.bind_eq_some_iff.mp H
    obtain ⟨t285, A70, H⟩ := H
    replace H : ((aquiferref20_get.f k t278 5).bind fun t286 => ((aquiferref20_get.f k t278 6).bind fun t287 => ((aquiferref20_word.f k t278 7).bind fun t288 => ((aquiferref20_word.f k t278 8).bind fun t289 => ((aquiferref20_Request.f k t282 t283 t284 t285 t286 t287 t288 t289).bind fun bt291 => (if bt291.2 = 0 then (if bt291.1.toList = a0.toList then (some (t282, t283, t284, t285, t286, t287, t288, t289, 0)) else (some (0, 0, 0, 0, 0, 0, (⟨#[]⟩ : ByteArray), (⟨#[]⟩ : ByteArray), 5))) else (some (0, 0, 0, 0, 0, 0, (⟨#[]⟩ : ByteArray), (⟨#[]⟩ : ByteArray), 5)))))))) = some (r1, r2, r3, r4, r5, r6, r7, r8, r9) := H
    have A7 := Aside0.mk A70
    clear A70
    replace H := Option.bind_eq_some_iff.mp H
    obtain ⟨t286, A80, H⟩ := H
    replace H : ((aquiferref20_get.f k t278 6).bind fun t287 => ((aquiferref20_word.f k t278 7).bind fun t288 => ((aquiferref20_word.f k t278 8).bind fun t289 => ((aquiferref20_Request.f k t282 t283 t284 t285 t286 t287 t288 t289).bind fun bt291 => (if bt291.2 = 0 then (if bt291.1.toList = a0.toList then (some (t282, t283, t284, t285, t286, t287, t288, t289, 0)) else (some (0, 0, 0, 0, 0, 0, (⟨#[]⟩ : ByteArray), (⟨#[]⟩ : ByteArray), 5))) else (some (0, 0, 0, 0, 0, 0, (⟨#[]⟩ : ByteArray), (⟨#[]⟩ : ByteArray), 5))))))) = some (r1, r2, r3, r4, r5, r6, r7, r8, r9) := H
    have A8 := Aside0.mk A80
    clear A80
    replace H := Option.bind_eq_some_iff.mp H
    obtain ⟨t287, A90, H⟩ := H
    replace H : ((aquiferref20_word.f k t278 7).bind fun t288 => ((aquiferref20_word.f k t278 8).bind fun t289 => ((aquiferref20_Request.f k t282 t283 t284 t285 t286 t287 t288 t289).bind fun bt291 => (if bt291.2 = 0 then (if bt291.1.toList = a0.toList then (some (t282, t283, t284, t285, t286, t287, t288, t289, 0)) else (some (0, 0, 0, 0, 0, 0, (⟨#[]⟩ : ByteArray), (⟨#[]⟩ : ByteArray), 5))) else (some (0, 0, 0, 0, 0, 0, (⟨#[]⟩ : ByteArray), (⟨#[]⟩ : ByteArray), 5)))))) = some (r1, r2, r3, r4, r5, r6, r7, r8, r9) := H
    have A9 := Aside0.mk A90
    clear A90
    replace H := Option.bind_eq_some_iff.mp H
    obtain ⟨t288, A100, H⟩ := H
    replace H : ((aquiferref20_word.f k t278 8).bind fun t289 => ((aquiferref20_Request.f k t282 t283 t284 t285 t286 t287 t288 t289).bind fun bt291 => (if bt291.2 = 0 then (if bt291.1.toList = a0.toList then (some (t282, t283, t284, t285, t286, t287, t288, t289, 0)) else (some (0, 0, 0, 0, 0, 0, (⟨#[]⟩ : ByteArray), (⟨#[]⟩ : ByteArray), 5))) else (some (0, 0, 0, 0, 0, 0, (⟨#[]⟩ : ByteArray), (⟨#[]⟩ : ByteArray), 5))))) = some (r1, r2, r3, r4, r5, r6, r7, r8, r9) := H
    have A10 := Aside0.mk A100
    clear A100
    replace H := Option.bind_eq_some_iff.mp H
    obtain ⟨t289, A110, H⟩ := H
    replace H : ((aquiferref20_Request.f k t282 t283 t284 t285 t286 t287 t288 t289).bind fun bt291 => (if bt291.2 = 0 then (if bt291.1.toList = a0.toList then (some (t282, t283, t284, t285, t286, t287, t288, t289, 0)) else (some (0, 0, 0, 0, 0, 0, (⟨#[]⟩ : ByteArray), (⟨#[]⟩ : ByteArray), 5))) else (some (0, 0, 0, 0, 0, 0, (⟨#[]⟩ : ByteArray), (⟨#[]⟩ : ByteArray), 5)))) = some (r1, r2, r3, r4, r5, r6, r7, r8, r9) := H
    have A11 := Aside0.mk A110
    clear A110
    replace H := Option.bind_eq_some_iff.mp H
    obtain ⟨⟨t291, t292⟩, A120, H⟩ := H
    replace H : (if t292 = 0 then (if t291.toList = a0.toList then (some (t282, t283, t284, t285, t286, t287, t288, t289, 0)) else (some (0, 0, 0, 0, 0, 0, (⟨#[]⟩ : ByteArray), (⟨#[]⟩ : ByteArray), 5))) else (some (0, 0, 0, 0, 0, 0, (⟨#[]⟩ : ByteArray), (⟨#[]⟩ : ByteArray), 5))) = some (r1, r2, r3, r4, r5, r6, r7, r8, r9) := H
    have A12 := Aside0.mk A120
    clear A120
    by_cases c13 : t292 = 0
    · rw [if_pos c13] at H
      have c13b0 : (t292 == 0) = true := beq_iff_eq.mpr c13
      have c13b1 : (t292 != 0) = false := bne_eq_false_iff_eq.mpr c13
      clear c13
      by_cases c14 : t291.toList = a0.toList
      · rw [if_pos c14] at H
        have c14b0 : (t291.toList == a0.toList) = true := beq_iff_eq.mpr c14
        have c14b1 : (t291.toList != a0.toList) = false := bne_eq_false_iff_eq.mpr c14
        clear c14
        simp only [Option.some.injEq, Prod.mk.injEq] at H
        obtain ⟨rfl, rfl, rfl, rfl, rfl, rfl, rfl, rfl, rfl⟩ := H
        go_enter Try.func12, Try.ntmps12
        go_wp2_with (first | ((with_reducible refine gate_dst (N := 2) rfl ?_); refine box_event ?hg (N := 2) ?hd (cs := #[.int .i64 0, .int .i64 0, .int .i64 0, .int .i64 0, .int .i64 0, .int .i64 0, .string (⟨#[]⟩ : ByteArray), .string (⟨#[]⟩ : ByteArray)]) (t := 23) ?hr ?_; (case hd => rfl); (case hg => rfl); (case hr => first | (go_simp; done) | (go_simp; rfl)); intro gb277 hg w15 hbox hb; have n0_ := Aside0.mk (below_step (belU HB.out) hb); have n1_ := Aside0.mk (hbox); have n2_ := Aside0.mk ((by rw [hg]; exact (sizU HB.out) : w.heap.size ≤ gb277)); have n3_ := Aside0.mk ((by rw [hg]; exact (sizU HB.out) : w.heap.size ≤ gb277)); clear HB; have HB := n0_; have BK277 := n1_; have GW277 := n2_; have GE277 := n3_; clear n0_ n1_ n2_ n3_; clear hb hbox hg) | ((with_reducible refine gate_callee (f := 36) rfl ?_); refine goesL_ (some 10) rfl rfl Try.func36 (by kernel_rfl) rfl #[.string a0] rfl (by (try simp only [List.map_toArray, List.map_cons, List.map_nil]); first | done | rfl | (simp only [List.length_drop, List.length_take]; rfl)) ?_; (with_reducible refine (aquiferref04_Decode.calls k a0 t278 t279 _ A2.out).mono ?_); rintro e w16 ⟨v280, rfl, ho0, hb⟩; refine ⟨_, rfl, ?_⟩; have n0_ := Aside0.mk (Kd.R_lower ho0 (sizG HB.out GE277.out)); have n1_ := Aside0.mk (blk_below (blkU BK277.out) hb); have n2_ := Aside0.mk (below_step (belG HB.out GE277.out) hb); clear BK277; clear HB; have HO281 := n0_; have BK277 := n1_; have HB := n2_; clear n0_ n1_ n2_; (try clear hb); (try clear hb2); (try clear hk); (try clear hi); (try clear ho0); obtain ⟨Ao17, co17, eo17⟩ := Kd.R_slice HO281.out; subst eo17) | ((with_reducible refine gate_callee (f := 37) rfl ?_); refine goesL_ (some 17) rfl rfl Try.func37 (by kernel_rfl) rfl #[.slice Ao17 t278.length co17, .int .i64 1] rfl (by (try simp only [List.map_toArray, List.map_cons, List.map_nil]); first | done | rfl | (simp only [List.length_drop, List.length_take]; rfl)) ?_; (with_reducible refine (aquiferref20_get.calls k _ _ t278 1 t282 _ ?side1 ?side2 A4.out).mono ?_); (case side1 => exact CU (Kd.R_reads' HO281.out).2.2); (case side2 => exact (Kd.R_reads' HO281.out).2.1); rintro e w' ⟨rfl, ⟨nd, rfl⟩⟩; refine ⟨_, rfl, ?_⟩; (try (rw [drewN_self w16]; generalize hq_ : World.drewN w16 _ = w16; have n0_ : Aside0 (Kd.R k84 84 w16 w.heap.size (fun _ => True) (.slice Ao17 t278.length co17) t278) := ⟨by rw [← hq_]; exact (RU HO281.out)⟩; have n1_ : Aside0 (w16.heap[gb277]? = some (.cells #[.int .i64 0, .int .i64 0, .int .i64 0, .int .i64 0, .int .i64 0, .int .i64 0, .string (⟨#[]⟩ : ByteArray), .string (⟨#[]⟩ : ByteArray)] 23 (0, 0))) := ⟨by rw [← hq_]; exact (blkU BK277.out)⟩; have n2_ : Aside0 (Below w.heap.size w w16) := ⟨by rw [← hq_]; exact (belG HB.out GE277.out)⟩; clear HO281 BK277 HB hq_; have HO281 := n0_; have BK277 := n1_; have HB := n2_; clear n0_ n1_ n2_))) | ((with_reducible refine gate_callee (f := 37) rfl ?_); refine goesL_ (some 19) rfl rfl Try.func37 (by kernel_rfl) rfl #[.slice Ao17 t278.length co17, .int .i64 2] rfl (by (try simp only [List.map_toArray, List.map_cons, List.map_nil]); first | done | rfl | (simp only [List.length_drop, List.length_take]; rfl)) ?_; (with_reducible refine (aquiferref20_get.calls k _ _ t278 2 t283 _ ?side1 ?side2 A5.out).mono ?_); (case side1 => exact CU (Kd.R_reads' HO281.out).2.2); (case side2 => exact (Kd.R_reads' HO281.out).2.1); rintro e w' ⟨rfl, ⟨nd, rfl⟩⟩; refine ⟨_, rfl, ?_⟩; (try (rw [drewN_self w16]; generalize hq_ : World.drewN w16 _ = w16; have n0_ : Aside0 (Kd.R k84 84 w16 w.heap.size (fun _ => True) (.slice Ao17 t278.length co17) t278) := ⟨by rw [← hq_]; exact (RU HO281.out)⟩; have n1_ : Aside0 (w16.heap[gb277]? = some (.cells #[.int .i64 0, .int .i64 0, .int .i64 0, .int .i64 0, .int .i64 0, .int .i64 0, .string (⟨#[]⟩ : ByteArray), .string (⟨#[]⟩ : ByteArray)] 23 (0, 0))) := ⟨by rw [← hq_]; exact (blkU BK277.out)⟩; have n2_ : Aside0 (Below w.heap.size w w16) := ⟨by rw [← hq_]; exact (belG HB.out GE277.out)⟩; clear HO281 BK277 HB hq_; have HO281 := n0_; have BK277 := n1_; have HB := n2_; clear n0_ n1_ n2_))) | ((with_reducible refine gate_callee (f := 37) rfl ?_); refine goesL_ (some 21) rfl rfl Try.func37 (by kernel_rfl) rfl #[.slice Ao17 t278.length co17, .int .i64 3] rfl (by (try simp only [List.map_toArray, List.map_cons, List.map_nil]); first | done | rfl | (simp only [List.length_drop, List.length_take]; rfl)) ?_; (with_reducible refine (aquiferref20_get.calls k _ _ t278 3 t284 _ ?side1 ?side2 A6.out).mono ?_); (case side1 => exact CU (Kd.R_reads' HO281.out).2.2); (case side2 => exact (Kd.R_reads' HO281.out).2.1); rintro e w' ⟨rfl, ⟨nd, rfl⟩⟩; refine ⟨_, rfl, ?_⟩; (try (rw [drewN_self w16]; generalize hq_ : World.drewN w16 _ = w16; have n0_ : Aside0 (Kd.R k84 84 w16 w.heap.size (fun _ => True) (.slice Ao17 t278.length co17) t278) := ⟨by rw [← hq_]; exact (RU HO281.out)⟩; have n1_ : Aside0 (w16.heap[gb277]? = some (.cells #[.int .i64 0, .int .i64 0, .int .i64 0, .int .i64 0, .int .i64 0, .int .i64 0, .string (⟨#[]⟩ : ByteArray), .string (⟨#[]⟩ : ByteArray)] 23 (0, 0))) := ⟨by rw [← hq_]; exact (blkU BK277.out)⟩; have n2_ : Aside0 (Below w.heap.size w w16) := ⟨by rw [← hq_]; exact (belG HB.out GE277.out)⟩; clear HO281 BK277 HB hq_; have HO281 := n0_; have BK277 := n1_; have HB := n2_; clear n0_ n1_ n2_))) | ((with_reducible refine gate_callee (f := 37) rfl ?_); refine goesL_ (some 23) rfl rfl Try.func37 (by kernel_rfl) rfl #[.slice Ao17 t278.length co17, .int .i64 4] rfl (by (try simp only [List.map_toArray, List.map_cons, List.map_nil]); first | done | rfl | (simp only [List.length_drop, List.length_take]; rfl)) ?_; (with_reducible refine (aquiferref20_get.calls k _ _ t278 4 t285 _ ?side1 ?side2 A7.out).mono ?_); (case side1 => exact CU (Kd.R_reads' HO281.out).2.2); (case side2 => exact (Kd.R_reads' HO281.out).2.1); rintro e w' ⟨rfl, ⟨nd, rfl⟩⟩; refine ⟨_, rfl, ?_⟩; (try (rw [drewN_self w16]; generalize hq_ : World.drewN w16 _ = w16; have n0_ : Aside0 (Kd.R k84 84 w16 w.heap.size (fun _ => True) (.slice Ao17 t278.length co17) t278) := ⟨by rw [← hq_]; exact (RU HO281.out)⟩; have n1_ : Aside0 (w16.heap[gb277]? = some (.cells #[.int .i64 0, .int .i64 0, .int .i64 0, .int .i64 0, .int .i64 0, .int .i64 0, .string (⟨#[]⟩ : ByteArray), .string (⟨#[]⟩ : ByteArray)] 23 (0, 0))) := ⟨by rw [← hq_]; exact (blkU BK277.out)⟩; have n2_ : Aside0 (Below w.heap.size w w16) := ⟨by rw [← hq_]; exact (belG HB.out GE277.out)⟩; clear HO281 BK277 HB hq_; have HO281 := n0_; have BK277 := n1_; have HB := n2_; clear n0_ n1_ n2_))) | ((with_reducible refine gate_callee (f := 37) rfl ?_); refine goesL_ (some 25) rfl rfl Try.func37 (by kernel_rfl) rfl #[.slice Ao17 t278.length co17, .int .i64 5] rfl (by (try simp only [List.map_toArray, List.map_cons, List.map_nil]); first | done | rfl | (simp only [List.length_drop, List.length_take]; rfl)) ?_; (with_reducible refine (aquiferref20_get.calls k _ _ t278 5 t286 _ ?side1 ?side2 A8.out).mono ?_); (case side1 => exact CU (Kd.R_reads' HO281.out).2.2); (case side2 => exact (Kd.R_reads' HO281.out).2.1); rintro e w' ⟨rfl, ⟨nd, rfl⟩⟩; refine ⟨_, rfl, ?_⟩; (try (rw [drewN_self w16]; generalize hq_ : World.drewN w16 _ = w16; have n0_ : Aside0 (Kd.R k84 84 w16 w.heap.size (fun _ => True) (.slice Ao17 t278.length co17) t278) := ⟨by rw [← hq_]; exact (RU HO281.out)⟩; have n1_ : Aside0 (w16.heap[gb277]? = some (.cells #[.int .i64 0, .int .i64 0, .int .i64 0, .int .i64 0, .int .i64 0, .int .i64 0, .string (⟨#[]⟩ : ByteArray), .string (⟨#[]⟩ : ByteArray)] 23 (0, 0))) := ⟨by rw [← hq_]; exact (blkU BK277.out)⟩; have n2_ : Aside0 (Below w.heap.size w w16) := ⟨by rw [← hq_]; exact (belG HB.out GE277.out)⟩; clear HO281 BK277 HB hq_; have HO281 := n0_; have BK277 := n1_; have HB := n2_; clear n0_ n1_ n2_))) | ((with_reducible refine gate_callee (f := 37) rfl ?_); refine goesL_ (some 27) rfl rfl Try.func37 (by kernel_rfl) rfl #[.slice Ao17 t278.length co17, .int .i64 6] rfl (by (try simp only [List.map_toArray, List.map_cons, List.map_nil]); first | done | rfl | (simp only [List.length_drop, List.length_take]; rfl)) ?_; (with_reducible refine (aquiferref20_get.calls k _ _ t278 6 t287 _ ?side1 ?side2 A9.out).mono ?_); (case side1 => exact CU (Kd.R_reads' HO281.out).2.2); (case side2 => exact (Kd.R_reads' HO281.out).2.1); rintro e w' ⟨rfl, ⟨nd, rfl⟩⟩; refine ⟨_, rfl, ?_⟩; (try (rw [drewN_self w16]; generalize hq_ : World.drewN w16 _ = w16; have n0_ : Aside0 (Kd.R k84 84 w16 w.heap.size (fun _ => True) (.slice Ao17 t278.length co17) t278) := ⟨by rw [← hq_]; exact (RU HO281.out)⟩; have n1_ : Aside0 (w16.heap[gb277]? = some (.cells #[.int .i64 0, .int .i64 0, .int .i64 0, .int .i64 0, .int .i64 0, .int .i64 0, .string (⟨#[]⟩ : ByteArray), .string (⟨#[]⟩ : ByteArray)] 23 (0, 0))) := ⟨by rw [← hq_]; exact (blkU BK277.out)⟩; have n2_ : Aside0 (Below w.heap.size w w16) := ⟨by rw [← hq_]; exact (belG HB.out GE277.out)⟩; clear HO281 BK277 HB hq_; have HO281 := n0_; have BK277 := n1_; have HB := n2_; clear n0_ n1_ n2_))) | ((with_reducible refine gate_callee (f := 38) rfl ?_); refine goesL_ (some 29) rfl rfl Try.func38 (by kernel_rfl) rfl #[.slice Ao17 t278.length co17, .int .i64 7] rfl (by (try simp only [List.map_toArray, List.map_cons, List.map_nil]); first | done | rfl | (simp only [List.length_drop, List.length_take]; rfl)) ?_; (with_reducible refine (aquiferref20_word.calls k _ _ t278 7 t288 _ ?side1 ?side2 A10.out).mono ?_); (case side1 => exact CU (Kd.R_reads' HO281.out).2.2); (case side2 => exact (Kd.R_reads' HO281.out).2.1); rintro e w18 ⟨rfl, hb⟩; refine ⟨_, rfl, ?_⟩; have n0_ := Aside0.mk (Kd.R_below (RU HO281.out) hb); have n1_ := Aside0.mk (blk_below (blkU BK277.out) hb); have n2_ := Aside0.mk (below_step (belG HB.out GE277.out) hb); clear HO281; clear BK277; clear HB; have HO281 := n0_; have BK277 := n1_; have HB := n2_; clear n0_ n1_ n2_; (try clear hb); (try clear hb2); (try clear hk); (try clear hi)) | ((with_reducible refine gate_callee (f := 38) rfl ?_); refine goesL_ (some 31) rfl rfl Try.func38 (by kernel_rfl) rfl #[.slice Ao17 t278.length co17, .int .i64 8] rfl (by (try simp only [List.map_toArray, List.map_cons, List.map_nil]); first | done | rfl | (simp only [List.length_drop, List.length_take]; rfl)) ?_; (with_reducible refine (aquiferref20_word.calls k _ _ t278 8 t289 _ ?side1 ?side2 A11.out).mono ?_); (case side1 => exact CU (Kd.R_reads' HO281.out).2.2); (case side2 => exact (Kd.R_reads' HO281.out).2.1); rintro e w19 ⟨rfl, hb⟩; refine ⟨_, rfl, ?_⟩; have n0_ := Aside0.mk (Kd.R_below (RU HO281.out) hb); have n1_ := Aside0.mk (blk_below (blkU BK277.out) hb); have n2_ := Aside0.mk (below_step (belG HB.out GE277.out) hb); clear HO281; clear BK277; clear HB; have HO281 := n0_; have BK277 := n1_; have HB := n2_; clear n0_ n1_ n2_; (try clear hb); (try clear hb2); (try clear hk); (try clear hi)) | ((with_reducible refine gate_dst (N := 6) rfl ?_); refine box_event ?hg (N := 6) ?hd (cs := #[.int .i64 0, .int .i64 0, .int .i64 0, .int .i64 0, .int .i64 0, .int .i64 0, .string (⟨#[]⟩ : ByteArray), .string (⟨#[]⟩ : ByteArray)]) (t := 23) ?hr ?_; (case hd => rfl); (case hg => rfl); (case hr => first | (go_simp; done) | (go_simp; rfl)); intro gb290 hg w20 hbox hb; have n0_ := Aside0.mk (Kd.R_below (RU HO281.out) hb); have n1_ := Aside0.mk (blk_below (blkU BK277.out) hb); have n2_ := Aside0.mk (below_step (belG HB.out GE277.out) hb); have n3_ := Aside0.mk (hbox); have n4_ := Aside0.mk ((by rw [hg]; exact (sizG HB.out GE277.out) : w.heap.size ≤ gb290)); have n5_ := Aside0.mk ((by rw [hg]; exact (sizG HB.out GE277.out) : w.heap.size ≤ gb290)); have n6_ := Aside0.mk ((by rw [hg]; exact Nat.ne_of_lt (blk_lt (g := gb277) (o := .cells #[.int .i64 0, .int .i64 0, .int .i64 0, .int .i64 0, .int .i64 0, .int .i64 0, .string (⟨#[]⟩ : ByteArray), .string (⟨#[]⟩ : ByteArray)] 23 (0, 0)) (blkU BK277.out)) : gb277 ≠ gb290)); have n7_ := Aside0.mk ((by rw [hg]; exact Nat.ne_of_gt (blk_lt (g := gb277) (o := .cells #[.int .i64 0, .int .i64 0, .int .i64 0, .int .i64 0, .int .i64 0, .int .i64 0, .string (⟨#[]⟩ : ByteArray), .string (⟨#[]⟩ : ByteArray)] 23 (0, 0)) (blkU BK277.out)) : gb290 ≠ gb277)); clear HO281; clear BK277; clear HB; have HO281 := n0_; have BK277 := n1_; have HB := n2_; have BK290 := n3_; have GW290 := n4_; have GE290 := n5_; have NB277_290 := n6_; have NB290_277 := n7_; clear n0_ n1_ n2_ n3_ n4_ n5_ n6_ n7_; clear hb hbox hg; have hnb21 := NB290_277.out; have hnc21 := NB277_290.out; have hcz22_0 : w20.cell? ⟨gb290, 0, none⟩ = some (.int .i64 0) := (blk_cell BK290.out 0).trans rfl; have hcz22_1 : w20.cell? ⟨gb290, 1, none⟩ = some (.int .i64 0) := (blk_cell BK290.out 1).trans rfl; have hcz22_2 : w20.cell? ⟨gb290, 2, none⟩ = some (.int .i64 0) := (blk_cell BK290.out 2).trans rfl; have hcz22_3 : w20.cell? ⟨gb290, 3, none⟩ = some (.int .i64 0) := (blk_cell BK290.out 3).trans rfl; have hcz22_4 : w20.cell? ⟨gb290, 4, none⟩ = some (.int .i64 0) := (blk_cell BK290.out 4).trans rfl; have hcz22_5 : w20.cell? ⟨gb290, 5, none⟩ = some (.int .i64 0) := (blk_cell BK290.out 5).trans rfl; have hcz22_6 : w20.cell? ⟨gb290, 6, none⟩ = some (.string (⟨#[]⟩ : ByteArray)) := (blk_cell BK290.out 6).trans rfl; have hcz22_7 : w20.cell? ⟨gb290, 7, none⟩ = some (.string (⟨#[]⟩ : ByteArray)) := (blk_cell BK290.out 7).trans rfl; have hfz22_0 := blk_frozen BK290.out 0; have hfz22_1 := blk_frozen BK290.out 1; have hfz22_2 := blk_frozen BK290.out 2; have hfz22_3 := blk_frozen BK290.out 3; have hfz22_4 := blk_frozen BK290.out 4; have hfz22_5 := blk_frozen BK290.out 5; have hfz22_6 := blk_frozen BK290.out 6; have hfz22_7 := blk_frozen BK290.out 7) | ((with_reducible refine gate_callee (f := 10) rfl ?_); refine goesL_ (some 35) rfl rfl Try.func10 (by kernel_rfl) rfl #[.agg #[.int .i64 t282, .int .i64 t283, .int .i64 t284, .int .i64 t285, .int .i64 t286, .int .i64 t287, .string t288, .string t289]] rfl (by (try simp only [List.map_toArray, List.map_cons, List.map_nil]); first | done | rfl | (simp only [List.length_drop, List.length_take]; rfl)) ?_; (with_reducible refine (aquiferref20_Request.calls k t282 t283 t284 t285 t286 t287 t288 t289 t291 t292 _ A12.out).mono ?_); rintro e w23 ⟨rfl, hb⟩; refine ⟨_, rfl, ?_⟩; have n0_ := Aside0.mk (Kd.R_below (by (with_reducible repeat (first | apply Kd.R_alloc | apply Kd.R_drewN | apply Kd.R_drew)); exact (Kd.R_mono (Kd.R_far (p := ⟨gb290, 7, none⟩) (Kd.R_far (p := ⟨gb290, 6, none⟩) (Kd.R_far (p := ⟨gb290, 5, none⟩) (Kd.R_far (p := ⟨gb290, 4, none⟩) (Kd.R_far (p := ⟨gb290, 3, none⟩) (Kd.R_far (p := ⟨gb290, 2, none⟩) (Kd.R_far (p := ⟨gb290, 1, none⟩) (Kd.R_far (p := ⟨gb290, 0, none⟩) (Kd.R_types HO281.out BK290.out (by decide)) (fun _ hk => hk.2) (.int .i64 t282)) (fun _ hk => hk.2) (.int .i64 t283)) (fun _ hk => hk.2) (.int .i64 t284)) (fun _ hk => hk.2) (.int .i64 t285)) (fun _ hk => hk.2) (.int .i64 t286)) (fun _ hk => hk.2) (.int .i64 t287)) (fun _ hk => hk.2) (.string t288)) (fun _ hk => hk.2) (.string t289)) (fun _ h_ => h_.1))) hb); have n1_ := Aside0.mk (blk_below (blkF BK277.out NB277_290.out) hb); have n2_ := Aside0.mk (blk_below (blkP BK290.out (by rfl)) hb); have n3_ := Aside0.mk (below_step (belG2 HB.out GE277.out GE290.out) hb); clear HO281; clear BK277; clear BK290; clear HB; have HO281 := n0_; have BK277 := n1_; have BK290 := n2_; have HB := n3_; clear n0_ n1_ n2_ n3_; (try clear hb); (try clear hb2); (try clear hk); (try clear hi); have hcz24_0 : w23.cell? ⟨gb290, 0, none⟩ = some (.int .i64 t282) := (blk_cell BK290.out 0).trans rfl; have hcz24_1 : w23.cell? ⟨gb290, 1, none⟩ = some (.int .i64 t283) := (blk_cell BK290.out 1).trans rfl; have hcz24_2 : w23.cell? ⟨gb290, 2, none⟩ = some (.int .i64 t284) := (blk_cell BK290.out 2).trans rfl; have hcz24_3 : w23.cell? ⟨gb290, 3, none⟩ = some (.int .i64 t285) := (blk_cell BK290.out 3).trans rfl; have hcz24_4 : w23.cell? ⟨gb290, 4, none⟩ = some (.int .i64 t286) := (blk_cell BK290.out 4).trans rfl; have hcz24_5 : w23.cell? ⟨gb290, 5, none⟩ = some (.int .i64 t287) := (blk_cell BK290.out 5).trans rfl; have hcz24_6 : w23.cell? ⟨gb290, 6, none⟩ = some (.string t288) := (blk_cell BK290.out 6).trans rfl; have hcz24_7 : w23.cell? ⟨gb290, 7, none⟩ = some (.string t289) := (blk_cell BK290.out 7).trans rfl; have hfz24_0 := blk_frozen BK290.out 0; have hfz24_1 := blk_frozen BK290.out 1; have hfz24_2 := blk_frozen BK290.out 2; have hfz24_3 := blk_frozen BK290.out 3; have hfz24_4 := blk_frozen BK290.out 4; have hfz24_5 := blk_frozen BK290.out 5; have hfz24_6 := blk_frozen BK290.out 6; have hfz24_7 := blk_frozen BK290.out 7; have hcz25_0 : w23.cell? ⟨gb277, 0, none⟩ = some (.int .i64 0) := (blk_cell BK277.out 0).trans rfl; have hcz25_1 : w23.cell? ⟨gb277, 1, none⟩ = some (.int .i64 0) := (blk_cell BK277.out 1).trans rfl; have hcz25_2 : w23.cell? ⟨gb277, 2, none⟩ = some (.int .i64 0) := (blk_cell BK277.out 2).trans rfl; have hcz25_3 : w23.cell? ⟨gb277, 3, none⟩ = some (.int .i64 0) := (blk_cell BK277.out 3).trans rfl; have hcz25_4 : w23.cell? ⟨gb277, 4, none⟩ = some (.int .i64 0) := (blk_cell BK277.out 4).trans rfl; have hcz25_5 : w23.cell? ⟨gb277, 5, none⟩ = some (.int .i64 0) := (blk_cell BK277.out 5).trans rfl; have hcz25_6 : w23.cell? ⟨gb277, 6, none⟩ = some (.string (⟨#[]⟩ : ByteArray)) := (blk_cell BK277.out 6).trans rfl; have hcz25_7 : w23.cell? ⟨gb277, 7, none⟩ = some (.string (⟨#[]⟩ : ByteArray)) := (blk_cell BK277.out 7).trans rfl; have hfz25_0 := blk_frozen BK277.out 0; have hfz25_1 := blk_frozen BK277.out 1; have hfz25_2 := blk_frozen BK277.out 2; have hfz25_3 := blk_frozen BK277.out 3; have hfz25_4 := blk_frozen BK277.out 4; have hfz25_5 := blk_frozen BK277.out 5; have hfz25_6 := blk_frozen BK277.out 6; have hfz25_7 := blk_frozen BK277.out 7))
        refine bodyPost_ret (results_ct rfl _ _ gb277 23 #[.int .i64 t282, .int .i64 t283, .int .i64 t284, .int .i64 t285, .int .i64 t286, .int .i64 t287, .string t288, .string t289] (0, 0) _ rfl (blkP BK277.out (by rfl)) Try.underlying23 rfl (by kernel_rfl)) rfl ?_
        exact ⟨by first | rfl | (simp [errW_none, errW_some] <;> rfl) | (simp [*, errW_none, errW_some] <;> rfl), belG2 HB.out GE277.out GE290.out⟩
      · rw [if_neg c14] at H
        have c14b0 : (t291.toList == a0.toList) = false := beq_eq_false_iff_ne.mpr c14
        have c14b1 : (t291.toList != a0.toList) = true := bne_iff_ne.mpr c14
        simp only [Option.some.injEq, Prod.mk.injEq] at H
        obtain ⟨rfl, rfl, rfl, rfl, rfl, rfl, rfl, rfl, rfl⟩ := H
        go_enter Try.func12, Try.ntmps12
        go_wp2_with (first | ((with_reducible refine gate_dst (N := 2) rfl ?_); refine box_event ?hg (N := 2) ?hd (cs := #[.int .i64 0, .int .i64 0, .int .i64 0, .int .i64 0, .int .i64 0, .int .i64 0, .string (⟨#[]⟩ : ByteArray), .string (⟨#[]⟩ : ByteArray)]) (t := 23) ?hr ?_; (case hd => rfl); (case hg => rfl); (case hr => first | (go_simp; done) | (go_simp; rfl)); intro gb277 hg w26 hbox hb; have n0_ := Aside0.mk (below_step (belU HB.out) hb); have n1_ := Aside0.mk (hbox); have n2_ := Aside0.mk ((by rw [hg]; exact (sizU HB.out) : w.heap.size ≤ gb277)); have n3_ := Aside0.mk ((by rw [hg]; exact (sizU HB.out) : w.heap.size ≤ gb277)); clear HB; have HB := n0_; have BK277 := n1_; have GW277 := n2_; have GE277 := n3_; clear n0_ n1_ n2_ n3_; clear hb hbox hg) | ((with_reducible refine gate_callee (f := 36) rfl ?_); refine goesL_ (some 10) rfl rfl Try.func36 (by kernel_rfl) rfl #[.string a0] rfl (by (try simp only [List.map_toArray, List.map_cons, List.map_nil]); first | done | rfl | (simp only [List.length_drop, List.length_take]; rfl)) ?_; (with_reducible refine (aquiferref04_Decode.calls k a0 t278 t279 _ A2.out).mono ?_); rintro e w27 ⟨v280, rfl, ho0, hb⟩; refine ⟨_, rfl, ?_⟩; have n0_ := Aside0.mk (Kd.R_lower ho0 (sizG HB.out GE277.out)); have n1_ := Aside0.mk (blk_below (blkU BK277.out) hb); have n2_ := Aside0.mk (below_step (belG HB.out GE277.out) hb); clear BK277; clear HB; have HO281 := n0_; have BK277 := n1_; have HB := n2_; clear n0_ n1_ n2_; (try clear hb); (try clear hb2); (try clear hk); (try clear hi); (try clear ho0); obtain ⟨Ao28, co28, eo28⟩ := Kd.R_slice HO281.out; subst eo28) | ((with_reducible refine gate_callee (f := 37) rfl ?_); refine goesL_ (some 17) rfl rfl Try.func37 (by kernel_rfl) rfl #[.slice Ao28 t278.length co28, .int .i64 1] rfl (by (try simp only [List.map_toArray, List.map_cons, List.map_nil]); first | done | rfl | (simp only [List.length_drop, List.length_take]; rfl)) ?_; (with_reducible refine (aquiferref20_get.calls k _ _ t278 1 t282 _ ?side1 ?side2 A4.out).mono ?_); (case side1 => exact CU (Kd.R_reads' HO281.out).2.2); (case side2 => exact (Kd.R_reads' HO281.out).2.1); rintro e w' ⟨rfl, ⟨nd, rfl⟩⟩; refine ⟨_, rfl, ?_⟩; (try (rw [drewN_self w27]; generalize hq_ : World.drewN w27 _ = w27; have n0_ : Aside0 (Kd.R k84 84 w27 w.heap.size (fun _ => True) (.slice Ao28 t278.length co28) t278) := ⟨by rw [← hq_]; exact (RU HO281.out)⟩; have n1_ : Aside0 (w27.heap[gb277]? = some (.cells #[.int .i64 0, .int .i64 0, .int .i64 0, .int .i64 0, .int .i64 0, .int .i64 0, .string (⟨#[]⟩ : ByteArray), .string (⟨#[]⟩ : ByteArray)] 23 (0, 0))) := ⟨by rw [← hq_]; exact (blkU BK277.out)⟩; have n2_ : Aside0 (Below w.heap.size w w27) := ⟨by rw [← hq_]; exact (belG HB.out GE277.out)⟩; clear HO281 BK277 HB hq_; have HO281 := n0_; have BK277 := n1_; have HB := n2_; clear n0_ n1_ n2_))) | ((with_reducible refine gate_callee (f := 37) rfl ?_); refine goesL_ (some 19) rfl rfl Try.func37 (by kernel_rfl) rfl #[.slice Ao28 t278.length co28, .int .i64 2] rfl (by (try simp only [List.map_toArray, List.map_cons, List.map_nil]); first | done | rfl | (simp only [List.length_drop, List.length_take]; rfl)) ?_; (with_reducible refine (aquiferref20_get.calls k _ _ t278 2 t283 _ ?side1 ?side2 A5.out).mono ?_); (case side1 => exact CU (Kd.R_reads' HO281.out).2.2); (case side2 => exact (Kd.R_reads' HO281.out).2.1); rintro e w' ⟨rfl, ⟨nd, rfl⟩⟩; refine ⟨_, rfl, ?_⟩; (try (rw [drewN_self w27]; generalize hq_ : World.drewN w27 _ = w27; have n0_ : Aside0 (Kd.R k84 84 w27 w.heap.size (fun _ => True) (.slice Ao28 t278.length co28) t278) := ⟨by rw [← hq_]; exact (RU HO281.out)⟩; have n1_ : Aside0 (w27.heap[gb277]? = some (.cells #[.int .i64 0, .int .i64 0, .int .i64 0, .int .i64 0, .int .i64 0, .int .i64 0, .string (⟨#[]⟩ : ByteArray), .string (⟨#[]⟩ : ByteArray)] 23 (0, 0))) := ⟨by rw [← hq_]; exact (blkU BK277.out)⟩; have n2_ : Aside0 (Below w.heap.size w w27) := ⟨by rw [← hq_]; exact (belG HB.out GE277.out)⟩; clear HO281 BK277 HB hq_; have HO281 := n0_; have BK277 := n1_; have HB := n2_; clear n0_ n1_ n2_))) | ((with_reducible refine gate_callee (f := 37) rfl ?_); refine goesL_ (some 21) rfl rfl Try.func37 (by kernel_rfl) rfl #[.slice Ao28 t278.length co28, .int .i64 3] rfl (by (try simp only [List.map_toArray, List.map_cons, List.map_nil]); first | done | rfl | (simp only [List.length_drop, List.length_take]; rfl)) ?_; (with_reducible refine (aquiferref20_get.calls k _ _ t278 3 t284 _ ?side1 ?side2 A6.out).mono ?_); (case side1 => exact CU (Kd.R_reads' HO281.out).2.2); (case side2 => exact (Kd.R_reads' HO281.out).2.1); rintro e w' ⟨rfl, ⟨nd, rfl⟩⟩; refine ⟨_, rfl, ?_⟩; (try (rw [drewN_self w27]; generalize hq_ : World.drewN w27 _ = w27; have n0_ : Aside0 (Kd.R k84 84 w27 w.heap.size (fun _ => True) (.slice Ao28 t278.length co28) t278) := ⟨by rw [← hq_]; exact (RU HO281.out)⟩; have n1_ : Aside0 (w27.heap[gb277]? = some (.cells #[.int .i64 0, .int .i64 0, .int .i64 0, .int .i64 0, .int .i64 0, .int .i64 0, .string (⟨#[]⟩ : ByteArray), .string (⟨#[]⟩ : ByteArray)] 23 (0, 0))) := ⟨by rw [← hq_]; exact (blkU BK277.out)⟩; have n2_ : Aside0 (Below w.heap.size w w27) := ⟨by rw [← hq_]; exact (belG HB.out GE277.out)⟩; clear HO281 BK277 HB hq_; have HO281 := n0_; have BK277 := n1_; have HB := n2_; clear n0_ n1_ n2_))) | ((with_reducible refine gate_callee (f := 37) rfl ?_); refine goesL_ (some 23) rfl rfl Try.func37 (by kernel_rfl) rfl #[.slice Ao28 t278.length co28, .int .i64 4] rfl (by (try simp only [List.map_toArray, List.map_cons, List.map_nil]); first | done | rfl | (simp only [List.length_drop, List.length_take]; rfl)) ?_; (with_reducible refine (aquiferref20_get.calls k _ _ t278 4 t285 _ ?side1 ?side2 A7.out).mono ?_); (case side1 => exact CU (Kd.R_reads' HO281.out).2.2); (case side2 => exact (Kd.R_reads' HO281.out).2.1); rintro e w' ⟨rfl, ⟨nd, rfl⟩⟩; refine ⟨_, rfl, ?_⟩; (try (rw [drewN_self w27]; generalize hq_ : World.drewN w27 _ = w27; have n0_ : Aside0 (Kd.R k84 84 w27 w.heap.size (fun _ => True) (.slice Ao28 t278.length co28) t278) := ⟨by rw [← hq_]; exact (RU HO281.out)⟩; have n1_ : Aside0 (w27.heap[gb277]? = some (.cells #[.int .i64 0, .int .i64 0, .int .i64 0, .int .i64 0, .int .i64 0, .int .i64 0, .string (⟨#[]⟩ : ByteArray), .string (⟨#[]⟩ : ByteArray)] 23 (0, 0))) := ⟨by rw [← hq_]; exact (blkU BK277.out)⟩; have n2_ : Aside0 (Below w.heap.size w w27) := ⟨by rw [← hq_]; exact (belG HB.out GE277.out)⟩; clear HO281 BK277 HB hq_; have HO281 := n0_; have BK277 := n1_; have HB := n2_; clear n0_ n1_ n2_))) | ((with_reducible refine gate_callee (f := 37) rfl ?_); refine goesL_ (some 25) rfl rfl Try.func37 (by kernel_rfl) rfl #[.slice Ao28 t278.length co28, .int .i64 5] rfl (by (try simp only [List.map_toArray, List.map_cons, List.map_nil]); first | done | rfl | (simp only [List.length_drop, List.length_take]; rfl)) ?_; (with_reducible refine (aquiferref20_get.calls k _ _ t278 5 t286 _ ?side1 ?side2 A8.out).mono ?_); (case side1 => exact CU (Kd.R_reads' HO281.out).2.2); (case side2 => exact (Kd.R_reads' HO281.out).2.1); rintro e w' ⟨rfl, ⟨nd, rfl⟩⟩; refine ⟨_, rfl, ?_⟩; (try (rw [drewN_self w27]; generalize hq_ : World.drewN w27 _ = w27; have n0_ : Aside0 (Kd.R k84 84 w27 w.heap.size (fun _ => True) (.slice Ao28 t278.length co28) t278) := ⟨by rw [← hq_]; exact (RU HO281.out)⟩; have n1_ : Aside0 (w27.heap[gb277]? = some (.cells #[.int .i64 0, .int .i64 0, .int .i64 0, .int .i64 0, .int .i64 0, .int .i64 0, .string (⟨#[]⟩ : ByteArray), .string (⟨#[]⟩ : ByteArray)] 23 (0, 0))) := ⟨by rw [← hq_]; exact (blkU BK277.out)⟩; have n2_ : Aside0 (Below w.heap.size w w27) := ⟨by rw [← hq_]; exact (belG HB.out GE277.out)⟩; clear HO281 BK277 HB hq_; have HO281 := n0_; have BK277 := n1_; have HB := n2_; clear n0_ n1_ n2_))) | ((with_reducible refine gate_callee (f := 37) rfl ?_); refine goesL_ (some 27) rfl rfl Try.func37 (by kernel_rfl) rfl #[.slice Ao28 t278.length co28, .int .i64 6] rfl (by (try simp only [List.map_toArray, List.map_cons, List.map_nil]); first | done | rfl | (simp only [List.length_drop, List.length_take]; rfl)) ?_; (with_reducible refine (aquiferref20_get.calls k _ _ t278 6 t287 _ ?side1 ?side2 A9.out).mono ?_); (case side1 => exact CU (Kd.R_reads' HO281.out).2.2); (case side2 => exact (Kd.R_reads' HO281.out).2.1); rintro e w' ⟨rfl, ⟨nd, rfl⟩⟩; refine ⟨_, rfl, ?_⟩; (try (rw [drewN_self w27]; generalize hq_ : World.drewN w27 _ = w27; have n0_ : Aside0 (Kd.R k84 84 w27 w.heap.size (fun _ => True) (.slice Ao28 t278.length co28) t278) := ⟨by rw [← hq_]; exact (RU HO281.out)⟩; have n1_ : Aside0 (w27.heap[gb277]? = some (.cells #[.int .i64 0, .int .i64 0, .int .i64 0, .int .i64 0, .int .i64 0, .int .i64 0, .string (⟨#[]⟩ : ByteArray), .string (⟨#[]⟩ : ByteArray)] 23 (0, 0))) := ⟨by rw [← hq_]; exact (blkU BK277.out)⟩; have n2_ : Aside0 (Below w.heap.size w w27) := ⟨by rw [← hq_]; exact (belG HB.out GE277.out)⟩; clear HO281 BK277 HB hq_; have HO281 := n0_; have BK277 := n1_; have HB := n2_; clear n0_ n1_ n2_))) | ((with_reducible refine gate_callee (f := 38) rfl ?_); refine goesL_ (some 29) rfl rfl Try.func38 (by kernel_rfl) rfl #[.slice Ao28 t278.length co28, .int .i64 7] rfl (by (try simp only [List.map_toArray, List.map_cons, List.map_nil]); first | done | rfl | (simp only [List.length_drop, List.length_take]; rfl)) ?_; (with_reducible refine (aquiferref20_word.calls k _ _ t278 7 t288 _ ?side1 ?side2 A10.out).mono ?_); (case side1 => exact CU (Kd.R_reads' HO281.out).2.2); (case side2 => exact (Kd.R_reads' HO281.out).2.1); rintro e w29 ⟨rfl, hb⟩; refine ⟨_, rfl, ?_⟩; have n0_ := Aside0.mk (Kd.R_below (RU HO281.out) hb); have n1_ := Aside0.mk (blk_below (blkU BK277.out) hb); have n2_ := Aside0.mk (below_step (belG HB.out GE277.out) hb); clear HO281; clear BK277; clear HB; have HO281 := n0_; have BK277 := n1_; have HB := n2_; clear n0_ n1_ n2_; (try clear hb); (try clear hb2); (try clear hk); (try clear hi)) | ((with_reducible refine gate_callee (f := 38) rfl ?_); refine goesL_ (some 31) rfl rfl Try.func38 (by kernel_rfl) rfl #[.slice Ao28 t278.length co28, .int .i64 8] rfl (by (try simp only [List.map_toArray, List.map_cons, List.map_nil]); first | done | rfl | (simp only [List.length_drop, List.length_take]; rfl)) ?_; (with_reducible refine (aquiferref20_word.calls k _ _ t278 8 t289 _ ?side1 ?side2 A11.out).mono ?_); (case side1 => exact CU (Kd.R_reads' HO281.out).2.2); (case side2 => exact (Kd.R_reads' HO281.out).2.1); rintro e w30 ⟨rfl, hb⟩; refine ⟨_, rfl, ?_⟩; have n0_ := Aside0.mk (Kd.R_below (RU HO281.out) hb); have n1_ := Aside0.mk (blk_below (blkU BK277.out) hb); have n2_ := Aside0.mk (below_step (belG HB.out GE277.out) hb); clear HO281; clear BK277; clear HB; have HO281 := n0_; have BK277 := n1_; have HB := n2_; clear n0_ n1_ n2_; (try clear hb); (try clear hb2); (try clear hk); (try clear hi)) | ((with_reducible refine gate_dst (N := 6) rfl ?_); refine box_event ?hg (N := 6) ?hd (cs := #[.int .i64 0, .int .i64 0, .int .i64 0, .int .i64 0, .int .i64 0, .int .i64 0, .string (⟨#[]⟩ : ByteArray), .string (⟨#[]⟩ : ByteArray)]) (t := 23) ?hr ?_; (case hd => rfl); (case hg => rfl); (case hr => first | (go_simp; done) | (go_simp; rfl)); intro gb290 hg w31 hbox hb; have n0_ := Aside0.mk (Kd.R_below (RU HO281.out) hb); have n1_ := Aside0.mk (blk_below (blkU BK277.out) hb); have n2_ := Aside0.mk (below_step (belG HB.out GE277.out) hb); have n3_ := Aside0.mk (hbox); have n4_ := Aside0.mk ((by rw [hg]; exact (sizG HB.out GE277.out) : w.heap.size ≤ gb290)); have n5_ := Aside0.mk ((by rw [hg]; exact (sizG HB.out GE277.out) : w.heap.size ≤ gb290)); have n6_ := Aside0.mk ((by rw [hg]; exact Nat.ne_of_lt (blk_lt (g := gb277) (o := .cells #[.int .i64 0, .int .i64 0, .int .i64 0, .int .i64 0, .int .i64 0, .int .i64 0, .string (⟨#[]⟩ : ByteArray), .string (⟨#[]⟩ : ByteArray)] 23 (0, 0)) (blkU BK277.out)) : gb277 ≠ gb290)); have n7_ := Aside0.mk ((by rw [hg]; exact Nat.ne_of_gt (blk_lt (g := gb277) (o := .cells #[.int .i64 0, .int .i64 0, .int .i64 0, .int .i64 0, .int .i64 0, .int .i64 0, .string (⟨#[]⟩ : ByteArray), .string (⟨#[]⟩ : ByteArray)] 23 (0, 0)) (blkU BK277.out)) : gb290 ≠ gb277)); clear HO281; clear BK277; clear HB; have HO281 := n0_; have BK277 := n1_; have HB := n2_; have BK290 := n3_; have GW290 := n4_; have GE290 := n5_; have NB277_290 := n6_; have NB290_277 := n7_; clear n0_ n1_ n2_ n3_ n4_ n5_ n6_ n7_; clear hb hbox hg; have hnb32 := NB290_277.out; have hnc32 := NB277_290.out; have hcz33_0 : w31.cell? ⟨gb290, 0, none⟩ = some (.int .i64 0) := (blk_cell BK290.out 0).trans rfl; have hcz33_1 : w31.cell? ⟨gb290, 1, none⟩ = some (.int .i64 0) := (blk_cell BK290.out 1).trans rfl; have hcz33_2 : w31.cell? ⟨gb290, 2, none⟩ = some (.int .i64 0) := (blk_cell BK290.out 2).trans rfl; have hcz33_3 : w31.cell? ⟨gb290, 3, none⟩ = some (.int .i64 0) := (blk_cell BK290.out 3).trans rfl; have hcz33_4 : w31.cell? ⟨gb290, 4, none⟩ = some (.int .i64 0) := (blk_cell BK290.out 4).trans rfl; have hcz33_5 : w31.cell? ⟨gb290, 5, none⟩ = some (.int .i64 0) := (blk_cell BK290.out 5).trans rfl; have hcz33_6 : w31.cell? ⟨gb290, 6, none⟩ = some (.string (⟨#[]⟩ : ByteArray)) := (blk_cell BK290.out 6).trans rfl; have hcz33_7 : w31.cell? ⟨gb290, 7, none⟩ = some (.string (⟨#[]⟩ : ByteArray)) := (blk_cell BK290.out 7).trans rfl; have hfz33_0 := blk_frozen BK290.out 0; have hfz33_1 := blk_frozen BK290.out 1; have hfz33_2 := blk_frozen BK290.out 2; have hfz33_3 := blk_frozen BK290.out 3; have hfz33_4 := blk_frozen BK290.out 4; have hfz33_5 := blk_frozen BK290.out 5; have hfz33_6 := blk_frozen BK290.out 6; have hfz33_7 := blk_frozen BK290.out 7) | ((with_reducible refine gate_callee (f := 10) rfl ?_); refine goesL_ (some 35) rfl rfl Try.func10 (by kernel_rfl) rfl #[.agg #[.int .i64 t282, .int .i64 t283, .int .i64 t284, .int .i64 t285, .int .i64 t286, .int .i64 t287, .string t288, .string t289]] rfl (by (try simp only [List.map_toArray, List.map_cons, List.map_nil]); first | done | rfl | (simp only [List.length_drop, List.length_take]; rfl)) ?_; (with_reducible refine (aquiferref20_Request.calls k t282 t283 t284 t285 t286 t287 t288 t289 t291 t292 _ A12.out).mono ?_); rintro e w34 ⟨rfl, hb⟩; refine ⟨_, rfl, ?_⟩; have n0_ := Aside0.mk (Kd.R_below (by (with_reducible repeat (first | apply Kd.R_alloc | apply Kd.R_drewN | apply Kd.R_drew)); exact (Kd.R_mono (Kd.R_far (p := ⟨gb290, 7, none⟩) (Kd.R_far (p := ⟨gb290, 6, none⟩) (Kd.R_far (p := ⟨gb290, 5, none⟩) (Kd.R_far (p := ⟨gb290, 4, none⟩) (Kd.R_far (p := ⟨gb290, 3, none⟩) (Kd.R_far (p := ⟨gb290, 2, none⟩) (Kd.R_far (p := ⟨gb290, 1, none⟩) (Kd.R_far (p := ⟨gb290, 0, none⟩) (Kd.R_types HO281.out BK290.out (by decide)) (fun _ hk => hk.2) (.int .i64 t282)) (fun _ hk => hk.2) (.int .i64 t283)) (fun _ hk => hk.2) (.int .i64 t284)) (fun _ hk => hk.2) (.int .i64 t285)) (fun _ hk => hk.2) (.int .i64 t286)) (fun _ hk => hk.2) (.int .i64 t287)) (fun _ hk => hk.2) (.string t288)) (fun _ hk => hk.2) (.string t289)) (fun _ h_ => h_.1))) hb); have n1_ := Aside0.mk (blk_below (blkF BK277.out NB277_290.out) hb); have n2_ := Aside0.mk (blk_below (blkP BK290.out (by rfl)) hb); have n3_ := Aside0.mk (below_step (belG2 HB.out GE277.out GE290.out) hb); clear HO281; clear BK277; clear BK290; clear HB; have HO281 := n0_; have BK277 := n1_; have BK290 := n2_; have HB := n3_; clear n0_ n1_ n2_ n3_; (try clear hb); (try clear hb2); (try clear hk); (try clear hi); have hcz35_0 : w34.cell? ⟨gb277, 0, none⟩ = some (.int .i64 0) := (blk_cell BK277.out 0).trans rfl; have hcz35_1 : w34.cell? ⟨gb277, 1, none⟩ = some (.int .i64 0) := (blk_cell BK277.out 1).trans rfl; have hcz35_2 : w34.cell? ⟨gb277, 2, none⟩ = some (.int .i64 0) := (blk_cell BK277.out 2).trans rfl; have hcz35_3 : w34.cell? ⟨gb277, 3, none⟩ = some (.int .i64 0) := (blk_cell BK277.out 3).trans rfl; have hcz35_4 : w34.cell? ⟨gb277, 4, none⟩ = some (.int .i64 0) := (blk_cell BK277.out 4).trans rfl; have hcz35_5 : w34.cell? ⟨gb277, 5, none⟩ = some (.int .i64 0) := (blk_cell BK277.out 5).trans rfl; have hcz35_6 : w34.cell? ⟨gb277, 6, none⟩ = some (.string (⟨#[]⟩ : ByteArray)) := (blk_cell BK277.out 6).trans rfl; have hcz35_7 : w34.cell? ⟨gb277, 7, none⟩ = some (.string (⟨#[]⟩ : ByteArray)) := (blk_cell BK277.out 7).trans rfl; have hfz35_0 := blk_frozen BK277.out 0; have hfz35_1 := blk_frozen BK277.out 1; have hfz35_2 := blk_frozen BK277.out 2; have hfz35_3 := blk_frozen BK277.out 3; have hfz35_4 := blk_frozen BK277.out 4; have hfz35_5 := blk_frozen BK277.out 5; have hfz35_6 := blk_frozen BK277.out 6; have hfz35_7 := blk_frozen BK277.out 7))
        refine bodyPost_ret (results_ct rfl _ _ gb277 23 #[.int .i64 0, .int .i64 0, .int .i64 0, .int .i64 0, .int .i64 0, .int .i64 0, .string (⟨#[]⟩ : ByteArray), .string (⟨#[]⟩ : ByteArray)] (0, 0) _ rfl (blkP BK277.out (by rfl)) Try.underlying23 rfl (by kernel_rfl)) rfl ?_
        exact ⟨by first | rfl | (simp [errW_none, errW_some] <;> rfl) | (simp [*, errW_none, errW_some] <;> rfl), belG2 HB.out GE277.out GE290.out⟩
    · rw [if_neg c13] at H
      have c13b0 : (t292 == 0) = false := beq_eq_false_iff_ne.mpr c13
      have c13b1 : (t292 != 0) = true := bne_iff_ne.mpr c13
      simp only [Option.some.injEq, Prod.mk.injEq] at H
      obtain ⟨rfl, rfl, rfl, rfl, rfl, rfl, rfl, rfl, rfl⟩ := H
      go_enter Try.func12, Try.ntmps12
      go_wp2_with (first | ((with_reducible refine gate_dst (N := 2) rfl ?_); refine box_event ?hg (N := 2) ?hd (cs := #[.int .i64 0, .int .i64 0, .int .i64 0, .int .i64 0, .int .i64 0, .int .i64 0, .string (⟨#[]⟩ : ByteArray), .string (⟨#[]⟩ : ByteArray)]) (t := 23) ?hr ?_; (case hd => rfl); (case hg => rfl); (case hr => first | (go_simp; done) | (go_simp; rfl)); intro gb277 hg w36 hbox hb; have n0_ := Aside0.mk (below_step (belU HB.out) hb); have n1_ := Aside0.mk (hbox); have n2_ := Aside0.mk ((by rw [hg]; exact (sizU HB.out) : w.heap.size ≤ gb277)); have n3_ := Aside0.mk ((by rw [hg]; exact (sizU HB.out) : w.heap.size ≤ gb277)); clear HB; have HB := n0_; have BK277 := n1_; have GW277 := n2_; have GE277 := n3_; clear n0_ n1_ n2_ n3_; clear hb hbox hg) | ((with_reducible refine gate_callee (f := 36) rfl ?_); refine goesL_ (some 10) rfl rfl Try.func36 (by kernel_rfl) rfl #[.string a0] rfl (by (try simp only [List.map_toArray, List.map_cons, List.map_nil]); first | done | rfl | (simp only [List.length_drop, List.length_take]; rfl)) ?_; (with_reducible refine (aquiferref04_Decode.calls k a0 t278 t279 _ A2.out).mono ?_); rintro e w37 ⟨v280, rfl, ho0, hb⟩; refine ⟨_, rfl, ?_⟩; have n0_ := Aside0.mk (Kd.R_lower ho0 (sizG HB.out GE277.out)); have n1_ := Aside0.mk (blk_below (blkU BK277.out) hb); have n2_ := Aside0.mk (below_step (belG HB.out GE277.out) hb); clear BK277; clear HB; have HO281 := n0_; have BK277 := n1_; have HB := n2_; clear n0_ n1_ n2_; (try clear hb); (try clear hb2); (try clear hk); (try clear hi); (try clear ho0); obtain ⟨Ao38, co38, eo38⟩ := Kd.R_slice HO281.out; subst eo38) | ((with_reducible refine gate_callee (f := 37) rfl ?_); refine goesL_ (some 17) rfl rfl Try.func37 (by kernel_rfl) rfl #[.slice Ao38 t278.length co38, .int .i64 1] rfl (by (try simp only [List.map_toArray, List.map_cons, List.map_nil]); first | done | rfl | (simp only [List.length_drop, List.length_take]; rfl)) ?_; (with_reducible refine (aquiferref20_get.calls k _ _ t278 1 t282 _ ?side1 ?side2 A4.out).mono ?_); (case side1 => exact CU (Kd.R_reads' HO281.out).2.2); (case side2 => exact (Kd.R_reads' HO281.out).2.1); rintro e w' ⟨rfl, ⟨nd, rfl⟩⟩; refine ⟨_, rfl, ?_⟩; (try (rw [drewN_self w37]; generalize hq_ : World.drewN w37 _ = w37; have n0_ : Aside0 (Kd.R k84 84 w37 w.heap.size (fun _ => True) (.slice Ao38 t278.length co38) t278) := ⟨by rw [← hq_]; exact (RU HO281.out)⟩; have n1_ : Aside0 (w37.heap[gb277]? = some (.cells #[.int .i64 0, .int .i64 0, .int .i64 0, .int .i64 0, .int .i64 0, .int .i64 0, .string (⟨#[]⟩ : ByteArray), .string (⟨#[]⟩ : ByteArray)] 23 (0, 0))) := ⟨by rw [← hq_]; exact (blkU BK277.out)⟩; have n2_ : Aside0 (Below w.heap.size w w37) := ⟨by rw [← hq_]; exact (belG HB.out GE277.out)⟩; clear HO281 BK277 HB hq_; have HO281 := n0_; have BK277 := n1_; have HB := n2_; clear n0_ n1_ n2_))) | ((with_reducible refine gate_callee (f := 37) rfl ?_); refine goesL_ (some 19) rfl rfl Try.func37 (by kernel_rfl) rfl #[.slice Ao38 t278.length co38, .int .i64 2] rfl (by (try simp only [List.map_toArray, List.map_cons, List.map_nil]); first | done | rfl | (simp only [List.length_drop, List.length_take]; rfl)) ?_; (with_reducible refine (aquiferref20_get.calls k _ _ t278 2 t283 _ ?side1 ?side2 A5.out).mono ?_); (case side1 => exact CU (Kd.R_reads' HO281.out).2.2); (case side2 => exact (Kd.R_reads' HO281.out).2.1); rintro e w' ⟨rfl, ⟨nd, rfl⟩⟩; refine ⟨_, rfl, ?_⟩; (try (rw [drewN_self w37]; generalize hq_ : World.drewN w37 _ = w37; have n0_ : Aside0 (Kd.R k84 84 w37 w.heap.size (fun _ => True) (.slice Ao38 t278.length co38) t278) := ⟨by rw [← hq_]; exact (RU HO281.out)⟩; have n1_ : Aside0 (w37.heap[gb277]? = some (.cells #[.int .i64 0, .int .i64 0, .int .i64 0, .int .i64 0, .int .i64 0, .int .i64 0, .string (⟨#[]⟩ : ByteArray), .string (⟨#[]⟩ : ByteArray)] 23 (0, 0))) := ⟨by rw [← hq_]; exact (blkU BK277.out)⟩; have n2_ : Aside0 (Below w.heap.size w w37) := ⟨by rw [← hq_]; exact (belG HB.out GE277.out)⟩; clear HO281 BK277 HB hq_; have HO281 := n0_; have BK277 := n1_; have HB := n2_; clear n0_ n1_ n2_))) | ((with_reducible refine gate_callee (f := 37) rfl ?_); refine goesL_ (some 21) rfl rfl Try.func37 (by kernel_rfl) rfl #[.slice Ao38 t278.length co38, .int .i64 3] rfl (by (try simp only [List.map_toArray, List.map_cons, List.map_nil]); first | done | rfl | (simp only [List.length_drop, List.length_take]; rfl)) ?_; (with_reducible refine (aquiferref20_get.calls k _ _ t278 3 t284 _ ?side1 ?side2 A6.out).mono ?_); (case side1 => exact CU (Kd.R_reads' HO281.out).2.2); (case side2 => exact (Kd.R_reads' HO281.out).2.1); rintro e w' ⟨rfl, ⟨nd, rfl⟩⟩; refine ⟨_, rfl, ?_⟩; (try (rw [drewN_self w37]; generalize hq_ : World.drewN w37 _ = w37; have n0_ : Aside0 (Kd.R k84 84 w37 w.heap.size (fun _ => True) (.slice Ao38 t278.length co38) t278) := ⟨by rw [← hq_]; exact (RU HO281.out)⟩; have n1_ : Aside0 (w37.heap[gb277]? = some (.cells #[.int .i64 0, .int .i64 0, .int .i64 0, .int .i64 0, .int .i64 0, .int .i64 0, .string (⟨#[]⟩ : ByteArray), .string (⟨#[]⟩ : ByteArray)] 23 (0, 0))) := ⟨by rw [← hq_]; exact (blkU BK277.out)⟩; have n2_ : Aside0 (Below w.heap.size w w37) := ⟨by rw [← hq_]; exact (belG HB.out GE277.out)⟩; clear HO281 BK277 HB hq_; have HO281 := n0_; have BK277 := n1_; have HB := n2_; clear n0_ n1_ n2_))) | ((with_reducible refine gate_callee (f := 37) rfl ?_); refine goesL_ (some 23) rfl rfl Try.func37 (by kernel_rfl) rfl #[.slice Ao38 t278.length co38, .int .i64 4] rfl (by (try simp only [List.map_toArray, List.map_cons, List.map_nil]); first | done | rfl | (simp only [List.length_drop, List.length_take]; rfl)) ?_; (with_reducible refine (aquiferref20_get.calls k _ _ t278 4 t285 _ ?side1 ?side2 A7.out).mono ?_); (case side1 => exact CU (Kd.R_reads' HO281.out).2.2); (case side2 => exact (Kd.R_reads' HO281.out).2.1); rintro e w' ⟨rfl, ⟨nd, rfl⟩⟩; refine ⟨_, rfl, ?_⟩; (try (rw [drewN_self w37]; generalize hq_ : World.drewN w37 _ = w37; have n0_ : Aside0 (Kd.R k84 84 w37 w.heap.size (fun _ => True) (.slice Ao38 t278.length co38) t278) := ⟨by rw [← hq_]; exact (RU HO281.out)⟩; have n1_ : Aside0 (w37.heap[gb277]? = some (.cells #[.int .i64 0, .int .i64 0, .int .i64 0, .int .i64 0, .int .i64 0, .int .i64 0, .string (⟨#[]⟩ : ByteArray), .string (⟨#[]⟩ : ByteArray)] 23 (0, 0))) := ⟨by rw [← hq_]; exact (blkU BK277.out)⟩; have n2_ : Aside0 (Below w.heap.size w w37) := ⟨by rw [← hq_]; exact (belG HB.out GE277.out)⟩; clear HO281 BK277 HB hq_; have HO281 := n0_; have BK277 := n1_; have HB := n2_; clear n0_ n1_ n2_))) | ((with_reducible refine gate_callee (f := 37) rfl ?_); refine goesL_ (some 25) rfl rfl Try.func37 (by kernel_rfl) rfl #[.slice Ao38 t278.length co38, .int .i64 5] rfl (by (try simp only [List.map_toArray, List.map_cons, List.map_nil]); first | done | rfl | (simp only [List.length_drop, List.length_take]; rfl)) ?_; (with_reducible refine (aquiferref20_get.calls k _ _ t278 5 t286 _ ?side1 ?side2 A8.out).mono ?_); (case side1 => exact CU (Kd.R_reads' HO281.out).2.2); (case side2 => exact (Kd.R_reads' HO281.out).2.1); rintro e w' ⟨rfl, ⟨nd, rfl⟩⟩; refine ⟨_, rfl, ?_⟩; (try (rw [drewN_self w37]; generalize hq_ : World.drewN w37 _ = w37; have n0_ : Aside0 (Kd.R k84 84 w37 w.heap.size (fun _ => True) (.slice Ao38 t278.length co38) t278) := ⟨by rw [← hq_]; exact (RU HO281.out)⟩; have n1_ : Aside0 (w37.heap[gb277]? = some (.cells #[.int .i64 0, .int .i64 0, .int .i64 0, .int .i64 0, .int .i64 0, .int .i64 0, .string (⟨#[]⟩ : ByteArray), .string (⟨#[]⟩ : ByteArray)] 23 (0, 0))) := ⟨by rw [← hq_]; exact (blkU BK277.out)⟩; have n2_ : Aside0 (Below w.heap.size w w37) := ⟨by rw [← hq_]; exact (belG HB.out GE277.out)⟩; clear HO281 BK277 HB hq_; have HO281 := n0_; have BK277 := n1_; have HB := n2_; clear n0_ n1_ n2_))) | ((with_reducible refine gate_callee (f := 37) rfl ?_); refine goesL_ (some 27) rfl rfl Try.func37 (by kernel_rfl) rfl #[.slice Ao38 t278.length co38, .int .i64 6] rfl (by (try simp only [List.map_toArray, List.map_cons, List.map_nil]); first | done | rfl | (simp only [List.length_drop, List.length_take]; rfl)) ?_; (with_reducible refine (aquiferref20_get.calls k _ _ t278 6 t287 _ ?side1 ?side2 A9.out).mono ?_); (case side1 => exact CU (Kd.R_reads' HO281.out).2.2); (case side2 => exact (Kd.R_reads' HO281.out).2.1); rintro e w' ⟨rfl, ⟨nd, rfl⟩⟩; refine ⟨_, rfl, ?_⟩; (try (rw [drewN_self w37]; generalize hq_ : World.drewN w37 _ = w37; have n0_ : Aside0 (Kd.R k84 84 w37 w.heap.size (fun _ => True) (.slice Ao38 t278.length co38) t278) := ⟨by rw [← hq_]; exact (RU HO281.out)⟩; have n1_ : Aside0 (w37.heap[gb277]? = some (.cells #[.int .i64 0, .int .i64 0, .int .i64 0, .int .i64 0, .int .i64 0, .int .i64 0, .string (⟨#[]⟩ : ByteArray), .string (⟨#[]⟩ : ByteArray)] 23 (0, 0))) := ⟨by rw [← hq_]; exact (blkU BK277.out)⟩; have n2_ : Aside0 (Below w.heap.size w w37) := ⟨by rw [← hq_]; exact (belG HB.out GE277.out)⟩; clear HO281 BK277 HB hq_; have HO281 := n0_; have BK277 := n1_; have HB := n2_; clear n0_ n1_ n2_))) | ((with_reducible refine gate_callee (f := 38) rfl ?_); refine goesL_ (some 29) rfl rfl Try.func38 (by kernel_rfl) rfl #[.slice Ao38 t278.length co38, .int .i64 7] rfl (by (try simp only [List.map_toArray, List.map_cons, List.map_nil]); first | done | rfl | (simp only [List.length_drop, List.length_take]; rfl)) ?_; (with_reducible refine (aquiferref20_word.calls k _ _ t278 7 t288 _ ?side1 ?side2 A10.out).mono ?_); (case side1 => exact CU (Kd.R_reads' HO281.out).2.2); (case side2 => exact (Kd.R_reads' HO281.out).2.1); rintro e w39 ⟨rfl, hb⟩; refine ⟨_, rfl, ?_⟩; have n0_ := Aside0.mk (Kd.R_below (RU HO281.out) hb); have n1_ := Aside0.mk (blk_below (blkU BK277.out) hb); have n2_ := Aside0.mk (below_step (belG HB.out GE277.out) hb); clear HO281; clear BK277; clear HB; have HO281 := n0_; have BK277 := n1_; have HB := n2_; clear n0_ n1_ n2_; (try clear hb); (try clear hb2); (try clear hk); (try clear hi)) | ((with_reducible refine gate_callee (f := 38) rfl ?_); refine goesL_ (some 31) rfl rfl Try.func38 (by kernel_rfl) rfl #[.slice Ao38 t278.length co38, .int .i64 8] rfl (by (try simp only [List.map_toArray, List.map_cons, List.map_nil]); first | done | rfl | (simp only [List.length_drop, List.length_take]; rfl)) ?_; (with_reducible refine (aquiferref20_word.calls k _ _ t278 8 t289 _ ?side1 ?side2 A11.out).mono ?_); (case side1 => exact CU (Kd.R_reads' HO281.out).2.2); (case side2 => exact (Kd.R_reads' HO281.out).2.1); rintro e w40 ⟨rfl, hb⟩; refine ⟨_, rfl, ?_⟩; have n0_ := Aside0.mk (Kd.R_below (RU HO281.out) hb); have n1_ := Aside0.mk (blk_below (blkU BK277.out) hb); have n2_ := Aside0.mk (below_step (belG HB.out GE277.out) hb); clear HO281; clear BK277; clear HB; have HO281 := n0_; have BK277 := n1_; have HB := n2_; clear n0_ n1_ n2_; (try clear hb); (try clear hb2); (try clear hk); (try clear hi)) | ((with_reducible refine gate_dst (N := 6) rfl ?_); refine box_event ?hg (N := 6) ?hd (cs := #[.int .i64 0, .int .i64 0, .int .i64 0, .int .i64 0, .int .i64 0, .int .i64 0, .string (⟨#[]⟩ : ByteArray), .string (⟨#[]⟩ : ByteArray)]) (t := 23) ?hr ?_; (case hd => rfl); (case hg => rfl); (case hr => first | (go_simp; done) | (go_simp; rfl)); intro gb290 hg w41 hbox hb; have n0_ := Aside0.mk (Kd.R_below (RU HO281.out) hb); have n1_ := Aside0.mk (blk_below (blkU BK277.out) hb); have n2_ := Aside0.mk (below_step (belG HB.out GE277.out) hb); have n3_ := Aside0.mk (hbox); have n4_ := Aside0.mk ((by rw [hg]; exact (sizG HB.out GE277.out) : w.heap.size ≤ gb290)); have n5_ := Aside0.mk ((by rw [hg]; exact (sizG HB.out GE277.out) : w.heap.size ≤ gb290)); have n6_ := Aside0.mk ((by rw [hg]; exact Nat.ne_of_lt (blk_lt (g := gb277) (o := .cells #[.int .i64 0, .int .i64 0, .int .i64 0, .int .i64 0, .int .i64 0, .int .i64 0, .string (⟨#[]⟩ : ByteArray), .string (⟨#[]⟩ : ByteArray)] 23 (0, 0)) (blkU BK277.out)) : gb277 ≠ gb290)); have n7_ := Aside0.mk ((by rw [hg]; exact Nat.ne_of_gt (blk_lt (g := gb277) (o := .cells #[.int .i64 0, .int .i64 0, .int .i64 0, .int .i64 0, .int .i64 0, .int .i64 0, .string (⟨#[]⟩ : ByteArray), .string (⟨#[]⟩ : ByteArray)] 23 (0, 0)) (blkU BK277.out)) : gb290 ≠ gb277)); clear HO281; clear BK277; clear HB; have HO281 := n0_; have BK277 := n1_; have HB := n2_; have BK290 := n3_; have GW290 := n4_; have GE290 := n5_; have NB277_290 := n6_; have NB290_277 := n7_; clear n0_ n1_ n2_ n3_ n4_ n5_ n6_ n7_; clear hb hbox hg; have hnb42 := NB290_277.out; have hnc42 := NB277_290.out; have hcz43_0 : w41.cell? ⟨gb290, 0, none⟩ = some (.int .i64 0) := (blk_cell BK290.out 0).trans rfl; have hcz43_1 : w41.cell? ⟨gb290, 1, none⟩ = some (.int .i64 0) := (blk_cell BK290.out 1).trans rfl; have hcz43_2 : w41.cell? ⟨gb290, 2, none⟩ = some (.int .i64 0) := (blk_cell BK290.out 2).trans rfl; have hcz43_3 : w41.cell? ⟨gb290, 3, none⟩ = some (.int .i64 0) := (blk_cell BK290.out 3).trans rfl; have hcz43_4 : w41.cell? ⟨gb290, 4, none⟩ = some (.int .i64 0) := (blk_cell BK290.out 4).trans rfl; have hcz43_5 : w41.cell? ⟨gb290, 5, none⟩ = some (.int .i64 0) := (blk_cell BK290.out 5).trans rfl; have hcz43_6 : w41.cell? ⟨gb290, 6, none⟩ = some (.string (⟨#[]⟩ : ByteArray)) := (blk_cell BK290.out 6).trans rfl; have hcz43_7 : w41.cell? ⟨gb290, 7, none⟩ = some (.string (⟨#[]⟩ : ByteArray)) := (blk_cell BK290.out 7).trans rfl; have hfz43_0 := blk_frozen BK290.out 0; have hfz43_1 := blk_frozen BK290.out 1; have hfz43_2 := blk_frozen BK290.out 2; have hfz43_3 := blk_frozen BK290.out 3; have hfz43_4 := blk_frozen BK290.out 4; have hfz43_5 := blk_frozen BK290.out 5; have hfz43_6 := blk_frozen BK290.out 6; have hfz43_7 := blk_frozen BK290.out 7) | ((with_reducible refine gate_callee (f := 10) rfl ?_); refine goesL_ (some 35) rfl rfl Try.func10 (by kernel_rfl) rfl #[.agg #[.int .i64 t282, .int .i64 t283, .int .i64 t284, .int .i64 t285, .int .i64 t286, .int .i64 t287, .string t288, .string t289]] rfl (by (try simp only [List.map_toArray, List.map_cons, List.map_nil]); first | done | rfl | (simp only [List.length_drop, List.length_take]; rfl)) ?_; (with_reducible refine (aquiferref20_Request.calls k t282 t283 t284 t285 t286 t287 t288 t289 t291 t292 _ A12.out).mono ?_); rintro e w44 ⟨rfl, hb⟩; refine ⟨_, rfl, ?_⟩; have n0_ := Aside0.mk (Kd.R_below (by (with_reducible repeat (first | apply Kd.R_alloc | apply Kd.R_drewN | apply Kd.R_drew)); exact (Kd.R_mono (Kd.R_far (p := ⟨gb290, 7, none⟩) (Kd.R_far (p := ⟨gb290, 6, none⟩) (Kd.R_far (p := ⟨gb290, 5, none⟩) (Kd.R_far (p := ⟨gb290, 4, none⟩) (Kd.R_far (p := ⟨gb290, 3, none⟩) (Kd.R_far (p := ⟨gb290, 2, none⟩) (Kd.R_far (p := ⟨gb290, 1, none⟩) (Kd.R_far (p := ⟨gb290, 0, none⟩) (Kd.R_types HO281.out BK290.out (by decide)) (fun _ hk => hk.2) (.int .i64 t282)) (fun _ hk => hk.2) (.int .i64 t283)) (fun _ hk => hk.2) (.int .i64 t284)) (fun _ hk => hk.2) (.int .i64 t285)) (fun _ hk => hk.2) (.int .i64 t286)) (fun _ hk => hk.2) (.int .i64 t287)) (fun _ hk => hk.2) (.string t288)) (fun _ hk => hk.2) (.string t289)) (fun _ h_ => h_.1))) hb); have n1_ := Aside0.mk (blk_below (blkF BK277.out NB277_290.out) hb); have n2_ := Aside0.mk (blk_below (blkP BK290.out (by rfl)) hb); have n3_ := Aside0.mk (below_step (belG2 HB.out GE277.out GE290.out) hb); clear HO281; clear BK277; clear BK290; clear HB; have HO281 := n0_; have BK277 := n1_; have BK290 := n2_; have HB := n3_; clear n0_ n1_ n2_ n3_; (try clear hb); (try clear hb2); (try clear hk); (try clear hi); have hcz45_0 : w44.cell? ⟨gb277, 0, none⟩ = some (.int .i64 0) := (blk_cell BK277.out 0).trans rfl; have hcz45_1 : w44.cell? ⟨gb277, 1, none⟩ = some (.int .i64 0) := (blk_cell BK277.out 1).trans rfl; have hcz45_2 : w44.cell? ⟨gb277, 2, none⟩ = some (.int .i64 0) := (blk_cell BK277.out 2).trans rfl; have hcz45_3 : w44.cell? ⟨gb277, 3, none⟩ = some (.int .i64 0) := (blk_cell BK277.out 3).trans rfl; have hcz45_4 : w44.cell? ⟨gb277, 4, none⟩ = some (.int .i64 0) := (blk_cell BK277.out 4).trans rfl; have hcz45_5 : w44.cell? ⟨gb277, 5, none⟩ = some (.int .i64 0) := (blk_cell BK277.out 5).trans rfl; have hcz45_6 : w44.cell? ⟨gb277, 6, none⟩ = some (.string (⟨#[]⟩ : ByteArray)) := (blk_cell BK277.out 6).trans rfl; have hcz45_7 : w44.cell? ⟨gb277, 7, none⟩ = some (.string (⟨#[]⟩ : ByteArray)) := (blk_cell BK277.out 7).trans rfl; have hfz45_0 := blk_frozen BK277.out 0; have hfz45_1 := blk_frozen BK277.out 1; have hfz45_2 := blk_frozen BK277.out 2; have hfz45_3 := blk_frozen BK277.out 3; have hfz45_4 := blk_frozen BK277.out 4; have hfz45_5 := blk_frozen BK277.out 5; have hfz45_6 := blk_frozen BK277.out 6; have hfz45_7 := blk_frozen BK277.out 7))
      refine bodyPost_ret (results_ct rfl _ _ gb277 23 #[.int .i64 0, .int .i64 0, .int .i64 0, .int .i64 0, .int .i64 0, .int .i64 0, .string (⟨#[]⟩ : ByteArray), .string (⟨#[]⟩ : ByteArray)] (0, 0) _ rfl (blkP BK277.out (by rfl)) Try.underlying23 rfl (by kernel_rfl)) rfl ?_
      exact ⟨by first | rfl | (simp [errW_none, errW_some] <;> rfl) | (simp [*, errW_none, errW_some] <;> rfl), belG2 HB.out GE277.out GE290.out⟩
  · rw [if_neg c3] at H
    have c3b0 : (t279 == 0) = false := beq_eq_false_iff_ne.mpr c3
    have c3b1 : (t279 != 0) = true := bne_iff_ne.mpr c3
    simp only [Option.some.injEq, Prod.mk.injEq] at H
    obtain ⟨rfl, rfl, rfl, rfl, rfl, rfl, rfl, rfl, rfl⟩ := H
    go_enter Try.func12, Try.ntmps12
    go_wp2_with (first | ((with_reducible refine gate_dst (N := 2) rfl ?_); refine box_event ?hg (N := 2) ?hd (cs := #[.int .i64 0, .int .i64 0, .int .i64 0, .int .i64 0, .int .i64 0, .int .i64 0, .string (⟨#[]⟩ : ByteArray), .string (⟨#[]⟩ : ByteArray)]) (t := 23) ?hr ?_; (case hd => rfl); (case hg => rfl); (case hr => first | (go_simp; done) | (go_simp; rfl)); intro gb277 hg w46 hbox hb; have n0_ := Aside0.mk (below_step (belU HB.out) hb); have n1_ := Aside0.mk (hbox); have n2_ := Aside0.mk ((by rw [hg]; exact (sizU HB.out) : w.heap.size ≤ gb277)); have n3_ := Aside0.mk ((by rw [hg]; exact (sizU HB.out) : w.heap.size ≤ gb277)); clear HB; have HB := n0_; have BK277 := n1_; have GW277 := n2_; have GE277 := n3_; clear n0_ n1_ n2_ n3_; clear hb hbox hg) | ((with_reducible refine gate_callee (f := 36) rfl ?_); refine goesL_ (some 10) rfl rfl Try.func36 (by kernel_rfl) rfl #[.string a0] rfl (by (try simp only [List.map_toArray, List.map_cons, List.map_nil]); first | done | rfl | (simp only [List.length_drop, List.length_take]; rfl)) ?_; (with_reducible refine (aquiferref04_Decode.calls k a0 t278 t279 _ A2.out).mono ?_); rintro e w47 ⟨v280, rfl, ho0, hb⟩; refine ⟨_, rfl, ?_⟩; have n0_ := Aside0.mk (Kd.R_lower ho0 (sizG HB.out GE277.out)); have n1_ := Aside0.mk (blk_below (blkU BK277.out) hb); have n2_ := Aside0.mk (below_step (belG HB.out GE277.out) hb); clear BK277; clear HB; have HO281 := n0_; have BK277 := n1_; have HB := n2_; clear n0_ n1_ n2_; (try clear hb); (try clear hb2); (try clear hk); (try clear hi); (try clear ho0); have hcz48_0 : w47.cell? ⟨gb277, 0, none⟩ = some (.int .i64 0) := (blk_cell BK277.out 0).trans rfl; have hcz48_1 : w47.cell? ⟨gb277, 1, none⟩ = some (.int .i64 0) := (blk_cell BK277.out 1).trans rfl; have hcz48_2 : w47.cell? ⟨gb277, 2, none⟩ = some (.int .i64 0) := (blk_cell BK277.out 2).trans rfl; have hcz48_3 : w47.cell? ⟨gb277, 3, none⟩ = some (.int .i64 0) := (blk_cell BK277.out 3).trans rfl; have hcz48_4 : w47.cell? ⟨gb277, 4, none⟩ = some (.int .i64 0) := (blk_cell BK277.out 4).trans rfl; have hcz48_5 : w47.cell? ⟨gb277, 5, none⟩ = some (.int .i64 0) := (blk_cell BK277.out 5).trans rfl; have hcz48_6 : w47.cell? ⟨gb277, 6, none⟩ = some (.string (⟨#[]⟩ : ByteArray)) := (blk_cell BK277.out 6).trans rfl; have hcz48_7 : w47.cell? ⟨gb277, 7, none⟩ = some (.string (⟨#[]⟩ : ByteArray)) := (blk_cell BK277.out 7).trans rfl; have hfz48_0 := blk_frozen BK277.out 0; have hfz48_1 := blk_frozen BK277.out 1; have hfz48_2 := blk_frozen BK277.out 2; have hfz48_3 := blk_frozen BK277.out 3; have hfz48_4 := blk_frozen BK277.out 4; have hfz48_5 := blk_frozen BK277.out 5; have hfz48_6 := blk_frozen BK277.out 6; have hfz48_7 := blk_frozen BK277.out 7))
    refine bodyPost_ret (results_ct rfl _ _ gb277 23 #[.int .i64 0, .int .i64 0, .int .i64 0, .int .i64 0, .int .i64 0, .int .i64 0, .string (⟨#[]⟩ : ByteArray), .string (⟨#[]⟩ : ByteArray)] (0, 0) _ rfl (blkP BK277.out (by rfl)) Try.underlying23 rfl (by kernel_rfl)) rfl ?_
    exact ⟨by first | rfl | (simp [errW_none, errW_some] <;> rfl) | (simp [*, errW_none, errW_some] <;> rfl), belG HB.out GE277.out⟩

end Go.Proofs.Ytjaneipklpgnlaa.Q

namespace Go.Proofs.Ytjaneipklpgnlaa.Q
open Go.RowKit Go.Proofs.YtjaneipklpgnlaaW.PrintWords Go.Proofs.YtjaneipklpgnlaaW.PrintLast Go.Proofs.YtjaneipklpgnlaaW.PrintMore Go.Proofs.YtjaneipklpgnlaaK
attribute [local go_sem] max2_int min2_int max_two min_two max_three min_three max_four min_four   -- for this text's walks alone
attribute [local go_sem ↓] Go.Proofs.YtjaneipklpgnlaaK.isSome_setCell
set_option linter.unusedVariables false
set_option linter.unusedSimpArgs false

/-! ### aquiferlaw20_works: function 15 -/
def aquiferlaw20_works.f  : Option (Bool) := (talk_Request.f 7 5 0 0 0 0 (⟨#[]⟩ : ByteArray) (⟨#[]⟩ : ByteArray)).bind fun bt293 => (if bt293.1.toList = ([2, 7, 4, 5] : List UInt8) then (some (bt293.2 == 0)) else (some false))
set_option maxHeartbeats 8000000 in
set_option maxRecDepth 100000 in
theorem aquiferlaw20_works.calls  (r : Bool) (w : World) (h : aquiferlaw20_works.f  = some r) :
    Calls Try.prog 15 #[] w fun e w' => e = .returned (.bool r) ∧ Below w.heap.size w w' := by
  have hu23 := Try.underlying23
  have HB := Aside0.mk (Below.refl w.heap.size w)
  have H : ((talk_Request.f 7 5 0 0 0 0 (⟨#[]⟩ : ByteArray) (⟨#[]⟩ : ByteArray)).bind fun bt293 => (if bt293.1.toList = ([2, 7, 4, 5] : List UInt8) then (some (bt293.2 == 0)) else (some false))) = some r := h
  clear h
  replace H := Option.bind_eq_some_iff.mp H
  obtain ⟨⟨t293, t294⟩, A10, H⟩ := H
  replace H : (if t293.toList = ([2, 7, 4, 5] : List UInt8) then (some (t294 == 0)) else (some false)) = some r := H
  have A1 := Aside0.mk A10
  clear A10
  by_cases c2 : t293.toList = ([2, 7, 4, 5] : List UInt8)
  · rw [if_pos c2] at H
    have c2b0 : (t293.toList == ([2, 7, 4, 5] : List UInt8)) = true := beq_iff_eq.mpr c2
    have c2b1 : (t293.toList != ([2, 7, 4, 5] : List UInt8)) = false := bne_eq_false_iff_eq.mpr c2
    clear c2
    obtain rfl := Option.some.inj H
    go_enter Try.func15, Try.ntmps15
    go_wp2_with (first | ((with_reducible refine gate_callee (f := 9) rfl ?_); refine goesL_ (some 5) rfl rfl Try.func9 (by kernel_rfl) rfl #[.agg #[.int .i64 7, .int .i64 5, .int .i64 0, .int .i64 0, .int .i64 0, .int .i64 0, .string (⟨#[]⟩ : ByteArray), .string (⟨#[]⟩ : ByteArray)]] rfl (by (try simp only [List.map_toArray, List.map_cons, List.map_nil]); first | done | rfl | (simp only [List.length_drop, List.length_take]; rfl)) ?_; (with_reducible refine (talk_Request.calls 7 5 0 0 0 0 (⟨#[]⟩ : ByteArray) (⟨#[]⟩ : ByteArray) t293 t294 _ A1.out).mono ?_); rintro e w3 ⟨rfl, hb⟩; refine ⟨_, rfl, ?_⟩; have n0_ := Aside0.mk (below_step (belU HB.out) hb); clear HB; have HB := n0_; clear n0_; (try clear hb); (try clear hb2); (try clear hk); (try clear hi)))
    go_ret
    exact ⟨by first | rfl | (simp [errW_none, errW_some] <;> rfl) | (simp [*, errW_none, errW_some] <;> rfl), belU HB.out⟩
  · rw [if_neg c2] at H
    have c2b0 : (t293.toList == ([2, 7, 4, 5] : List UInt8)) = false := beq_eq_false_iff_ne.mpr c2
    have c2b1 : (t293.toList != ([2, 7, 4, 5] : List UInt8)) = true := bne_iff_ne.mpr c2
    obtain rfl := Option.some.inj H
    go_enter Try.func15, Try.ntmps15
    go_wp2_with (first | ((with_reducible refine gate_callee (f := 9) rfl ?_); refine goesL_ (some 5) rfl rfl Try.func9 (by kernel_rfl) rfl #[.agg #[.int .i64 7, .int .i64 5, .int .i64 0, .int .i64 0, .int .i64 0, .int .i64 0, .string (⟨#[]⟩ : ByteArray), .string (⟨#[]⟩ : ByteArray)]] rfl (by (try simp only [List.map_toArray, List.map_cons, List.map_nil]); first | done | rfl | (simp only [List.length_drop, List.length_take]; rfl)) ?_; (with_reducible refine (talk_Request.calls 7 5 0 0 0 0 (⟨#[]⟩ : ByteArray) (⟨#[]⟩ : ByteArray) t293 t294 _ A1.out).mono ?_); rintro e w4 ⟨rfl, hb⟩; refine ⟨_, rfl, ?_⟩; have n0_ := Aside0.mk (below_step (belU HB.out) hb); clear HB; have HB := n0_; clear n0_; (try clear hb); (try clear hb2); (try clear hk); (try clear hi)))
    go_ret
    exact ⟨by first | rfl | (simp [errW_none, errW_some] <;> rfl) | (simp [*, errW_none, errW_some] <;> rfl), belU HB.out⟩

end Go.Proofs.Ytjaneipklpgnlaa.Q
