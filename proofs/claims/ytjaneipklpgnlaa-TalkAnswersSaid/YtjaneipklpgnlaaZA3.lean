/- Parts of the proof: Q21, PR, PR2, PR3, PG, Q22, Q24, Q25, PT1, Q3, Q6. -/
import Derived.Test.YtjaneipklpgnlaaZA1
import Derived.Test.YtjaneipklpgnlaaZA2
namespace Go.Proofs.Ytjaneipklpgnlaa.Q
open Go.RowKit Go.Proofs.YtjaneipklpgnlaaW.PrintWords Go.Proofs.YtjaneipklpgnlaaW.PrintLast Go.Proofs.YtjaneipklpgnlaaW.PrintMore Go.Proofs.YtjaneipklpgnlaaK
attribute [local go_sem] max2_int min2_int max_two min_two max_three min_three max_four min_four   -- for this text's walks alone
attribute [local go_sem ↓] Go.Proofs.YtjaneipklpgnlaaK.isSome_setCell
set_option linter.unusedVariables false
set_option linter.unusedSimpArgs false

/-! ### aquiferref04_Decode: function 36 -/
mutual
def aquiferref04_Decode.l0 : Nat → ByteArray → List (S84) → Int → Option ((List (S84)) × Int)
  | 0, _, _, _ => none
  | k + 1, x0, x4, x5 => if x5 < (x0.size : Int) then (if 0 ≤ x5 then (aquiferref04_Decode.l1 k x0 x4 x5 0 1 (wrap64 (x5 + 1)) (wrap64 (Int.tdiv (wrap64 (bt x0 x5)) 2)) (Int.tmod (wrap64 (bt x0 x5)) 2) 0 (⟨#[]⟩ : ByteArray)) else (none)) else ((aquiferref04_Encode.f k x4).bind fun bt245 => (if bt245.2 = 0 then (if bt245.1.toList = x0.toList then (some (x4, 0)) else (some (([] : List (S84)), 5))) else (some (([] : List (S84)), 5))))
def aquiferref04_Decode.j2 : Nat → ByteArray → List (S84) → Int → Int → Int → Int → Int → Int → Int → ByteArray → Option ((List (S84)) × Int)
  | 0, _, _, _, _, _, _, _, _, _, _ => none
  | k + 1, x0, x4, x5, x7, x8, x9, x248000, x248001, x248002, x248003 => if x9 ≥ (x0.size : Int) then (aquiferref04_Decode.j3 k x0 x4 x5 x7 x8 x9 true x248000 x248001 x248002 x248003) else (aquiferref04_Decode.j3 k x0 x4 x5 x7 x8 x9 (decide ((wrap64 (x9 - x5)) ≥ 10)) x248000 x248001 x248002 x248003)
def aquiferref04_Decode.j3 : Nat → ByteArray → List (S84) → Int → Int → Int → Int → Bool → Int → Int → Int → ByteArray → Option ((List (S84)) × Int)
  | 0, _, _, _, _, _, _, _, _, _, _, _ => none
  | k + 1, x0, x4, x5, x7, x8, x9, x70, x248000, x248001, x248002, x248003 => if x70 = true then (some (([] : List (S84)), 5)) else (if 0 ≤ x9 then (if x9 < (x0.size : Int) then (if (wrap64 (x7 + (wrap64 ((wrap64 (bt x0 x9)) * x8)))) < 0 then (aquiferref04_Decode.j4 k x0 x4 x5 (wrap64 (x7 + (wrap64 ((wrap64 (bt x0 x9)) * x8)))) (wrap64 (x9 + 1)) true x248000 x248001 x248002 x248003) else (if x248001 = 1 then (aquiferref04_Decode.j4 k x0 x4 x5 (wrap64 (x7 + (wrap64 ((wrap64 (bt x0 x9)) * x8)))) (wrap64 (x9 + 1)) (decide ((wrap64 (x7 + (wrap64 ((wrap64 (bt x0 x9)) * x8)))) > (wrap64 ((x0.size : Int) - (wrap64 (x9 + 1)))))) x248000 x248001 x248002 x248003) else (aquiferref04_Decode.j4 k x0 x4 x5 (wrap64 (x7 + (wrap64 ((wrap64 (bt x0 x9)) * x8)))) (wrap64 (x9 + 1)) false x248000 x248001 x248002 x248003))) else (none)) else (none))
def aquiferref04_Decode.j4 : Nat → ByteArray → List (S84) → Int → Int → Int → Bool → Int → Int → Int → ByteArray → Option ((List (S84)) × Int)
  | 0, _, _, _, _, _, _, _, _, _, _ => none
  | k + 1, x0, x4, x5, x7, x9, x95, x248000, x248001, x248002, x248003 => if x95 = true then (some (([] : List (S84)), 5)) else (if x248001 = 0 then ((aquiferref04_bytes.f k x248000 x248001 x7 x248003).bind fun t248 => (if 0 ≤ x5 then (if x5 ≤ x9 then (if x9 ≤ (x0.size : Int) then (if (strOfNums t248).toList = (x0.extract (x5 : Int).toNat (x9 : Int).toNat).toList then (if x4.length < 3518437208883 then (aquiferref04_Decode.l0 k x0 (x4 ++ [(⟨x248000, x248001, x7, x248003⟩ : S84)]) x9) else (none)) else (some (([] : List (S84)), 5))) else (none)) else (none)) else (none))) else (if 0 ≤ x9 then (if x9 ≤ (wrap64 (x9 + x7)) then (if (wrap64 (x9 + x7)) ≤ (x0.size : Int) then ((aquiferref04_bytes.f k x248000 x248001 x248002 (x0.extract (x9 : Int).toNat ((wrap64 (x9 + x7)) : Int).toNat)).bind fun t254 => (if 0 ≤ x5 then (if x5 ≤ (wrap64 (x9 + x7)) then (if (strOfNums t254).toList = (x0.extract (x5 : Int).toNat ((wrap64 (x9 + x7)) : Int).toNat).toList then (if x4.length < 3518437208883 then (aquiferref04_Decode.l0 k x0 (x4 ++ [(⟨x248000, x248001, x248002, x0.extract (x9 : Int).toNat ((wrap64 (x9 + x7)) : Int).toNat⟩ : S84)]) (wrap64 (x9 + x7))) else (none)) else (some (([] : List (S84)), 5))) else (none)) else (none))) else (none)) else (none)) else (none)))
def aquiferref04_Decode.l1 : Nat → ByteArray → List (S84) → Int → Int → Int → Int → Int → Int → Int → ByteArray → Option ((List (S84)) × Int)
  | 0, _, _, _, _, _, _, _, _, _, _ => none
  | k + 1, x0, x4, x5, x7, x8, x9, x248000, x248001, x248002, x248003 => if x9 < (x0.size : Int) then (if (wrap64 (x9 - x5)) < 10 then (if 0 ≤ x9 then (if (bt x0 x9) ≥ 128 then (aquiferref04_Decode.l1 k x0 x4 x5 (wrap64 (x7 + (wrap64 ((wrap64 ((wrap64 (bt x0 x9)) - 128)) * x8)))) (wrap64 (x8 * 128)) (wrap64 (x9 + 1)) x248000 x248001 x248002 x248003) else (aquiferref04_Decode.j2 k x0 x4 x5 x7 x8 x9 x248000 x248001 x248002 x248003)) else (none)) else (aquiferref04_Decode.j2 k x0 x4 x5 x7 x8 x9 x248000 x248001 x248002 x248003)) else (aquiferref04_Decode.j2 k x0 x4 x5 x7 x8 x9 x248000 x248001 x248002 x248003)
end
def aquiferref04_Decode.f (k : Nat) (a0 : ByteArray) : Option ((List (S84)) × Int) := if (a0.size : Int) > 65536 then (some (([] : List (S84)), 5)) else (aquiferref04_Decode.l0 k a0 ([] : List (S84)) 0)
theorem aquiferref04_Decode.mono_l : ∀ k, (∀ y0 y1 y2, LeO (aquiferref04_Decode.l0 k y0 y1 y2) (aquiferref04_Decode.l0 (k + 1) y0 y1 y2)) ∧ (∀ y0 y1 y2 y3 y4 y5 y6 y7 y8 y9, LeO (aquiferref04_Decode.j2 k y0 y1 y2 y3 y4 y5 y6 y7 y8 y9) (aquiferref04_Decode.j2 (k + 1) y0 y1 y2 y3 y4 y5 y6 y7 y8 y9)) ∧ (∀ y0 y1 y2 y3 y4 y5 y6 y7 y8 y9 y10, LeO (aquiferref04_Decode.j3 k y0 y1 y2 y3 y4 y5 y6 y7 y8 y9 y10) (aquiferref04_Decode.j3 (k + 1) y0 y1 y2 y3 y4 y5 y6 y7 y8 y9 y10)) ∧ (∀ y0 y1 y2 y3 y4 y5 y6 y7 y8 y9, LeO (aquiferref04_Decode.j4 k y0 y1 y2 y3 y4 y5 y6 y7 y8 y9) (aquiferref04_Decode.j4 (k + 1) y0 y1 y2 y3 y4 y5 y6 y7 y8 y9)) ∧ (∀ y0 y1 y2 y3 y4 y5 y6 y7 y8 y9, LeO (aquiferref04_Decode.l1 k y0 y1 y2 y3 y4 y5 y6 y7 y8 y9) (aquiferref04_Decode.l1 (k + 1) y0 y1 y2 y3 y4 y5 y6 y7 y8 y9))
  | 0 => ⟨fun _ _ _ r h => by simp [aquiferref04_Decode.l0] at h, fun _ _ _ _ _ _ _ _ _ _ r h => by simp [aquiferref04_Decode.j2] at h, fun _ _ _ _ _ _ _ _ _ _ _ r h => by simp [aquiferref04_Decode.j3] at h, fun _ _ _ _ _ _ _ _ _ _ r h => by simp [aquiferref04_Decode.j4] at h, fun _ _ _ _ _ _ _ _ _ _ r h => by simp [aquiferref04_Decode.l1] at h⟩
  | k + 1 => by
    obtain ⟨ih0, ih1, ih2, ih3, ih4⟩ := aquiferref04_Decode.mono_l k
    refine ⟨?_, ?_, ?_, ?_, ?_⟩
    · intro y0 y1 y2
      unfold aquiferref04_Decode.l0
      repeat' first
      | (with_reducible exact ih0 _ _ _)
      | (with_reducible exact ih1 _ _ _ _ _ _ _ _ _ _)
      | (with_reducible exact ih2 _ _ _ _ _ _ _ _ _ _ _)
      | (with_reducible exact ih3 _ _ _ _ _ _ _ _ _ _)
      | (with_reducible exact ih4 _ _ _ _ _ _ _ _ _ _)
      | (with_reducible exact aquiferref04_Encode.mono _ _)
      | (with_reducible exact aquiferref04_bytes.mono _ _ _ _ _)
      | (with_reducible exact LeO.refl _)
      | (with_reducible exact LeO.none _)
      | (with_reducible refine LeO.ite ?_ ?_)
      | (with_reducible refine LeO.bind ?_ (fun _ => ?_))
      | exact ih0 _ _ _
      | exact ih1 _ _ _ _ _ _ _ _ _ _
      | exact ih2 _ _ _ _ _ _ _ _ _ _ _
      | exact ih3 _ _ _ _ _ _ _ _ _ _
      | exact ih4 _ _ _ _ _ _ _ _ _ _
      | exact aquiferref04_Encode.mono _ _
      | exact aquiferref04_bytes.mono _ _ _ _ _
      | exact LeO.none _
      | refine LeO.ite ?_ ?_
      | refine LeO.bind ?_ (fun _ => ?_)
    · intro y0 y1 y2 y3 y4 y5 y6 y7 y8 y9
      unfold aquiferref04_Decode.j2
      repeat' first
      | (with_reducible exact ih0 _ _ _)
      | (with_reducible exact ih1 _ _ _ _ _ _ _ _ _ _)
      | (with_reducible exact ih2 _ _ _ _ _ _ _ _ _ _ _)
      | (with_reducible exact ih3 _ _ _ _ _ _ _ _ _ _)
      | (with_reducible exact ih4 _ _ _ _ _ _ _ _ _ _)
      | (with_reducible exact aquiferref04_Encode.mono _ _)
      | (with_reducible exact aquiferref04_bytes.mono _ _ _ _ _)
      | (with_reducible exact LeO.refl _)
      | (with_reducible exact LeO.none _)
      | (with_reducible refine LeO.ite ?_ ?_)
      | (with_reducible refine LeO.bind ?_ (fun _ => ?_))
      | exact ih0 _ _ _
      | exact ih1 _ _ _ _ _ _ _ _ _ _
      | exact ih2 _ _ _ _ _ _ _ _ _ _ _
      | exact ih3 _ _ _ _ _ _ _ _ _ _
      | exact ih4 _ _ _ _ _ _ _ _ _ _
      | exact aquiferref04_Encode.mono _ _
      | exact aquiferref04_bytes.mono _ _ _ _ _
      | exact LeO.none _
      | refine LeO.ite ?_ ?_
      | refine LeO.bind ?_ (fun _ => ?_)
    · intro y0 y1 y2 y3 y4 y5 y6 y7 y8 y9 y10
      unfold aquiferref04_Decode.j3
      repeat' first
      | (with_reducible exact ih0 _ _ _)
      | (with_reducible exact ih1 _ _ _ _ _ _ _ _ _ _)
      | (with_reducible exact ih2 _ _ _ _ _ _ _ _ _ _ _)
      | (with_reducible exact ih3 _ _ _ _ _ _ _ _ _ _)
      | (with_reducible exact ih4 _ _ _ _ _ _ _ _ _ _)
      | (with_reducible exact aquiferref04_Encode.mono _ _)
      | (with_reducible exact aquiferref04_bytes.mono _ _ _ _ _)
      | (with_reducible exact LeO.refl _)
      | (with_reducible exact LeO.none _)
      | (with_reducible refine LeO.ite ?_ ?_)
      | (with_reducible refine LeO.bind ?_ (fun _ => ?_))
      | exact ih0 _ _ _
      | exact ih1 _ _ _ _ _ _ _ _ _ _
      | exact ih2 _ _ _ _ _ _ _ _ _ _ _
      | exact ih3 _ _ _ _ _ _ _ _ _ _
      | exact ih4 _ _ _ _ _ _ _ _ _ _
      | exact aquiferref04_Encode.mono _ _
      | exact aquiferref04_bytes.mono _ _ _ _ _
      | exact LeO.none _
      | refine LeO.ite ?_ ?_
      | refine LeO.bind ?_ (fun _ => ?_)
    · intro y0 y1 y2 y3 y4 y5 y6 y7 y8 y9
      unfold aquiferref04_Decode.j4
      repeat' first
      | (with_reducible exact ih0 _ _ _)
      | (with_reducible exact ih1 _ _ _ _ _ _ _ _ _ _)
      | (with_reducible exact ih2 _ _ _ _ _ _ _ _ _ _ _)
      | (with_reducible exact ih3 _ _ _ _ _ _ _ _ _ _)
      | (with_reducible exact ih4 _ _ _ _ _ _ _ _ _ _)
      | (with_reducible exact aquiferref04_Encode.mono _ _)
      | (with_reducible exact aquiferref04_bytes.mono _ _ _ _ _)
      | (with_reducible exact LeO.refl _)
      | (with_reducible exact LeO.none _)
      | (with_reducible refine LeO.ite ?_ ?_)
      | (with_reducible refine LeO.bind ?_ (fun _ => ?_))
      | exact ih0 _ _ _
      | exact ih1 _ _ _ _ _ _ _ _ _ _
      | exact ih2 _ _ _ _ _ _ _ _ _ _ _
      | exact ih3 _ _ _ _ _ _ _ _ _ _
      | exact ih4 _ _ _ _ _ _ _ _ _ _
      | exact aquiferref04_Encode.mono _ _
      | exact aquiferref04_bytes.mono _ _ _ _ _
      | exact LeO.none _
      | refine LeO.ite ?_ ?_
      | refine LeO.bind ?_ (fun _ => ?_)
    · intro y0 y1 y2 y3 y4 y5 y6 y7 y8 y9
      unfold aquiferref04_Decode.l1
      repeat' first
      | (with_reducible exact ih0 _ _ _)
      | (with_reducible exact ih1 _ _ _ _ _ _ _ _ _ _)
      | (with_reducible exact ih2 _ _ _ _ _ _ _ _ _ _ _)
      | (with_reducible exact ih3 _ _ _ _ _ _ _ _ _ _)
      | (with_reducible exact ih4 _ _ _ _ _ _ _ _ _ _)
      | (with_reducible exact aquiferref04_Encode.mono _ _)
      | (with_reducible exact aquiferref04_bytes.mono _ _ _ _ _)
      | (with_reducible exact LeO.refl _)
      | (with_reducible exact LeO.none _)
      | (with_reducible refine LeO.ite ?_ ?_)
      | (with_reducible refine LeO.bind ?_ (fun _ => ?_))
      | exact ih0 _ _ _
      | exact ih1 _ _ _ _ _ _ _ _ _ _
      | exact ih2 _ _ _ _ _ _ _ _ _ _ _
      | exact ih3 _ _ _ _ _ _ _ _ _ _
      | exact ih4 _ _ _ _ _ _ _ _ _ _
      | exact aquiferref04_Encode.mono _ _
      | exact aquiferref04_bytes.mono _ _ _ _ _
      | exact LeO.none _
      | refine LeO.ite ?_ ?_
      | refine LeO.bind ?_ (fun _ => ?_)
theorem aquiferref04_Decode.mono : ∀ a0 k, LeO (aquiferref04_Decode.f k a0) (aquiferref04_Decode.f (k + 1) a0) := by
  intro a0 k
  obtain ⟨ih0, ih1, ih2, ih3, ih4⟩ := aquiferref04_Decode.mono_l k
  unfold aquiferref04_Decode.f
  repeat' first
      | (with_reducible exact ih0 _ _ _)
      | (with_reducible exact ih1 _ _ _ _ _ _ _ _ _ _)
      | (with_reducible exact ih2 _ _ _ _ _ _ _ _ _ _ _)
      | (with_reducible exact ih3 _ _ _ _ _ _ _ _ _ _)
      | (with_reducible exact ih4 _ _ _ _ _ _ _ _ _ _)
      | (with_reducible exact aquiferref04_Encode.mono _ _)
      | (with_reducible exact aquiferref04_bytes.mono _ _ _ _ _)
      | (with_reducible exact LeO.refl _)
      | (with_reducible exact LeO.none _)
      | (with_reducible refine LeO.ite ?_ ?_)
      | (with_reducible refine LeO.bind ?_ (fun _ => ?_))
      | exact ih0 _ _ _
      | exact ih1 _ _ _ _ _ _ _ _ _ _
      | exact ih2 _ _ _ _ _ _ _ _ _ _ _
      | exact ih3 _ _ _ _ _ _ _ _ _ _
      | exact ih4 _ _ _ _ _ _ _ _ _ _
      | exact aquiferref04_Encode.mono _ _
      | exact aquiferref04_bytes.mono _ _ _ _ _
      | exact LeO.none _
      | refine LeO.ite ?_ ?_
      | refine LeO.bind ?_ (fun _ => ?_)
def aquiferref04_Decode.T6 : Bool × List (List Nat × List Nat) := (true, [([], []), ([], []), ([0, 1], [0, 1]), ([2], [2]), ([3], [3]), ([], []), ([], []), ([5, 6], [5, 6]), ([7], [7]), ([8], [8]), ([4, 9], [4, 9]), ([], []), ([11, 10, 0, 1, 2, 3, 4, 5, 6, 7, 8, 9, 10, 11], [10, 11])])
def aquiferref04_Decode.B6 : List Nat := [0, 0, 3, 7, 15, 0, 0, 96, 224, 480, 1023, 0, 4095]
theorem aquiferref04_Decode.tab6 : rtab .any (opsOf Try.f36 6) = aquiferref04_Decode.T6 := by kernel_rfl
theorem aquiferref04_Decode.bits6 : waitsOk aquiferref04_Decode.T6.2 aquiferref04_Decode.B6 = true := by kernel_rfl
def aquiferref04_Decode.T24 : Bool × List (List Nat × List Nat) := (true, [([], []), ([0], [0]), ([1], [1]), ([], []), ([], []), ([], []), ([3, 4, 5], [3, 4, 5]), ([2, 6], [2, 6])])
def aquiferref04_Decode.B24 : List Nat := [0, 1, 3, 0, 0, 0, 56, 127]
theorem aquiferref04_Decode.tab24 : rtab .any (opsOf Try.f36 24) = aquiferref04_Decode.T24 := by kernel_rfl
theorem aquiferref04_Decode.bits24 : waitsOk aquiferref04_Decode.T24.2 aquiferref04_Decode.B24 = true := by kernel_rfl
set_option maxHeartbeats 8000000 in
set_option maxRecDepth 100000 in
theorem aquiferref04_Decode.calls (k : Nat) (a0 : ByteArray) (r1 : List (S84)) (r2 : Int) (w : World) (h : aquiferref04_Decode.f k a0 = some (r1, r2)) :
    Calls Try.prog 36 #[.string a0] w fun e w' => ∃ v0_ : Value, e = .returned (.tuple #[v0_, .int .i64 r2]) ∧ Kd.R k84 84 w' w.heap.size (fun _ => True) v0_ r1 ∧ Below w.heap.size w w' := by
  have hu84 := Try.underlying84
  have HB := Aside0.mk (Below.refl w.heap.size w)
  have H : (if (a0.size : Int) > 65536 then (some (([] : List (S84)), 5)) else (aquiferref04_Decode.l0 k a0 ([] : List (S84)) 0)) = some (r1, r2) := h
  clear h
  by_cases c2 : (a0.size : Int) > 65536
  · rw [if_pos c2] at H
    have c2b0 : decide (65536 < (a0.size : Int)) = true := decide_eq_true c2
    have c2b1 : decide (65536 < a0.size) = true := decide_eq_true (by omega)
    clear c2
    simp only [Option.some.injEq, Prod.mk.injEq] at H
    obtain ⟨rfl, rfl⟩ := H
    go_enter Try.func36, Try.ntmps36
    go_wp2
    go_ret2
    exact ⟨_, by first | rfl | (simp [errW_none, errW_some] <;> rfl) | (simp [*, errW_none, errW_some] <;> rfl), by first | exact Kd.R_nil _ _ _ _ _ | exact Kd.N_nil _ _ _ _ _ | exact Kd.V_nil _ _ _ _ _ | exact Kd.Q_nil _ _ _ _ _ | exact Kd.S_nil _ _ _ _ _, belU HB.out⟩
  · rw [if_neg c2] at H
    have c2b0 : decide (65536 < (a0.size : Int)) = false := decide_eq_false c2
    have c2b1 : decide (65536 < a0.size) = false := decide_eq_false (by omega)
    clear c2
    have H' := Aside0.mk H
    clear H
    go_enter Try.func36, Try.ntmps36
    go_wp2
    go_loopg [4, 5] k (fun kq v4 v5 w' => ∃ (x4_1 : List (S84)) (x5_1 : Int), v5 = .int .i64 x5_1 ∧ Aside0 (aquiferref04_Decode.l0 kq a0 x4_1 x5_1 = some (r1, r2)) ∧ Aside0 (kq ≤ k) ∧ Aside0 (Kd.R k84 84 w' w.heap.size (fun _ => True) v4 x4_1) ∧ Aside0 (Below w.heap.size w w'))
    case atStart => exact ⟨(([] : List (S84))), (0), (by first | rfl | (simp; done) | (simp [*]; done)), H', ⟨Nat.le_refl _⟩, ⟨by first | exact Kd.R_nil _ _ _ _ _ | exact Kd.N_nil _ _ _ _ _ | exact Kd.V_nil _ _ _ _ _ | exact Kd.Q_nil _ _ _ _ _ | exact Kd.S_nil _ _ _ _ _⟩, ⟨belU HB.out⟩⟩
    case round =>
      clear H'
      try clear c2
      try clear c2b0
      try clear c2b1
      try clear p2
      obtain ⟨x4_1, x5_1, rfl, HA, HK1, HO_4, HB⟩ := hrel
      cases gk with
      | zero => exact absurd HA.out (by simp [aquiferref04_Decode.l0])
      | succ k1 =>
        have H := HA.out
        clear HA
        simp only [aquiferref04_Decode.l0] at H
        by_cases c3 : x5_1 < (a0.size : Int)
        · rw [if_pos c3] at H
          have c3b0 : decide (x5_1 < (a0.size : Int)) = true := decide_eq_true c3
          clear c3
          by_cases c4 : 0 ≤ x5_1
          · rw [if_pos c4] at H
            have c4b0 : decide (0 ≤ x5_1) = true := decide_eq_true c4
            clear c4
            have HC7 := Aside0.mk H
            clear H
            try go_wp2
            have n0_ := Aside0.mk (Kd.R_drew HO_4.out)
            have n1_ := Aside0.mk (below_drew1 HB.out)
            clear HO_4
            clear HB
            have HO_4 := n0_
            have HB := n1_
            clear n0_ n1_
            have p5 : 0 ≤ (x5_1 : Int) := of_decide_eq_true (by first | (with_reducible assumption) | assumption)
            have q5 : x5_1 < (a0.size : Int) := of_decide_eq_true (by first | (with_reducible assumption) | assumption)
            have hx5 := bt_at a0 x5_1
            replace p5 := eq_true p5
            replace q5 := eq_true q5
            have p6 : 0 ≤ (x5_1 : Int) := of_decide_eq_true (by first | (with_reducible assumption) | assumption)
            have q6 : x5_1 < (a0.size : Int) := of_decide_eq_true (by first | (with_reducible assumption) | assumption)
            have hx6 := bt_at a0 x5_1
            replace p6 := eq_true p6
            replace q6 := eq_true q6
            refine start_ (n := 13) (S := fun w' => True) (ds := []) #[false, false, false, false, false, false, false, false, false, false, false, false, false] (by kernel_rfl) rfl rfl trivial (fun hHeld => ?_); refine with_tabW aquiferref04_Decode.tab6 aquiferref04_Decode.bits6 (fun HT_ HW_ => ?_)
            generalize wr.drew = w8 at HO_4 HB hHeld ⊢
            refine pure_ (i := 0) (N := some 19) (v := ?_) (a' := ?_) #[true, false, false, false, false, false, false, false, false, false, false, false, false] rfl rfl (any_of HT_.out (by kernel_rfl)) (fun _ _ _ h => h) (Or.inl ⟨by rfl, ?_⟩) ?_ ?_
            rotate_left
            · intro w'
              go_simp
              with_reducible rfl
            rotate_left
            · simp only [Act.put, List.setIfInBounds_toArray, List.set_cons_zero, List.set_cons_succ, i64_w, i32_w]
              rfl
            refine pure_ (i := 1) (N := some 20) (v := ?_) (a' := ?_) #[true, true, false, false, false, false, false, false, false, false, false, false, false] rfl rfl (any_of HT_.out (by kernel_rfl)) (fun _ _ _ h => h) (Or.inl ⟨by rfl, ?_⟩) ?_ ?_
            rotate_left
            · intro w'
              go_simp
              with_reducible rfl
            rotate_left
            · simp only [Act.put, List.setIfInBounds_toArray, List.set_cons_zero, List.set_cons_succ, i64_w, i32_w]
              rfl
            refine pure_ (i := 5) (N := some 24) (v := ?_) (a' := ?_) #[true, true, false, false, false, true, false, false, false, false, false, false, false] rfl rfl (any_of HT_.out (by kernel_rfl)) (fun _ _ _ h => h) (Or.inl ⟨by rfl, ?_⟩) ?_ ?_
            rotate_left
            · intro w'
              go_simp
              with_reducible rfl
            rotate_left
            · simp only [Act.put, List.setIfInBounds_toArray, List.set_cons_zero, List.set_cons_succ, i64_w, i32_w]
              rfl
            refine pure_ (i := 6) (N := some 25) (v := ?_) (a' := ?_) #[true, true, false, false, false, true, true, false, false, false, false, false, false] rfl rfl (any_of HT_.out (by kernel_rfl)) (fun _ _ _ h => h) (Or.inl ⟨by rfl, ?_⟩) ?_ ?_
            rotate_left
            · intro w'
              go_simp
              with_reducible rfl
            rotate_left
            · simp only [Act.put, List.setIfInBounds_toArray, List.set_cons_zero, List.set_cons_succ, i64_w, i32_w]
              rfl
            refine take_ (i := 2) (N := some 21) (v := ?_) (a' := ?_) #[true, true, true, false, false, true, true, false, false, false, false, false, false] rfl rfl (take_ofW HT_.out HW_.out (by kernel_rfl)) (fun _ _ _ h => h) (Or.inl ⟨by rfl, ?_⟩) hHeld ?_ ?_
            rotate_left
            · intro w' _
              go_simp
              with_reducible rfl
            rotate_left
            · simp only [Act.put, List.setIfInBounds_toArray, List.set_cons_zero, List.set_cons_succ, i64_w, i32_w]
              rfl
            refine pure_ (i := 3) (N := some 22) (v := ?_) (a' := ?_) #[true, true, true, true, false, true, true, false, false, false, false, false, false] rfl rfl (any_of HT_.out (by kernel_rfl)) (fun _ _ _ h => h) (Or.inl ⟨by rfl, ?_⟩) ?_ ?_
            rotate_left
            · intro w'
              go_simp
              with_reducible rfl
            rotate_left
            · simp only [Act.put, List.setIfInBounds_toArray, List.set_cons_zero, List.set_cons_succ, i64_w, i32_w]
              rfl
            refine pure_ (i := 4) (N := some 23) (v := ?_) (a' := ?_) #[true, true, true, true, true, true, true, false, false, false, false, false, false] rfl rfl (any_of HT_.out (by kernel_rfl)) (fun _ _ _ h => h) (Or.inl ⟨by rfl, ?_⟩) ?_ ?_
            rotate_left
            · intro w'
              go_simp
              with_reducible rfl
            rotate_left
            · simp only [Act.put, List.setIfInBounds_toArray, List.set_cons_zero, List.set_cons_succ, i64_w, i32_w]
              rfl
            refine take_ (i := 7) (N := some 26) (v := ?_) (a' := ?_) #[true, true, true, true, true, true, true, true, false, false, false, false, false] rfl rfl (take_ofW HT_.out HW_.out (by kernel_rfl)) (fun _ _ _ h => h) (Or.inl ⟨by rfl, ?_⟩) hHeld ?_ ?_
            rotate_left
            · intro w' _
              go_simp
              with_reducible rfl
            rotate_left
            · simp only [Act.put, List.setIfInBounds_toArray, List.set_cons_zero, List.set_cons_succ, i64_w, i32_w]
              rfl
            refine pure_ (i := 8) (N := some 27) (v := ?_) (a' := ?_) #[true, true, true, true, true, true, true, true, true, false, false, false, false] rfl rfl (any_of HT_.out (by kernel_rfl)) (fun _ _ _ h => h) (Or.inl ⟨by rfl, ?_⟩) ?_ ?_
            rotate_left
            · intro w'
              go_simp
              with_reducible rfl
            rotate_left
            · simp only [Act.put, List.setIfInBounds_toArray, List.set_cons_zero, List.set_cons_succ, i64_w, i32_w]
              rfl
            refine pure_ (i := 9) (N := some 28) (v := ?_) (a' := ?_) #[true, true, true, true, true, true, true, true, true, true, false, false, false] rfl rfl (any_of HT_.out (by kernel_rfl)) (fun _ _ _ h => h) (Or.inl ⟨by rfl, ?_⟩) ?_ ?_
            rotate_left
            · intro w'
              go_simp
              with_reducible rfl
            rotate_left
            · simp only [Act.put, List.setIfInBounds_toArray, List.set_cons_zero, List.set_cons_succ, i64_w, i32_w]
              rfl
            refine pure_ (i := 10) (N := some 29) (v := ?_) (a' := ?_) #[true, true, true, true, true, true, true, true, true, true, true, false, false] rfl rfl (any_of HT_.out (by kernel_rfl)) (fun _ _ _ h => h) (Or.inl ⟨by rfl, ?_⟩) ?_ ?_
            rotate_left
            · intro w'
              go_simp
              with_reducible rfl
            rotate_left
            · simp only [Act.put, List.setIfInBounds_toArray, List.set_cons_zero, List.set_cons_succ, i64_w, i32_w]
              rfl
            refine one_ (i := 11) (N := some 6) #[true, true, true, true, true, true, true, true, true, true, true, true, false] rfl rfl (one_of HT_.out (by kernel_rfl)) (by decide) (fun K hK => ?_)
            refine box_step ?hg (N := 6) ?hd (cs := #[.int .i64 0, .int .i64 0, .int .i64 0, .string (⟨#[]⟩ : ByteArray)]) (t := 84) ?hr ?_; (case hd => rfl); (case hg => rfl); (case hr => first | (go_simp; done) | (go_simp; rfl))
            intro gb247 hg w9 hbox hb
            have n0_ := Aside0.mk (Kd.R_below (Kd.R_elderB (RU HO_4.out) gb247 (Nat.le_of_eq hg.symm)) hb)
            have n1_ := Aside0.mk (below_step (belU HB.out) hb)
            have n2_ := Aside0.mk (hbox)
            have n3_ := Aside0.mk ((by rw [hg]; exact (sizU HB.out) : w.heap.size ≤ gb247))
            have n4_ := Aside0.mk ((by rw [hg]; exact (sizU HB.out) : w.heap.size ≤ gb247))
            clear HO_4
            clear HB
            have HO_4 := n0_
            have HB := n1_
            have BK247 := n2_
            have GW247 := n3_
            have GE247 := n4_
            clear n0_ n1_ n2_ n3_ n4_
            clear hb hbox hg
            refine hK.out _ _ trivial (fun hHeld => ?_)
            clear hK K
            refine norm_ (a' := ?_) ?_ ?_
            rotate_left
            · show Act.put _ (some 6) _ = _
              simp only [Act.put, List.setIfInBounds_toArray, List.set_cons_zero, List.set_cons_succ, i64_w, i32_w]
              rfl
            refine one_ (i := 12) (N := none) #[true, true, true, true, true, true, true, true, true, true, true, true, true] rfl rfl (one_of HT_.out (by kernel_rfl)) (by decide) (fun K hK => ?_)
            have hs10 : w9.cell? ⟨gb247, 0, none⟩ = some (.int .i64 0) := (blk_cell BK247.out 0).trans rfl
            have hfs10 := blk_frozen BK247.out 0
            have hs11 : w9.cell? ⟨gb247, 1, none⟩ = some (.int .i64 0) := (blk_cell BK247.out 1).trans rfl
            have hfs11 := blk_frozen BK247.out 1
            have hs12 : w9.cell? ⟨gb247, 2, none⟩ = some (.int .i64 0) := (blk_cell BK247.out 2).trans rfl
            have hfs12 := blk_frozen BK247.out 2
            have hs13 : w9.cell? ⟨gb247, 3, none⟩ = some (.string (⟨#[]⟩ : ByteArray)) := (blk_cell BK247.out 3).trans rfl
            have hfs13 := blk_frozen BK247.out 3
            refine skip_ (w1 := ?_) (by rfl) rfl ?_ ?_
            rotate_left
            · go_simp
              rfl
            refine hK.out _ _ trivial (fun hHeld => ?_)
            clear hK K
            refine done_ (done_of HT_.out (by kernel_rfl)) ?_
            go_upto_block 2 with (fail)
            go_cut [7, 8, 9] (fun v7 v8 v9 wc => ∃ (kq : Nat) (x7_6 : Int) (x8_6 : Int) (x9_6 : Int), v7 = .int .i64 x7_6 ∧ v8 = .int .i64 x8_6 ∧ v9 = .int .i64 x9_6 ∧ Aside0 (aquiferref04_Decode.j2 kq a0 x4_1 x5_1 x7_6 x8_6 x9_6 (wrap64 (Int.tdiv (wrap64 (bt a0 x5_1)) 2)) (Int.tmod (wrap64 (bt a0 x5_1)) 2) 0 (⟨#[]⟩ : ByteArray) = some (r1, r2)) ∧ Aside0 (kq ≤ k1) ∧ Aside0 (Kd.R k84 84 wc w.heap.size (fun k_ => k_ ≠ gb247) u4 x4_1) ∧ Aside0 (wc.heap[gb247]? = some (.cells #[.int .i64 (wrap64 (Int.tdiv (wrap64 (bt a0 x5_1)) 2)), .int .i64 (Int.tmod (wrap64 (bt a0 x5_1)) 2), .int .i64 0, .string (⟨#[]⟩ : ByteArray)] 84 (0, 0))) ∧ Aside0 (Below w.heap.size w wc))
            case first =>
              have H := HC7.out
              clear HC7
              have H' := Aside0.mk H
              clear H
              go_wp2
              go_loopg [7, 8, 9] k1 (fun kq v7 v8 v9 w' => ∃ (x7_2 : Int) (x8_2 : Int) (x9_2 : Int), v7 = .int .i64 x7_2 ∧ v8 = .int .i64 x8_2 ∧ v9 = .int .i64 x9_2 ∧ Aside0 (aquiferref04_Decode.l1 kq a0 x4_1 x5_1 x7_2 x8_2 x9_2 (wrap64 (Int.tdiv (wrap64 (bt a0 x5_1)) 2)) (Int.tmod (wrap64 (bt a0 x5_1)) 2) 0 (⟨#[]⟩ : ByteArray) = some (r1, r2)) ∧ Aside0 (kq ≤ k1) ∧ Aside0 (Kd.R k84 84 w' w.heap.size (fun k_ => k_ ≠ gb247) u4 x4_1) ∧ Aside0 (w'.heap[gb247]? = some (.cells #[.int .i64 (wrap64 (Int.tdiv (wrap64 (bt a0 x5_1)) 2)), .int .i64 (Int.tmod (wrap64 (bt a0 x5_1)) 2), .int .i64 0, .string (⟨#[]⟩ : ByteArray)] 84 (0, 0))) ∧ Aside0 (Below w.heap.size w w'))
              case atStart => exact ⟨(0), (1), (wrap64 (x5_1 + 1)), (by first | rfl | (simp; done) | (simp [*]; done)), (by first | rfl | (simp; done) | (simp [*]; done)), (by first | rfl | (simp; done) | (simp [*]; done)), H', ⟨Nat.le_refl _⟩, ⟨by (with_reducible repeat (first | apply Kd.R_alloc | apply Kd.R_drewN | apply Kd.R_drew)); exact Kd.R_mono (Kd.R_far (p := ⟨gb247, 3, none⟩) (Kd.R_far (p := ⟨gb247, 2, none⟩) (Kd.R_far (p := ⟨gb247, 1, none⟩) (Kd.R_far (p := ⟨gb247, 0, none⟩) (Kd.R_mono HO_4.out (fun k_ hk => (⟨hk, hk.2⟩ : _ ∧ k_ ≠ gb247))) (fun _ hk => hk.2) (.int .i64 (wrap64 (Int.tdiv (wrap64 (bt a0 x5_1)) 2)))) (fun _ hk => hk.2) (.int .i64 (Int.tmod (wrap64 (bt a0 x5_1)) 2))) (fun _ hk => hk.2) (.int .i64 0)) (fun _ hk => hk.2) (.string (⟨#[]⟩ : ByteArray))) (fun _ hk => hk.1.2)⟩, ⟨blkP BK247.out (by rfl)⟩, ⟨belG HB.out GE247.out⟩⟩
              case round =>
                clear H'
                try clear c2
                try clear c2b0
                try clear c2b1
                try clear p2
                try clear c3
                try clear c3b0
                try clear c4
                try clear c4b0
                try clear p5
                try clear q5
                try clear hx5
                try clear p6
                try clear q6
                try clear hx6
                try clear p2
                try clear p5
                try clear p6
                try clear q5
                try clear q6
                obtain ⟨x7_2, x8_2, x9_2, rfl, rfl, rfl, HA, HK2, HO_4, BK247, HB⟩ := hrel
                cases gk with
                | zero => exact absurd HA.out (by simp [aquiferref04_Decode.l1])
                | succ k2 =>
                  have H := HA.out
                  clear HA
                  simp only [aquiferref04_Decode.l1] at H
                  by_cases c14 : x9_2 < (a0.size : Int)
                  · rw [if_pos c14] at H
                    have c14b0 : decide (x9_2 < (a0.size : Int)) = true := decide_eq_true c14
                    clear c14
                    (first | rw [c14b0] | (simp only [i64_w, i32_w]; rw [c14b0]) | skip)
                    by_cases c15 : (wrap64 (x9_2 - x5_1)) < 10
                    · rw [if_pos c15] at H
                      have c15b0 : decide ((wrap64 (x9_2 - x5_1)) < 10) = true := decide_eq_true c15
                      clear c15
                      by_cases c16 : 0 ≤ x9_2
                      · rw [if_pos c16] at H
                        have c16b0 : decide (0 ≤ x9_2) = true := decide_eq_true c16
                        clear c16
                        by_cases c18 : (bt a0 x9_2) ≥ 128
                        · rw [if_pos c18] at H
                          have c18b0 : decide (128 ≤ (bt a0 x9_2)) = true := decide_eq_true c18
                          clear c18
                          have H' := Aside0.mk H
                          clear H
                          have p17 : 0 ≤ (x9_2 : Int) := of_decide_eq_true (by first | (with_reducible assumption) | assumption)
                          have q17 : x9_2 < (a0.size : Int) := of_decide_eq_true (by first | (with_reducible assumption) | assumption)
                          have hx17 := bt_at a0 x9_2
                          replace p17 := eq_true p17
                          replace q17 := eq_true q17
                          have p19 : 0 ≤ (x9_2 : Int) := of_decide_eq_true (by first | (with_reducible assumption) | assumption)
                          have q19 : x9_2 < (a0.size : Int) := of_decide_eq_true (by first | (with_reducible assumption) | assumption)
                          have hx19 := bt_at a0 x9_2
                          replace p19 := eq_true p19
                          replace q19 := eq_true q19
                          go_wp2
                          go_roundg k2
                          case measure => have := HK1.out; have := HK2.out; omega
                          case rel => exact ⟨(wrap64 (x7_2 + (wrap64 ((wrap64 ((wrap64 (bt a0 x9_2)) - 128)) * x8_2)))), (wrap64 (x8_2 * 128)), (wrap64 (x9_2 + 1)), (by first | rfl | (simp; done) | (simp [*]; done)), (by first | rfl | (simp; done) | (simp [*]; done)), (by first | rfl | (simp; done) | (simp [*]; done)), H', ⟨by have := HK1.out; have := HK2.out; omega⟩, ⟨RU HO_4.out⟩, ⟨blkU BK247.out⟩, ⟨belG HB.out GE247.out⟩⟩
                        · rw [if_neg c18] at H
                          have c18b0 : decide (128 ≤ (bt a0 x9_2)) = false := decide_eq_false c18
                          clear c18
                          have H' := Aside0.mk H
                          clear H
                          have p17 : 0 ≤ (x9_2 : Int) := of_decide_eq_true (by first | (with_reducible assumption) | assumption)
                          have q17 : x9_2 < (a0.size : Int) := of_decide_eq_true (by first | (with_reducible assumption) | assumption)
                          have hx17 := bt_at a0 x9_2
                          replace p17 := eq_true p17
                          replace q17 := eq_true q17
                          go_wp2
                          go_meet
                          case rel => exact ⟨_, (x7_2), (x8_2), (x9_2), (by first | rfl | (simp; done) | (simp [*]; done)), (by first | rfl | (simp; done) | (simp [*]; done)), (by first | rfl | (simp; done) | (simp [*]; done)), H', ⟨by have := HK1.out; have := HK2.out; first | omega | exact Nat.le_refl _⟩, ⟨RU HO_4.out⟩, ⟨blkU BK247.out⟩, ⟨belG HB.out GE247.out⟩⟩
                      · rw [if_neg c16] at H
                        exact absurd H (by simp)
                    · rw [if_neg c15] at H
                      have c15b0 : decide ((wrap64 (x9_2 - x5_1)) < 10) = false := decide_eq_false c15
                      clear c15
                      have H' := Aside0.mk H
                      clear H
                      go_wp2
                      go_meet
                      case rel => exact ⟨_, (x7_2), (x8_2), (x9_2), (by first | rfl | (simp; done) | (simp [*]; done)), (by first | rfl | (simp; done) | (simp [*]; done)), (by first | rfl | (simp; done) | (simp [*]; done)), H', ⟨by have := HK1.out; have := HK2.out; first | omega | exact Nat.le_refl _⟩, ⟨RU HO_4.out⟩, ⟨blkU BK247.out⟩, ⟨belG HB.out GE247.out⟩⟩
                  · rw [if_neg c14] at H
                    have c14b0 : decide (x9_2 < (a0.size : Int)) = false := decide_eq_false c14
                    clear c14
                    (first | rw [c14b0] | (simp only [i64_w, i32_w]; rw [c14b0]) | skip)
                    have H' := Aside0.mk H
                    clear H
                    go_wp2
                    go_meet
                    case rel => exact ⟨_, (x7_2), (x8_2), (x9_2), (by first | rfl | (simp; done) | (simp [*]; done)), (by first | rfl | (simp; done) | (simp [*]; done)), (by first | rfl | (simp; done) | (simp [*]; done)), H', ⟨by have := HK1.out; have := HK2.out; first | omega | exact Nat.le_refl _⟩, ⟨RU HO_4.out⟩, ⟨blkU BK247.out⟩, ⟨belG HB.out GE247.out⟩⟩
            case rest =>
              clear HC7
              try clear c1
              try clear p1
              try clear q1
              try clear hx1
              try clear c2
              try clear c2b0
              try clear c2b1
              try clear p2
              try clear c3
              try clear c3b0
              try clear c4
              try clear c4b0
              try clear p5
              try clear q5
              try clear hx5
              try clear p6
              try clear q6
              try clear hx6
              try clear c14
              try clear c14b0
              try clear c15
              try clear c15b0
              try clear c16
              try clear c16b0
              try clear p17
              try clear q17
              try clear hx17
              try clear c18
              try clear c18b0
              try clear p19
              try clear q19
              try clear hx19
              try clear p17
              try clear p19
              try clear p2
              try clear p5
              try clear p6
              try clear q17
              try clear q19
              try clear q5
              try clear q6
              obtain ⟨kq, x7_6, x8_6, x9_6, rfl, rfl, rfl, HA, HJ6, HO_4, BK247, HB⟩ := hcut
              cases kq with
              | zero => exact absurd HA.out (by simp [aquiferref04_Decode.j2])
              | succ kj6 =>
                have H := HA.out
                clear HA
                simp only [aquiferref04_Decode.j2] at H
                have HC20 := Aside0.mk H
                clear H
                go_upto_region 14 with (fail)
                go_cut [70] (fun v70 wc => ∃ (kq : Nat) (x70_19 : Bool), v70 = .bool x70_19 ∧ Aside0 (aquiferref04_Decode.j3 kq a0 x4_1 x5_1 x7_6 x8_6 x9_6 x70_19 (wrap64 (Int.tdiv (wrap64 (bt a0 x5_1)) 2)) (Int.tmod (wrap64 (bt a0 x5_1)) 2) 0 (⟨#[]⟩ : ByteArray) = some (r1, r2)) ∧ Aside0 (kq ≤ kj6) ∧ Aside0 (Kd.R k84 84 wc w.heap.size (fun k_ => k_ ≠ gb247) u4 x4_1) ∧ Aside0 (wc.heap[gb247]? = some (.cells #[.int .i64 (wrap64 (Int.tdiv (wrap64 (bt a0 x5_1)) 2)), .int .i64 (Int.tmod (wrap64 (bt a0 x5_1)) 2), .int .i64 0, .string (⟨#[]⟩ : ByteArray)] 84 (0, 0))) ∧ Aside0 (Below w.heap.size w wc))
                case first =>
                  have H := HC20.out
                  clear HC20
                  by_cases c21 : x9_6 ≥ (a0.size : Int)
                  · rw [if_pos c21] at H
                    have c21b0 : decide ((a0.size : Int) ≤ x9_6) = true := decide_eq_true c21
                    clear c21
                    (first | rw [c21b0] | (simp only [i64_w, i32_w]; rw [c21b0]) | skip)
                    have H' := Aside0.mk H
                    clear H
                    go_wp2
                    go_meet
                    case rel => exact ⟨_, (true), (by first | rfl | (simp; done) | (simp [*]; done)), H', ⟨by have := HK1.out; have := HJ6.out; first | omega | exact Nat.le_refl _⟩, ⟨RU HO_4.out⟩, ⟨blkU BK247.out⟩, ⟨belG HB.out GE247.out⟩⟩
                  · rw [if_neg c21] at H
                    have c21b0 : decide ((a0.size : Int) ≤ x9_6) = false := decide_eq_false c21
                    clear c21
                    (first | rw [c21b0] | (simp only [i64_w, i32_w]; rw [c21b0]) | skip)
                    have H' := Aside0.mk H
                    clear H
                    go_wp2
                    go_meet
                    case rel => exact ⟨_, (decide ((wrap64 (x9_6 - x5_1)) ≥ 10)), (by first | rfl | (simp; done) | (simp [*]; done)), H', ⟨by have := HK1.out; have := HJ6.out; first | omega | exact Nat.le_refl _⟩, ⟨RU HO_4.out⟩, ⟨blkU BK247.out⟩, ⟨belG HB.out GE247.out⟩⟩
                case rest =>
                  clear HC20
                  try clear c1
                  try clear p1
                  try clear q1
                  try clear hx1
                  try clear c2
                  try clear c2b0
                  try clear c2b1
                  try clear p2
                  try clear c3
                  try clear c3b0
                  try clear c4
                  try clear c4b0
                  try clear p5
                  try clear q5
                  try clear hx5
                  try clear p6
                  try clear q6
                  try clear hx6
                  try clear c14
                  try clear c14b0
                  try clear c15
                  try clear c15b0
                  try clear c16
                  try clear c16b0
                  try clear p17
                  try clear q17
                  try clear hx17
                  try clear c18
                  try clear c18b0
                  try clear p19
                  try clear q19
                  try clear hx19
                  try clear c21
                  try clear c21b0
                  try clear p1
                  try clear p17
                  try clear p19
                  try clear p2
                  try clear p5
                  try clear p6
                  try clear q1
                  try clear q17
                  try clear q19
                  try clear q5
                  try clear q6
                  obtain ⟨kq, x70_19, rfl, HA, HJ19, HO_4, BK247, HB⟩ := hcut
                  cases kq with
                  | zero => exact absurd HA.out (by simp [aquiferref04_Decode.j3])
                  | succ kj19 =>
                    have H := HA.out
                    clear HA
                    simp only [aquiferref04_Decode.j3] at H
                    by_cases c22 : x70_19 = true
                    · subst c22
                      have H1 : (some (([] : List (S84)), 5)) = some (r1, r2) := by rw [if_pos rfl] at H; exact H
                      clear H
                      have H := H1
                      clear H1
                      simp only [Option.some.injEq, Prod.mk.injEq] at H
                      obtain ⟨rfl, rfl⟩ := H
                      go_wp2
                      go_ret2
                      exact ⟨_, by first | rfl | (simp [errW_none, errW_some] <;> rfl) | (simp [*, errW_none, errW_some] <;> rfl), by first | exact Kd.R_nil _ _ _ _ _ | exact Kd.N_nil _ _ _ _ _ | exact Kd.V_nil _ _ _ _ _ | exact Kd.Q_nil _ _ _ _ _ | exact Kd.S_nil _ _ _ _ _, belG HB.out GE247.out⟩
                    · replace c22 := Bool.eq_false_iff.mpr c22
                      subst c22
                      have H1 : (if 0 ≤ x9_6 then (if x9_6 < (a0.size : Int) then (if (wrap64 (x7_6 + (wrap64 ((wrap64 (bt a0 x9_6)) * x8_6)))) < 0 then (aquiferref04_Decode.j4 kj19 a0 x4_1 x5_1 (wrap64 (x7_6 + (wrap64 ((wrap64 (bt a0 x9_6)) * x8_6)))) (wrap64 (x9_6 + 1)) true (wrap64 (Int.tdiv (wrap64 (bt a0 x5_1)) 2)) (Int.tmod (wrap64 (bt a0 x5_1)) 2) 0 (⟨#[]⟩ : ByteArray)) else (if (Int.tmod (wrap64 (bt a0 x5_1)) 2) = 1 then (aquiferref04_Decode.j4 kj19 a0 x4_1 x5_1 (wrap64 (x7_6 + (wrap64 ((wrap64 (bt a0 x9_6)) * x8_6)))) (wrap64 (x9_6 + 1)) (decide ((wrap64 (x7_6 + (wrap64 ((wrap64 (bt a0 x9_6)) * x8_6)))) > (wrap64 ((a0.size : Int) - (wrap64 (x9_6 + 1)))))) (wrap64 (Int.tdiv (wrap64 (bt a0 x5_1)) 2)) (Int.tmod (wrap64 (bt a0 x5_1)) 2) 0 (⟨#[]⟩ : ByteArray)) else (aquiferref04_Decode.j4 kj19 a0 x4_1 x5_1 (wrap64 (x7_6 + (wrap64 ((wrap64 (bt a0 x9_6)) * x8_6)))) (wrap64 (x9_6 + 1)) false (wrap64 (Int.tdiv (wrap64 (bt a0 x5_1)) 2)) (Int.tmod (wrap64 (bt a0 x5_1)) 2) 0 (⟨#[]⟩ : ByteArray)))) else (none)) else (none)) = some (r1, r2) := by rw [if_neg (show ¬ (false = true) by decide)] at H; exact H
                      clear H
                      have H := H1
                      clear H1
                      by_cases c23 : 0 ≤ x9_6
                      · rw [if_pos c23] at H
                        have c23b0 : decide (0 ≤ x9_6) = true := decide_eq_true c23
                        clear c23
                        by_cases c24 : x9_6 < (a0.size : Int)
                        · rw [if_pos c24] at H
                          have c24b0 : decide (x9_6 < (a0.size : Int)) = true := decide_eq_true c24
                          clear c24
                          have HC26 := Aside0.mk H
                          clear H
                          have p25 : 0 ≤ (x9_6 : Int) := of_decide_eq_true (by first | (with_reducible assumption) | assumption)
                          have q25 : x9_6 < (a0.size : Int) := of_decide_eq_true (by first | (with_reducible assumption) | assumption)
                          have hx25 := bt_at a0 x9_6
                          replace p25 := eq_true p25
                          replace q25 := eq_true q25
                          go_upto_region 18 with (fail)
                          go_cut [95] (fun v95 wc => ∃ (kq : Nat) (x95_25 : Bool), v95 = .bool x95_25 ∧ Aside0 (aquiferref04_Decode.j4 kq a0 x4_1 x5_1 (wrap64 (x7_6 + (wrap64 ((wrap64 (bt a0 x9_6)) * x8_6)))) (wrap64 (x9_6 + 1)) x95_25 (wrap64 (Int.tdiv (wrap64 (bt a0 x5_1)) 2)) (Int.tmod (wrap64 (bt a0 x5_1)) 2) 0 (⟨#[]⟩ : ByteArray) = some (r1, r2)) ∧ Aside0 (kq ≤ kj19) ∧ Aside0 (Kd.R k84 84 wc w.heap.size (fun k_ => k_ ≠ gb247) u4 x4_1) ∧ Aside0 (wc.heap[gb247]? = some (.cells #[.int .i64 (wrap64 (Int.tdiv (wrap64 (bt a0 x5_1)) 2)), .int .i64 (Int.tmod (wrap64 (bt a0 x5_1)) 2), .int .i64 0, .string (⟨#[]⟩ : ByteArray)] 84 (0, 0))) ∧ Aside0 (Below w.heap.size w wc))
                          case first =>
                            have H := HC26.out
                            clear HC26
                            by_cases c27 : (wrap64 (x7_6 + (wrap64 ((wrap64 (bt a0 x9_6)) * x8_6)))) < 0
                            · rw [if_pos c27] at H
                              have c27b0 : decide ((wrap64 (x7_6 + (wrap64 ((wrap64 (bt a0 x9_6)) * x8_6)))) < 0) = true := decide_eq_true c27
                              clear c27
                              (first | rw [c27b0] | (simp only [i64_w, i32_w]; rw [c27b0]) | skip)
                              have H' := Aside0.mk H
                              clear H
                              go_wp2
                              go_meet
                              case rel => exact ⟨_, (true), (by first | rfl | (simp; done) | (simp [*]; done)), H', ⟨by have := HK1.out; have := HJ6.out; have := HJ19.out; first | omega | exact Nat.le_refl _⟩, ⟨RU HO_4.out⟩, ⟨blkU BK247.out⟩, ⟨belG HB.out GE247.out⟩⟩
                            · rw [if_neg c27] at H
                              have c27b0 : decide ((wrap64 (x7_6 + (wrap64 ((wrap64 (bt a0 x9_6)) * x8_6)))) < 0) = false := decide_eq_false c27
                              clear c27
                              (first | rw [c27b0] | (simp only [i64_w, i32_w]; rw [c27b0]) | skip)
                              by_cases c28 : (Int.tmod (wrap64 (bt a0 x5_1)) 2) = 1
                              · rw [if_pos c28] at H
                                have c28b0 : ((Int.tmod (wrap64 (bt a0 x5_1)) 2) == 1) = true := beq_iff_eq.mpr c28
                                have c28b1 : ((Int.tmod (wrap64 (bt a0 x5_1)) 2) != 1) = false := bne_eq_false_iff_eq.mpr c28
                                clear c28
                                have H' := Aside0.mk H
                                clear H
                                have hcz29_0 : wc.cell? ⟨gb247, 0, none⟩ = some (.int .i64 (wrap64 (Int.tdiv (wrap64 (bt a0 x5_1)) 2))) := (blk_cell BK247.out 0).trans rfl
                                have hcz29_1 : wc.cell? ⟨gb247, 1, none⟩ = some (.int .i64 (Int.tmod (wrap64 (bt a0 x5_1)) 2)) := (blk_cell BK247.out 1).trans rfl
                                have hcz29_2 : wc.cell? ⟨gb247, 2, none⟩ = some (.int .i64 0) := (blk_cell BK247.out 2).trans rfl
                                have hcz29_3 : wc.cell? ⟨gb247, 3, none⟩ = some (.string (⟨#[]⟩ : ByteArray)) := (blk_cell BK247.out 3).trans rfl
                                have hfz29_0 := blk_frozen BK247.out 0
                                have hfz29_1 := blk_frozen BK247.out 1
                                have hfz29_2 := blk_frozen BK247.out 2
                                have hfz29_3 := blk_frozen BK247.out 3
                                go_wp2
                                go_meet
                                case rel => exact ⟨_, (decide ((wrap64 (x7_6 + (wrap64 ((wrap64 (bt a0 x9_6)) * x8_6)))) > (wrap64 ((a0.size : Int) - (wrap64 (x9_6 + 1)))))), (by first | rfl | (simp; done) | (simp [*]; done)), H', ⟨by have := HK1.out; have := HJ6.out; have := HJ19.out; first | omega | exact Nat.le_refl _⟩, ⟨RU HO_4.out⟩, ⟨blkU BK247.out⟩, ⟨belG HB.out GE247.out⟩⟩
                              · rw [if_neg c28] at H
                                have c28b0 : ((Int.tmod (wrap64 (bt a0 x5_1)) 2) == 1) = false := beq_eq_false_iff_ne.mpr c28
                                have c28b1 : ((Int.tmod (wrap64 (bt a0 x5_1)) 2) != 1) = true := bne_iff_ne.mpr c28
                                have H' := Aside0.mk H
                                clear H
                                have hcz30_0 : wc.cell? ⟨gb247, 0, none⟩ = some (.int .i64 (wrap64 (Int.tdiv (wrap64 (bt a0 x5_1)) 2))) := (blk_cell BK247.out 0).trans rfl
                                have hcz30_1 : wc.cell? ⟨gb247, 1, none⟩ = some (.int .i64 (Int.tmod (wrap64 (bt a0 x5_1)) 2)) := (blk_cell BK247.out 1).trans rfl
                                have hcz30_2 : wc.cell? ⟨gb247, 2, none⟩ = some (.int .i64 0) := (blk_cell BK247.out 2).trans rfl
                                have hcz30_3 : wc.cell? ⟨gb247, 3, none⟩ = some (.string (⟨#[]⟩ : ByteArray)) := (blk_cell BK247.out 3).trans rfl
                                have hfz30_0 := blk_frozen BK247.out 0
                                have hfz30_1 := blk_frozen BK247.out 1
                                have hfz30_2 := blk_frozen BK247.out 2
                                have hfz30_3 := blk_frozen BK247.out 3
                                go_wp2
                                go_meet
                                case rel => exact ⟨_, (false), (by first | rfl | (simp; done) | (simp [*]; done)), H', ⟨by have := HK1.out; have := HJ6.out; have := HJ19.out; first | omega | exact Nat.le_refl _⟩, ⟨RU HO_4.out⟩, ⟨blkU BK247.out⟩, ⟨belG HB.out GE247.out⟩⟩
                          case rest =>
                            clear HC26
                            try clear c1
                            try clear p1
                            try clear q1
                            try clear hx1
                            try clear c2
                            try clear c2b0
                            try clear c2b1
                            try clear p2
                            try clear q2
                            try clear hx2
                            try clear c3
                            try clear c3b0
                            try clear c4
                            try clear c4b0
                            try clear p5
                            try clear q5
                            try clear hx5
                            try clear p6
                            try clear q6
                            try clear hx6
                            try clear c14
                            try clear c14b0
                            try clear c15
                            try clear c15b0
                            try clear c16
                            try clear c16b0
                            try clear p17
                            try clear q17
                            try clear hx17
                            try clear c18
                            try clear c18b0
                            try clear p19
                            try clear q19
                            try clear hx19
                            try clear c21
                            try clear c21b0
                            try clear c22
                            try clear c23
                            try clear c23b0
                            try clear c24
                            try clear c24b0
                            try clear p25
                            try clear q25
                            try clear hx25
                            try clear c27
                            try clear c27b0
                            try clear c28
                            try clear c28b0
                            try clear c28b1
                            try clear hcz29_0
                            try clear hcz29_1
                            try clear hcz29_2
                            try clear hcz29_3
                            try clear hcz30_0
                            try clear hcz30_1
                            try clear hcz30_2
                            try clear hcz30_3
                            try clear hfz29_0
                            try clear hfz29_1
                            try clear hfz29_2
                            try clear hfz29_3
                            try clear hfz30_0
                            try clear hfz30_1
                            try clear hfz30_2
                            try clear hfz30_3
                            try clear p1
                            try clear p17
                            try clear p19
                            try clear p2
                            try clear p25
                            try clear p5
                            try clear p6
                            try clear q1
                            try clear q17
                            try clear q19
                            try clear q25
                            try clear q5
                            try clear q6
                            obtain ⟨kq, x95_25, rfl, HA, HJ25, HO_4, BK247, HB⟩ := hcut
                            cases kq with
                            | zero => exact absurd HA.out (by simp [aquiferref04_Decode.j4])
                            | succ kj25 =>
                              have H := HA.out
                              clear HA
                              simp only [aquiferref04_Decode.j4] at H
                              by_cases c31 : x95_25 = true
                              · subst c31
                                have H1 : (some (([] : List (S84)), 5)) = some (r1, r2) := by rw [if_pos rfl] at H; exact H
                                clear H
                                have H := H1
                                clear H1
                                simp only [Option.some.injEq, Prod.mk.injEq] at H
                                obtain ⟨rfl, rfl⟩ := H
                                go_wp2
                                go_ret2
                                exact ⟨_, by first | rfl | (simp [errW_none, errW_some] <;> rfl) | (simp [*, errW_none, errW_some] <;> rfl), by first | exact Kd.R_nil _ _ _ _ _ | exact Kd.N_nil _ _ _ _ _ | exact Kd.V_nil _ _ _ _ _ | exact Kd.Q_nil _ _ _ _ _ | exact Kd.S_nil _ _ _ _ _, belG HB.out GE247.out⟩
                              · replace c31 := Bool.eq_false_iff.mpr c31
                                subst c31
                                have H1 : (if (Int.tmod (wrap64 (bt a0 x5_1)) 2) = 0 then ((aquiferref04_bytes.f kj25 (wrap64 (Int.tdiv (wrap64 (bt a0 x5_1)) 2)) (Int.tmod (wrap64 (bt a0 x5_1)) 2) (wrap64 (x7_6 + (wrap64 ((wrap64 (bt a0 x9_6)) * x8_6)))) (⟨#[]⟩ : ByteArray)).bind fun t248 => (if 0 ≤ x5_1 then (if x5_1 ≤ (wrap64 (x9_6 + 1)) then (if (wrap64 (x9_6 + 1)) ≤ (a0.size : Int) then (if (strOfNums t248).toList = (a0.extract (x5_1 : Int).toNat ((wrap64 (x9_6 + 1)) : Int).toNat).toList then (if x4_1.length < 3518437208883 then (aquiferref04_Decode.l0 kj25 a0 (x4_1 ++ [(⟨(wrap64 (Int.tdiv (wrap64 (bt a0 x5_1)) 2)), (Int.tmod (wrap64 (bt a0 x5_1)) 2), (wrap64 (x7_6 + (wrap64 ((wrap64 (bt a0 x9_6)) * x8_6)))), (⟨#[]⟩ : ByteArray)⟩ : S84)]) (wrap64 (x9_6 + 1))) else (none)) else (some (([] : List (S84)), 5))) else (none)) else (none)) else (none))) else (if 0 ≤ (wrap64 (x9_6 + 1)) then (if (wrap64 (x9_6 + 1)) ≤ (wrap64 ((wrap64 (x9_6 + 1)) + (wrap64 (x7_6 + (wrap64 ((wrap64 (bt a0 x9_6)) * x8_6)))))) then (if (wrap64 ((wrap64 (x9_6 + 1)) + (wrap64 (x7_6 + (wrap64 ((wrap64 (bt a0 x9_6)) * x8_6)))))) ≤ (a0.size : Int) then ((aquiferref04_bytes.f kj25 (wrap64 (Int.tdiv (wrap64 (bt a0 x5_1)) 2)) (Int.tmod (wrap64 (bt a0 x5_1)) 2) 0 (a0.extract ((wrap64 (x9_6 + 1)) : Int).toNat ((wrap64 ((wrap64 (x9_6 + 1)) + (wrap64 (x7_6 + (wrap64 ((wrap64 (bt a0 x9_6)) * x8_6)))))) : Int).toNat)).bind fun t254 => (if 0 ≤ x5_1 then (if x5_1 ≤ (wrap64 ((wrap64 (x9_6 + 1)) + (wrap64 (x7_6 + (wrap64 ((wrap64 (bt a0 x9_6)) * x8_6)))))) then (if (strOfNums t254).toList = (a0.extract (x5_1 : Int).toNat ((wrap64 ((wrap64 (x9_6 + 1)) + (wrap64 (x7_6 + (wrap64 ((wrap64 (bt a0 x9_6)) * x8_6)))))) : Int).toNat).toList then (if x4_1.length < 3518437208883 then (aquiferref04_Decode.l0 kj25 a0 (x4_1 ++ [(⟨(wrap64 (Int.tdiv (wrap64 (bt a0 x5_1)) 2)), (Int.tmod (wrap64 (bt a0 x5_1)) 2), 0, a0.extract ((wrap64 (x9_6 + 1)) : Int).toNat ((wrap64 ((wrap64 (x9_6 + 1)) + (wrap64 (x7_6 + (wrap64 ((wrap64 (bt a0 x9_6)) * x8_6)))))) : Int).toNat⟩ : S84)]) (wrap64 ((wrap64 (x9_6 + 1)) + (wrap64 (x7_6 + (wrap64 ((wrap64 (bt a0 x9_6)) * x8_6))))))) else (none)) else (some (([] : List (S84)), 5))) else (none)) else (none))) else (none)) else (none)) else (none))) = some (r1, r2) := by rw [if_neg (show ¬ (false = true) by decide)] at H; exact H
                                clear H
                                have H := H1
                                clear H1
                                by_cases c32 : (Int.tmod (wrap64 (bt a0 x5_1)) 2) = 0
                                · rw [if_pos c32] at H
                                  have c32b0 : ((Int.tmod (wrap64 (bt a0 x5_1)) 2) == 0) = true := beq_iff_eq.mpr c32
                                  have c32b1 : ((Int.tmod (wrap64 (bt a0 x5_1)) 2) != 0) = false := bne_eq_false_iff_eq.mpr c32
                                  clear c32
                                  replace H := Option.bind_eq_some_iff.mp H
                                  obtain ⟨t248, A330, H⟩ := H
                                  replace H : (if 0 ≤ x5_1 then (if x5_1 ≤ (wrap64 (x9_6 + 1)) then (if (wrap64 (x9_6 + 1)) ≤ (a0.size : Int) then (if (strOfNums t248).toList = (a0.extract (x5_1 : Int).toNat ((wrap64 (x9_6 + 1)) : Int).toNat).toList then (if x4_1.length < 3518437208883 then (aquiferref04_Decode.l0 kj25 a0 (x4_1 ++ [(⟨(wrap64 (Int.tdiv (wrap64 (bt a0 x5_1)) 2)), (Int.tmod (wrap64 (bt a0 x5_1)) 2), (wrap64 (x7_6 + (wrap64 ((wrap64 (bt a0 x9_6)) * x8_6)))), (⟨#[]⟩ : ByteArray)⟩ : S84)]) (wrap64 (x9_6 + 1))) else (none)) else (some (([] : List (S84)), 5))) else (none)) else (none)) else (none)) = some (r1, r2) := H
                                  have A33 := Aside0.mk A330
                                  clear A330
                                  by_cases c34 : 0 ≤ x5_1
                                  · rw [if_pos c34] at H
                                    have c34b0 := eq_true c34
                                    have c34b1 : decide (0 ≤ x5_1) = true := decide_eq_true c34
                                    clear c34
                                    by_cases c35 : x5_1 ≤ (wrap64 (x9_6 + 1))
                                    · rw [if_pos c35] at H
                                      have c35b0 := eq_true c35
                                      have c35b1 : decide (x5_1 ≤ (wrap64 (x9_6 + 1))) = true := decide_eq_true c35
                                      by_cases c36 : (wrap64 (x9_6 + 1)) ≤ (a0.size : Int)
                                      · rw [if_pos c36] at H
                                        have c36b0 := eq_true c36
                                        have c36b1 : decide ((wrap64 (x9_6 + 1)) ≤ (a0.size : Int)) = true := decide_eq_true c36
                                        by_cases c37 : (strOfNums t248).toList = (a0.extract (x5_1 : Int).toNat ((wrap64 (x9_6 + 1)) : Int).toNat).toList
                                        · rw [if_pos c37] at H
                                          have c37b0 : ((strOfNums t248).toList == (a0.extract (x5_1 : Int).toNat ((wrap64 (x9_6 + 1)) : Int).toNat).toList) = true := beq_iff_eq.mpr c37
                                          have c37b1 : ((strOfNums t248).toList != (a0.extract (x5_1 : Int).toNat ((wrap64 (x9_6 + 1)) : Int).toNat).toList) = false := bne_eq_false_iff_eq.mpr c37
                                          clear c37
                                          by_cases c38 : x4_1.length < 3518437208883
                                          · rw [if_pos c38] at H
                                            have LMc38 := Aside0.mk c38
                                            clear c38
                                            obtain ⟨y251, hy251⟩ : ∃ y_ : List (S84), y_ = (x4_1 ++ [(⟨(wrap64 (Int.tdiv (wrap64 (bt a0 x5_1)) 2)), (Int.tmod (wrap64 (bt a0 x5_1)) 2), (wrap64 (x7_6 + (wrap64 ((wrap64 (bt a0 x9_6)) * x8_6)))), (⟨#[]⟩ : ByteArray)⟩ : S84)]) := ⟨_, rfl⟩
                                            replace H : (aquiferref04_Decode.l0 kj25 a0 y251 (wrap64 (x9_6 + 1))) = some (r1, r2) := by first | (rw [hy251]; with_reducible exact H) | (have H2_ := (Option.bind_some _ _).symm.trans H; rw [hy251]; with_reducible exact H2_) | (have H2_ := (Option.bind_some _ _).symm.trans H; with_reducible exact H2_) | with_reducible exact H | (rw [hy251]; exact H) | exact H
                                            have Ny251 := Aside0.mk hy251
                                            clear hy251
                                            have H' := Aside0.mk H
                                            clear H
                                            have hcz39_0 : wc.cell? ⟨gb247, 0, none⟩ = some (.int .i64 (wrap64 (Int.tdiv (wrap64 (bt a0 x5_1)) 2))) := (blk_cell BK247.out 0).trans rfl
                                            have hcz39_1 : wc.cell? ⟨gb247, 1, none⟩ = some (.int .i64 (Int.tmod (wrap64 (bt a0 x5_1)) 2)) := (blk_cell BK247.out 1).trans rfl
                                            have hcz39_2 : wc.cell? ⟨gb247, 2, none⟩ = some (.int .i64 0) := (blk_cell BK247.out 2).trans rfl
                                            have hcz39_3 : wc.cell? ⟨gb247, 3, none⟩ = some (.string (⟨#[]⟩ : ByteArray)) := (blk_cell BK247.out 3).trans rfl
                                            have hfz39_0 := blk_frozen BK247.out 0
                                            have hfz39_1 := blk_frozen BK247.out 1
                                            have hfz39_2 := blk_frozen BK247.out 2
                                            have hfz39_3 := blk_frozen BK247.out 3
                                            try go_wp2
                                            have n0_ : Aside0 (Kd.R k84 84 (wc.setCell ⟨gb247, 2, none⟩ (.int .i64 (wrap64 (x7_6 + (wrap64 ((wrap64 (bt a0 x9_6)) * x8_6)))))) w.heap.size (fun k_ => k_ ≠ gb247) u4 x4_1) := ⟨by (with_reducible repeat (first | apply Kd.R_alloc | apply Kd.R_drewN | apply Kd.R_drew)); exact Kd.R_mono (Kd.R_far (p := ⟨gb247, 2, none⟩) (Kd.R_mono HO_4.out (fun k_ hk => (⟨hk, hk⟩ : _ ∧ k_ ≠ gb247))) (fun _ hk => hk.2) (.int .i64 (wrap64 (x7_6 + (wrap64 ((wrap64 (bt a0 x9_6)) * x8_6)))))) (fun _ hk => hk.1)⟩
                                            have n1_ : Aside0 ((wc.setCell ⟨gb247, 2, none⟩ (.int .i64 (wrap64 (x7_6 + (wrap64 ((wrap64 (bt a0 x9_6)) * x8_6)))))).heap[gb247]? = some (.cells #[.int .i64 (wrap64 (Int.tdiv (wrap64 (bt a0 x5_1)) 2)), .int .i64 (Int.tmod (wrap64 (bt a0 x5_1)) 2), .int .i64 (wrap64 (x7_6 + (wrap64 ((wrap64 (bt a0 x9_6)) * x8_6)))), .string (⟨#[]⟩ : ByteArray)] 84 (0, 0))) := ⟨blkP BK247.out (by rfl)⟩
                                            have n2_ : Aside0 (Below w.heap.size w (wc.setCell ⟨gb247, 2, none⟩ (.int .i64 (wrap64 (x7_6 + (wrap64 ((wrap64 (bt a0 x9_6)) * x8_6))))))) := ⟨belG HB.out GE247.out⟩
                                            (try clear HO_4)
                                            (try clear BK247)
                                            (try clear HB)
                                            generalize (wc.setCell ⟨gb247, 2, none⟩ (.int .i64 (wrap64 (x7_6 + (wrap64 ((wrap64 (bt a0 x9_6)) * x8_6)))))) = w40 at n0_ n1_ n2_ ⊢
                                            have HO_4 := n0_
                                            have BK247 := n1_
                                            have HB := n2_
                                            clear n0_ n1_ n2_
                                            have n0_ := Aside0.mk (Kd.R_drew HO_4.out)
                                            have n1_ := Aside0.mk (blk_drew BK247.out)
                                            have n2_ := Aside0.mk (below_drew1 HB.out)
                                            clear HO_4
                                            clear BK247
                                            clear HB
                                            have HO_4 := n0_
                                            have BK247 := n1_
                                            have HB := n2_
                                            clear n0_ n1_ n2_
                                            refine start_ (n := 8) (S := fun w' => w'.cell? ⟨gb247, 0, none⟩ = some (.int .i64 (wrap64 (Int.tdiv (wrap64 (bt a0 x5_1)) 2))) ∧ w'.cell? ⟨gb247, 1, none⟩ = some (.int .i64 (Int.tmod (wrap64 (bt a0 x5_1)) 2)) ∧ w'.cell? ⟨gb247, 2, none⟩ = some (.int .i64 (wrap64 (x7_6 + (wrap64 ((wrap64 (bt a0 x9_6)) * x8_6))))) ∧ w'.cell? ⟨gb247, 3, none⟩ = some (.string (⟨#[]⟩ : ByteArray))) (ds := []) #[false, false, false, false, false, false, false, false] (by kernel_rfl) rfl rfl ⟨(blk_cell BK247.out 0).trans rfl, (blk_cell BK247.out 1).trans rfl, (blk_cell BK247.out 2).trans rfl, (blk_cell BK247.out 3).trans rfl⟩ (fun hHeld => ?_); refine with_tabW aquiferref04_Decode.tab24 aquiferref04_Decode.bits24 (fun HT_ HW_ => ?_)
                                            generalize w40.drew = w41 at HO_4 BK247 HB hHeld ⊢
                                            refine pure_ (i := 3) (N := some 114) (v := ?_) (a' := ?_) #[false, false, false, true, false, false, false, false] rfl rfl (any_of HT_.out (by kernel_rfl)) (fun _ _ _ h => h) (Or.inl ⟨by rfl, ?_⟩) ?_ ?_
                                            rotate_left
                                            · intro w'
                                              go_simp
                                              with_reducible rfl
                                            rotate_left
                                            · simp only [Act.put, List.setIfInBounds_toArray, List.set_cons_zero, List.set_cons_succ, i64_w, i32_w]
                                              rfl
                                            refine pure_ (i := 4) (N := some 115) (v := ?_) (a' := ?_) #[false, false, false, true, true, false, false, false] rfl rfl (any_of HT_.out (by kernel_rfl)) (fun _ _ _ h => h) (Or.inl ⟨by rfl, ?_⟩) ?_ ?_
                                            rotate_left
                                            · intro w'
                                              go_simp
                                              with_reducible rfl
                                            rotate_left
                                            · simp only [Act.put, List.setIfInBounds_toArray, List.set_cons_zero, List.set_cons_succ, i64_w, i32_w]
                                              rfl
                                            refine pure_ (i := 5) (N := some 116) (v := ?_) (a' := ?_) #[false, false, false, true, true, true, false, false] rfl rfl (any_of HT_.out (by kernel_rfl)) (fun _ _ _ h => h) (Or.inl ⟨by rfl, ?_⟩) ?_ ?_
                                            rotate_left
                                            · intro w'
                                              go_simp
                                              with_reducible rfl
                                            rotate_left
                                            · simp only [Act.put, List.setIfInBounds_toArray, List.set_cons_zero, List.set_cons_succ, i64_w, i32_w]
                                              rfl
                                            refine pure_ (i := 6) (N := some 117) (v := ?_) (a' := ?_) #[false, false, false, true, true, true, true, false] rfl rfl (any_of HT_.out (by kernel_rfl)) (fun _ _ _ h => h) (Or.inl ⟨by rfl, ?_⟩) ?_ ?_
                                            rotate_left
                                            · intro w'
                                              go_simp
                                              with_reducible rfl
                                            rotate_left
                                            · simp only [Act.put, List.setIfInBounds_toArray, List.set_cons_zero, List.set_cons_succ, i64_w, i32_w]
                                              rfl
                                            refine take_ (i := 0) (N := some 111) (v := ?_) (a' := ?_) #[true, false, false, true, true, true, true, false] rfl rfl (take_ofW HT_.out HW_.out (by kernel_rfl)) (fun _ _ _ h => h) (Or.inl ⟨by rfl, ?_⟩) hHeld ?_ ?_
                                            rotate_left
                                            · rintro w' ⟨s0, s1, s2, s3⟩
                                              go_simp
                                              with_reducible rfl
                                            rotate_left
                                            · simp only [Act.put, List.setIfInBounds_toArray, List.set_cons_zero, List.set_cons_succ, i64_w, i32_w]
                                              rfl
                                            refine one_ (i := 1) (N := some 112) #[true, true, false, true, true, true, true, false] rfl rfl (one_of HT_.out (by kernel_rfl)) (by decide) (fun K hK => ?_)
                                            refine goes_ Try.func55 (by kernel_rfl) rfl #[.agg #[.int .i64 (wrap64 (Int.tdiv (wrap64 (bt a0 x5_1)) 2)), .int .i64 (Int.tmod (wrap64 (bt a0 x5_1)) 2), .int .i64 (wrap64 (x7_6 + (wrap64 ((wrap64 (bt a0 x9_6)) * x8_6)))), .string (⟨#[]⟩ : ByteArray)]] (by rfl) rfl rfl (by (try simp only [List.map_toArray, List.map_cons, List.map_nil]); first | done | rfl | (simp only [List.length_drop, List.length_take]; rfl)) ?_
                                            with_reducible refine (aquiferref04_bytes.calls kj25 (wrap64 (Int.tdiv (wrap64 (bt a0 x5_1)) 2)) (Int.tmod (wrap64 (bt a0 x5_1)) 2) (wrap64 (x7_6 + (wrap64 ((wrap64 (bt a0 x9_6)) * x8_6)))) (⟨#[]⟩ : ByteArray) t248 _ A33.out).mono ?_
                                            rintro e w42 ⟨v249, rfl, ho0, hb⟩
                                            refine ⟨_, rfl, ?_⟩
                                            have n0_ := Aside0.mk (Kd.R_below (RU HO_4.out) hb)
                                            have n1_ := Aside0.mk (Kd.R_lower ho0 (sizG HB.out GE247.out))
                                            have n2_ := Aside0.mk (blk_below (blkU BK247.out) hb)
                                            have n3_ := Aside0.mk (below_step (belG HB.out GE247.out) hb)
                                            clear HO_4
                                            clear BK247
                                            clear HB
                                            have HO_4 := n0_
                                            have HO250 := n1_
                                            have BK247 := n2_
                                            have HB := n3_
                                            clear n0_ n1_ n2_ n3_
                                            (try clear hb)
                                            (try clear hb2)
                                            (try clear hk)
                                            (try clear hi)
                                            (try clear ho0)
                                            refine hK.out _ _ ⟨(blk_cell BK247.out 0).trans rfl, (blk_cell BK247.out 1).trans rfl, (blk_cell BK247.out 2).trans rfl, (blk_cell BK247.out 3).trans rfl⟩ (fun hHeld => ?_)
                                            clear hK K
                                            refine norm_ (a' := ?_) ?_ ?_
                                            rotate_left
                                            · show Act.put _ (some 112) _ = _
                                              simp only [Act.put, List.setIfInBounds_toArray, List.set_cons_zero, List.set_cons_succ, i64_w, i32_w]
                                              rfl
                                            refine one_ (i := 2) (N := some 113) #[true, true, true, true, true, true, true, false] rfl rfl (one_of HT_.out (by kernel_rfl)) (by decide) (fun K hK => ?_)
                                            have hcv43 := own_string (P := Try.prog) Try.underlying38 Try.underlying5 Try.underlying9 (Kd.own_of_R HO250.out)
                                            refine value_ (w1 := ?_) (v := ?_) (by rfl) rfl ?_ ?_
                                            rotate_left 2
                                            · go_simp
                                              constructor
                                              · rfl
                                              · rfl
                                            clear hcv43
                                            refine hK.out _ _ ⟨(blk_cell BK247.out 0).trans rfl, (blk_cell BK247.out 1).trans rfl, (blk_cell BK247.out 2).trans rfl, (blk_cell BK247.out 3).trans rfl⟩ (fun hHeld => ?_)
                                            clear hK K
                                            refine norm_ (a' := ?_) ?_ ?_
                                            rotate_left
                                            · show Act.put _ (some 113) _ = _
                                              simp only [Act.put, List.setIfInBounds_toArray, List.set_cons_zero, List.set_cons_succ, i64_w, i32_w]
                                              rfl
                                            refine pure_ (i := 7) (N := some 118) (v := ?_) (a' := ?_) #[true, true, true, true, true, true, true, true] rfl rfl (any_of HT_.out (by kernel_rfl)) (fun _ _ _ h => h) (Or.inl ⟨by rfl, ?_⟩) ?_ ?_
                                            rotate_left
                                            · intro w'
                                              go_simp
                                              with_reducible rfl
                                            rotate_left
                                            · simp only [Act.put, List.setIfInBounds_toArray, List.set_cons_zero, List.set_cons_succ, i64_w, i32_w]
                                              rfl
                                            refine done_ (done_of HT_.out (by kernel_rfl)) ?_
                                            have hcz44_0 : w42.cell? ⟨gb247, 0, none⟩ = some (.int .i64 (wrap64 (Int.tdiv (wrap64 (bt a0 x5_1)) 2))) := (blk_cell BK247.out 0).trans rfl
                                            have hcz44_1 : w42.cell? ⟨gb247, 1, none⟩ = some (.int .i64 (Int.tmod (wrap64 (bt a0 x5_1)) 2)) := (blk_cell BK247.out 1).trans rfl
                                            have hcz44_2 : w42.cell? ⟨gb247, 2, none⟩ = some (.int .i64 (wrap64 (x7_6 + (wrap64 ((wrap64 (bt a0 x9_6)) * x8_6))))) := (blk_cell BK247.out 2).trans rfl
                                            have hcz44_3 : w42.cell? ⟨gb247, 3, none⟩ = some (.string (⟨#[]⟩ : ByteArray)) := (blk_cell BK247.out 3).trans rfl
                                            have hfz44_0 := blk_frozen BK247.out 0
                                            have hfz44_1 := blk_frozen BK247.out 1
                                            have hfz44_2 := blk_frozen BK247.out 2
                                            have hfz44_3 := blk_frozen BK247.out 3
                                            try go_wp2_with (first | ((with_reducible refine gate_builtin (b := .append) (xs := #[.tmp 119, .tmp 121]) rfl ?_); (try (refine gate_guard (by rfl) ?_; dsimp only)); at_builtin; refine Kd.R_append k84 (w0 := w) w.heap.size rfl (.tmp 119) (.tmp 121) 57 84 (.agg #[(.int .i64 0), (.int .i64 0), (.int .i64 0), (.string ⟨#[]⟩)]) 40 rfl Try.underlying57 info84 rfl (by decide) (by omega) u4 x4_1 (⟨(wrap64 (Int.tdiv (wrap64 (bt a0 x5_1)) 2)), (Int.tmod (wrap64 (bt a0 x5_1)) 2), (wrap64 (x7_6 + (wrap64 ((wrap64 (bt a0 x9_6)) * x8_6)))), (⟨#[]⟩ : ByteArray)⟩ : S84) [.int .i64 (wrap64 (Int.tdiv (wrap64 (bt a0 x5_1)) 2)), .int .i64 (Int.tmod (wrap64 (bt a0 x5_1)) 2), .int .i64 (wrap64 (x7_6 + (wrap64 ((wrap64 (bt a0 x9_6)) * x8_6)))), .string (⟨#[]⟩ : ByteArray)] (fun k_ => k_ ≠ gb247) (fun _ => False) rfl rfl ?aP (fun _ hk => hk.elim) ?aF ?aO ?aB ?aS ?aL ?_; (case aP => exact k84_mkM _ _ _ (⟨(wrap64 (Int.tdiv (wrap64 (bt a0 x5_1)) 2)), (Int.tmod (wrap64 (bt a0 x5_1)) 2), (wrap64 (x7_6 + (wrap64 ((wrap64 (bt a0 x9_6)) * x8_6)))), (⟨#[]⟩ : ByteArray)⟩ : S84)); (case aB => exact (belG HB.out GE247.out)); (case aF => exact (fun k_ hk => Kd.freshB (g := gb247) (o := .cells #[.int .i64 (wrap64 (Int.tdiv (wrap64 (bt a0 x5_1)) 2)), .int .i64 (Int.tmod (wrap64 (bt a0 x5_1)) 2), .int .i64 (wrap64 (x7_6 + (wrap64 ((wrap64 (bt a0 x9_6)) * x8_6)))), .string (⟨#[]⟩ : ByteArray)] 84 (0, 0)) (blkU BK247.out) k_ hk)); (case aO => exact (RU HO_4.out)); (case aS => exact (sizG HB.out GE247.out)); (case aL => have := LMc38.out; omega); intro v252 w45 ho hb hg hat; rw [← Ny251.out] at ho; have n0_ := Aside0.mk (blk_grown (g := gb247) (o := .cells #[.int .i64 (wrap64 (Int.tdiv (wrap64 (bt a0 x5_1)) 2)), .int .i64 (Int.tmod (wrap64 (bt a0 x5_1)) 2), .int .i64 (wrap64 (x7_6 + (wrap64 ((wrap64 (bt a0 x9_6)) * x8_6)))), .string (⟨#[]⟩ : ByteArray)] 84 (0, 0)) (blkU BK247.out) hg (Kd.R_away HO_4.out (fun _ hk => hk))); have n1_ := Aside0.mk (Kd.R_over' (RU HO250.out) (Kd.R_typed (RU HO_4.out)) (by decide) hg); have n2_ := Aside0.mk (hb); have n3_ := Aside0.mk (ho); clear BK247; clear HO250; clear HB; clear HO_4; have BK247 := n0_; have HO250 := n1_; have HB := n2_; have HO253 := n3_; clear n0_ n1_ n2_ n3_; clear ho hb hg hat))
                                            go_roundg kj25
                                            case measure => have := HK1.out; have := HJ6.out; have := HJ19.out; have := HJ25.out; omega
                                            case rel => exact ⟨(y251), ((wrap64 (x9_6 + 1))), (by first | rfl | (simp; done) | (simp [*]; done)), H', ⟨by have := HK1.out; have := HJ6.out; have := HJ19.out; have := HJ25.out; omega⟩, ⟨by (with_reducible repeat (first | apply Kd.R_alloc | apply Kd.R_drewN | apply Kd.R_drew)); exact Kd.R_mono HO253.out (fun _ hk => trivial)⟩, ⟨belG HB.out GE247.out⟩⟩
                                          · rw [if_neg c38] at H
                                            exact absurd H (by simp)
                                        · rw [if_neg c37] at H
                                          have c37b0 : ((strOfNums t248).toList == (a0.extract (x5_1 : Int).toNat ((wrap64 (x9_6 + 1)) : Int).toNat).toList) = false := beq_eq_false_iff_ne.mpr c37
                                          have c37b1 : ((strOfNums t248).toList != (a0.extract (x5_1 : Int).toNat ((wrap64 (x9_6 + 1)) : Int).toNat).toList) = true := bne_iff_ne.mpr c37
                                          simp only [Option.some.injEq, Prod.mk.injEq] at H
                                          obtain ⟨rfl, rfl⟩ := H
                                          have hcz46_0 : wc.cell? ⟨gb247, 0, none⟩ = some (.int .i64 (wrap64 (Int.tdiv (wrap64 (bt a0 x5_1)) 2))) := (blk_cell BK247.out 0).trans rfl
                                          have hcz46_1 : wc.cell? ⟨gb247, 1, none⟩ = some (.int .i64 (Int.tmod (wrap64 (bt a0 x5_1)) 2)) := (blk_cell BK247.out 1).trans rfl
                                          have hcz46_2 : wc.cell? ⟨gb247, 2, none⟩ = some (.int .i64 0) := (blk_cell BK247.out 2).trans rfl
                                          have hcz46_3 : wc.cell? ⟨gb247, 3, none⟩ = some (.string (⟨#[]⟩ : ByteArray)) := (blk_cell BK247.out 3).trans rfl
                                          have hfz46_0 := blk_frozen BK247.out 0
                                          have hfz46_1 := blk_frozen BK247.out 1
                                          have hfz46_2 := blk_frozen BK247.out 2
                                          have hfz46_3 := blk_frozen BK247.out 3
                                          try go_wp2
                                          have n0_ : Aside0 (Kd.R k84 84 (wc.setCell ⟨gb247, 2, none⟩ (.int .i64 (wrap64 (x7_6 + (wrap64 ((wrap64 (bt a0 x9_6)) * x8_6)))))) w.heap.size (fun k_ => k_ ≠ gb247) u4 x4_1) := ⟨by (with_reducible repeat (first | apply Kd.R_alloc | apply Kd.R_drewN | apply Kd.R_drew)); exact Kd.R_mono (Kd.R_far (p := ⟨gb247, 2, none⟩) (Kd.R_mono HO_4.out (fun k_ hk => (⟨hk, hk⟩ : _ ∧ k_ ≠ gb247))) (fun _ hk => hk.2) (.int .i64 (wrap64 (x7_6 + (wrap64 ((wrap64 (bt a0 x9_6)) * x8_6)))))) (fun _ hk => hk.1)⟩
                                          have n1_ : Aside0 ((wc.setCell ⟨gb247, 2, none⟩ (.int .i64 (wrap64 (x7_6 + (wrap64 ((wrap64 (bt a0 x9_6)) * x8_6)))))).heap[gb247]? = some (.cells #[.int .i64 (wrap64 (Int.tdiv (wrap64 (bt a0 x5_1)) 2)), .int .i64 (Int.tmod (wrap64 (bt a0 x5_1)) 2), .int .i64 (wrap64 (x7_6 + (wrap64 ((wrap64 (bt a0 x9_6)) * x8_6)))), .string (⟨#[]⟩ : ByteArray)] 84 (0, 0))) := ⟨blkP BK247.out (by rfl)⟩
                                          have n2_ : Aside0 (Below w.heap.size w (wc.setCell ⟨gb247, 2, none⟩ (.int .i64 (wrap64 (x7_6 + (wrap64 ((wrap64 (bt a0 x9_6)) * x8_6))))))) := ⟨belG HB.out GE247.out⟩
                                          (try clear HO_4)
                                          (try clear BK247)
                                          (try clear HB)
                                          generalize (wc.setCell ⟨gb247, 2, none⟩ (.int .i64 (wrap64 (x7_6 + (wrap64 ((wrap64 (bt a0 x9_6)) * x8_6)))))) = w47 at n0_ n1_ n2_ ⊢
                                          have HO_4 := n0_
                                          have BK247 := n1_
                                          have HB := n2_
                                          clear n0_ n1_ n2_
                                          have n0_ := Aside0.mk (Kd.R_drew HO_4.out)
                                          have n1_ := Aside0.mk (blk_drew BK247.out)
                                          have n2_ := Aside0.mk (below_drew1 HB.out)
                                          clear HO_4
                                          clear BK247
                                          clear HB
                                          have HO_4 := n0_
                                          have BK247 := n1_
                                          have HB := n2_
                                          clear n0_ n1_ n2_
                                          refine start_ (n := 8) (S := fun w' => w'.cell? ⟨gb247, 0, none⟩ = some (.int .i64 (wrap64 (Int.tdiv (wrap64 (bt a0 x5_1)) 2))) ∧ w'.cell? ⟨gb247, 1, none⟩ = some (.int .i64 (Int.tmod (wrap64 (bt a0 x5_1)) 2)) ∧ w'.cell? ⟨gb247, 2, none⟩ = some (.int .i64 (wrap64 (x7_6 + (wrap64 ((wrap64 (bt a0 x9_6)) * x8_6))))) ∧ w'.cell? ⟨gb247, 3, none⟩ = some (.string (⟨#[]⟩ : ByteArray))) (ds := []) #[false, false, false, false, false, false, false, false] (by kernel_rfl) rfl rfl ⟨(blk_cell BK247.out 0).trans rfl, (blk_cell BK247.out 1).trans rfl, (blk_cell BK247.out 2).trans rfl, (blk_cell BK247.out 3).trans rfl⟩ (fun hHeld => ?_); refine with_tabW aquiferref04_Decode.tab24 aquiferref04_Decode.bits24 (fun HT_ HW_ => ?_)
                                          generalize w47.drew = w48 at HO_4 BK247 HB hHeld ⊢
                                          refine pure_ (i := 3) (N := some 114) (v := ?_) (a' := ?_) #[false, false, false, true, false, false, false, false] rfl rfl (any_of HT_.out (by kernel_rfl)) (fun _ _ _ h => h) (Or.inl ⟨by rfl, ?_⟩) ?_ ?_
                                          rotate_left
                                          · intro w'
                                            go_simp
                                            with_reducible rfl
                                          rotate_left
                                          · simp only [Act.put, List.setIfInBounds_toArray, List.set_cons_zero, List.set_cons_succ, i64_w, i32_w]
                                            rfl
                                          refine pure_ (i := 4) (N := some 115) (v := ?_) (a' := ?_) #[false, false, false, true, true, false, false, false] rfl rfl (any_of HT_.out (by kernel_rfl)) (fun _ _ _ h => h) (Or.inl ⟨by rfl, ?_⟩) ?_ ?_
                                          rotate_left
                                          · intro w'
                                            go_simp
                                            with_reducible rfl
                                          rotate_left
                                          · simp only [Act.put, List.setIfInBounds_toArray, List.set_cons_zero, List.set_cons_succ, i64_w, i32_w]
                                            rfl
                                          refine pure_ (i := 5) (N := some 116) (v := ?_) (a' := ?_) #[false, false, false, true, true, true, false, false] rfl rfl (any_of HT_.out (by kernel_rfl)) (fun _ _ _ h => h) (Or.inl ⟨by rfl, ?_⟩) ?_ ?_
                                          rotate_left
                                          · intro w'
                                            go_simp
                                            with_reducible rfl
                                          rotate_left
                                          · simp only [Act.put, List.setIfInBounds_toArray, List.set_cons_zero, List.set_cons_succ, i64_w, i32_w]
                                            rfl
                                          refine pure_ (i := 6) (N := some 117) (v := ?_) (a' := ?_) #[false, false, false, true, true, true, true, false] rfl rfl (any_of HT_.out (by kernel_rfl)) (fun _ _ _ h => h) (Or.inl ⟨by rfl, ?_⟩) ?_ ?_
                                          rotate_left
                                          · intro w'
                                            go_simp
                                            with_reducible rfl
                                          rotate_left
                                          · simp only [Act.put, List.setIfInBounds_toArray, List.set_cons_zero, List.set_cons_succ, i64_w, i32_w]
                                            rfl
                                          refine take_ (i := 0) (N := some 111) (v := ?_) (a' := ?_) #[true, false, false, true, true, true, true, false] rfl rfl (take_ofW HT_.out HW_.out (by kernel_rfl)) (fun _ _ _ h => h) (Or.inl ⟨by rfl, ?_⟩) hHeld ?_ ?_
                                          rotate_left
                                          · rintro w' ⟨s0, s1, s2, s3⟩
                                            go_simp
                                            with_reducible rfl
                                          rotate_left
                                          · simp only [Act.put, List.setIfInBounds_toArray, List.set_cons_zero, List.set_cons_succ, i64_w, i32_w]
                                            rfl
                                          refine one_ (i := 1) (N := some 112) #[true, true, false, true, true, true, true, false] rfl rfl (one_of HT_.out (by kernel_rfl)) (by decide) (fun K hK => ?_)
                                          refine goes_ Try.func55 (by kernel_rfl) rfl #[.agg #[.int .i64 (wrap64 (Int.tdiv (wrap64 (bt a0 x5_1)) 2)), .int .i64 (Int.tmod (wrap64 (bt a0 x5_1)) 2), .int .i64 (wrap64 (x7_6 + (wrap64 ((wrap64 (bt a0 x9_6)) * x8_6)))), .string (⟨#[]⟩ : ByteArray)]] (by rfl) rfl rfl (by (try simp only [List.map_toArray, List.map_cons, List.map_nil]); first | done | rfl | (simp only [List.length_drop, List.length_take]; rfl)) ?_
                                          with_reducible refine (aquiferref04_bytes.calls kj25 (wrap64 (Int.tdiv (wrap64 (bt a0 x5_1)) 2)) (Int.tmod (wrap64 (bt a0 x5_1)) 2) (wrap64 (x7_6 + (wrap64 ((wrap64 (bt a0 x9_6)) * x8_6)))) (⟨#[]⟩ : ByteArray) t248 _ A33.out).mono ?_
                                          rintro e w49 ⟨v249, rfl, ho0, hb⟩
                                          refine ⟨_, rfl, ?_⟩
                                          have n0_ := Aside0.mk (Kd.R_below (RU HO_4.out) hb)
                                          have n1_ := Aside0.mk (Kd.R_lower ho0 (sizG HB.out GE247.out))
                                          have n2_ := Aside0.mk (blk_below (blkU BK247.out) hb)
                                          have n3_ := Aside0.mk (below_step (belG HB.out GE247.out) hb)
                                          clear HO_4
                                          clear BK247
                                          clear HB
                                          have HO_4 := n0_
                                          have HO250 := n1_
                                          have BK247 := n2_
                                          have HB := n3_
                                          clear n0_ n1_ n2_ n3_
                                          (try clear hb)
                                          (try clear hb2)
                                          (try clear hk)
                                          (try clear hi)
                                          (try clear ho0)
                                          refine hK.out _ _ ⟨(blk_cell BK247.out 0).trans rfl, (blk_cell BK247.out 1).trans rfl, (blk_cell BK247.out 2).trans rfl, (blk_cell BK247.out 3).trans rfl⟩ (fun hHeld => ?_)
                                          clear hK K
                                          refine norm_ (a' := ?_) ?_ ?_
                                          rotate_left
                                          · show Act.put _ (some 112) _ = _
                                            simp only [Act.put, List.setIfInBounds_toArray, List.set_cons_zero, List.set_cons_succ, i64_w, i32_w]
                                            rfl
                                          refine one_ (i := 2) (N := some 113) #[true, true, true, true, true, true, true, false] rfl rfl (one_of HT_.out (by kernel_rfl)) (by decide) (fun K hK => ?_)
                                          have hcv50 := own_string (P := Try.prog) Try.underlying38 Try.underlying5 Try.underlying9 (Kd.own_of_R HO250.out)
                                          refine value_ (w1 := ?_) (v := ?_) (by rfl) rfl ?_ ?_
                                          rotate_left 2
                                          · go_simp
                                            constructor
                                            · rfl
                                            · rfl
                                          clear hcv50
                                          refine hK.out _ _ ⟨(blk_cell BK247.out 0).trans rfl, (blk_cell BK247.out 1).trans rfl, (blk_cell BK247.out 2).trans rfl, (blk_cell BK247.out 3).trans rfl⟩ (fun hHeld => ?_)
                                          clear hK K
                                          refine norm_ (a' := ?_) ?_ ?_
                                          rotate_left
                                          · show Act.put _ (some 113) _ = _
                                            simp only [Act.put, List.setIfInBounds_toArray, List.set_cons_zero, List.set_cons_succ, i64_w, i32_w]
                                            rfl
                                          refine pure_ (i := 7) (N := some 118) (v := ?_) (a' := ?_) #[true, true, true, true, true, true, true, true] rfl rfl (any_of HT_.out (by kernel_rfl)) (fun _ _ _ h => h) (Or.inl ⟨by rfl, ?_⟩) ?_ ?_
                                          rotate_left
                                          · intro w'
                                            go_simp
                                            with_reducible rfl
                                          rotate_left
                                          · simp only [Act.put, List.setIfInBounds_toArray, List.set_cons_zero, List.set_cons_succ, i64_w, i32_w]
                                            rfl
                                          refine done_ (done_of HT_.out (by kernel_rfl)) ?_
                                          try go_wp2
                                          go_ret2
                                          exact ⟨_, by first | rfl | (simp [errW_none, errW_some] <;> rfl) | (simp [*, errW_none, errW_some] <;> rfl), by first | exact Kd.R_nil _ _ _ _ _ | exact Kd.N_nil _ _ _ _ _ | exact Kd.V_nil _ _ _ _ _ | exact Kd.Q_nil _ _ _ _ _ | exact Kd.S_nil _ _ _ _ _, belG HB.out GE247.out⟩
                                      · rw [if_neg c36] at H
                                        exact absurd H (by simp)
                                    · rw [if_neg c35] at H
                                      exact absurd H (by simp)
                                  · rw [if_neg c34] at H
                                    exact absurd H (by simp)
                                · rw [if_neg c32] at H
                                  have c32b0 : ((Int.tmod (wrap64 (bt a0 x5_1)) 2) == 0) = false := beq_eq_false_iff_ne.mpr c32
                                  have c32b1 : ((Int.tmod (wrap64 (bt a0 x5_1)) 2) != 0) = true := bne_iff_ne.mpr c32
                                  obtain ⟨ji51, hji51⟩ : ∃ j_ : Int, (wrap64 (x9_6 + 1)) = j_ := ⟨_, rfl⟩
                                  replace H : (if 0 ≤ (ji51) then (if (ji51) ≤ (wrap64 ((ji51) + (wrap64 (x7_6 + (wrap64 ((wrap64 (bt a0 x9_6)) * x8_6)))))) then (if (wrap64 ((ji51) + (wrap64 (x7_6 + (wrap64 ((wrap64 (bt a0 x9_6)) * x8_6)))))) ≤ (a0.size : Int) then ((aquiferref04_bytes.f kj25 (wrap64 (Int.tdiv (wrap64 (bt a0 x5_1)) 2)) (Int.tmod (wrap64 (bt a0 x5_1)) 2) 0 (a0.extract ((ji51) : Int).toNat ((wrap64 ((ji51) + (wrap64 (x7_6 + (wrap64 ((wrap64 (bt a0 x9_6)) * x8_6)))))) : Int).toNat)).bind fun t254 => (if 0 ≤ x5_1 then (if x5_1 ≤ (wrap64 ((ji51) + (wrap64 (x7_6 + (wrap64 ((wrap64 (bt a0 x9_6)) * x8_6)))))) then (if (strOfNums t254).toList = (a0.extract (x5_1 : Int).toNat ((wrap64 ((ji51) + (wrap64 (x7_6 + (wrap64 ((wrap64 (bt a0 x9_6)) * x8_6)))))) : Int).toNat).toList then (if x4_1.length < 3518437208883 then (aquiferref04_Decode.l0 kj25 a0 (x4_1 ++ [(⟨(wrap64 (Int.tdiv (wrap64 (bt a0 x5_1)) 2)), (Int.tmod (wrap64 (bt a0 x5_1)) 2), 0, a0.extract ((ji51) : Int).toNat ((wrap64 ((ji51) + (wrap64 (x7_6 + (wrap64 ((wrap64 (bt a0 x9_6)) * x8_6)))))) : Int).toNat⟩ : S84)]) (wrap64 ((ji51) + (wrap64 (x7_6 + (wrap64 ((wrap64 (bt a0 x9_6)) * x8_6))))))) else (none)) else (some (([] : List (S84)), 5))) else (none)) else (none))) else (none)) else (none)) else (none)) = some (r1, r2) := by first | (rw [hji51] at H; exact H) | (simp only [hji51] at H ⊢; exact H)
                                  have hji51w : (IntKind.i64.wrap (x9_6 + 1)) = ji51 := (i64_w _).trans hji51
                                  by_cases c52 : 0 ≤ (ji51)
                                  · rw [if_pos c52] at H
                                    have c52b0 := eq_true c52
                                    have c52b1 : decide (0 ≤ (ji51)) = true := decide_eq_true c52
                                    clear c52
                                    by_cases c53 : (ji51) ≤ (wrap64 ((ji51) + (wrap64 (x7_6 + (wrap64 ((wrap64 (bt a0 x9_6)) * x8_6))))))
                                    · rw [if_pos c53] at H
                                      have c53b0 := eq_true c53
                                      have c53b1 : decide ((ji51) ≤ (wrap64 ((ji51) + (wrap64 (x7_6 + (wrap64 ((wrap64 (bt a0 x9_6)) * x8_6))))))) = true := decide_eq_true c53
                                      by_cases c54 : (wrap64 ((ji51) + (wrap64 (x7_6 + (wrap64 ((wrap64 (bt a0 x9_6)) * x8_6)))))) ≤ (a0.size : Int)
                                      · rw [if_pos c54] at H
                                        have c54b0 := eq_true c54
                                        have c54b1 : decide ((wrap64 ((ji51) + (wrap64 (x7_6 + (wrap64 ((wrap64 (bt a0 x9_6)) * x8_6)))))) ≤ (a0.size : Int)) = true := decide_eq_true c54
                                        replace H := Option.bind_eq_some_iff.mp H
                                        obtain ⟨t254, A550, H⟩ := H
                                        replace H : (if 0 ≤ x5_1 then (if x5_1 ≤ (wrap64 ((ji51) + (wrap64 (x7_6 + (wrap64 ((wrap64 (bt a0 x9_6)) * x8_6)))))) then (if (strOfNums t254).toList = (a0.extract (x5_1 : Int).toNat ((wrap64 ((ji51) + (wrap64 (x7_6 + (wrap64 ((wrap64 (bt a0 x9_6)) * x8_6)))))) : Int).toNat).toList then (if x4_1.length < 3518437208883 then (aquiferref04_Decode.l0 kj25 a0 (x4_1 ++ [(⟨(wrap64 (Int.tdiv (wrap64 (bt a0 x5_1)) 2)), (Int.tmod (wrap64 (bt a0 x5_1)) 2), 0, a0.extract ((ji51) : Int).toNat ((wrap64 ((ji51) + (wrap64 (x7_6 + (wrap64 ((wrap64 (bt a0 x9_6)) * x8_6)))))) : Int).toNat⟩ : S84)]) (wrap64 ((ji51) + (wrap64 (x7_6 + (wrap64 ((wrap64 (bt a0 x9_6)) * x8_6))))))) else (none)) else (some (([] : List (S84)), 5))) else (none)) else (none)) = some (r1, r2) := H
                                        have A55 := Aside0.mk A550
                                        clear A550
                                        by_cases c56 : 0 ≤ x5_1
                                        · rw [if_pos c56] at H
                                          have c56b0 := eq_true c56
                                          have c56b1 : decide (0 ≤ x5_1) = true := decide_eq_true c56
                                          clear c56
                                          by_cases c57 : x5_1 ≤ (wrap64 ((ji51) + (wrap64 (x7_6 + (wrap64 ((wrap64 (bt a0 x9_6)) * x8_6))))))
                                          · rw [if_pos c57] at H
                                            have c57b0 := eq_true c57
                                            have c57b1 : decide (x5_1 ≤ (wrap64 ((ji51) + (wrap64 (x7_6 + (wrap64 ((wrap64 (bt a0 x9_6)) * x8_6))))))) = true := decide_eq_true c57
                                            have c58b0 := eq_true (of_decide_eq_true (by first | (with_reducible assumption) | assumption) : (wrap64 ((ji51) + (wrap64 (x7_6 + (wrap64 ((wrap64 (bt a0 x9_6)) * x8_6)))))) ≤ (a0.size : Int))
                                            by_cases c59 : (strOfNums t254).toList = (a0.extract (x5_1 : Int).toNat ((wrap64 ((ji51) + (wrap64 (x7_6 + (wrap64 ((wrap64 (bt a0 x9_6)) * x8_6)))))) : Int).toNat).toList
                                            · rw [if_pos c59] at H
                                              have c59b0 : ((strOfNums t254).toList == (a0.extract (x5_1 : Int).toNat ((wrap64 ((ji51) + (wrap64 (x7_6 + (wrap64 ((wrap64 (bt a0 x9_6)) * x8_6)))))) : Int).toNat).toList) = true := beq_iff_eq.mpr c59
                                              have c59b1 : ((strOfNums t254).toList != (a0.extract (x5_1 : Int).toNat ((wrap64 ((ji51) + (wrap64 (x7_6 + (wrap64 ((wrap64 (bt a0 x9_6)) * x8_6)))))) : Int).toNat).toList) = false := bne_eq_false_iff_eq.mpr c59
                                              clear c59
                                              by_cases c60 : x4_1.length < 3518437208883
                                              · rw [if_pos c60] at H
                                                have LMc60 := Aside0.mk c60
                                                clear c60
                                                obtain ⟨y257, hy257⟩ : ∃ y_ : List (S84), y_ = (x4_1 ++ [(⟨(wrap64 (Int.tdiv (wrap64 (bt a0 x5_1)) 2)), (Int.tmod (wrap64 (bt a0 x5_1)) 2), 0, a0.extract ((ji51) : Int).toNat ((wrap64 ((ji51) + (wrap64 (x7_6 + (wrap64 ((wrap64 (bt a0 x9_6)) * x8_6)))))) : Int).toNat⟩ : S84)]) := ⟨_, rfl⟩
                                                replace H : (aquiferref04_Decode.l0 kj25 a0 y257 (wrap64 ((ji51) + (wrap64 (x7_6 + (wrap64 ((wrap64 (bt a0 x9_6)) * x8_6))))))) = some (r1, r2) := by first | (rw [hy257]; with_reducible exact H) | (have H2_ := (Option.bind_some _ _).symm.trans H; rw [hy257]; with_reducible exact H2_) | (have H2_ := (Option.bind_some _ _).symm.trans H; with_reducible exact H2_) | with_reducible exact H | (rw [hy257]; exact H) | exact H
                                                have Ny257 := Aside0.mk hy257
                                                clear hy257
                                                have H' := Aside0.mk H
                                                clear H
                                                have hcz61_0 : wc.cell? ⟨gb247, 0, none⟩ = some (.int .i64 (wrap64 (Int.tdiv (wrap64 (bt a0 x5_1)) 2))) := (blk_cell BK247.out 0).trans rfl
                                                have hcz61_1 : wc.cell? ⟨gb247, 1, none⟩ = some (.int .i64 (Int.tmod (wrap64 (bt a0 x5_1)) 2)) := (blk_cell BK247.out 1).trans rfl
                                                have hcz61_2 : wc.cell? ⟨gb247, 2, none⟩ = some (.int .i64 0) := (blk_cell BK247.out 2).trans rfl
                                                have hcz61_3 : wc.cell? ⟨gb247, 3, none⟩ = some (.string (⟨#[]⟩ : ByteArray)) := (blk_cell BK247.out 3).trans rfl
                                                have hfz61_0 := blk_frozen BK247.out 0
                                                have hfz61_1 := blk_frozen BK247.out 1
                                                have hfz61_2 := blk_frozen BK247.out 2
                                                have hfz61_3 := blk_frozen BK247.out 3
                                                try go_wp2
                                                have n0_ : Aside0 (Kd.R k84 84 (wc.setCell ⟨gb247, 3, none⟩ (.string (a0.extract ((ji51) : Int).toNat ((wrap64 ((ji51) + (wrap64 (x7_6 + (wrap64 ((wrap64 (bt a0 x9_6)) * x8_6)))))) : Int).toNat))) w.heap.size (fun k_ => k_ ≠ gb247) u4 x4_1) := ⟨by (with_reducible repeat (first | apply Kd.R_alloc | apply Kd.R_drewN | apply Kd.R_drew)); exact Kd.R_mono (Kd.R_far (p := ⟨gb247, 3, none⟩) (Kd.R_mono HO_4.out (fun k_ hk => (⟨hk, hk⟩ : _ ∧ k_ ≠ gb247))) (fun _ hk => hk.2) (.string (a0.extract ((ji51) : Int).toNat ((wrap64 ((ji51) + (wrap64 (x7_6 + (wrap64 ((wrap64 (bt a0 x9_6)) * x8_6)))))) : Int).toNat))) (fun _ hk => hk.1)⟩
                                                have n1_ : Aside0 ((wc.setCell ⟨gb247, 3, none⟩ (.string (a0.extract ((ji51) : Int).toNat ((wrap64 ((ji51) + (wrap64 (x7_6 + (wrap64 ((wrap64 (bt a0 x9_6)) * x8_6)))))) : Int).toNat))).heap[gb247]? = some (.cells #[.int .i64 (wrap64 (Int.tdiv (wrap64 (bt a0 x5_1)) 2)), .int .i64 (Int.tmod (wrap64 (bt a0 x5_1)) 2), .int .i64 0, .string (a0.extract ((ji51) : Int).toNat ((wrap64 ((ji51) + (wrap64 (x7_6 + (wrap64 ((wrap64 (bt a0 x9_6)) * x8_6)))))) : Int).toNat)] 84 (0, 0))) := ⟨blkP BK247.out (by rfl)⟩
                                                have n2_ : Aside0 (Below w.heap.size w (wc.setCell ⟨gb247, 3, none⟩ (.string (a0.extract ((ji51) : Int).toNat ((wrap64 ((ji51) + (wrap64 (x7_6 + (wrap64 ((wrap64 (bt a0 x9_6)) * x8_6)))))) : Int).toNat)))) := ⟨belG HB.out GE247.out⟩
                                                (try clear HO_4)
                                                (try clear BK247)
                                                (try clear HB)
                                                generalize (wc.setCell ⟨gb247, 3, none⟩ (.string (a0.extract ((ji51) : Int).toNat ((wrap64 ((ji51) + (wrap64 (x7_6 + (wrap64 ((wrap64 (bt a0 x9_6)) * x8_6)))))) : Int).toNat))) = w62 at n0_ n1_ n2_ ⊢
                                                have HO_4 := n0_
                                                have BK247 := n1_
                                                have HB := n2_
                                                clear n0_ n1_ n2_
                                                have n0_ := Aside0.mk (Kd.R_drew HO_4.out)
                                                have n1_ := Aside0.mk (blk_drew BK247.out)
                                                have n2_ := Aside0.mk (below_drew1 HB.out)
                                                clear HO_4
                                                clear BK247
                                                clear HB
                                                have HO_4 := n0_
                                                have BK247 := n1_
                                                have HB := n2_
                                                clear n0_ n1_ n2_
                                                refine start_ (n := 8) (S := fun w' => w'.cell? ⟨gb247, 0, none⟩ = some (.int .i64 (wrap64 (Int.tdiv (wrap64 (bt a0 x5_1)) 2))) ∧ w'.cell? ⟨gb247, 1, none⟩ = some (.int .i64 (Int.tmod (wrap64 (bt a0 x5_1)) 2)) ∧ w'.cell? ⟨gb247, 2, none⟩ = some (.int .i64 0) ∧ w'.cell? ⟨gb247, 3, none⟩ = some (.string (a0.extract ((ji51) : Int).toNat ((wrap64 ((ji51) + (wrap64 (x7_6 + (wrap64 ((wrap64 (bt a0 x9_6)) * x8_6)))))) : Int).toNat))) (ds := []) #[false, false, false, false, false, false, false, false] (by kernel_rfl) rfl rfl ⟨(blk_cell BK247.out 0).trans rfl, (blk_cell BK247.out 1).trans rfl, (blk_cell BK247.out 2).trans rfl, (blk_cell BK247.out 3).trans rfl⟩ (fun hHeld => ?_); refine with_tabW aquiferref04_Decode.tab24 aquiferref04_Decode.bits24 (fun HT_ HW_ => ?_)
                                                generalize w62.drew = w63 at HO_4 BK247 HB hHeld ⊢
                                                refine pure_ (i := 3) (N := some 114) (v := ?_) (a' := ?_) #[false, false, false, true, false, false, false, false] rfl rfl (any_of HT_.out (by kernel_rfl)) (fun _ _ _ h => h) (Or.inl ⟨by rfl, ?_⟩) ?_ ?_
                                                rotate_left
                                                · intro w'
                                                  go_simp
                                                  with_reducible rfl
                                                rotate_left
                                                · simp only [Act.put, List.setIfInBounds_toArray, List.set_cons_zero, List.set_cons_succ, i64_w, i32_w]
                                                  rfl
                                                refine pure_ (i := 4) (N := some 115) (v := ?_) (a' := ?_) #[false, false, false, true, true, false, false, false] rfl rfl (any_of HT_.out (by kernel_rfl)) (fun _ _ _ h => h) (Or.inl ⟨by rfl, ?_⟩) ?_ ?_
                                                rotate_left
                                                · intro w'
                                                  go_simp
                                                  with_reducible rfl
                                                rotate_left
                                                · simp only [Act.put, List.setIfInBounds_toArray, List.set_cons_zero, List.set_cons_succ, i64_w, i32_w]
                                                  rfl
                                                refine pure_ (i := 5) (N := some 116) (v := ?_) (a' := ?_) #[false, false, false, true, true, true, false, false] rfl rfl (any_of HT_.out (by kernel_rfl)) (fun _ _ _ h => h) (Or.inl ⟨by rfl, ?_⟩) ?_ ?_
                                                rotate_left
                                                · intro w'
                                                  go_simp
                                                  with_reducible rfl
                                                rotate_left
                                                · simp only [Act.put, List.setIfInBounds_toArray, List.set_cons_zero, List.set_cons_succ, i64_w, i32_w]
                                                  rfl
                                                refine pure_ (i := 6) (N := some 117) (v := ?_) (a' := ?_) #[false, false, false, true, true, true, true, false] rfl rfl (any_of HT_.out (by kernel_rfl)) (fun _ _ _ h => h) (Or.inl ⟨by rfl, ?_⟩) ?_ ?_
                                                rotate_left
                                                · intro w'
                                                  go_simp
                                                  with_reducible rfl
                                                rotate_left
                                                · simp only [Act.put, List.setIfInBounds_toArray, List.set_cons_zero, List.set_cons_succ, i64_w, i32_w]
                                                  rfl
                                                refine take_ (i := 0) (N := some 111) (v := ?_) (a' := ?_) #[true, false, false, true, true, true, true, false] rfl rfl (take_ofW HT_.out HW_.out (by kernel_rfl)) (fun _ _ _ h => h) (Or.inl ⟨by rfl, ?_⟩) hHeld ?_ ?_
                                                rotate_left
                                                · rintro w' ⟨s0, s1, s2, s3⟩
                                                  go_simp
                                                  with_reducible rfl
                                                rotate_left
                                                · simp only [Act.put, List.setIfInBounds_toArray, List.set_cons_zero, List.set_cons_succ, i64_w, i32_w]
                                                  rfl
                                                refine one_ (i := 1) (N := some 112) #[true, true, false, true, true, true, true, false] rfl rfl (one_of HT_.out (by kernel_rfl)) (by decide) (fun K hK => ?_)
                                                refine goes_ Try.func55 (by kernel_rfl) rfl #[.agg #[.int .i64 (wrap64 (Int.tdiv (wrap64 (bt a0 x5_1)) 2)), .int .i64 (Int.tmod (wrap64 (bt a0 x5_1)) 2), .int .i64 0, .string (a0.extract ((ji51) : Int).toNat ((wrap64 ((ji51) + (wrap64 (x7_6 + (wrap64 ((wrap64 (bt a0 x9_6)) * x8_6)))))) : Int).toNat)]] (by rfl) rfl rfl (by (try simp only [List.map_toArray, List.map_cons, List.map_nil]); first | done | (simp only [hji51]; rfl) | rfl | (simp only [List.length_drop, List.length_take]; rfl)) ?_
                                                with_reducible refine (aquiferref04_bytes.calls kj25 (wrap64 (Int.tdiv (wrap64 (bt a0 x5_1)) 2)) (Int.tmod (wrap64 (bt a0 x5_1)) 2) 0 (a0.extract ((ji51) : Int).toNat ((wrap64 ((ji51) + (wrap64 (x7_6 + (wrap64 ((wrap64 (bt a0 x9_6)) * x8_6)))))) : Int).toNat) t254 _ A55.out).mono ?_
                                                rintro e w64 ⟨v255, rfl, ho0, hb⟩
                                                refine ⟨_, rfl, ?_⟩
                                                have n0_ := Aside0.mk (Kd.R_below (RU HO_4.out) hb)
                                                have n1_ := Aside0.mk (Kd.R_lower ho0 (sizG HB.out GE247.out))
                                                have n2_ := Aside0.mk (blk_below (blkU BK247.out) hb)
                                                have n3_ := Aside0.mk (below_step (belG HB.out GE247.out) hb)
                                                clear HO_4
                                                clear BK247
                                                clear HB
                                                have HO_4 := n0_
                                                have HO256 := n1_
                                                have BK247 := n2_
                                                have HB := n3_
                                                clear n0_ n1_ n2_ n3_
                                                (try clear hb)
                                                (try clear hb2)
                                                (try clear hk)
                                                (try clear hi)
                                                (try clear ho0)
                                                refine hK.out _ _ ⟨(blk_cell BK247.out 0).trans rfl, (blk_cell BK247.out 1).trans rfl, (blk_cell BK247.out 2).trans rfl, (blk_cell BK247.out 3).trans rfl⟩ (fun hHeld => ?_)
                                                clear hK K
                                                refine norm_ (a' := ?_) ?_ ?_
                                                rotate_left
                                                · show Act.put _ (some 112) _ = _
                                                  simp only [Act.put, List.setIfInBounds_toArray, List.set_cons_zero, List.set_cons_succ, i64_w, i32_w]
                                                  rfl
                                                refine one_ (i := 2) (N := some 113) #[true, true, true, true, true, true, true, false] rfl rfl (one_of HT_.out (by kernel_rfl)) (by decide) (fun K hK => ?_)
                                                have hcv65 := own_string (P := Try.prog) Try.underlying38 Try.underlying5 Try.underlying9 (Kd.own_of_R HO256.out)
                                                refine value_ (w1 := ?_) (v := ?_) (by rfl) rfl ?_ ?_
                                                rotate_left 2
                                                · go_simp
                                                  constructor
                                                  · rfl
                                                  · rfl
                                                clear hcv65
                                                refine hK.out _ _ ⟨(blk_cell BK247.out 0).trans rfl, (blk_cell BK247.out 1).trans rfl, (blk_cell BK247.out 2).trans rfl, (blk_cell BK247.out 3).trans rfl⟩ (fun hHeld => ?_)
                                                clear hK K
                                                refine norm_ (a' := ?_) ?_ ?_
                                                rotate_left
                                                · show Act.put _ (some 113) _ = _
                                                  simp only [Act.put, List.setIfInBounds_toArray, List.set_cons_zero, List.set_cons_succ, i64_w, i32_w]
                                                  rfl
                                                refine pure_ (i := 7) (N := some 118) (v := ?_) (a' := ?_) #[true, true, true, true, true, true, true, true] rfl rfl (any_of HT_.out (by kernel_rfl)) (fun _ _ _ h => h) (Or.inl ⟨by rfl, ?_⟩) ?_ ?_
                                                rotate_left
                                                · intro w'
                                                  go_simp
                                                  with_reducible rfl
                                                rotate_left
                                                · simp only [Act.put, List.setIfInBounds_toArray, List.set_cons_zero, List.set_cons_succ, i64_w, i32_w]
                                                  rfl
                                                refine done_ (done_of HT_.out (by kernel_rfl)) ?_
                                                have hcz66_0 : w64.cell? ⟨gb247, 0, none⟩ = some (.int .i64 (wrap64 (Int.tdiv (wrap64 (bt a0 x5_1)) 2))) := (blk_cell BK247.out 0).trans rfl
                                                have hcz66_1 : w64.cell? ⟨gb247, 1, none⟩ = some (.int .i64 (Int.tmod (wrap64 (bt a0 x5_1)) 2)) := (blk_cell BK247.out 1).trans rfl
                                                have hcz66_2 : w64.cell? ⟨gb247, 2, none⟩ = some (.int .i64 0) := (blk_cell BK247.out 2).trans rfl
                                                have hcz66_3 : w64.cell? ⟨gb247, 3, none⟩ = some (.string (a0.extract ((ji51) : Int).toNat ((wrap64 ((ji51) + (wrap64 (x7_6 + (wrap64 ((wrap64 (bt a0 x9_6)) * x8_6)))))) : Int).toNat)) := (blk_cell BK247.out 3).trans rfl
                                                have hfz66_0 := blk_frozen BK247.out 0
                                                have hfz66_1 := blk_frozen BK247.out 1
                                                have hfz66_2 := blk_frozen BK247.out 2
                                                have hfz66_3 := blk_frozen BK247.out 3
                                                try go_wp2_with (first | ((with_reducible refine gate_builtin (b := .append) (xs := #[.tmp 119, .tmp 121]) rfl ?_); (try (refine gate_guard (by rfl) ?_; dsimp only)); at_builtin; refine Kd.R_append k84 (w0 := w) w.heap.size rfl (.tmp 119) (.tmp 121) 57 84 (.agg #[(.int .i64 0), (.int .i64 0), (.int .i64 0), (.string ⟨#[]⟩)]) 40 rfl Try.underlying57 info84 rfl (by decide) (by omega) u4 x4_1 (⟨(wrap64 (Int.tdiv (wrap64 (bt a0 x5_1)) 2)), (Int.tmod (wrap64 (bt a0 x5_1)) 2), 0, a0.extract ((ji51) : Int).toNat ((wrap64 ((ji51) + (wrap64 (x7_6 + (wrap64 ((wrap64 (bt a0 x9_6)) * x8_6)))))) : Int).toNat⟩ : S84) [.int .i64 (wrap64 (Int.tdiv (wrap64 (bt a0 x5_1)) 2)), .int .i64 (Int.tmod (wrap64 (bt a0 x5_1)) 2), .int .i64 0, .string (a0.extract ((ji51) : Int).toNat ((wrap64 ((ji51) + (wrap64 (x7_6 + (wrap64 ((wrap64 (bt a0 x9_6)) * x8_6)))))) : Int).toNat)] (fun k_ => k_ ≠ gb247) (fun _ => False) rfl rfl ?aP (fun _ hk => hk.elim) ?aF ?aO ?aB ?aS ?aL ?_; (case aP => exact k84_mkM _ _ _ (⟨(wrap64 (Int.tdiv (wrap64 (bt a0 x5_1)) 2)), (Int.tmod (wrap64 (bt a0 x5_1)) 2), 0, a0.extract ((ji51) : Int).toNat ((wrap64 ((ji51) + (wrap64 (x7_6 + (wrap64 ((wrap64 (bt a0 x9_6)) * x8_6)))))) : Int).toNat⟩ : S84)); (case aB => exact (belG HB.out GE247.out)); (case aF => exact (fun k_ hk => Kd.freshB (g := gb247) (o := .cells #[.int .i64 (wrap64 (Int.tdiv (wrap64 (bt a0 x5_1)) 2)), .int .i64 (Int.tmod (wrap64 (bt a0 x5_1)) 2), .int .i64 0, .string (a0.extract ((ji51) : Int).toNat ((wrap64 ((ji51) + (wrap64 (x7_6 + (wrap64 ((wrap64 (bt a0 x9_6)) * x8_6)))))) : Int).toNat)] 84 (0, 0)) (blkU BK247.out) k_ hk)); (case aO => exact (RU HO_4.out)); (case aS => exact (sizG HB.out GE247.out)); (case aL => have := LMc60.out; omega); intro v258 w67 ho hb hg hat; rw [← Ny257.out] at ho; have n0_ := Aside0.mk (blk_grown (g := gb247) (o := .cells #[.int .i64 (wrap64 (Int.tdiv (wrap64 (bt a0 x5_1)) 2)), .int .i64 (Int.tmod (wrap64 (bt a0 x5_1)) 2), .int .i64 0, .string (a0.extract ((ji51) : Int).toNat ((wrap64 ((ji51) + (wrap64 (x7_6 + (wrap64 ((wrap64 (bt a0 x9_6)) * x8_6)))))) : Int).toNat)] 84 (0, 0)) (blkU BK247.out) hg (Kd.R_away HO_4.out (fun _ hk => hk))); have n1_ := Aside0.mk (Kd.R_over' (RU HO256.out) (Kd.R_typed (RU HO_4.out)) (by decide) hg); have n2_ := Aside0.mk (hb); have n3_ := Aside0.mk (ho); clear BK247; clear HO256; clear HB; clear HO_4; have BK247 := n0_; have HO256 := n1_; have HB := n2_; have HO259 := n3_; clear n0_ n1_ n2_ n3_; clear ho hb hg hat))
                                                go_roundg kj25
                                                case measure => have := HK1.out; have := HJ6.out; have := HJ19.out; have := HJ25.out; omega
                                                case rel => exact ⟨(y257), (wrap64 ((ji51) + (wrap64 (x7_6 + (wrap64 ((wrap64 (bt a0 x9_6)) * x8_6)))))), (by first | rfl | (simp; done) | (simp only [← hji51] <;> (first | rfl | simp)) | (simp [*]; done)), H', ⟨by have := HK1.out; have := HJ6.out; have := HJ19.out; have := HJ25.out; omega⟩, ⟨by (with_reducible repeat (first | apply Kd.R_alloc | apply Kd.R_drewN | apply Kd.R_drew)); exact Kd.R_mono HO259.out (fun _ hk => trivial)⟩, ⟨belG HB.out GE247.out⟩⟩
                                              · rw [if_neg c60] at H
                                                exact absurd H (by simp)
                                            · rw [if_neg c59] at H
                                              have c59b0 : ((strOfNums t254).toList == (a0.extract (x5_1 : Int).toNat ((wrap64 ((ji51) + (wrap64 (x7_6 + (wrap64 ((wrap64 (bt a0 x9_6)) * x8_6)))))) : Int).toNat).toList) = false := beq_eq_false_iff_ne.mpr c59
                                              have c59b1 : ((strOfNums t254).toList != (a0.extract (x5_1 : Int).toNat ((wrap64 ((ji51) + (wrap64 (x7_6 + (wrap64 ((wrap64 (bt a0 x9_6)) * x8_6)))))) : Int).toNat).toList) = true := bne_iff_ne.mpr c59
                                              simp only [Option.some.injEq, Prod.mk.injEq] at H
                                              obtain ⟨rfl, rfl⟩ := H
                                              have hcz68_0 : wc.cell? ⟨gb247, 0, none⟩ = some (.int .i64 (wrap64 (Int.tdiv (wrap64 (bt a0 x5_1)) 2))) := (blk_cell BK247.out 0).trans rfl
                                              have hcz68_1 : wc.cell? ⟨gb247, 1, none⟩ = some (.int .i64 (Int.tmod (wrap64 (bt a0 x5_1)) 2)) := (blk_cell BK247.out 1).trans rfl
                                              have hcz68_2 : wc.cell? ⟨gb247, 2, none⟩ = some (.int .i64 0) := (blk_cell BK247.out 2).trans rfl
                                              have hcz68_3 : wc.cell? ⟨gb247, 3, none⟩ = some (.string (⟨#[]⟩ : ByteArray)) := (blk_cell BK247.out 3).trans rfl
                                              have hfz68_0 := blk_frozen BK247.out 0
                                              have hfz68_1 := blk_frozen BK247.out 1
                                              have hfz68_2 := blk_frozen BK247.out 2
                                              have hfz68_3 := blk_frozen BK247.out 3
                                              try go_wp2
                                              have n0_ : Aside0 (Kd.R k84 84 (wc.setCell ⟨gb247, 3, none⟩ (.string (a0.extract ((ji51) : Int).toNat ((wrap64 ((ji51) + (wrap64 (x7_6 + (wrap64 ((wrap64 (bt a0 x9_6)) * x8_6)))))) : Int).toNat))) w.heap.size (fun k_ => k_ ≠ gb247) u4 x4_1) := ⟨by (with_reducible repeat (first | apply Kd.R_alloc | apply Kd.R_drewN | apply Kd.R_drew)); exact Kd.R_mono (Kd.R_far (p := ⟨gb247, 3, none⟩) (Kd.R_mono HO_4.out (fun k_ hk => (⟨hk, hk⟩ : _ ∧ k_ ≠ gb247))) (fun _ hk => hk.2) (.string (a0.extract ((ji51) : Int).toNat ((wrap64 ((ji51) + (wrap64 (x7_6 + (wrap64 ((wrap64 (bt a0 x9_6)) * x8_6)))))) : Int).toNat))) (fun _ hk => hk.1)⟩
                                              have n1_ : Aside0 ((wc.setCell ⟨gb247, 3, none⟩ (.string (a0.extract ((ji51) : Int).toNat ((wrap64 ((ji51) + (wrap64 (x7_6 + (wrap64 ((wrap64 (bt a0 x9_6)) * x8_6)))))) : Int).toNat))).heap[gb247]? = some (.cells #[.int .i64 (wrap64 (Int.tdiv (wrap64 (bt a0 x5_1)) 2)), .int .i64 (Int.tmod (wrap64 (bt a0 x5_1)) 2), .int .i64 0, .string (a0.extract ((ji51) : Int).toNat ((wrap64 ((ji51) + (wrap64 (x7_6 + (wrap64 ((wrap64 (bt a0 x9_6)) * x8_6)))))) : Int).toNat)] 84 (0, 0))) := ⟨blkP BK247.out (by rfl)⟩
                                              have n2_ : Aside0 (Below w.heap.size w (wc.setCell ⟨gb247, 3, none⟩ (.string (a0.extract ((ji51) : Int).toNat ((wrap64 ((ji51) + (wrap64 (x7_6 + (wrap64 ((wrap64 (bt a0 x9_6)) * x8_6)))))) : Int).toNat)))) := ⟨belG HB.out GE247.out⟩
                                              (try clear HO_4)
                                              (try clear BK247)
                                              (try clear HB)
                                              generalize (wc.setCell ⟨gb247, 3, none⟩ (.string (a0.extract ((ji51) : Int).toNat ((wrap64 ((ji51) + (wrap64 (x7_6 + (wrap64 ((wrap64 (bt a0 x9_6)) * x8_6)))))) : Int).toNat))) = w69 at n0_ n1_ n2_ ⊢
                                              have HO_4 := n0_
                                              have BK247 := n1_
                                              have HB := n2_
                                              clear n0_ n1_ n2_
                                              have n0_ := Aside0.mk (Kd.R_drew HO_4.out)
                                              have n1_ := Aside0.mk (blk_drew BK247.out)
                                              have n2_ := Aside0.mk (below_drew1 HB.out)
                                              clear HO_4
                                              clear BK247
                                              clear HB
                                              have HO_4 := n0_
                                              have BK247 := n1_
                                              have HB := n2_
                                              clear n0_ n1_ n2_
                                              refine start_ (n := 8) (S := fun w' => w'.cell? ⟨gb247, 0, none⟩ = some (.int .i64 (wrap64 (Int.tdiv (wrap64 (bt a0 x5_1)) 2))) ∧ w'.cell? ⟨gb247, 1, none⟩ = some (.int .i64 (Int.tmod (wrap64 (bt a0 x5_1)) 2)) ∧ w'.cell? ⟨gb247, 2, none⟩ = some (.int .i64 0) ∧ w'.cell? ⟨gb247, 3, none⟩ = some (.string (a0.extract ((ji51) : Int).toNat ((wrap64 ((ji51) + (wrap64 (x7_6 + (wrap64 ((wrap64 (bt a0 x9_6)) * x8_6)))))) : Int).toNat))) (ds := []) #[false, false, false, false, false, false, false, false] (by kernel_rfl) rfl rfl ⟨(blk_cell BK247.out 0).trans rfl, (blk_cell BK247.out 1).trans rfl, (blk_cell BK247.out 2).trans rfl, (blk_cell BK247.out 3).trans rfl⟩ (fun hHeld => ?_); refine with_tabW aquiferref04_Decode.tab24 aquiferref04_Decode.bits24 (fun HT_ HW_ => ?_)
                                              generalize w69.drew = w70 at HO_4 BK247 HB hHeld ⊢
                                              refine pure_ (i := 3) (N := some 114) (v := ?_) (a' := ?_) #[false, false, false, true, false, false, false, false] rfl rfl (any_of HT_.out (by kernel_rfl)) (fun _ _ _ h => h) (Or.inl ⟨by rfl, ?_⟩) ?_ ?_
                                              rotate_left
                                              · intro w'
                                                go_simp
                                                with_reducible rfl
                                              rotate_left
                                              · simp only [Act.put, List.setIfInBounds_toArray, List.set_cons_zero, List.set_cons_succ, i64_w, i32_w]
                                                rfl
                                              refine pure_ (i := 4) (N := some 115) (v := ?_) (a' := ?_) #[false, false, false, true, true, false, false, false] rfl rfl (any_of HT_.out (by kernel_rfl)) (fun _ _ _ h => h) (Or.inl ⟨by rfl, ?_⟩) ?_ ?_
                                              rotate_left
                                              · intro w'
                                                go_simp
                                                with_reducible rfl
                                              rotate_left
                                              · simp only [Act.put, List.setIfInBounds_toArray, List.set_cons_zero, List.set_cons_succ, i64_w, i32_w]
                                                rfl
                                              refine pure_ (i := 5) (N := some 116) (v := ?_) (a' := ?_) #[false, false, false, true, true, true, false, false] rfl rfl (any_of HT_.out (by kernel_rfl)) (fun _ _ _ h => h) (Or.inl ⟨by rfl, ?_⟩) ?_ ?_
                                              rotate_left
                                              · intro w'
                                                go_simp
                                                with_reducible rfl
                                              rotate_left
                                              · simp only [Act.put, List.setIfInBounds_toArray, List.set_cons_zero, List.set_cons_succ, i64_w, i32_w]
                                                rfl
                                              refine pure_ (i := 6) (N := some 117) (v := ?_) (a' := ?_) #[false, false, false, true, true, true, true, false] rfl rfl (any_of HT_.out (by kernel_rfl)) (fun _ _ _ h => h) (Or.inl ⟨by rfl, ?_⟩) ?_ ?_
                                              rotate_left
                                              · intro w'
                                                go_simp
                                                with_reducible rfl
                                              rotate_left
                                              · simp only [Act.put, List.setIfInBounds_toArray, List.set_cons_zero, List.set_cons_succ, i64_w, i32_w]
                                                rfl
                                              refine take_ (i := 0) (N := some 111) (v := ?_) (a' := ?_) #[true, false, false, true, true, true, true, false] rfl rfl (take_ofW HT_.out HW_.out (by kernel_rfl)) (fun _ _ _ h => h) (Or.inl ⟨by rfl, ?_⟩) hHeld ?_ ?_
                                              rotate_left
                                              · rintro w' ⟨s0, s1, s2, s3⟩
                                                go_simp
                                                with_reducible rfl
                                              rotate_left
                                              · simp only [Act.put, List.setIfInBounds_toArray, List.set_cons_zero, List.set_cons_succ, i64_w, i32_w]
                                                rfl
                                              refine one_ (i := 1) (N := some 112) #[true, true, false, true, true, true, true, false] rfl rfl (one_of HT_.out (by kernel_rfl)) (by decide) (fun K hK => ?_)
                                              refine goes_ Try.func55 (by kernel_rfl) rfl #[.agg #[.int .i64 (wrap64 (Int.tdiv (wrap64 (bt a0 x5_1)) 2)), .int .i64 (Int.tmod (wrap64 (bt a0 x5_1)) 2), .int .i64 0, .string (a0.extract ((ji51) : Int).toNat ((wrap64 ((ji51) + (wrap64 (x7_6 + (wrap64 ((wrap64 (bt a0 x9_6)) * x8_6)))))) : Int).toNat)]] (by rfl) rfl rfl (by (try simp only [List.map_toArray, List.map_cons, List.map_nil]); first | done | (simp only [hji51]; rfl) | rfl | (simp only [List.length_drop, List.length_take]; rfl)) ?_
                                              with_reducible refine (aquiferref04_bytes.calls kj25 (wrap64 (Int.tdiv (wrap64 (bt a0 x5_1)) 2)) (Int.tmod (wrap64 (bt a0 x5_1)) 2) 0 (a0.extract ((ji51) : Int).toNat ((wrap64 ((ji51) + (wrap64 (x7_6 + (wrap64 ((wrap64 (bt a0 x9_6)) * x8_6)))))) : Int).toNat) t254 _ A55.out).mono ?_
                                              rintro e w71 ⟨v255, rfl, ho0, hb⟩
                                              refine ⟨_, rfl, ?_⟩
                                              have n0_ := Aside0.mk (Kd.R_below (RU HO_4.out) hb)
                                              have n1_ := Aside0.mk (Kd.R_lower ho0 (sizG HB.out GE247.out))
                                              have n2_ := Aside0.mk (blk_below (blkU BK247.out) hb)
                                              have n3_ := Aside0.mk (below_step (belG HB.out GE247.out) hb)
                                              clear HO_4
                                              clear BK247
                                              clear HB
                                              have HO_4 := n0_
                                              have HO256 := n1_
                                              have BK247 := n2_
                                              have HB := n3_
                                              clear n0_ n1_ n2_ n3_
                                              (try clear hb)
                                              (try clear hb2)
                                              (try clear hk)
                                              (try clear hi)
                                              (try clear ho0)
                                              refine hK.out _ _ ⟨(blk_cell BK247.out 0).trans rfl, (blk_cell BK247.out 1).trans rfl, (blk_cell BK247.out 2).trans rfl, (blk_cell BK247.out 3).trans rfl⟩ (fun hHeld => ?_)
                                              clear hK K
                                              refine norm_ (a' := ?_) ?_ ?_
                                              rotate_left
                                              · show Act.put _ (some 112) _ = _
                                                simp only [Act.put, List.setIfInBounds_toArray, List.set_cons_zero, List.set_cons_succ, i64_w, i32_w]
                                                rfl
                                              refine one_ (i := 2) (N := some 113) #[true, true, true, true, true, true, true, false] rfl rfl (one_of HT_.out (by kernel_rfl)) (by decide) (fun K hK => ?_)
                                              have hcv72 := own_string (P := Try.prog) Try.underlying38 Try.underlying5 Try.underlying9 (Kd.own_of_R HO256.out)
                                              refine value_ (w1 := ?_) (v := ?_) (by rfl) rfl ?_ ?_
                                              rotate_left 2
                                              · go_simp
                                                constructor
                                                · rfl
                                                · rfl
                                              clear hcv72
                                              refine hK.out _ _ ⟨(blk_cell BK247.out 0).trans rfl, (blk_cell BK247.out 1).trans rfl, (blk_cell BK247.out 2).trans rfl, (blk_cell BK247.out 3).trans rfl⟩ (fun hHeld => ?_)
                                              clear hK K
                                              refine norm_ (a' := ?_) ?_ ?_
                                              rotate_left
                                              · show Act.put _ (some 113) _ = _
                                                simp only [Act.put, List.setIfInBounds_toArray, List.set_cons_zero, List.set_cons_succ, i64_w, i32_w]
                                                rfl
                                              refine pure_ (i := 7) (N := some 118) (v := ?_) (a' := ?_) #[true, true, true, true, true, true, true, true] rfl rfl (any_of HT_.out (by kernel_rfl)) (fun _ _ _ h => h) (Or.inl ⟨by rfl, ?_⟩) ?_ ?_
                                              rotate_left
                                              · intro w'
                                                go_simp
                                                with_reducible rfl
                                              rotate_left
                                              · simp only [Act.put, List.setIfInBounds_toArray, List.set_cons_zero, List.set_cons_succ, i64_w, i32_w]
                                                rfl
                                              refine done_ (done_of HT_.out (by kernel_rfl)) ?_
                                              try go_wp2
                                              go_ret2
                                              exact ⟨_, by first | rfl | (simp [errW_none, errW_some] <;> rfl) | (simp only [← hji51]; first | rfl | (simp [errW_none, errW_some] <;> rfl)) | (simp [*, errW_none, errW_some] <;> rfl), by first | exact Kd.R_nil _ _ _ _ _ | exact Kd.N_nil _ _ _ _ _ | exact Kd.V_nil _ _ _ _ _ | exact Kd.Q_nil _ _ _ _ _ | exact Kd.S_nil _ _ _ _ _, belG HB.out GE247.out⟩
                                          · rw [if_neg c57] at H
                                            exact absurd H (by simp)
                                        · rw [if_neg c56] at H
                                          exact absurd H (by simp)
                                      · rw [if_neg c54] at H
                                        exact absurd H (by simp)
                                    · rw [if_neg c53] at H
                                      exact absurd H (by simp)
                                  · rw [if_neg c52] at H
                                    exact absurd H (by simp)
                        · rw [if_neg c24] at H
                          exact absurd H (by simp)
                      · rw [if_neg c23] at H
                        exact absurd H (by simp)
          · rw [if_neg c4] at H
            exact absurd H (by simp)
        · rw [if_neg c3] at H
          have c3b0 : decide (x5_1 < (a0.size : Int)) = false := decide_eq_false c3
          clear c3
          replace H := Option.bind_eq_some_iff.mp H
          obtain ⟨⟨t245, t246⟩, A730, H⟩ := H
          replace H : (if t246 = 0 then (if t245.toList = a0.toList then (some (x4_1, 0)) else (some (([] : List (S84)), 5))) else (some (([] : List (S84)), 5))) = some (r1, r2) := H
          have A73 := Aside0.mk A730
          clear A730
          by_cases c74 : t246 = 0
          · rw [if_pos c74] at H
            have c74b0 : (t246 == 0) = true := beq_iff_eq.mpr c74
            have c74b1 : (t246 != 0) = false := bne_eq_false_iff_eq.mpr c74
            clear c74
            by_cases c75 : t245.toList = a0.toList
            · rw [if_pos c75] at H
              have c75b0 : (t245.toList == a0.toList) = true := beq_iff_eq.mpr c75
              have c75b1 : (t245.toList != a0.toList) = false := bne_eq_false_iff_eq.mpr c75
              clear c75
              simp only [Option.some.injEq, Prod.mk.injEq] at H
              obtain ⟨rfl, rfl⟩ := H
              obtain ⟨Ao76, co76, eo76⟩ := Kd.R_slice HO_4.out
              subst eo76
              go_wp2_with (first | ((with_reducible refine gate_callee (f := 31) rfl ?_); refine goesL_ (some 126) rfl rfl Try.func31 (by kernel_rfl) rfl #[.slice Ao76 x4_1.length co76] rfl (by (try simp only [List.map_toArray, List.map_cons, List.map_nil]); first | done | rfl | (simp only [List.length_drop, List.length_take]; rfl)) ?_; (with_reducible refine (aquiferref04_Encode.calls k1 _ _ x4_1 t245 t246 _ ?side1 ?side2 A73.out).mono ?_); (case side1 => exact CU (Kd.R_reads' HO_4.out).2.2); (case side2 => exact (Kd.R_reads' HO_4.out).2.1); rintro e w77 ⟨rfl, hb⟩; refine ⟨_, rfl, ?_⟩; have n0_ := Aside0.mk (Kd.R_below (RU HO_4.out) hb); have n1_ := Aside0.mk (below_step (belU HB.out) hb); clear HO_4; clear HB; have HO_4 := n0_; have HB := n1_; clear n0_ n1_; (try clear hb); (try clear hb2); (try clear hk); (try clear hi)))
              go_ret2
              exact ⟨_, by first | rfl | (simp [errW_none, errW_some] <;> rfl) | (simp [*, errW_none, errW_some] <;> rfl), by (with_reducible repeat (first | apply Kd.R_alloc | apply Kd.R_drewN | apply Kd.R_drew)); exact HO_4.out, belU HB.out⟩
            · rw [if_neg c75] at H
              have c75b0 : (t245.toList == a0.toList) = false := beq_eq_false_iff_ne.mpr c75
              have c75b1 : (t245.toList != a0.toList) = true := bne_iff_ne.mpr c75
              simp only [Option.some.injEq, Prod.mk.injEq] at H
              obtain ⟨rfl, rfl⟩ := H
              obtain ⟨Ao78, co78, eo78⟩ := Kd.R_slice HO_4.out
              subst eo78
              go_wp2_with (first | ((with_reducible refine gate_callee (f := 31) rfl ?_); refine goesL_ (some 126) rfl rfl Try.func31 (by kernel_rfl) rfl #[.slice Ao78 x4_1.length co78] rfl (by (try simp only [List.map_toArray, List.map_cons, List.map_nil]); first | done | rfl | (simp only [List.length_drop, List.length_take]; rfl)) ?_; (with_reducible refine (aquiferref04_Encode.calls k1 _ _ x4_1 t245 t246 _ ?side1 ?side2 A73.out).mono ?_); (case side1 => exact CU (Kd.R_reads' HO_4.out).2.2); (case side2 => exact (Kd.R_reads' HO_4.out).2.1); rintro e w79 ⟨rfl, hb⟩; refine ⟨_, rfl, ?_⟩; have n0_ := Aside0.mk (Kd.R_below (RU HO_4.out) hb); have n1_ := Aside0.mk (below_step (belU HB.out) hb); clear HO_4; clear HB; have HO_4 := n0_; have HB := n1_; clear n0_ n1_; (try clear hb); (try clear hb2); (try clear hk); (try clear hi)))
              go_ret2
              exact ⟨_, by first | rfl | (simp [errW_none, errW_some] <;> rfl) | (simp [*, errW_none, errW_some] <;> rfl), by first | exact Kd.R_nil _ _ _ _ _ | exact Kd.N_nil _ _ _ _ _ | exact Kd.V_nil _ _ _ _ _ | exact Kd.Q_nil _ _ _ _ _ | exact Kd.S_nil _ _ _ _ _, belU HB.out⟩
          · rw [if_neg c74] at H
            have c74b0 : (t246 == 0) = false := beq_eq_false_iff_ne.mpr c74
            have c74b1 : (t246 != 0) = true := bne_iff_ne.mpr c74
            simp only [Option.some.injEq, Prod.mk.injEq] at H
            obtain ⟨rfl, rfl⟩ := H
            obtain ⟨Ao80, co80, eo80⟩ := Kd.R_slice HO_4.out
            subst eo80
            go_wp2_with (first | ((with_reducible refine gate_callee (f := 31) rfl ?_); refine goesL_ (some 126) rfl rfl Try.func31 (by kernel_rfl) rfl #[.slice Ao80 x4_1.length co80] rfl (by (try simp only [List.map_toArray, List.map_cons, List.map_nil]); first | done | rfl | (simp only [List.length_drop, List.length_take]; rfl)) ?_; (with_reducible refine (aquiferref04_Encode.calls k1 _ _ x4_1 t245 t246 _ ?side1 ?side2 A73.out).mono ?_); (case side1 => exact CU (Kd.R_reads' HO_4.out).2.2); (case side2 => exact (Kd.R_reads' HO_4.out).2.1); rintro e w81 ⟨rfl, hb⟩; refine ⟨_, rfl, ?_⟩; have n0_ := Aside0.mk (Kd.R_below (RU HO_4.out) hb); have n1_ := Aside0.mk (below_step (belU HB.out) hb); clear HO_4; clear HB; have HO_4 := n0_; have HB := n1_; clear n0_ n1_; (try clear hb); (try clear hb2); (try clear hk); (try clear hi)))
            go_ret2
            exact ⟨_, by first | rfl | (simp [errW_none, errW_some] <;> rfl) | (simp [*, errW_none, errW_some] <;> rfl), by first | exact Kd.R_nil _ _ _ _ _ | exact Kd.N_nil _ _ _ _ _ | exact Kd.V_nil _ _ _ _ _ | exact Kd.Q_nil _ _ _ _ _ | exact Kd.S_nil _ _ _ _ _, belU HB.out⟩

end Go.Proofs.Ytjaneipklpgnlaa.Q

namespace Go.Proofs.Ytjaneipklpgnlaa.Q
open Go Go.RowKit Go.Proofs.YtjaneipklpgnlaaW.PrintWords Go.Proofs.YtjaneipklpgnlaaW.PrintLast Go.Proofs.YtjaneipklpgnlaaW.PrintMore
set_option linter.unusedSimpArgs false
set_option linter.unusedVariables false
/-! ### The reference's reading, on lists -/
def refN : Nat → Int → Int → List UInt8 → Option (Int × List UInt8)
  | 0, _, _, _ => none
  | _ + 1, _, _, [] => none
  | f + 1, w, n, c :: t => if c.toNat < 128 then some (n + (c.toNat : Int) * w, t) else refN f (w * 128) (n + ((c.toNat - 128 : Nat) : Int) * w) t
def refD (s : ByteArray) : Nat → List S84 → List UInt8 → List S84 × Int
  | 0, _, _ => ([], 5)
  | _ + 1, out, [] => if (encGo out 0 []).2 = 0 ∧ (encGo out 0 []).1.toList = s.toList then (out, 0) else ([], 5)
  | m + 1, out, c :: t => match refN 9 1 0 t with
    | none => ([], 5)
    | some (v, u) => if c.toNat % 2 = 0 then (if t = u8 (numB v.toNat) ++ u then refD s m (out ++ [⟨(c.toNat / 2 : Nat), (c.toNat % 2 : Nat), v, mkS []⟩]) u else ([], 5))
      else if v > (u.length : Int) then ([], 5)
      else if t = u8 (numB v.toNat) ++ u then refD s m (out ++ [⟨(c.toNat / 2 : Nat), (c.toNat % 2 : Nat), 0, mkS (u.take v.toNat)⟩]) (u.drop v.toNat) else ([], 5)
theorem refN_pre (f : Nat) : ∀ (w n v : Int) (l u : List UInt8), refN f w n l = some (v, u) → 0 ≤ n → 0 ≤ w → ∃ pre, l = pre ++ u ∧ 1 ≤ pre.length ∧ n ≤ v := by
  induction f with
  | zero => intro w n v l u h; cases h
  | succ f ih =>
    intro w n v l u h hn hp
    cases l with
    | nil => cases h
    | cons c t =>
      unfold refN at h
      by_cases hc : c.toNat < 128
      · rw [if_pos hc] at h
        injection h with h
        injection h with h1 h2
        have := Int.mul_nonneg (Int.natCast_nonneg c.toNat) hp
        exact ⟨[c], by rw [h2]; rfl, Nat.le_refl _, by omega⟩
      · rw [if_neg hc] at h
        have h0 := Int.mul_nonneg (Int.natCast_nonneg (c.toNat - 128)) hp
        obtain ⟨pre, hl, _, hv⟩ := ih _ _ _ _ _ h (by omega) (by omega)
        exact ⟨c :: pre, by rw [hl]; rfl, by simp, by omega⟩
theorem refN_lt (f : Nat) : ∀ (w n v : Int) (l u : List UInt8), refN f w n l = some (v, u) → 0 ≤ w → n < w → v < w * 128 ^ f := by
  induction f with
  | zero => intro w n v l u h; cases h
  | succ f ih =>
    intro w n v l u h hp hn
    cases l with
    | nil => cases h
    | cons c t =>
      have hcl := c.toNat_lt
      have hstep : ∀ a : Nat, a < 128 → n + (a : Int) * w < w * 128 := by
        intro a ha
        have : (a : Int) * w ≤ 127 * w := Int.mul_le_mul_of_nonneg_right (by omega) (by omega)
        omega
      have hpw : w * 128 * 128 ^ f = w * 128 ^ (f + 1) := by rw [Int.pow_succ, Int.mul_assoc, Int.mul_comm 128]
      unfold refN at h
      by_cases hc : c.toNat < 128
      · rw [if_pos hc] at h
        injection h with h
        injection h with h1 _
        rw [← h1, ← hpw]
        have h1 : (1 : Int) ≤ 128 ^ f := Int.pow_pos (by decide)
        have h3 : w * 128 * 1 ≤ w * 128 * 128 ^ f := Int.mul_le_mul_of_nonneg_left h1 (by omega)
        have h4 := hstep _ hc
        omega
      · rw [if_neg hc] at h
        have := ih _ _ _ _ _ h (by omega) (hstep _ (by omega))
        rw [hpw] at this
        exact this
theorem refN_num (j : Nat) : ∀ (m : Nat) (w acc : Int) (t : List UInt8) (f : Nat), m < 128 ^ (j + 1) → j < f → refN f w acc (u8 (numBf j m) ++ t) = some (acc + (m : Int) * w, t) := by
  induction j with
  | zero =>
    intro m w acc t f hm hf
    obtain ⟨f, rfl⟩ : ∃ g, f = g + 1 := ⟨f - 1, by omega⟩
    simp at hm
    have e : u8 (numBf 0 m) ++ t = UInt8.ofNat m :: t := rfl
    rw [e]
    unfold refN
    rw [u8_of m (by omega), if_pos hm]
  | succ j ih =>
    intro m w acc t f hm hf
    obtain ⟨f, rfl⟩ : ∃ g, f = g + 1 := ⟨f - 1, by omega⟩
    by_cases c : m < 128
    · have e : u8 (numBf (j + 1) m) ++ t = UInt8.ofNat m :: t := by
        unfold numBf
        rw [if_pos c]
        rfl
      rw [e]
      unfold refN
      rw [u8_of m (by omega), if_pos c]
    · have e : u8 (numBf (j + 1) m) ++ t = UInt8.ofNat (128 + m % 128) :: (u8 (numBf j (m / 128)) ++ t) := by
        conv => lhs; unfold numBf
        rw [if_neg c]
        rfl
      have hd : m / 128 < 128 ^ (j + 1) := by rw [Nat.pow_succ] at hm; exact Nat.div_lt_of_lt_mul (by rw [Nat.mul_comm]; exact hm)
      rw [e]
      unfold refN
      rw [u8_of _ (by omega), if_neg (by omega), ih (m / 128) (w * 128) _ t f hd (by omega)]
      have hval : acc + ((128 + m % 128 - 128 : Nat) : Int) * w + ((m / 128 : Nat) : Int) * (w * 128) = acc + (m : Int) * w := by
        have hm2 : (m : Int) = ((m % 128 : Nat) : Int) + 128 * ((m / 128 : Nat) : Int) := by omega
        rw [show 128 + m % 128 - 128 = m % 128 by omega, Int.add_assoc]
        congr 1
        conv => rhs; rw [hm2]
        rw [Int.add_mul]
        congr 1
        rw [Int.mul_comm w 128, ← Int.mul_assoc, Int.mul_comm _ 128]
      rw [hval]
/-- Of a record's bytes the reference makes the record. -/
theorem refD_flat (s : ByteArray) (L : List S84) : ∀ (m : Nat) (out : List S84), (∀ f ∈ L, wf f) → (flat L).length < m → refD s m out (flat L) = refD s 1 (out ++ L) [] := by
  induction L with
  | nil =>
    intro m out _ hm
    obtain ⟨m, rfl⟩ : ∃ g, m = g + 1 := ⟨m - 1, by omega⟩
    rw [List.append_nil]
    rfl
  | cons f l ih =>
    intro m out hw hm
    obtain ⟨m, rfl⟩ : ∃ g, m = g + 1 := ⟨m - 1, by omega⟩
    obtain ⟨hb, hs⟩ := hw f List.mem_cons_self
    obtain ⟨h1, h2, h3⟩ := (bad_iff f).1 hb
    have hrest := fun m' out' hm' => ih m' out' (fun x hx => hw x (List.mem_cons_of_mem _ hx)) hm'
    have e0 : out ++ f :: l = (out ++ [f]) ++ l := by simp
    have hln : (flat l).length < m := by
      obtain ⟨c, t, hc⟩ := fldU_ne f
      rw [flat_cons, hc] at hm
      simp at hm
      omega
    rw [e0, ← hrest m (out ++ [f]) hln]
    obtain ⟨tg, kd, n, x⟩ := f
    simp only at h1 h2 h3 hs
    rcases h3 with ⟨rfl, hs0, hn0, hn1⟩ | ⟨rfl, rfl⟩
    · obtain ⟨q, rfl⟩ := Int.eq_ofNat_of_zero_le hn0
      obtain rfl := toList_mk hs0
      have e : flat ((⟨tg, 0, (q : Int), mkS []⟩ : S84) :: l) = UInt8.ofNat (2 * tg + 0).toNat :: (u8 (numB q) ++ flat l) := by
        rw [flat_cons]
        simp only [fldU, fldB, u8_cons, List.cons_append, Int.toNat_natCast, if_pos]
      have hc : (UInt8.ofNat (2 * tg + 0).toNat).toNat = (2 * tg + 0).toNat := u8_of _ (by omega)
      have hnum : refN 9 1 0 (u8 (numB q) ++ flat l) = some ((q : Int), flat l) := by
        unfold numB
        rw [numBf_more 8 q (lt128' q (by omega)), refN_num 8 q 1 0 (flat l) 9 (lt128' q (by omega)) (by omega)]
        simp
      rw [e, refD, hnum]
      simp only [hc, Int.toNat_natCast]
      rw [if_pos (by omega), if_pos trivial, show (2 * tg + 0).toNat / 2 = tg.toNat by omega, show (2 * tg + 0).toNat % 2 = 0 by omega, show ((tg.toNat : Nat) : Int) = tg by omega]
      rfl
    · have hsl : x.data.toList.length = x.size := by simp
      have e : flat ((⟨tg, 1, 0, x⟩ : S84) :: l) = UInt8.ofNat (2 * tg + 1).toNat :: (u8 (numB x.size) ++ (x.data.toList ++ flat l)) := by
        rw [flat_cons]
        unfold fldU fldB
        rw [if_neg (show ¬ (1 : Int) = 0 by decide), u8_cons, u8_append, u8_bytes, List.cons_append, List.append_assoc]
      have hc : (UInt8.ofNat (2 * tg + 1).toNat).toNat = (2 * tg + 1).toNat := u8_of _ (by omega)
      have hnum : refN 9 1 0 (u8 (numB x.size) ++ (x.data.toList ++ flat l)) = some ((x.size : Int), x.data.toList ++ flat l) := by
        unfold numB
        rw [numBf_more 8 x.size (lt128' _ (by omega)), refN_num 8 x.size 1 0 _ 9 (lt128' _ (by omega)) (by omega)]
        simp
      rw [e, refD, hnum]
      simp only [hc, Int.toNat_natCast]
      rw [if_neg (by omega), if_neg (by rw [List.length_append, hsl]; omega), if_pos trivial, show (2 * tg + 1).toNat / 2 = tg.toNat by omega, show (2 * tg + 1).toNat % 2 = 1 by omega, show ((tg.toNat : Nat) : Int) = tg by omega,
        ← hsl, List.take_left, List.drop_left, mkS_data]
      rfl
theorem refD_end (s : ByteArray) (out : List S84) : refD s 1 out [] = if (encGo out 0 []).2 = 0 ∧ (encGo out 0 []).1.toList = s.toList then (out, 0) else ([], 5) := rfl
theorem toList_inj {a b : ByteArray} (h : a.toList = b.toList) : a = b := by
  rw [ByteArray.toList_eq, ByteArray.toList_eq] at h
  rw [← mkS_data a, ← mkS_data b, h]
theorem refD_cases (s : ByteArray) (m : Nat) : ∀ (out : List S84) (l : List UInt8), refD s m out l = ([], 5) ∨ ∃ M, refD s m out l = (M, 0) ∧ encGo M 0 [] = (s, 0) := by
  induction m with
  | zero => intro out l; exact .inl rfl
  | succ m ih =>
    intro out l
    cases l with
    | nil =>
      show (if (encGo out 0 []).2 = 0 ∧ (encGo out 0 []).1.toList = s.toList then (out, (0 : Int)) else ([], 5)) = _ ∨ ∃ M, (if (encGo out 0 []).2 = 0 ∧ (encGo out 0 []).1.toList = s.toList then (out, (0 : Int)) else ([], 5)) = _ ∧ _
      by_cases h : (encGo out 0 []).2 = 0 ∧ (encGo out 0 []).1.toList = s.toList
      · rw [if_pos h]
        exact .inr ⟨out, rfl, Prod.ext (toList_inj h.2) h.1⟩
      · rw [if_neg h]
        exact .inl rfl
    | cons c t =>
      rw [refD]
      cases refN 9 1 0 t with
      | none => exact .inl rfl
      | some p =>
        obtain ⟨v, u⟩ := p
        simp only
        split
        · split
          · exact ih _ _
          · exact .inl rfl
        · split
          · exact .inl rfl
          · split
            · exact ih _ _
            · exact .inl rfl
theorem refD_dec (s : ByteArray) (hs : s.size ≤ 65536) (m : Nat) (hm : s.size < m) : refD s m [] s.data.toList = decS s := by
  have hsl : s.data.toList.length = s.size := by simp
  rcases refD_cases s m [] s.data.toList with h | ⟨M, h, he⟩
  · rcases decS_total s with h0 | h0
    · obtain ⟨M, e, hd⟩ : ∃ M e, decS s = (M, e) := ⟨_, _, rfl⟩
      rw [hd] at h0
      simp only at h0
      subst h0
      obtain ⟨hv, hl, hM⟩ := (decS_iff s M).1 hd
      have hfl : s.data.toList = flat M := by rw [hM, data_mkS]
      have he := (dec_enc M s).1 hd
      rw [hfl, refD_flat s M m [] (valid_wf hv) (by rw [← hfl]; omega), List.nil_append, refD_end, he, if_pos ⟨rfl, rfl⟩] at h
      injection h with _ h
      cases h
    · rw [h, h0]
  · rw [h, (dec_enc M s).2 he]
end Go.Proofs.Ytjaneipklpgnlaa.Q

namespace Go.Proofs.Ytjaneipklpgnlaa.Q
open Go Go.RowKit Go.Proofs.YtjaneipklpgnlaaW.PrintWords Go.Proofs.YtjaneipklpgnlaaW.PrintLast Go.Proofs.YtjaneipklpgnlaaW.PrintMore
set_option linter.unusedSimpArgs false
set_option linter.unusedVariables false
theorem wrap_id (x : Int) (h0 : -9223372036854775808 ≤ x) (h1 : x < 9223372036854775808) : wrap64 x = x := by unfold wrap64; omega
theorem bt_nat (s : ByteArray) (i : Nat) (h : i < s.data.toList.length) : bt s (i : Int) = ((s.data.toList[i]).toNat : Int) := by
  have h' : i < s.size := by simpa using h
  unfold bt
  rw [dif_pos (by simpa using h')]
  simp only [Int.toNat_natCast, Array.getElem_toList]
  rfl
theorem drop_cons (l : List UInt8) (i : Nat) (h : i < l.length) : l.drop i = l[i] :: l.drop (i + 1) := List.drop_eq_getElem_cons h
theorem number_ok' (j : Nat) : ∀ (n : Nat) (k : Nat), n < 128 ^ (j + 1) → n < 9223372036854775808 → j < 20 → j < k → aquiferref04_number.f k (n : Int) = some (numBf j n) := by
  induction j with
  | zero =>
    intro n k hn h63 hj hk
    obtain ⟨k, rfl⟩ : ∃ m, k = m + 1 := ⟨k - 1, by omega⟩
    simp at hn
    simp only [aquiferref04_number.f, numBf]
    rw [if_pos (by omega), Int.emod_eq_of_lt (by omega) (by omega)]
  | succ j ih =>
    intro n k hn h63 hj hk
    obtain ⟨k, rfl⟩ : ∃ m, k = m + 1 := ⟨k - 1, by omega⟩
    simp only [aquiferref04_number.f, numBf]
    by_cases c : n < 128
    · rw [if_pos (by omega), if_pos c, Int.emod_eq_of_lt (by omega) (by omega)]
    · have e1 : (wrap64 (128 + (n : Int).tmod 128)) % 256 = ((128 + n % 128 : Nat) : Int) := by
        rw [Int.tmod_eq_emod_of_nonneg (by omega)]
        unfold wrap64
        omega
      have e2 : wrap64 ((n : Int).tdiv 128) = ((n / 128 : Nat) : Int) := by
        rw [Int.tdiv_eq_ediv_of_nonneg (by omega)]
        unfold wrap64
        omega
      have hl := numBf_len j (n / 128)
      rw [if_neg (by omega), if_neg c, e1, e2, Option.bind_some, ih (n / 128) k (by rw [Nat.pow_succ] at hn; exact Nat.div_lt_of_lt_mul (by rw [Nat.mul_comm]; exact hn)) (by omega) (by omega) (by omega), Option.bind_some, if_pos (by simp; omega)]
      rfl
theorem number_gen (k : Nat) (hk : 10 ≤ k) (n : Nat) (hn : n < 9223372036854775808) : aquiferref04_number.f k (n : Int) = some (numB n) :=
  number_ok' 9 n k (by rw [p128]; omega) hn (by omega) (by omega)
theorem bytes_gen (k : Nat) (hk : 10 ≤ k) (c : UInt8) (n : Int) (x : ByteArray) (h0 : 0 ≤ n) (hn : n < 9223372036854775808) (hx : x.size ≤ 65536) :
    aquiferref04_bytes.f k ((c.toNat / 2 : Nat) : Int) ((c.toNat % 2 : Nat) : Int) n x = some ((c.toNat : Int) :: (if ((c.toNat % 2 : Nat) : Int) = 0 then numB n.toNat else numB x.size ++ bytesOf x)) := by
  have hc := c.toNat_lt
  obtain ⟨m, rfl⟩ := Int.eq_ofNat_of_zero_le h0
  have hb : (wrap64 ((wrap64 (2 * ((c.toNat / 2 : Nat) : Int))) + ((c.toNat % 2 : Nat) : Int))) % 256 = (c.toNat : Int) := by
    rw [wrap_id (2 * ((c.toNat / 2 : Nat) : Int)) (by omega) (by omega), wrap_id _ (by omega) (by omega)]
    omega
  have h1 := numB_len m
  have h2 := numB_len x.size
  unfold aquiferref04_bytes.f
  rw [hb, Option.bind_some]
  by_cases e : ((c.toNat % 2 : Nat) : Int) = 0
  · rw [if_pos e, if_pos e, number_gen k hk m (by omega), Option.bind_some, if_pos (by simp; omega)]
    rfl
  · rw [if_neg e, if_neg e, number_gen k hk x.size (by omega), Option.bind_some, if_pos (by simp; omega), Option.bind_some, if_pos (by simp; omega)]
    rfl
/-- How great a byte's weight may be, so many bytes ahead of the last one. -/
def bnd : Nat → Int
  | 0 => 9223372036854775808
  | f + 1 => bnd f / 128
theorem bnd_le (f : Nat) : 0 ≤ bnd f ∧ bnd (f + 1) ≤ 72057594037927936 := by
  induction f with
  | zero => exact ⟨by decide, by decide⟩
  | succ f ih =>
    obtain ⟨h1, h2⟩ := ih
    have h3 : bnd (f + 1) = bnd f / 128 := rfl
    have h4 : bnd (f + 1 + 1) = bnd (f + 1) / 128 := rfl
    omega
theorem byte_mul (a : Nat) (w : Int) (ha : a < 128) (hw : 0 ≤ w) (hw2 : w ≤ 72057594037927936) : 0 ≤ (a : Int) * w ∧ (a : Int) * w ≤ 127 * w ∧ wrap64 ((a : Int) * w) = (a : Int) * w := by
  have h1 : (a : Int) * w ≤ 127 * w := Int.mul_le_mul_of_nonneg_right (by omega) hw
  have h2 : 0 ≤ (a : Int) * w := Int.mul_nonneg (by omega) hw
  exact ⟨h2, h1, wrap_id _ (by omega) (by omega)⟩
def jb (kd v u : Int) : Bool := if kd = 1 then decide (v > u) else false
theorem j3_true (k : Nat) (s : ByteArray) (out : List S84) (a b c d e f g : Int) (x : ByteArray) : aquiferref04_Decode.j3 (k + 1) s out a b c d true e f g x = some ([], 5) := by
  simp only [aquiferref04_Decode.j3]
  rw [if_pos trivial]
theorem j2_out (k : Nat) (s : ByteArray) (out : List S84) (a b c d e f g : Int) (x : ByteArray) (h : d ≥ (s.size : Int) ∨ wrap64 (d - a) ≥ 10) : aquiferref04_Decode.j2 (k + 2) s out a b c d e f g x = some ([], 5) := by
  simp only [aquiferref04_Decode.j2]
  by_cases h1 : d ≥ (s.size : Int)
  · rw [if_pos h1]
    exact j3_true _ _ _ _ _ _ _ _ _ _ _
  · rw [if_neg h1]
    rw [decide_eq_true (h.resolve_left h1)]
    exact j3_true _ _ _ _ _ _ _ _ _ _ _
theorem j2_in (k : Nat) (s : ByteArray) (out : List S84) (a n w e kd g : Int) (x : ByteArray) (p c : Nat) (v : Int) (hs : s.size ≤ 65536) (hp : p < s.size) (ha : wrap64 ((p : Int) - a) < 10) (hc : wrap64 (bt s (p : Int)) = (c : Int)) (hv : wrap64 (n + (wrap64 ((c : Int) * w))) = v) (hv0 : 0 ≤ v) :
    aquiferref04_Decode.j2 (k + 2) s out a n w (p : Int) e kd g x = aquiferref04_Decode.j4 k s out a v ((p + 1 : Nat) : Int) (jb kd v ((s.size - (p + 1) : Nat) : Int)) e kd g x := by
  have hwp1 : wrap64 ((p : Int) + 1) = ((p + 1 : Nat) : Int) := by rw [wrap_id _ (by omega) (by omega)]; omega
  have hws : wrap64 ((s.size : Int) - ((p + 1 : Nat) : Int)) = ((s.size - (p + 1) : Nat) : Int) := by rw [wrap_id _ (by omega) (by omega)]; omega
  simp only [aquiferref04_Decode.j2]
  rw [if_neg (by omega), decide_eq_false (by omega)]
  simp only [aquiferref04_Decode.j3]
  rw [if_neg (by decide), if_pos (by omega), if_pos (by omega), hc, hv, if_neg (by omega), hwp1, hws]
  unfold jb
  by_cases hk : kd = 1
  · rw [if_pos hk, if_pos hk]
  · rw [if_neg hk, if_neg hk]
/-- The number's loop. -/
theorem l1_ok (s : ByteArray) (hs : s.size ≤ 65536) (out : List S84) (at_ tg kd : Nat) (r : List S84 × Int) (K0 : Nat) (f : Nat) : ∀ (p : Nat) (n w w' : Int) (k : Nat), p + f = at_ + 10 → at_ < p → p ≤ s.size + 10 → (1 ≤ f → w' = w ∧ 0 < w ∧ w ≤ bnd f ∧ 0 ≤ n ∧ n < w) →
    (refN f w n (s.data.toList.drop p) = none → r = ([], 5)) →
    (∀ v u, refN f w n (s.data.toList.drop p) = some (v, u) → ∀ k', K0 ≤ k' → aquiferref04_Decode.j4 k' s out (at_ : Int) v ((s.size - u.length : Nat) : Int) (jb (kd : Int) v (u.length : Int)) (tg : Int) (kd : Int) 0 (⟨#[]⟩ : ByteArray) = some r) →
    K0 + f + 3 ≤ k → aquiferref04_Decode.l1 k s out (at_ : Int) n w' (p : Int) (tg : Int) (kd : Int) 0 (⟨#[]⟩ : ByteArray) = some r := by
  have hsl : s.data.toList.length = s.size := by simp
  induction f with
  | zero =>
    intro p n w w' k hp hat hps _ hnone _ hk
    obtain ⟨k, rfl⟩ : ∃ m, k = m + 3 := ⟨k - 3, by omega⟩
    rw [hnone rfl]
    have hw : wrap64 ((p : Int) - (at_ : Int)) = 10 := by rw [wrap_id _ (by omega) (by omega)]; omega
    have hj := j2_out k s out (at_ : Int) n w' (p : Int) (tg : Int) (kd : Int) 0 ⟨#[]⟩ (.inr (by omega))
    simp only [aquiferref04_Decode.l1]
    rw [hw, if_neg (show ¬ (10 : Int) < 10 by decide), hj]
    split <;> rfl
  | succ f ih =>
    intro p n w w' k hp hat hps hinv hnone hsome hk
    obtain ⟨k, rfl⟩ : ∃ m, k = m + 3 := ⟨k - 3, by omega⟩
    obtain ⟨rfl, hw0, hwb, hn0, hn1⟩ := hinv (by omega)
    by_cases hlt : p < s.size
    · have g1 : (p : Int) < (s.size : Int) := by omega
      have g2 : (0 : Int) ≤ (p : Int) := by omega
      have hlt' : p < s.data.toList.length := by omega
      rw [drop_cons _ _ hlt'] at hnone hsome
      have hbt := bt_nat s p hlt'
      generalize s.data.toList[p] = c at hnone hsome hbt
      have hcl := c.toNat_lt
      have hb := (bnd_le f).2
      have hwp := Aside0.mk (show wrap64 ((p : Int) - (at_ : Int)) < 10 by rw [wrap_id _ (by omega) (by omega)]; omega)
      have hwc := Aside0.mk (show wrap64 (bt s (p : Int)) = (c.toNat : Int) by rw [hbt, wrap_id _ (by omega) (by omega)])
      by_cases hc : c.toNat < 128
      · rw [refN, if_pos hc] at hsome
        have hs1 := hsome _ _ rfl
        obtain ⟨m0, m1, m2_⟩ := byte_mul c.toNat w' hc (by omega) (by omega)
        have m2 := Aside0.mk m2_
        clear m2_
        have hv := Aside0.mk (show wrap64 (n + (wrap64 ((c.toNat : Int) * w'))) = n + (c.toNat : Int) * w' by
          rw [m2.out, wrap_id _ (by omega) (by omega)])
        have hlen : (s.data.toList.drop (p + 1)).length = s.size - (p + 1) := by rw [List.length_drop, hsl]
        have hpl : s.size - (s.data.toList.drop (p + 1)).length = p + 1 := by rw [hlen]; omega
        rw [hpl, hlen] at hs1
        have hj := j2_in k s out (at_ : Int) n w' (tg : Int) (kd : Int) 0 ⟨#[]⟩ p c.toNat _ hs hlt hwp.out hwc.out hv.out (by omega)
        simp only [aquiferref04_Decode.l1]
        rw [if_pos (show (p : Int) < (s.size : Int) by omega), if_pos hwp.out, if_pos (show (0 : Int) ≤ (p : Int) by omega), if_neg (show ¬ bt s (p : Int) ≥ 128 by rw [hbt]; omega), hj]
        exact hs1 k (by omega)
      · have g3 : bt s (p : Int) ≥ 128 := by rw [hbt]; omega
        rw [refN, if_neg hc] at hnone hsome
        have hcc := Aside0.mk (show wrap64 ((wrap64 (bt s (p : Int))) - 128) = ((c.toNat - 128 : Nat) : Int) by rw [hwc.out, wrap_id _ (by omega) (by omega)]; omega)
        obtain ⟨m0, m1, m2_⟩ := byte_mul (c.toNat - 128) w' (by omega) (by omega) (by omega)
        have m2 := Aside0.mk m2_
        clear m2_
        have hv := Aside0.mk (show wrap64 (n + (wrap64 (((c.toNat - 128 : Nat) : Int) * w'))) = n + ((c.toNat - 128 : Nat) : Int) * w' by
          rw [m2.out, wrap_id _ (by omega) (by omega)])
        have hwp1 := Aside0.mk (show wrap64 ((p : Int) + 1) = ((p + 1 : Nat) : Int) by rw [wrap_id _ (by omega) (by omega)]; omega)
        simp only [aquiferref04_Decode.l1]
        rw [if_pos g1, if_pos hwp.out, if_pos g2, if_pos g3, hcc.out, hv.out, hwp1.out]
        refine ih (p + 1) _ (w' * 128) _ (k + 2) (by omega) (by omega) (by omega) ?_ hnone hsome (by omega)
        intro hf1
        have hb2 : bnd (f + 1) = bnd f / 128 := rfl
        obtain ⟨g, rfl⟩ : ∃ g, f = g + 1 := ⟨f - 1, by omega⟩
        have hb3 := (bnd_le g).2
        exact ⟨wrap_id _ (by omega) (by omega), by omega, by omega, by omega, by omega⟩
    · have hnil : s.data.toList.drop p = [] := List.drop_of_length_le (by omega)
      rw [hnil] at hnone
      rw [hnone rfl]
      have hj := j2_out k s out (at_ : Int) n w' (p : Int) (tg : Int) (kd : Int) 0 ⟨#[]⟩ (.inl (by omega))
      simp only [aquiferref04_Decode.l1]
      rw [if_neg (show ¬ (p : Int) < (s.size : Int) by omega), hj]
end Go.Proofs.Ytjaneipklpgnlaa.Q

namespace Go.Proofs.Ytjaneipklpgnlaa.Q
open Go Go.RowKit Go.Proofs.YtjaneipklpgnlaaW.PrintWords Go.Proofs.YtjaneipklpgnlaaW.PrintLast Go.Proofs.YtjaneipklpgnlaaW.PrintMore
set_option linter.unusedSimpArgs false
set_option linter.unusedVariables false
theorem extract_toList (s : ByteArray) (a b : Nat) : (s.extract a b).toList = (s.data.toList.drop a).take (b - a) := by
  rw [ByteArray.toList_eq, ByteArray.data_extract, Array.toList_extract, List.extract_eq_take_drop]
theorem extract_mkS (s : ByteArray) (a b : Nat) : s.extract a b = mkS ((s.data.toList.drop a).take (b - a)) := by
  rw [← mkS_data (s.extract a b), ← ByteArray.toList_eq, extract_toList]
theorem tag_tdiv (c : Nat) (hc : c < 256) : wrap64 (Int.tdiv (wrap64 (c : Int)) 2) = ((c / 2 : Nat) : Int) ∧ Int.tmod (wrap64 (c : Int)) 2 = ((c % 2 : Nat) : Int) := by
  rw [wrap_id (c : Int) (by omega) (by omega), Int.tdiv_eq_ediv_of_nonneg (by omega), Int.tmod_eq_emod_of_nonneg (by omega)]
  refine ⟨?_, by omega⟩
  rw [wrap_id _ (by omega) (by omega)]
  omega
theorem mul9 : (1 : Int) * 128 ^ 9 = 9223372036854775808 := by decide +kernel
/-- Behind the number: the field is told, or refused. -/
theorem j4_ok (s : ByteArray) (hs : s.size ≤ 65536) (out : List S84) (p : Nat) (c : UInt8) (t u pre : List UInt8) (v : Int) (k : Nat) (hk : 20 ≤ k) (hout : out.length ≤ 65536) (hd : s.data.toList.drop p = c :: t) (hp : p < s.size) (ht : t = pre ++ u) (hv0 : 0 ≤ v) (hv : v < 9223372036854775808) (m : Nat)
    (hnext : ∀ out' u', (∃ q, u = q ++ u') → out'.length = out.length + 1 → aquiferref04_Decode.l0 k s out' ((s.size - u'.length : Nat) : Int) = some (refD s m out' u')) :
    aquiferref04_Decode.j4 (k + 1) s out (p : Int) v ((s.size - u.length : Nat) : Int) (jb ((c.toNat % 2 : Nat) : Int) v (u.length : Int)) ((c.toNat / 2 : Nat) : Int) ((c.toNat % 2 : Nat) : Int) 0 (⟨#[]⟩ : ByteArray) =
      some (if c.toNat % 2 = 0 then (if t = u8 (numB v.toNat) ++ u then refD s m (out ++ [⟨(c.toNat / 2 : Nat), (c.toNat % 2 : Nat), v, mkS []⟩]) u else ([], 5))
        else if v > (u.length : Int) then ([], 5)
        else if t = u8 (numB v.toNat) ++ u then refD s m (out ++ [⟨(c.toNat / 2 : Nat), (c.toNat % 2 : Nat), 0, mkS (u.take v.toNat)⟩]) (u.drop v.toNat) else ([], 5)) := by
  have hsl : s.data.toList.length = s.size := by simp
  have hcl := c.toNat_lt
  have hlen : s.size - p = t.length + 1 := by
    have := congrArg List.length hd
    rw [List.length_drop, hsl] at this
    simpa using this
  have hlt : t.length = pre.length + u.length := by rw [ht, List.length_append]
  have hc0 : UInt8.ofNat ((c.toNat : Int)).toNat = c := by simp
  obtain ⟨n, rfl⟩ := Int.eq_ofNat_of_zero_le hv0
  rw [Int.toNat_natCast]
  by_cases e : c.toNat % 2 = 0
  · have e' : ((c.toNat % 2 : Nat) : Int) = 0 := by omega
    have hb := bytes_gen k (by omega) c (n : Int) ⟨#[]⟩ (by omega) hv (by decide)
    rw [if_pos e'] at hb
    have hj : jb ((c.toNat % 2 : Nat) : Int) (n : Int) (u.length : Int) = false := by unfold jb; rw [if_neg (by omega)]
    have hx : (s.extract p (s.size - u.length)).toList = c :: pre := by
      rw [extract_toList, hd, ht, show s.size - u.length - p = pre.length + 1 by omega, List.take_succ_cons, List.take_left]
    have hy : (strOfNums ((c.toNat : Int) :: numB n)).toList = c :: u8 (numB n) := by
      rw [strOf, toList_mkS, u8_cons, hc0]
    simp only [aquiferref04_Decode.j4]
    rw [hj, if_neg (by decide), if_pos e', hb, Option.bind_some, if_pos (by omega), if_pos (by omega), if_pos (by omega), Int.toNat_natCast, Int.toNat_natCast, Int.toNat_natCast, hx, hy, if_pos e]
    by_cases hh : t = u8 (numB n) ++ u
    · have hpre : u8 (numB n) = pre := by
        rw [ht] at hh
        exact (List.append_cancel_right hh).symm
      rw [if_pos (by rw [hpre]), if_pos hh, if_pos (by omega)]
      exact hnext _ u ⟨[], rfl⟩ (by simp)
    · rw [if_neg hh, if_neg]
      intro h
      injection h with _ h
      exact hh (by rw [ht, h])
  · have e' : ¬ ((c.toNat % 2 : Nat) : Int) = 0 := by omega
    have e1 : ((c.toNat % 2 : Nat) : Int) = 1 := by omega
    rw [if_neg e]
    by_cases hn : (n : Int) > (u.length : Int)
    · have hj : jb ((c.toNat % 2 : Nat) : Int) (n : Int) (u.length : Int) = true := by unfold jb; rw [if_pos e1, decide_eq_true hn]
      simp only [aquiferref04_Decode.j4]
      rw [hj, if_pos rfl, if_pos hn]
    · have hj : jb ((c.toNat % 2 : Nat) : Int) (n : Int) (u.length : Int) = false := by unfold jb; rw [if_pos e1, decide_eq_false hn]
      rw [if_neg hn]
      have hw := Aside0.mk (show wrap64 (((s.size - u.length : Nat) : Int) + (n : Int)) = ((s.size - u.length + n : Nat) : Int) by rw [wrap_id _ (by omega) (by omega)]; omega)
      have hdu : s.data.toList.drop (s.size - u.length) = u := by
        have h1 : s.data.toList.drop (s.size - u.length) = (s.data.toList.drop p).drop (s.size - u.length - p) := by rw [List.drop_drop, show p + (s.size - u.length - p) = s.size - u.length by omega]
        rw [h1, hd, ht, show s.size - u.length - p = pre.length + 1 by omega, List.drop_succ_cons, List.drop_left]
      have hX : s.extract (s.size - u.length) (s.size - u.length + n) = mkS (u.take n) := by
        rw [extract_mkS, hdu, show s.size - u.length + n - (s.size - u.length) = n by omega]
      have hXs : (mkS (u.take n)).size = n := by rw [size_mkS, List.length_take]; omega
      have hb := bytes_gen k (by omega) c 0 (mkS (u.take n)) (by omega) (by omega) (by omega)
      rw [if_neg e', hXs] at hb
      have hx : (s.extract p (s.size - u.length + n)).toList = c :: (pre ++ u.take n) := by
        rw [extract_toList, hd, ht, show s.size - u.length + n - p = (pre.length + n) + 1 by omega, List.take_succ_cons, List.take_length_add_append]
      have hy : (strOfNums ((c.toNat : Int) :: (numB n ++ bytesOf (mkS (u.take n))))).toList = c :: (u8 (numB n) ++ u.take n) := by
        rw [strOf, toList_mkS, u8_cons, u8_append, u8_bytes, data_mkS, hc0]
      simp only [aquiferref04_Decode.j4]
      rw [hj, if_neg (by decide), if_neg e', hw.out, if_pos (by omega), if_pos (by omega), if_pos (by omega), Int.toNat_natCast, Int.toNat_natCast, hX, hb, Option.bind_some, if_pos (by omega), if_pos (by omega), Int.toNat_natCast, hx, hy]
      by_cases hh : t = u8 (numB n) ++ u
      · have hpre : u8 (numB n) = pre := by
          rw [ht] at hh
          exact (List.append_cancel_right hh).symm
        rw [if_pos (by rw [hpre]), if_pos hh, if_pos (by omega)]
        have := hnext (out ++ [⟨(c.toNat / 2 : Nat), (c.toNat % 2 : Nat), 0, mkS (u.take n)⟩]) (u.drop n) ⟨u.take n, (List.take_append_drop _ _).symm⟩ (by simp)
        rw [show s.size - (u.drop n).length = s.size - u.length + n by rw [List.length_drop]; omega] at this
        exact this
      · rw [if_neg hh, if_neg]
        intro h
        injection h with _ h
        exact hh (by rw [ht, List.append_cancel_right h])
theorem l0_ok (s : ByteArray) (hs : s.size ≤ 65536) (m : Nat) : ∀ (out : List S84) (l : List UInt8) (k : Nat), (∃ q, s.data.toList = q ++ l) → l.length < m → out.length + l.length ≤ 65536 → 20 * m + 2 * 65536 + 100 ≤ k →
    aquiferref04_Decode.l0 k s out ((s.size - l.length : Nat) : Int) = some (refD s m out l) := by
  have hsl : s.data.toList.length = s.size := by simp
  induction m with
  | zero => intro out l k _ h; omega
  | succ m ih =>
    intro out l k hq hm hout hk
    obtain ⟨k, rfl⟩ : ∃ g, k = g + 1 := ⟨k - 1, by omega⟩
    obtain ⟨q, hq⟩ := hq
    have hql : q.length + l.length = s.size := by rw [← hsl, hq, List.length_append]
    cases l with
    | nil =>
      simp only [aquiferref04_Decode.l0]
      simp only [List.length_nil] at hout ⊢
      rw [if_neg (by omega), ref_fn out (by omega) k (by omega), Option.bind_some]
      show _ = some (if (encGo out 0 []).2 = 0 ∧ (encGo out 0 []).1.toList = s.toList then (out, (0 : Int)) else ([], 5))
      by_cases h1 : (encGo out 0 []).2 = 0
      · rw [if_pos h1]
        by_cases h2 : (encGo out 0 []).1.toList = s.toList
        · rw [if_pos h2, if_pos ⟨h1, h2⟩]
        · rw [if_neg h2, if_neg (fun h => h2 h.2)]
      · rw [if_neg h1, if_neg (fun h => h1 h.1)]
    | cons c t =>
      have hcl := c.toNat_lt
      simp only [List.length_cons] at hql hm hout
      obtain ⟨p, hp⟩ : ∃ p, s.size - (c :: t).length = p := ⟨_, rfl⟩
      have hpq : p = q.length := by rw [← hp, List.length_cons]; omega
      have hd : s.data.toList.drop p = c :: t := by rw [hq, hpq, List.drop_left]
      have hps : p < s.size := by omega
      have hbt : bt s (p : Int) = (c.toNat : Int) := by
        rw [bt_nat s p (by omega)]
        have h1 := List.drop_eq_getElem_cons (show p < s.data.toList.length by omega)
        rw [hd] at h1
        injection h1 with h1 _
        rw [← h1]
      have hp1 := Aside0.mk (show wrap64 ((p : Int) + 1) = ((p + 1 : Nat) : Int) by rw [wrap_id _ (by omega) (by omega)]; omega)
      have E := Aside0.mk (tag_tdiv c.toNat hcl)
      have hd1 : s.data.toList.drop (p + 1) = t := by
        have : s.data.toList.drop (p + 1) = (s.data.toList.drop p).drop 1 := by rw [List.drop_drop]
        rw [this, hd]
        rfl
      simp only [aquiferref04_Decode.l0]
      rw [hp, if_pos (by omega), if_pos (by omega), hbt, E.out.1, E.out.2, hp1.out]
      refine l1_ok s hs out p (c.toNat / 2) (c.toNat % 2) _ (20 * m + 2 * 65536 + 101) 9 (p + 1) 0 1 1 k (by omega) (by omega) (by omega) (fun _ => ⟨rfl, by decide, by decide, by decide, by decide⟩) ?_ ?_ (by omega)
      · intro h
        rw [hd1] at h
        rw [refD, h]
      · intro v u h k' hk'
        rw [hd1] at h
        obtain ⟨pre, ht, hpre, hv0⟩ := refN_pre 9 1 0 v t u h (by decide) (by decide)
        have hv := refN_lt 9 1 0 v t u h (by decide) (by decide)
        rw [mul9] at hv
        obtain ⟨k', rfl⟩ : ∃ g, k' = g + 1 := ⟨k' - 1, by omega⟩
        have hlt : t.length = pre.length + u.length := by rw [ht, List.length_append]
        rw [refD, h]
        refine j4_ok s hs out p c t u pre v k' (by omega) (by omega) hd hps ht hv0 hv m ?_
        intro out' u' hu ho
        obtain ⟨q', hu⟩ := hu
        have hul : u.length = q'.length + u'.length := by rw [hu, List.length_append]
        exact ih out' u' k' ⟨q ++ c :: pre ++ q', by rw [hq, ht, hu]; simp⟩ (by omega) (by omega) (by omega)
theorem refdec_fn (s : ByteArray) (hs : s.size ≤ 65536) (k : Nat) (hk : 20 * (s.size + 1) + 2 * 65536 + 100 ≤ k) : aquiferref04_Decode.f k s = some (decS s) := by
  have hsl : s.data.toList.length = s.size := by simp
  unfold aquiferref04_Decode.f
  rw [if_neg (by omega)]
  have := l0_ok s hs (s.size + 1) [] s.data.toList k ⟨[], rfl⟩ (by omega) (by simp only [List.length_nil]; omega) hk
  rw [hsl, Nat.sub_self] at this
  rw [← refD_dec s hs (s.size + 1) (by omega)]
  exact this
end Go.Proofs.Ytjaneipklpgnlaa.Q

namespace Go.Proofs.Ytjaneipklpgnlaa.Q
open Go Go.RowKit Go.Proofs.YtjaneipklpgnlaaW.PrintWords
/-- Of a tag and a kind. -/
def isOf (tag kind : Int) (f : S84) : Bool := f.f0 == tag && f.f1 == kind
/-- The first number, the first text, all texts of a tag. -/
def field_Num.f (l : List S84) (tag : Int) : Option (Int × Bool) := if l.length ≤ 1048576 then some (match l.filter (isOf tag 0) with | f :: _ => (f.f2, true) | [] => (0, false)) else none
def field_Text.f (l : List S84) (tag : Int) : Option (ByteArray × Bool) := if l.length ≤ 1048576 then some (match l.filter (isOf tag 1) with | f :: _ => (f.f3, true) | [] => (mkS [], false)) else none
def field_Texts.f (l : List S84) (tag : Int) : Option (List ByteArray) := if l.length ≤ 1048576 then some ((l.filter (isOf tag 1)).map (·.f3)) else none
def field_Put.f (l : List S84) (a0 a1 a2 : Int) (a3 : ByteArray) : Option (List S84) := if l.length ≤ 1048576 then some (l.takeWhile (fun x => !(decide (x.f0 > a0))) ++ [⟨a0, a1, a2, a3⟩] ++ l.dropWhile (fun x => !(decide (x.f0 > a0)))) else none
end Go.Proofs.Ytjaneipklpgnlaa.Q

namespace Go.Proofs.Ytjaneipklpgnlaa.Q
open Go.RowKit Go.Proofs.YtjaneipklpgnlaaW.PrintWords Go.Proofs.YtjaneipklpgnlaaW.PrintLast Go.Proofs.YtjaneipklpgnlaaW.PrintMore
attribute [local go_sem] max2_int min2_int max_two min_two max_three min_three max_four min_four   -- for this text's walks alone
attribute [local go_sem ↓] Go.Proofs.YtjaneipklpgnlaaK.isSome_setCell
set_option linter.unusedVariables false
set_option linter.unusedSimpArgs false

/-! ### aquiferref04_Num: function 59 -/
def aquiferref04_Num.l0 : Nat → List (S84) → Int → Int → Option (Int × Bool)
  | 0, _, _, _ => none
  | k + 1, x0, x1, x6 => if x6 < (x0.length : Int) then (if 0 ≤ x6 then (if ((rd_T84 x0 x6).f0) = x1 then (if ((rd_T84 x0 x6).f1) = 0 then (some ((rd_T84 x0 x6).f2, true)) else (aquiferref04_Num.l0 k x0 x1 (wrap64 (x6 + 1)))) else (aquiferref04_Num.l0 k x0 x1 (wrap64 (x6 + 1)))) else (none)) else (some (0, false))
def aquiferref04_Num.f (k : Nat) (l0 : List (S84)) (a1 : Int) : Option (Int × Bool) := aquiferref04_Num.l0 k l0 a1 0
theorem aquiferref04_Num.mono_l : ∀ k, (∀ y0 y1 y2, LeO (aquiferref04_Num.l0 k y0 y1 y2) (aquiferref04_Num.l0 (k + 1) y0 y1 y2))
  | 0 => fun _ _ _ r h => by simp [aquiferref04_Num.l0] at h
  | k + 1 => by
    have ih0 := aquiferref04_Num.mono_l k
    · intro y0 y1 y2
      unfold aquiferref04_Num.l0
      repeat' first
      | (with_reducible exact ih0 _ _ _)
      | (with_reducible exact LeO.refl _)
      | (with_reducible exact LeO.none _)
      | (with_reducible refine LeO.ite ?_ ?_)
      | (with_reducible refine LeO.bind ?_ (fun _ => ?_))
      | exact ih0 _ _ _
      | exact LeO.none _
      | refine LeO.ite ?_ ?_
      | refine LeO.bind ?_ (fun _ => ?_)
theorem aquiferref04_Num.mono : ∀ a0 a1 k, LeO (aquiferref04_Num.f k a0 a1) (aquiferref04_Num.f (k + 1) a0 a1) := by
  intro a0 a1 k
  have ih0 := aquiferref04_Num.mono_l k
  unfold aquiferref04_Num.f
  repeat' first
      | (with_reducible exact ih0 _ _ _)
      | (with_reducible exact LeO.refl _)
      | (with_reducible exact LeO.none _)
      | (with_reducible refine LeO.ite ?_ ?_)
      | (with_reducible refine LeO.bind ?_ (fun _ => ?_))
      | exact ih0 _ _ _
      | exact LeO.none _
      | refine LeO.ite ?_ ?_
      | refine LeO.bind ?_ (fun _ => ?_)
set_option maxHeartbeats 8000000 in
set_option maxRecDepth 100000 in
theorem aquiferref04_Num.calls (k : Nat) (A0 : Option Addr) (c0 : Nat) (l0 : List (S84)) (a1 : Int) (r1 : Int) (r2 : Bool) (w : World) (hr0 : Kd.C k84 w A0 l0.length l0) (hc0 : l0.length ≤ c0) (h : aquiferref04_Num.f k l0 a1 = some (r1, r2)) :
    Calls Try.prog 59 #[.slice A0 l0.length c0, .int .i64 a1] w fun e w' => e = .returned (.tuple #[.int .i64 r1, .bool r2]) ∧ Drawn0 w w' := by
  have HR0 := Aside0.mk hr0
  have HC0 := Aside0.mk hc0
  clear hr0 hc0
  have H : (aquiferref04_Num.l0 k l0 a1 0) = some (r1, r2) := h
  clear h
  have H' := Aside0.mk H
  clear H
  go_enter Try.func59, Try.ntmps59
  go_wp2
  go_loopg [6] k (fun kq v6 w' => ∃ (x6_1 : Int), v6 = .int .i64 x6_1 ∧ Aside0 (aquiferref04_Num.l0 kq l0 a1 x6_1 = some (r1, r2)) ∧ Aside0 (kq ≤ k) ∧ Drawn0 w w')
  case atStart => exact ⟨(0), (by first | rfl | (simp; done) | (simp [*]; done)), H', ⟨Nat.le_refl _⟩, by repeat (first | exact Drawn0.refl _ | apply Drawn0.step)⟩
  case round =>
    clear H'
    try clear p2
    obtain ⟨x6_1, rfl, HA, HK1, ⟨m1, rfl⟩⟩ := hrel
    cases gk with
    | zero => exact absurd HA.out (by simp [aquiferref04_Num.l0])
    | succ k1 =>
      have H := HA.out
      clear HA
      simp only [aquiferref04_Num.l0] at H
      by_cases c3 : x6_1 < (l0.length : Int)
      · rw [if_pos c3] at H
        have c3b0 : decide (x6_1 < (l0.length : Int)) = true := decide_eq_true c3
        clear c3
        by_cases c4 : 0 ≤ x6_1
        · rw [if_pos c4] at H
          have c4b0 : decide (0 ≤ x6_1) = true := decide_eq_true c4
          clear c4
          by_cases c5 : ((rd_T84 l0 x6_1).f0) = a1
          · rw [if_pos c5] at H
            have c5b0 : (((rd_T84 l0 x6_1).f0) == a1) = true := beq_iff_eq.mpr c5
            have c5b1 : (((rd_T84 l0 x6_1).f0) != a1) = false := bne_eq_false_iff_eq.mpr c5
            clear c5
            by_cases c6 : ((rd_T84 l0 x6_1).f1) = 0
            · rw [if_pos c6] at H
              have c6b0 : (((rd_T84 l0 x6_1).f1) == 0) = true := beq_iff_eq.mpr c6
              have c6b1 : (((rd_T84 l0 x6_1).f1) != 0) = false := bne_eq_false_iff_eq.mpr c6
              clear c6
              simp only [Option.some.injEq, Prod.mk.injEq] at H
              obtain ⟨rfl, rfl⟩ := H
              have p260 : 0 ≤ (x6_1 : Int) := of_decide_eq_true (by first | (with_reducible assumption) | assumption)
              have q260 : x6_1 < (l0.length : Int) := of_decide_eq_true (by first | (with_reducible assumption) | assumption)
              obtain ⟨ad260, e260, hx260_0, hx260_1, hx260_2, hx260_3⟩ := at_T84 HR0.out x6_1 p260 q260
              cases e260
              replace p260 := eq_true p260
              replace q260 := eq_true q260
              have p261 : 0 ≤ (x6_1 : Int) := of_decide_eq_true (by first | (with_reducible assumption) | assumption)
              have q261 : x6_1 < (l0.length : Int) := of_decide_eq_true (by first | (with_reducible assumption) | assumption)
              obtain ⟨ad261, e261, hx261_0, hx261_1, hx261_2, hx261_3⟩ := at_T84 HR0.out x6_1 p261 q261
              obtain rfl : ad260 = ad261 := (by injection e261)
              replace p261 := eq_true p261
              replace q261 := eq_true q261
              have p262 : 0 ≤ (x6_1 : Int) := of_decide_eq_true (by first | (with_reducible assumption) | assumption)
              have q262 : x6_1 < (l0.length : Int) := of_decide_eq_true (by first | (with_reducible assumption) | assumption)
              obtain ⟨ad262, e262, hx262_0, hx262_1, hx262_2, hx262_3⟩ := at_T84 HR0.out x6_1 p262 q262
              obtain rfl : ad260 = ad262 := (by injection e262)
              replace p262 := eq_true p262
              replace q262 := eq_true q262
              go_wp2
              go_ret2
              exact ⟨by first | rfl | (simp; done) | (simp [*]; done), by repeat (first | exact Drawn0.refl _ | apply Drawn0.step)⟩
            · rw [if_neg c6] at H
              have c6b0 : (((rd_T84 l0 x6_1).f1) == 0) = false := beq_eq_false_iff_ne.mpr c6
              have c6b1 : (((rd_T84 l0 x6_1).f1) != 0) = true := bne_iff_ne.mpr c6
              have H' := Aside0.mk H
              clear H
              have p260 : 0 ≤ (x6_1 : Int) := of_decide_eq_true (by first | (with_reducible assumption) | assumption)
              have q260 : x6_1 < (l0.length : Int) := of_decide_eq_true (by first | (with_reducible assumption) | assumption)
              obtain ⟨ad260, e260, hx260_0, hx260_1, hx260_2, hx260_3⟩ := at_T84 HR0.out x6_1 p260 q260
              cases e260
              replace p260 := eq_true p260
              replace q260 := eq_true q260
              have p261 : 0 ≤ (x6_1 : Int) := of_decide_eq_true (by first | (with_reducible assumption) | assumption)
              have q261 : x6_1 < (l0.length : Int) := of_decide_eq_true (by first | (with_reducible assumption) | assumption)
              obtain ⟨ad261, e261, hx261_0, hx261_1, hx261_2, hx261_3⟩ := at_T84 HR0.out x6_1 p261 q261
              obtain rfl : ad260 = ad261 := (by injection e261)
              replace p261 := eq_true p261
              replace q261 := eq_true q261
              go_wp2
              go_roundg k1
              case measure => have := HK1.out; omega
              case rel => exact ⟨(wrap64 (x6_1 + 1)), (by first | rfl | (simp; done) | (simp [*]; done)), H', ⟨by have := HK1.out; omega⟩, by repeat (first | exact Drawn0.refl _ | apply Drawn0.step)⟩
          · rw [if_neg c5] at H
            have c5b0 : (((rd_T84 l0 x6_1).f0) == a1) = false := beq_eq_false_iff_ne.mpr c5
            have c5b1 : (((rd_T84 l0 x6_1).f0) != a1) = true := bne_iff_ne.mpr c5
            have H' := Aside0.mk H
            clear H
            have p260 : 0 ≤ (x6_1 : Int) := of_decide_eq_true (by first | (with_reducible assumption) | assumption)
            have q260 : x6_1 < (l0.length : Int) := of_decide_eq_true (by first | (with_reducible assumption) | assumption)
            obtain ⟨ad260, e260, hx260_0, hx260_1, hx260_2, hx260_3⟩ := at_T84 HR0.out x6_1 p260 q260
            cases e260
            replace p260 := eq_true p260
            replace q260 := eq_true q260
            go_wp2
            go_roundg k1
            case measure => have := HK1.out; omega
            case rel => exact ⟨(wrap64 (x6_1 + 1)), (by first | rfl | (simp; done) | (simp [*]; done)), H', ⟨by have := HK1.out; omega⟩, by repeat (first | exact Drawn0.refl _ | apply Drawn0.step)⟩
        · rw [if_neg c4] at H
          exact absurd H (by simp)
      · rw [if_neg c3] at H
        have c3b0 : decide (x6_1 < (l0.length : Int)) = false := decide_eq_false c3
        clear c3
        simp only [Option.some.injEq, Prod.mk.injEq] at H
        obtain ⟨rfl, rfl⟩ := H
        go_wp2
        go_ret2
        exact ⟨by first | rfl | (simp; done) | (simp [*]; done), by repeat (first | exact Drawn0.refl _ | apply Drawn0.step)⟩

end Go.Proofs.Ytjaneipklpgnlaa.Q

namespace Go.Proofs.Ytjaneipklpgnlaa.Q
open Go.RowKit Go.Proofs.YtjaneipklpgnlaaW.PrintWords Go.Proofs.YtjaneipklpgnlaaW.PrintLast Go.Proofs.YtjaneipklpgnlaaW.PrintMore Go.Proofs.YtjaneipklpgnlaaK
attribute [local go_sem] max2_int min2_int max_two min_two max_three min_three max_four min_four   -- for this text's walks alone
attribute [local go_sem ↓] Go.Proofs.YtjaneipklpgnlaaK.isSome_setCell
set_option linter.unusedVariables false
set_option linter.unusedSimpArgs false

/-! ### aquiferref04_Texts: function 48 -/
def aquiferref04_Texts.l0 : Nat → List (S84) → Int → List ByteArray → Int → Option (List ByteArray)
  | 0, _, _, _, _ => none
  | k + 1, x0, x1, x5, x6 => if x6 < (x0.length : Int) then (if 0 ≤ x6 then (if ((rd_T84 x0 x6).f0) = x1 then (if ((rd_T84 x0 x6).f1) = 1 then (if x5.length < 8796093022208 then (aquiferref04_Texts.l0 k x0 x1 (x5 ++ [(rd_T84 x0 x6).f3]) (wrap64 (x6 + 1))) else (none)) else (aquiferref04_Texts.l0 k x0 x1 x5 (wrap64 (x6 + 1)))) else (aquiferref04_Texts.l0 k x0 x1 x5 (wrap64 (x6 + 1)))) else (none)) else (some x5)
def aquiferref04_Texts.f (k : Nat) (l0 : List (S84)) (a1 : Int) : Option (List ByteArray) := aquiferref04_Texts.l0 k l0 a1 ([] : List ByteArray) 0
theorem aquiferref04_Texts.mono_l : ∀ k, (∀ y0 y1 y2 y3, LeO (aquiferref04_Texts.l0 k y0 y1 y2 y3) (aquiferref04_Texts.l0 (k + 1) y0 y1 y2 y3))
  | 0 => fun _ _ _ _ r h => by simp [aquiferref04_Texts.l0] at h
  | k + 1 => by
    have ih0 := aquiferref04_Texts.mono_l k
    · intro y0 y1 y2 y3
      unfold aquiferref04_Texts.l0
      repeat' first
      | (with_reducible exact ih0 _ _ _ _)
      | (with_reducible exact LeO.refl _)
      | (with_reducible exact LeO.none _)
      | (with_reducible refine LeO.ite ?_ ?_)
      | (with_reducible refine LeO.bind ?_ (fun _ => ?_))
      | exact ih0 _ _ _ _
      | exact LeO.none _
      | refine LeO.ite ?_ ?_
      | refine LeO.bind ?_ (fun _ => ?_)
theorem aquiferref04_Texts.mono : ∀ a0 a1 k, LeO (aquiferref04_Texts.f k a0 a1) (aquiferref04_Texts.f (k + 1) a0 a1) := by
  intro a0 a1 k
  have ih0 := aquiferref04_Texts.mono_l k
  unfold aquiferref04_Texts.f
  repeat' first
      | (with_reducible exact ih0 _ _ _ _)
      | (with_reducible exact LeO.refl _)
      | (with_reducible exact LeO.none _)
      | (with_reducible refine LeO.ite ?_ ?_)
      | (with_reducible refine LeO.bind ?_ (fun _ => ?_))
      | exact ih0 _ _ _ _
      | exact LeO.none _
      | refine LeO.ite ?_ ?_
      | refine LeO.bind ?_ (fun _ => ?_)
set_option maxHeartbeats 8000000 in
set_option maxRecDepth 100000 in
theorem aquiferref04_Texts.calls (k : Nat) (A0 : Option Addr) (c0 : Nat) (l0 : List (S84)) (a1 : Int) (r : List ByteArray) (w : World) (hr0 : Kd.C k84 w A0 l0.length l0) (hc0 : l0.length ≤ c0) (h : aquiferref04_Texts.f k l0 a1 = some r) :
    Calls Try.prog 48 #[.slice A0 l0.length c0, .int .i64 a1] w fun e w' => ∃ v0_ : Value, e = .returned (v0_) ∧ Kd.R Kd.string 9 w' w.heap.size (fun _ => True) v0_ r ∧ Below w.heap.size w w' := by
  have HR0 := Aside0.mk hr0
  have HC0 := Aside0.mk hc0
  clear hr0 hc0
  have HB := Aside0.mk (Below.refl w.heap.size w)
  have H : (aquiferref04_Texts.l0 k l0 a1 ([] : List ByteArray) 0) = some r := h
  clear h
  have H' := Aside0.mk H
  clear H
  go_enter Try.func48, Try.ntmps48
  go_wp2
  go_loopg [5, 6] k (fun kq v5 v6 w' => ∃ (x5_1 : List ByteArray) (x6_1 : Int), v6 = .int .i64 x6_1 ∧ Aside0 (aquiferref04_Texts.l0 kq l0 a1 x5_1 x6_1 = some r) ∧ Aside0 (kq ≤ k) ∧ Aside0 (Kd.R Kd.string 9 w' w.heap.size (fun _ => True) v5 x5_1) ∧ Aside0 (Below w.heap.size w w'))
  case atStart => exact ⟨(([] : List ByteArray)), (0), (by first | rfl | (simp; done) | (simp [*]; done)), H', ⟨Nat.le_refl _⟩, ⟨by first | exact Kd.R_nil _ _ _ _ _ | exact Kd.N_nil _ _ _ _ _ | exact Kd.V_nil _ _ _ _ _ | exact Kd.Q_nil _ _ _ _ _ | exact Kd.S_nil _ _ _ _ _⟩, ⟨belU HB.out⟩⟩
  case round =>
    clear H'
    try clear p2
    obtain ⟨x5_1, x6_1, rfl, HA, HK1, HO_5, HB⟩ := hrel
    cases gk with
    | zero => exact absurd HA.out (by simp [aquiferref04_Texts.l0])
    | succ k1 =>
      have H := HA.out
      clear HA
      simp only [aquiferref04_Texts.l0] at H
      by_cases c3 : x6_1 < (l0.length : Int)
      · rw [if_pos c3] at H
        have c3b0 : decide (x6_1 < (l0.length : Int)) = true := decide_eq_true c3
        clear c3
        by_cases c4 : 0 ≤ x6_1
        · rw [if_pos c4] at H
          have c4b0 : decide (0 ≤ x6_1) = true := decide_eq_true c4
          clear c4
          by_cases c5 : ((rd_T84 l0 x6_1).f0) = a1
          · rw [if_pos c5] at H
            have c5b0 : (((rd_T84 l0 x6_1).f0) == a1) = true := beq_iff_eq.mpr c5
            have c5b1 : (((rd_T84 l0 x6_1).f0) != a1) = false := bne_eq_false_iff_eq.mpr c5
            clear c5
            by_cases c6 : ((rd_T84 l0 x6_1).f1) = 1
            · rw [if_pos c6] at H
              have c6b0 : (((rd_T84 l0 x6_1).f1) == 1) = true := beq_iff_eq.mpr c6
              have c6b1 : (((rd_T84 l0 x6_1).f1) != 1) = false := bne_eq_false_iff_eq.mpr c6
              clear c6
              by_cases c7 : x5_1.length < 8796093022208
              · rw [if_pos c7] at H
                have LMc7 := Aside0.mk c7
                clear c7
                obtain ⟨y268, hy268⟩ : ∃ y_ : List ByteArray, y_ = (x5_1 ++ [(rd_T84 l0 x6_1).f3]) := ⟨_, rfl⟩
                replace H : (aquiferref04_Texts.l0 k1 l0 a1 y268 (wrap64 (x6_1 + 1))) = some r := by first | (rw [hy268]; with_reducible exact H) | (have H2_ := (Option.bind_some _ _).symm.trans H; rw [hy268]; with_reducible exact H2_) | (have H2_ := (Option.bind_some _ _).symm.trans H; with_reducible exact H2_) | with_reducible exact H | (rw [hy268]; exact H) | exact H
                have Ny268 := Aside0.mk hy268
                clear hy268
                have H' := Aside0.mk H
                clear H
                have p265 : 0 ≤ (x6_1 : Int) := of_decide_eq_true (by first | (with_reducible assumption) | assumption)
                have q265 : x6_1 < (l0.length : Int) := of_decide_eq_true (by first | (with_reducible assumption) | assumption)
                obtain ⟨ad265, e265, hx265_0, hx265_1, hx265_2, hx265_3⟩ := at_T84 HR0.out x6_1 p265 q265
                cases e265
                replace hx265_0 := (HB.out.cell (World.block_lt_of_cell? w _ hx265_0)).trans hx265_0
                replace hx265_1 := (HB.out.cell (World.block_lt_of_cell? w _ hx265_1)).trans hx265_1
                replace hx265_2 := (HB.out.cell (World.block_lt_of_cell? w _ hx265_2)).trans hx265_2
                replace hx265_3 := (HB.out.cell (World.block_lt_of_cell? w _ hx265_3)).trans hx265_3
                replace p265 := eq_true p265
                replace q265 := eq_true q265
                have p266 : 0 ≤ (x6_1 : Int) := of_decide_eq_true (by first | (with_reducible assumption) | assumption)
                have q266 : x6_1 < (l0.length : Int) := of_decide_eq_true (by first | (with_reducible assumption) | assumption)
                obtain ⟨ad266, e266, hx266_0, hx266_1, hx266_2, hx266_3⟩ := at_T84 HR0.out x6_1 p266 q266
                obtain rfl : ad265 = ad266 := (by injection e266)
                replace hx266_0 := (HB.out.cell (World.block_lt_of_cell? w _ hx266_0)).trans hx266_0
                replace hx266_1 := (HB.out.cell (World.block_lt_of_cell? w _ hx266_1)).trans hx266_1
                replace hx266_2 := (HB.out.cell (World.block_lt_of_cell? w _ hx266_2)).trans hx266_2
                replace hx266_3 := (HB.out.cell (World.block_lt_of_cell? w _ hx266_3)).trans hx266_3
                replace p266 := eq_true p266
                replace q266 := eq_true q266
                have p267 : 0 ≤ (x6_1 : Int) := of_decide_eq_true (by first | (with_reducible assumption) | assumption)
                have q267 : x6_1 < (l0.length : Int) := of_decide_eq_true (by first | (with_reducible assumption) | assumption)
                obtain ⟨ad267, e267, hx267_0, hx267_1, hx267_2, hx267_3⟩ := at_T84 HR0.out x6_1 p267 q267
                obtain rfl : ad265 = ad267 := (by injection e267)
                replace hx267_0 := (HB.out.cell (World.block_lt_of_cell? w _ hx267_0)).trans hx267_0
                replace hx267_1 := (HB.out.cell (World.block_lt_of_cell? w _ hx267_1)).trans hx267_1
                replace hx267_2 := (HB.out.cell (World.block_lt_of_cell? w _ hx267_2)).trans hx267_2
                replace hx267_3 := (HB.out.cell (World.block_lt_of_cell? w _ hx267_3)).trans hx267_3
                replace p267 := eq_true p267
                replace q267 := eq_true q267
                go_wp2_with (first | ((with_reducible refine gate_builtin (b := .append) (xs := #[.tmp 28, .tmp 34]) rfl ?_); at_builtin; refine Kd.R_append Kd.string (w0 := w) w.heap.size rfl (.tmp 28) (.tmp 34) 86 9 (.string ⟨#[]⟩) 16 rfl Try.underlying86 info9 rfl (by decide) (by omega) u5 x5_1 ((rd_T84 l0 x6_1).f3) [.string ((rd_T84 l0 x6_1).f3)] (fun _ => True) (fun _ => False) rfl rfl ?aP (fun _ hk => hk.elim) ?aF ?aO ?aB ?aS ?aL ?_; (case aP => exact rfl); (case aB => exact (belU HB.out)); (case aF => exact (fun _ _ => trivial)); (case aO => exact (RU HO_5.out)); (case aS => exact (sizU HB.out)); (case aL => have := LMc7.out; omega); intro v269 w8 ho hb hg hat; rw [← Ny268.out] at ho; have n0_ := Aside0.mk (hb); have n1_ := Aside0.mk (ho); clear HB; clear HO_5; have HB := n0_; have HO270 := n1_; clear n0_ n1_; clear ho hb hg hat))
                go_roundg k1
                case measure => have := HK1.out; omega
                case rel => exact ⟨(y268), (wrap64 (x6_1 + 1)), (by first | rfl | (simp; done) | (simp [*]; done)), H', ⟨by have := HK1.out; omega⟩, ⟨RU HO270.out⟩, ⟨belU HB.out⟩⟩
              · rw [if_neg c7] at H
                exact absurd H (by simp)
            · rw [if_neg c6] at H
              have c6b0 : (((rd_T84 l0 x6_1).f1) == 1) = false := beq_eq_false_iff_ne.mpr c6
              have c6b1 : (((rd_T84 l0 x6_1).f1) != 1) = true := bne_iff_ne.mpr c6
              have H' := Aside0.mk H
              clear H
              have p265 : 0 ≤ (x6_1 : Int) := of_decide_eq_true (by first | (with_reducible assumption) | assumption)
              have q265 : x6_1 < (l0.length : Int) := of_decide_eq_true (by first | (with_reducible assumption) | assumption)
              obtain ⟨ad265, e265, hx265_0, hx265_1, hx265_2, hx265_3⟩ := at_T84 HR0.out x6_1 p265 q265
              cases e265
              replace hx265_0 := (HB.out.cell (World.block_lt_of_cell? w _ hx265_0)).trans hx265_0
              replace hx265_1 := (HB.out.cell (World.block_lt_of_cell? w _ hx265_1)).trans hx265_1
              replace hx265_2 := (HB.out.cell (World.block_lt_of_cell? w _ hx265_2)).trans hx265_2
              replace hx265_3 := (HB.out.cell (World.block_lt_of_cell? w _ hx265_3)).trans hx265_3
              replace p265 := eq_true p265
              replace q265 := eq_true q265
              have p266 : 0 ≤ (x6_1 : Int) := of_decide_eq_true (by first | (with_reducible assumption) | assumption)
              have q266 : x6_1 < (l0.length : Int) := of_decide_eq_true (by first | (with_reducible assumption) | assumption)
              obtain ⟨ad266, e266, hx266_0, hx266_1, hx266_2, hx266_3⟩ := at_T84 HR0.out x6_1 p266 q266
              obtain rfl : ad265 = ad266 := (by injection e266)
              replace hx266_0 := (HB.out.cell (World.block_lt_of_cell? w _ hx266_0)).trans hx266_0
              replace hx266_1 := (HB.out.cell (World.block_lt_of_cell? w _ hx266_1)).trans hx266_1
              replace hx266_2 := (HB.out.cell (World.block_lt_of_cell? w _ hx266_2)).trans hx266_2
              replace hx266_3 := (HB.out.cell (World.block_lt_of_cell? w _ hx266_3)).trans hx266_3
              replace p266 := eq_true p266
              replace q266 := eq_true q266
              go_wp2
              go_roundg k1
              case measure => have := HK1.out; omega
              case rel => exact ⟨(x5_1), (wrap64 (x6_1 + 1)), (by first | rfl | (simp; done) | (simp [*]; done)), H', ⟨by have := HK1.out; omega⟩, ⟨RU HO_5.out⟩, ⟨belU HB.out⟩⟩
          · rw [if_neg c5] at H
            have c5b0 : (((rd_T84 l0 x6_1).f0) == a1) = false := beq_eq_false_iff_ne.mpr c5
            have c5b1 : (((rd_T84 l0 x6_1).f0) != a1) = true := bne_iff_ne.mpr c5
            have H' := Aside0.mk H
            clear H
            have p265 : 0 ≤ (x6_1 : Int) := of_decide_eq_true (by first | (with_reducible assumption) | assumption)
            have q265 : x6_1 < (l0.length : Int) := of_decide_eq_true (by first | (with_reducible assumption) | assumption)
            obtain ⟨ad265, e265, hx265_0, hx265_1, hx265_2, hx265_3⟩ := at_T84 HR0.out x6_1 p265 q265
            cases e265
            replace hx265_0 := (HB.out.cell (World.block_lt_of_cell? w _ hx265_0)).trans hx265_0
            replace hx265_1 := (HB.out.cell (World.block_lt_of_cell? w _ hx265_1)).trans hx265_1
            replace hx265_2 := (HB.out.cell (World.block_lt_of_cell? w _ hx265_2)).trans hx265_2
            replace hx265_3 := (HB.out.cell (World.block_lt_of_cell? w _ hx265_3)).trans hx265_3
            replace p265 := eq_true p265
            replace q265 := eq_true q265
            go_wp2
            go_roundg k1
            case measure => have := HK1.out; omega
            case rel => exact ⟨(x5_1), (wrap64 (x6_1 + 1)), (by first | rfl | (simp; done) | (simp [*]; done)), H', ⟨by have := HK1.out; omega⟩, ⟨RU HO_5.out⟩, ⟨belU HB.out⟩⟩
        · rw [if_neg c4] at H
          exact absurd H (by simp)
      · rw [if_neg c3] at H
        have c3b0 : decide (x6_1 < (l0.length : Int)) = false := decide_eq_false c3
        clear c3
        obtain rfl := Option.some.inj H
        go_wp2
        go_ret
        exact ⟨_, by first | rfl | (simp [errW_none, errW_some] <;> rfl) | (simp [*, errW_none, errW_some] <;> rfl), by (with_reducible repeat (first | apply Kd.R_alloc | apply Kd.R_drewN | apply Kd.R_drew)); exact HO_5.out, belU HB.out⟩

end Go.Proofs.Ytjaneipklpgnlaa.Q

namespace Go.Proofs.Ytjaneipklpgnlaa.Q
open Go.RowKit Go.Proofs.YtjaneipklpgnlaaW.PrintWords Go.Proofs.YtjaneipklpgnlaaW.PrintLast Go.Proofs.YtjaneipklpgnlaaW.PrintMore Go.Proofs.YtjaneipklpgnlaaK
attribute [local go_sem] max2_int min2_int max_two min_two max_three min_three max_four min_four   -- for this text's walks alone
attribute [local go_sem ↓] Go.Proofs.YtjaneipklpgnlaaK.isSome_setCell
set_option linter.unusedVariables false
set_option linter.unusedSimpArgs false

/-! ### aquiferref04_Text: function 60 -/
def aquiferref04_Text.f (k : Nat) (l0 : List (S84)) (a1 : Int) : Option (ByteArray × Bool) := (aquiferref04_Texts.f k l0 a1).bind fun t271 => (if (t271.length : Int) = 0 then (some ((⟨#[]⟩ : ByteArray), false)) else (if 0 < (t271.length : Int) then (some (rdOf ByteArray.empty t271 0, true)) else (none)))
theorem aquiferref04_Text.mono : ∀ a0 a1 k, LeO (aquiferref04_Text.f k a0 a1) (aquiferref04_Text.f (k + 1) a0 a1) := by
  intro a0 a1 k
  unfold aquiferref04_Text.f
  repeat' first
      | (with_reducible exact aquiferref04_Texts.mono _ _ _)
      | (with_reducible exact LeO.refl _)
      | (with_reducible exact LeO.none _)
      | (with_reducible refine LeO.ite ?_ ?_)
      | (with_reducible refine LeO.bind ?_ (fun _ => ?_))
      | exact aquiferref04_Texts.mono _ _ _
      | exact LeO.none _
      | refine LeO.ite ?_ ?_
      | refine LeO.bind ?_ (fun _ => ?_)
set_option maxHeartbeats 8000000 in
set_option maxRecDepth 100000 in
theorem aquiferref04_Text.calls (k : Nat) (A0 : Option Addr) (c0 : Nat) (l0 : List (S84)) (a1 : Int) (r1 : ByteArray) (r2 : Bool) (w : World) (hr0 : Kd.C k84 w A0 l0.length l0) (hc0 : l0.length ≤ c0) (h : aquiferref04_Text.f k l0 a1 = some (r1, r2)) :
    Calls Try.prog 60 #[.slice A0 l0.length c0, .int .i64 a1] w fun e w' => e = .returned (.tuple #[.string r1, .bool r2]) ∧ Below w.heap.size w w' := by
  have HR0 := Aside0.mk hr0
  have HC0 := Aside0.mk hc0
  clear hr0 hc0
  have HB := Aside0.mk (Below.refl w.heap.size w)
  have H : ((aquiferref04_Texts.f k l0 a1).bind fun t271 => (if (t271.length : Int) = 0 then (some ((⟨#[]⟩ : ByteArray), false)) else (if 0 < (t271.length : Int) then (some (rdOf ByteArray.empty t271 0, true)) else (none)))) = some (r1, r2) := h
  clear h
  replace H := Option.bind_eq_some_iff.mp H
  obtain ⟨t271, A30, H⟩ := H
  replace H : (if (t271.length : Int) = 0 then (some ((⟨#[]⟩ : ByteArray), false)) else (if 0 < (t271.length : Int) then (some (rdOf ByteArray.empty t271 0, true)) else (none))) = some (r1, r2) := H
  have A3 := Aside0.mk A30
  clear A30
  by_cases c4 : (t271.length : Int) = 0
  · rw [if_pos c4] at H
    have c4b0 : ((t271.length : Int) == 0) = true := beq_iff_eq.mpr c4
    have c4b1 : ((t271.length : Int) != 0) = false := bne_eq_false_iff_eq.mpr c4
    clear c4
    simp only [Option.some.injEq, Prod.mk.injEq] at H
    obtain ⟨rfl, rfl⟩ := H
    go_enter Try.func60, Try.ntmps60
    go_wp2_with (first | ((with_reducible refine gate_callee (f := 48) rfl ?_); refine goesL_ (some 9) rfl rfl Try.func48 (by kernel_rfl) rfl #[.slice A0 l0.length c0, .int .i64 a1] rfl (by (try simp only [List.map_toArray, List.map_cons, List.map_nil]); first | done | rfl | (simp only [List.length_drop, List.length_take]; rfl)) ?_; (with_reducible refine (aquiferref04_Texts.calls k _ _ l0 a1 t271 _ ?side1 ?side2 A3.out).mono ?_); (case side1 => exact CU HR0.out); (case side2 => exact HC0.out); rintro e w5 ⟨v272, rfl, ho0, hb⟩; refine ⟨_, rfl, ?_⟩; have n0_ := Aside0.mk (Kd.R_lower ho0 (sizU HB.out)); have n1_ := Aside0.mk (below_step (belU HB.out) hb); clear HB; have HO273 := n0_; have HB := n1_; clear n0_ n1_; (try clear hb); (try clear hb2); (try clear hk); (try clear hi); (try clear ho0); obtain ⟨Ao6, co6, eo6⟩ := Kd.R_slice HO273.out; subst eo6))
    go_ret2
    exact ⟨by first | rfl | (simp [errW_none, errW_some] <;> rfl) | (simp [*, errW_none, errW_some] <;> rfl), belU HB.out⟩
  · rw [if_neg c4] at H
    have c4b0 : ((t271.length : Int) == 0) = false := beq_eq_false_iff_ne.mpr c4
    have c4b1 : ((t271.length : Int) != 0) = true := bne_iff_ne.mpr c4
    have c4b2 : ¬ (t271 = []) := fun h_ => c4 (by rw [h_]; rfl)
    by_cases c7 : 0 < (t271.length : Int)
    · rw [if_pos c7] at H
      have c7b0 : decide (0 < (t271.length : Int)) = true := decide_eq_true c7
      have c7b1 : decide (0 < t271.length) = true := decide_eq_true (by omega)
      clear c7
      simp only [Option.some.injEq, Prod.mk.injEq] at H
      obtain ⟨rfl, rfl⟩ := H
      go_enter Try.func60, Try.ntmps60
      go_wp2_with (first | ((with_reducible refine gate_callee (f := 48) rfl ?_); refine goesL_ (some 9) rfl rfl Try.func48 (by kernel_rfl) rfl #[.slice A0 l0.length c0, .int .i64 a1] rfl (by (try simp only [List.map_toArray, List.map_cons, List.map_nil]); first | done | rfl | (simp only [List.length_drop, List.length_take]; rfl)) ?_; (with_reducible refine (aquiferref04_Texts.calls k _ _ l0 a1 t271 _ ?side1 ?side2 A3.out).mono ?_); (case side1 => exact CU HR0.out); (case side2 => exact HC0.out); rintro e w8 ⟨v272, rfl, ho0, hb⟩; refine ⟨_, rfl, ?_⟩; have n0_ := Aside0.mk (Kd.R_lower ho0 (sizU HB.out)); have n1_ := Aside0.mk (below_step (belU HB.out) hb); clear HB; have HO273 := n0_; have HB := n1_; clear n0_ n1_; (try clear hb); (try clear hb2); (try clear hk); (try clear hi); (try clear ho0); obtain ⟨Ao9, co9, eo9⟩ := Kd.R_slice HO273.out; subst eo9; have p274 : 0 ≤ (0 : Int) := (by omega); have q274 : 0 < (t271.length : Int) := of_decide_eq_true (by first | (with_reducible assumption) | assumption); obtain ⟨ad274, e274, hx274_0⟩ := Kd.at_string (Kd.R_reads' HO273.out).2.2 0 p274 q274; cases e274; have qi274 : (0 < t271.length) = True := eq_true (by omega); (try rw [show ((0 : Int)).toNat = 0 from rfl] at hx274_0); (try rw [Addr.add_zero'] at hx274_0); replace p274 := eq_true p274; replace q274 := eq_true q274))
      go_ret2
      exact ⟨by first | rfl | (simp [errW_none, errW_some] <;> rfl) | (simp [*, errW_none, errW_some] <;> rfl), belU HB.out⟩
    · rw [if_neg c7] at H
      exact absurd H (by simp)

end Go.Proofs.Ytjaneipklpgnlaa.Q

namespace Go.Proofs.Ytjaneipklpgnlaa.Q
open Go Go.RowKit Go.Proofs.YtjaneipklpgnlaaW.PrintWords Go.Proofs.YtjaneipklpgnlaaW.PrintLast Go.Proofs.YtjaneipklpgnlaaW.PrintMore
set_option linter.unusedSimpArgs false
set_option linter.unusedVariables false
theorem isOf_iff (t kd : Int) (f : S84) : isOf t kd f = true ↔ f.f0 = t ∧ f.f1 = kd := by simp [isOf]
def firstN : List S84 → Int × Bool
  | f :: _ => (f.f2, true)
  | [] => (0, false)
theorem refNum_loop (L : List S84) (hL : L.length ≤ 1048576) (t : Int) (d : Nat) : ∀ (i k : Nat), i + d = L.length → d < k → aquiferref04_Num.l0 k L t (i : Int) = some (firstN ((L.drop i).filter (isOf t 0))) := by
  induction d with
  | zero =>
    intro i k hi hk
    obtain ⟨k, rfl⟩ : ∃ m, k = m + 1 := ⟨k - 1, by omega⟩
    simp only [aquiferref04_Num.l0]
    rw [if_neg (by omega), List.drop_of_length_le (by omega)]
    rfl
  | succ d ih =>
    intro i k hi hk
    obtain ⟨k, rfl⟩ : ∃ m, k = m + 1 := ⟨k - 1, by omega⟩
    have hlt : i < L.length := by omega
    simp only [aquiferref04_Num.l0]
    rw [if_pos (by omega), if_pos (by omega), rd_at L i hlt, drop_at L i hlt, wrap_succ i (by omega), ih (i + 1) k (by omega) (by omega)]
    generalize L[i] = f
    by_cases h1 : f.f0 = t
    · by_cases h2 : f.f1 = 0
      · rw [if_pos h1, if_pos h2, List.filter_cons_of_pos ((isOf_iff _ _ _).2 ⟨h1, h2⟩)]
        rfl
      · rw [if_pos h1, if_neg h2, List.filter_cons_of_neg (fun h => h2 ((isOf_iff _ _ _).1 h).2)]
    · rw [if_neg h1, List.filter_cons_of_neg (fun h => h1 ((isOf_iff _ _ _).1 h).1)]
theorem refNum_fn (L : List S84) (hL : L.length ≤ 1048576) (t : Int) (k : Nat) (hk : L.length < k) : aquiferref04_Num.f k L t = some (firstN (L.filter (isOf t 0))) := by
  have := refNum_loop L hL t L.length 0 k (by omega) hk
  simpa [aquiferref04_Num.f] using this
theorem num_fn2 (L : List S84) (hL : L.length ≤ 1048576) (t : Int) : field_Num.f L t = some (firstN (L.filter (isOf t 0))) := by
  unfold field_Num.f
  rw [if_pos hL]
  cases L.filter (isOf t 0) <;> rfl
def textsOf (L : List S84) (t : Int) : List ByteArray := (L.filter (isOf t 1)).map (·.f3)
theorem refTexts_loop (L : List S84) (hL : L.length ≤ 1048576) (t : Int) (d : Nat) : ∀ (i k : Nat) (acc : List ByteArray), i + d = L.length → d < k → acc.length ≤ i → aquiferref04_Texts.l0 k L t acc (i : Int) = some (acc ++ textsOf (L.drop i) t) := by
  induction d with
  | zero =>
    intro i k acc hi hk ha
    obtain ⟨k, rfl⟩ : ∃ m, k = m + 1 := ⟨k - 1, by omega⟩
    simp only [aquiferref04_Texts.l0]
    rw [if_neg (by omega), List.drop_of_length_le (by omega)]
    simp [textsOf]
  | succ d ih =>
    intro i k acc hi hk ha
    obtain ⟨k, rfl⟩ : ∃ m, k = m + 1 := ⟨k - 1, by omega⟩
    have hlt : i < L.length := by omega
    simp only [aquiferref04_Texts.l0]
    rw [if_pos (by omega), if_pos (by omega), rd_at L i hlt, drop_at L i hlt, wrap_succ i (by omega), ih (i + 1) k acc (by omega) (by omega) (by omega)]
    generalize L[i] = f
    unfold textsOf
    by_cases h1 : f.f0 = t
    · by_cases h2 : f.f1 = 1
      · rw [if_pos h1, if_pos h2, if_pos (by omega), List.filter_cons_of_pos ((isOf_iff _ _ _).2 ⟨h1, h2⟩), ih (i + 1) k _ (by omega) (by omega) (by simp; omega)]
        simp [textsOf]
      · rw [if_pos h1, if_neg h2, List.filter_cons_of_neg (fun h => h2 ((isOf_iff _ _ _).1 h).2)]
    · rw [if_neg h1, List.filter_cons_of_neg (fun h => h1 ((isOf_iff _ _ _).1 h).1)]
theorem refTexts_fn (L : List S84) (hL : L.length ≤ 1048576) (t : Int) (k : Nat) (hk : L.length < k) : aquiferref04_Texts.f k L t = some (textsOf L t) := by
  have := refTexts_loop L hL t L.length 0 k [] (by omega) hk (by simp)
  simpa [aquiferref04_Texts.f] using this
theorem texts_fn2 (L : List S84) (hL : L.length ≤ 1048576) (t : Int) : field_Texts.f L t = some (textsOf L t) := by
  unfold field_Texts.f
  rw [if_pos hL]
  rfl
theorem texts_len (L : List S84) (t : Int) : (textsOf L t).length ≤ L.length := by
  unfold textsOf
  rw [List.length_map]
  exact List.length_filter_le _ _
def firstT : List ByteArray → ByteArray × Bool
  | s :: _ => (s, true)
  | [] => (⟨#[]⟩, false)
theorem text_fn2 (L : List S84) (hL : L.length ≤ 1048576) (t : Int) : field_Text.f L t = some (firstT (textsOf L t)) := by
  unfold field_Text.f textsOf
  rw [if_pos hL]
  cases L.filter (isOf t 1) <;> rfl
theorem refText_fn (L : List S84) (hL : L.length ≤ 1048576) (t : Int) (k : Nat) (hk : L.length < k) : aquiferref04_Text.f k L t = some (firstT (textsOf L t)) := by
  unfold aquiferref04_Text.f
  rw [refTexts_fn L hL t k hk, Option.bind_some]
  cases textsOf L t with
  | nil => rfl
  | cons s l =>
    rw [if_neg (by rw [List.length_cons]; omega), if_pos (by rw [List.length_cons]; omega)]
    rfl
end Go.Proofs.Ytjaneipklpgnlaa.Q

namespace Go.Proofs.Ytjaneipklpgnlaa.Q
open Go.RowKit Go.Proofs.YtjaneipklpgnlaaW.PrintWords Go.Proofs.YtjaneipklpgnlaaW.PrintLast Go.Proofs.YtjaneipklpgnlaaW.PrintMore
attribute [local go_sem] max2_int min2_int max_two min_two max_three min_three max_four min_four   -- for this text's walks alone
attribute [local go_sem ↓] Go.Proofs.YtjaneipklpgnlaaK.isSome_setCell
set_option linter.unusedVariables false
set_option linter.unusedSimpArgs false

/-! ### talk_sure: function 39 -/
def talk_sure.f (a0 : Bool) : Option (Int) := if a0 = true then (some 0) else (some 2)
set_option maxHeartbeats 8000000 in
set_option maxRecDepth 100000 in
theorem talk_sure.calls (a0 : Bool) (r : Int) (w : World) (h : talk_sure.f a0 = some r) :
    Calls Try.prog 39 #[.bool a0] w fun e w' => e = .returned (.int .i64 r) ∧ Drawn0 w w' := by
  have H : (if a0 = true then (some 0) else (some 2)) = some r := h
  clear h
  by_cases c2 : a0 = true
  · subst c2
    have H1 : (some 0) = some r := by rw [if_pos rfl] at H; exact H
    clear H
    have H := H1
    clear H1
    obtain rfl := Option.some.inj H
    go_enter Try.func39, Try.ntmps39
    go_wp2
    go_ret
    exact ⟨by first | rfl | (simp; done) | (simp [*]; done), by repeat (first | exact Drawn0.refl _ | apply Drawn0.step)⟩
  · replace c2 := Bool.eq_false_iff.mpr c2
    subst c2
    have H1 : (some 2) = some r := by rw [if_neg (show ¬ (false = true) by decide)] at H; exact H
    clear H
    have H := H1
    clear H1
    obtain rfl := Option.some.inj H
    go_enter Try.func39, Try.ntmps39
    go_wp2
    go_ret
    exact ⟨by first | rfl | (simp; done) | (simp [*]; done), by repeat (first | exact Drawn0.refl _ | apply Drawn0.step)⟩

end Go.Proofs.Ytjaneipklpgnlaa.Q

namespace Go.Proofs.Ytjaneipklpgnlaa.Q
open Go.RowKit Go.Proofs.YtjaneipklpgnlaaW.PrintWords Go.Proofs.YtjaneipklpgnlaaW.PrintLast Go.Proofs.YtjaneipklpgnlaaW.PrintMore Go.Proofs.YtjaneipklpgnlaaK
attribute [local go_sem] max2_int min2_int max_two min_two max_three min_three max_four min_four   -- for this text's walks alone
attribute [local go_sem ↓] Go.Proofs.YtjaneipklpgnlaaK.isSome_setCell
set_option linter.unusedVariables false
set_option linter.unusedSimpArgs false

/-! ### talk_CheckRequest: function 13 -/
def talk_CheckRequest.f (a0_0 : Int) (a0_1 : Int) (a0_2 : Int) (a0_3 : Int) (a0_4 : Int) (a0_5 : Int) (a0_6 : ByteArray) (a0_7 : ByteArray) : Option (Int) := if a0_0 ≥ 1 then (if a0_0 ≤ 8 then ((talk_nums.f (([a0_1, a0_2, a0_3, a0_4, a0_5] : List Int))).bind fun t107 => (if t107 = true then ((talk_texts.f (([a0_6, a0_7] : List ByteArray))).bind fun t111 => ((talk_sure.f t111).bind fun t112 => (some t112))) else ((talk_sure.f false).bind fun t113 => (some t113)))) else ((talk_sure.f false).bind fun t114 => (some t114))) else ((talk_sure.f false).bind fun t115 => (some t115))
set_option maxHeartbeats 8000000 in
set_option maxRecDepth 100000 in
theorem talk_CheckRequest.calls (a0_0 : Int) (a0_1 : Int) (a0_2 : Int) (a0_3 : Int) (a0_4 : Int) (a0_5 : Int) (a0_6 : ByteArray) (a0_7 : ByteArray) (r : Int) (w : World) (h : talk_CheckRequest.f a0_0 a0_1 a0_2 a0_3 a0_4 a0_5 a0_6 a0_7 = some r) :
    Calls Try.prog 13 #[.agg #[.int .i64 a0_0, .int .i64 a0_1, .int .i64 a0_2, .int .i64 a0_3, .int .i64 a0_4, .int .i64 a0_5, .string a0_6, .string a0_7]] w fun e w' => e = .returned (.int .i64 r) ∧ Below w.heap.size w w' := by
  have hu23 := Try.underlying23
  have HB := Aside0.mk (Below.refl w.heap.size w)
  have H : (if a0_0 ≥ 1 then (if a0_0 ≤ 8 then ((talk_nums.f (([a0_1, a0_2, a0_3, a0_4, a0_5] : List Int))).bind fun t107 => (if t107 = true then ((talk_texts.f (([a0_6, a0_7] : List ByteArray))).bind fun t111 => ((talk_sure.f t111).bind fun t112 => (some t112))) else ((talk_sure.f false).bind fun t113 => (some t113)))) else ((talk_sure.f false).bind fun t114 => (some t114))) else ((talk_sure.f false).bind fun t115 => (some t115))) = some r := h
  clear h
  by_cases c2 : a0_0 ≥ 1
  · rw [if_pos c2] at H
    have c2b0 : decide (1 ≤ a0_0) = true := decide_eq_true c2
    clear c2
    by_cases c3 : a0_0 ≤ 8
    · rw [if_pos c3] at H
      have c3b0 : decide (a0_0 ≤ 8) = true := decide_eq_true c3
      clear c3
      obtain ⟨y104, hy104⟩ : ∃ y_ : List Int, y_ = (([a0_1, a0_2, a0_3, a0_4, a0_5] : List Int)) := ⟨_, rfl⟩
      replace H : ((talk_nums.f y104).bind fun t107 => (if t107 = true then ((talk_texts.f (([a0_6, a0_7] : List ByteArray))).bind fun t111 => ((talk_sure.f t111).bind fun t112 => (some t112))) else ((talk_sure.f false).bind fun t113 => (some t113)))) = some r := by first | (rw [hy104]; with_reducible exact H) | (have H2_ := (Option.bind_some _ _).symm.trans H; rw [hy104]; with_reducible exact H2_) | (have H2_ := (Option.bind_some _ _).symm.trans H; with_reducible exact H2_) | with_reducible exact H | (rw [hy104]; exact H) | exact H
      have Ny104 := Aside0.mk hy104
      clear hy104
      replace H := Option.bind_eq_some_iff.mp H
      obtain ⟨t107, A40, H⟩ := H
      replace H : (if t107 = true then ((talk_texts.f (([a0_6, a0_7] : List ByteArray))).bind fun t111 => ((talk_sure.f t111).bind fun t112 => (some t112))) else ((talk_sure.f false).bind fun t113 => (some t113))) = some r := H
      have A4 := Aside0.mk A40
      clear A40
      by_cases c5 : t107 = true
      · subst c5
        have H1 : ((talk_texts.f (([a0_6, a0_7] : List ByteArray))).bind fun t111 => ((talk_sure.f t111).bind fun t112 => (some t112))) = some r := by rw [if_pos rfl] at H; exact H
        clear H
        have H := H1
        clear H1
        obtain ⟨y108, hy108⟩ : ∃ y_ : List ByteArray, y_ = (([a0_6, a0_7] : List ByteArray)) := ⟨_, rfl⟩
        replace H : ((talk_texts.f y108).bind fun t111 => ((talk_sure.f t111).bind fun t112 => (some t112))) = some r := by first | (rw [hy108]; with_reducible exact H) | (have H2_ := (Option.bind_some _ _).symm.trans H; rw [hy108]; with_reducible exact H2_) | (have H2_ := (Option.bind_some _ _).symm.trans H; with_reducible exact H2_) | with_reducible exact H | (rw [hy108]; exact H) | exact H
        have Ny108 := Aside0.mk hy108
        clear hy108
        replace H := Option.bind_eq_some_iff.mp H
        obtain ⟨t111, A60, H⟩ := H
        replace H : ((talk_sure.f t111).bind fun t112 => (some t112)) = some r := H
        have A6 := Aside0.mk A60
        clear A60
        replace H := Option.bind_eq_some_iff.mp H
        obtain ⟨t112, A70, H⟩ := H
        replace H : (some t112) = some r := H
        have A7 := Aside0.mk A70
        clear A70
        obtain rfl := Option.some.inj H
        go_enter Try.func13, Try.ntmps13
        go_wp2_with (first | ((with_reducible refine gate_dst (N := 1) rfl ?_); (try (refine gate_guard (by rfl) ?_; dsimp only)); refine box_event ?hg (N := 1) ?hd (cs := #[.int .i64 a0_0, .int .i64 a0_1, .int .i64 a0_2, .int .i64 a0_3, .int .i64 a0_4, .int .i64 a0_5, .string a0_6, .string a0_7]) (t := 23) ?hr ?_; (case hd => rfl); (case hg => rfl); (case hr => first | (go_simp; done) | (go_simp; rfl)); intro gb103 hg w8 hbox hb; have n0_ := Aside0.mk (below_step (belU HB.out) hb); have n1_ := Aside0.mk (hbox); have n2_ := Aside0.mk ((by rw [hg]; exact (sizU HB.out) : w.heap.size ≤ gb103)); have n3_ := Aside0.mk ((by rw [hg]; exact (sizU HB.out) : w.heap.size ≤ gb103)); clear HB; have HB := n0_; have BK103 := n1_; have GW103 := n2_; have GE103 := n3_; clear n0_ n1_ n2_ n3_; clear hb hbox hg; have hcz9_0 : w8.cell? ⟨gb103, 0, none⟩ = some (.int .i64 a0_0) := (blk_cell BK103.out 0).trans rfl; have hcz9_1 : w8.cell? ⟨gb103, 1, none⟩ = some (.int .i64 a0_1) := (blk_cell BK103.out 1).trans rfl; have hcz9_2 : w8.cell? ⟨gb103, 2, none⟩ = some (.int .i64 a0_2) := (blk_cell BK103.out 2).trans rfl; have hcz9_3 : w8.cell? ⟨gb103, 3, none⟩ = some (.int .i64 a0_3) := (blk_cell BK103.out 3).trans rfl; have hcz9_4 : w8.cell? ⟨gb103, 4, none⟩ = some (.int .i64 a0_4) := (blk_cell BK103.out 4).trans rfl; have hcz9_5 : w8.cell? ⟨gb103, 5, none⟩ = some (.int .i64 a0_5) := (blk_cell BK103.out 5).trans rfl; have hcz9_6 : w8.cell? ⟨gb103, 6, none⟩ = some (.string a0_6) := (blk_cell BK103.out 6).trans rfl; have hcz9_7 : w8.cell? ⟨gb103, 7, none⟩ = some (.string a0_7) := (blk_cell BK103.out 7).trans rfl; have hfz9_0 := blk_frozen BK103.out 0; have hfz9_1 := blk_frozen BK103.out 1; have hfz9_2 := blk_frozen BK103.out 2; have hfz9_3 := blk_frozen BK103.out 3; have hfz9_4 := blk_frozen BK103.out 4; have hfz9_5 := blk_frozen BK103.out 5; have hfz9_6 := blk_frozen BK103.out 6; have hfz9_7 := blk_frozen BK103.out 7) | ((with_reducible refine gate_dst (N := 22) rfl ?_); (try (refine gate_guard (by rfl) ?_; dsimp only)); refine Kd.R_lit (Kd.int .i64) _ 3 ?hg (N := 22) ?hd (xs := ([a0_1, a0_2, a0_3, a0_4, a0_5] : List Int)) (inner := [.int .i64 a0_1, .int .i64 a0_2, .int .i64 a0_3, .int .i64 a0_4, .int .i64 a0_5]) (ok := fun _ => True) (okp := fun _ => True) ?hr ?hp (fun _ hk => hk) trivial (Below.refl _ _) (Nat.le_refl _) (by simp) ?_; (case hd => rfl); (case hg => rfl); (case hr => first | (go_simp; done) | (go_simp; rfl)); (case hp => exact (Reps.one (show Kd.M (Kd.int .i64) _ _ _ a0_1 [.int .i64 a0_1] from rfl) (Reps.one (show Kd.M (Kd.int .i64) _ _ _ a0_2 [.int .i64 a0_2] from rfl) (Reps.one (show Kd.M (Kd.int .i64) _ _ _ a0_3 [.int .i64 a0_3] from rfl) (Reps.one (show Kd.M (Kd.int .i64) _ _ _ a0_4 [.int .i64 a0_4] from rfl) (Reps.one (show Kd.M (Kd.int .i64) _ _ _ a0_5 [.int .i64 a0_5] from rfl) (Reps.none _ _))))))); intro v105 w10 ho11 hb hg_ hnew_; clear hg_ hnew_; (first | rw [← Ny104.out] at ho11 | (simp only [Int.reduceToNat] at ho11; rw [← Ny104.out] at ho11)); have n0_ := Aside0.mk (Kd.R_lower ho11 (sizG HB.out GE103.out)); have n1_ := Aside0.mk (blk_below (blkU BK103.out) hb); have n2_ := Aside0.mk (below_step (belG HB.out GE103.out) hb); clear BK103; clear HB; have HO106 := n0_; have BK103 := n1_; have HB := n2_; clear n0_ n1_ n2_; clear hb ho11; obtain ⟨Ao12, co12, eo12⟩ := Kd.R_slice HO106.out; subst eo12) | (go_at_call 40; (with_reducible refine (talk_nums.calls _ _ y104 true _ ?side1 ?side2 A4.out).mono ?_); (case side1 => exact CU (Kd.R_reads' HO106.out).2.2); (case side2 => exact (Kd.R_reads' HO106.out).2.1); rintro e w13 ⟨rfl, hb⟩; have n0_ := Aside0.mk (Kd.R_below (RU HO106.out) hb); have n1_ := Aside0.mk (blk_below (blkU BK103.out) hb); have n2_ := Aside0.mk (below_step (belG HB.out GE103.out) hb); clear HO106; clear BK103; clear HB; have HO106 := n0_; have BK103 := n1_; have HB := n2_; clear n0_ n1_ n2_; (try clear hb); (try clear hb2); (try clear hk); (try clear hi); have hcz14_0 : w13.cell? ⟨gb103, 0, none⟩ = some (.int .i64 a0_0) := (blk_cell BK103.out 0).trans rfl; have hcz14_1 : w13.cell? ⟨gb103, 1, none⟩ = some (.int .i64 a0_1) := (blk_cell BK103.out 1).trans rfl; have hcz14_2 : w13.cell? ⟨gb103, 2, none⟩ = some (.int .i64 a0_2) := (blk_cell BK103.out 2).trans rfl; have hcz14_3 : w13.cell? ⟨gb103, 3, none⟩ = some (.int .i64 a0_3) := (blk_cell BK103.out 3).trans rfl; have hcz14_4 : w13.cell? ⟨gb103, 4, none⟩ = some (.int .i64 a0_4) := (blk_cell BK103.out 4).trans rfl; have hcz14_5 : w13.cell? ⟨gb103, 5, none⟩ = some (.int .i64 a0_5) := (blk_cell BK103.out 5).trans rfl; have hcz14_6 : w13.cell? ⟨gb103, 6, none⟩ = some (.string a0_6) := (blk_cell BK103.out 6).trans rfl; have hcz14_7 : w13.cell? ⟨gb103, 7, none⟩ = some (.string a0_7) := (blk_cell BK103.out 7).trans rfl; have hfz14_0 := blk_frozen BK103.out 0; have hfz14_1 := blk_frozen BK103.out 1; have hfz14_2 := blk_frozen BK103.out 2; have hfz14_3 := blk_frozen BK103.out 3; have hfz14_4 := blk_frozen BK103.out 4; have hfz14_5 := blk_frozen BK103.out 5; have hfz14_6 := blk_frozen BK103.out 6; have hfz14_7 := blk_frozen BK103.out 7) | ((with_reducible refine gate_dst (N := 30) rfl ?_); (try (refine gate_guard (by rfl) ?_; dsimp only)); refine Kd.R_lit Kd.string _ 9 ?hg (N := 30) ?hd (xs := ([a0_6, a0_7] : List ByteArray)) (inner := [.string a0_6, .string a0_7]) (ok := fun _ => True) (okp := fun _ => True) ?hr ?hp (fun _ hk => hk) trivial (Below.refl _ _) (Nat.le_refl _) (by simp) ?_; (case hd => rfl); (case hg => rfl); (case hr => first | (go_simp; done) | (go_simp; rfl)); (case hp => exact (Reps.one (show Kd.M Kd.string _ _ _ a0_6 [.string a0_6] from rfl) (Reps.one (show Kd.M Kd.string _ _ _ a0_7 [.string a0_7] from rfl) (Reps.none _ _)))); intro v109 w15 ho16 hb hg_ hnew_; clear hg_ hnew_; (first | rw [← Ny108.out] at ho16 | (simp only [Int.reduceToNat] at ho16; rw [← Ny108.out] at ho16)); have n0_ := Aside0.mk (Kd.R_below (RU HO106.out) hb); have n1_ := Aside0.mk (Kd.R_lower ho16 (sizG HB.out GE103.out)); have n2_ := Aside0.mk (blk_below (blkU BK103.out) hb); have n3_ := Aside0.mk (below_step (belG HB.out GE103.out) hb); clear HO106; clear BK103; clear HB; have HO106 := n0_; have HO110 := n1_; have BK103 := n2_; have HB := n3_; clear n0_ n1_ n2_ n3_; clear hb ho16; obtain ⟨Ao17, co17, eo17⟩ := Kd.R_slice HO110.out; subst eo17) | (go_at_call 41; (with_reducible refine (talk_texts.calls _ _ y108 t111 _ ?side1 ?side2 A6.out).mono ?_); (case side1 => exact CU (Kd.R_reads' HO110.out).2.2); (case side2 => exact (Kd.R_reads' HO110.out).2.1); rintro e w18 ⟨rfl, hb⟩; have n0_ := Aside0.mk (Kd.R_below (RU HO106.out) hb); have n1_ := Aside0.mk (Kd.R_below (RU HO110.out) hb); have n2_ := Aside0.mk (blk_below (blkU BK103.out) hb); have n3_ := Aside0.mk (below_step (belG HB.out GE103.out) hb); clear HO106; clear HO110; clear BK103; clear HB; have HO106 := n0_; have HO110 := n1_; have BK103 := n2_; have HB := n3_; clear n0_ n1_ n2_ n3_; (try clear hb); (try clear hb2); (try clear hk); (try clear hi)) | ((with_reducible refine gate_callee (f := 39) rfl ?_); refine goesL_ (some 33) rfl rfl Try.func39 (by kernel_rfl) rfl #[.bool t111] rfl (by (try simp only [List.map_toArray, List.map_cons, List.map_nil]); first | done | rfl | (simp only [List.length_drop, List.length_take]; rfl)) ?_; (with_reducible refine (talk_sure.calls t111 t112 _ A7.out).mono ?_); rintro e w' ⟨rfl, ⟨nd, rfl⟩⟩; refine ⟨_, rfl, ?_⟩))
        go_ret
        exact ⟨by first | rfl | (simp [errW_none, errW_some] <;> rfl) | (simp [*, errW_none, errW_some] <;> rfl), belG HB.out GE103.out⟩
      · replace c5 := Bool.eq_false_iff.mpr c5
        subst c5
        have H1 : ((talk_sure.f false).bind fun t113 => (some t113)) = some r := by rw [if_neg (show ¬ (false = true) by decide)] at H; exact H
        clear H
        have H := H1
        clear H1
        replace H := Option.bind_eq_some_iff.mp H
        obtain ⟨t113, A190, H⟩ := H
        replace H : (some t113) = some r := H
        have A19 := Aside0.mk A190
        clear A190
        obtain rfl := Option.some.inj H
        go_enter Try.func13, Try.ntmps13
        go_wp2_with (first | ((with_reducible refine gate_dst (N := 1) rfl ?_); (try (refine gate_guard (by rfl) ?_; dsimp only)); refine box_event ?hg (N := 1) ?hd (cs := #[.int .i64 a0_0, .int .i64 a0_1, .int .i64 a0_2, .int .i64 a0_3, .int .i64 a0_4, .int .i64 a0_5, .string a0_6, .string a0_7]) (t := 23) ?hr ?_; (case hd => rfl); (case hg => rfl); (case hr => first | (go_simp; done) | (go_simp; rfl)); intro gb103 hg w20 hbox hb; have n0_ := Aside0.mk (below_step (belU HB.out) hb); have n1_ := Aside0.mk (hbox); have n2_ := Aside0.mk ((by rw [hg]; exact (sizU HB.out) : w.heap.size ≤ gb103)); have n3_ := Aside0.mk ((by rw [hg]; exact (sizU HB.out) : w.heap.size ≤ gb103)); clear HB; have HB := n0_; have BK103 := n1_; have GW103 := n2_; have GE103 := n3_; clear n0_ n1_ n2_ n3_; clear hb hbox hg; have hcz21_0 : w20.cell? ⟨gb103, 0, none⟩ = some (.int .i64 a0_0) := (blk_cell BK103.out 0).trans rfl; have hcz21_1 : w20.cell? ⟨gb103, 1, none⟩ = some (.int .i64 a0_1) := (blk_cell BK103.out 1).trans rfl; have hcz21_2 : w20.cell? ⟨gb103, 2, none⟩ = some (.int .i64 a0_2) := (blk_cell BK103.out 2).trans rfl; have hcz21_3 : w20.cell? ⟨gb103, 3, none⟩ = some (.int .i64 a0_3) := (blk_cell BK103.out 3).trans rfl; have hcz21_4 : w20.cell? ⟨gb103, 4, none⟩ = some (.int .i64 a0_4) := (blk_cell BK103.out 4).trans rfl; have hcz21_5 : w20.cell? ⟨gb103, 5, none⟩ = some (.int .i64 a0_5) := (blk_cell BK103.out 5).trans rfl; have hcz21_6 : w20.cell? ⟨gb103, 6, none⟩ = some (.string a0_6) := (blk_cell BK103.out 6).trans rfl; have hcz21_7 : w20.cell? ⟨gb103, 7, none⟩ = some (.string a0_7) := (blk_cell BK103.out 7).trans rfl; have hfz21_0 := blk_frozen BK103.out 0; have hfz21_1 := blk_frozen BK103.out 1; have hfz21_2 := blk_frozen BK103.out 2; have hfz21_3 := blk_frozen BK103.out 3; have hfz21_4 := blk_frozen BK103.out 4; have hfz21_5 := blk_frozen BK103.out 5; have hfz21_6 := blk_frozen BK103.out 6; have hfz21_7 := blk_frozen BK103.out 7) | ((with_reducible refine gate_dst (N := 22) rfl ?_); (try (refine gate_guard (by rfl) ?_; dsimp only)); refine Kd.R_lit (Kd.int .i64) _ 3 ?hg (N := 22) ?hd (xs := ([a0_1, a0_2, a0_3, a0_4, a0_5] : List Int)) (inner := [.int .i64 a0_1, .int .i64 a0_2, .int .i64 a0_3, .int .i64 a0_4, .int .i64 a0_5]) (ok := fun _ => True) (okp := fun _ => True) ?hr ?hp (fun _ hk => hk) trivial (Below.refl _ _) (Nat.le_refl _) (by simp) ?_; (case hd => rfl); (case hg => rfl); (case hr => first | (go_simp; done) | (go_simp; rfl)); (case hp => exact (Reps.one (show Kd.M (Kd.int .i64) _ _ _ a0_1 [.int .i64 a0_1] from rfl) (Reps.one (show Kd.M (Kd.int .i64) _ _ _ a0_2 [.int .i64 a0_2] from rfl) (Reps.one (show Kd.M (Kd.int .i64) _ _ _ a0_3 [.int .i64 a0_3] from rfl) (Reps.one (show Kd.M (Kd.int .i64) _ _ _ a0_4 [.int .i64 a0_4] from rfl) (Reps.one (show Kd.M (Kd.int .i64) _ _ _ a0_5 [.int .i64 a0_5] from rfl) (Reps.none _ _))))))); intro v105 w22 ho23 hb hg_ hnew_; clear hg_ hnew_; (first | rw [← Ny104.out] at ho23 | (simp only [Int.reduceToNat] at ho23; rw [← Ny104.out] at ho23)); have n0_ := Aside0.mk (Kd.R_lower ho23 (sizG HB.out GE103.out)); have n1_ := Aside0.mk (blk_below (blkU BK103.out) hb); have n2_ := Aside0.mk (below_step (belG HB.out GE103.out) hb); clear BK103; clear HB; have HO106 := n0_; have BK103 := n1_; have HB := n2_; clear n0_ n1_ n2_; clear hb ho23; obtain ⟨Ao24, co24, eo24⟩ := Kd.R_slice HO106.out; subst eo24) | (go_at_call 40; (with_reducible refine (talk_nums.calls _ _ y104 false _ ?side1 ?side2 A4.out).mono ?_); (case side1 => exact CU (Kd.R_reads' HO106.out).2.2); (case side2 => exact (Kd.R_reads' HO106.out).2.1); rintro e w25 ⟨rfl, hb⟩; have n0_ := Aside0.mk (Kd.R_below (RU HO106.out) hb); have n1_ := Aside0.mk (blk_below (blkU BK103.out) hb); have n2_ := Aside0.mk (below_step (belG HB.out GE103.out) hb); clear HO106; clear BK103; clear HB; have HO106 := n0_; have BK103 := n1_; have HB := n2_; clear n0_ n1_ n2_; (try clear hb); (try clear hb2); (try clear hk); (try clear hi)) | ((with_reducible refine gate_callee (f := 39) rfl ?_); refine goesL_ (some 33) rfl rfl Try.func39 (by kernel_rfl) rfl #[.bool false] rfl (by (try simp only [List.map_toArray, List.map_cons, List.map_nil]); first | done | rfl | (simp only [List.length_drop, List.length_take]; rfl)) ?_; (with_reducible refine (talk_sure.calls false t113 _ A19.out).mono ?_); rintro e w' ⟨rfl, ⟨nd, rfl⟩⟩; refine ⟨_, rfl, ?_⟩))
        go_ret
        exact ⟨by first | rfl | (simp [errW_none, errW_some] <;> rfl) | (simp [*, errW_none, errW_some] <;> rfl), belG HB.out GE103.out⟩
    · rw [if_neg c3] at H
      have c3b0 : decide (a0_0 ≤ 8) = false := decide_eq_false c3
      clear c3
      replace H := Option.bind_eq_some_iff.mp H
      obtain ⟨t114, A260, H⟩ := H
      replace H : (some t114) = some r := H
      have A26 := Aside0.mk A260
      clear A260
      obtain rfl := Option.some.inj H
      go_enter Try.func13, Try.ntmps13
      go_wp2_with (first | ((with_reducible refine gate_dst (N := 1) rfl ?_); (try (refine gate_guard (by rfl) ?_; dsimp only)); refine box_event ?hg (N := 1) ?hd (cs := #[.int .i64 a0_0, .int .i64 a0_1, .int .i64 a0_2, .int .i64 a0_3, .int .i64 a0_4, .int .i64 a0_5, .string a0_6, .string a0_7]) (t := 23) ?hr ?_; (case hd => rfl); (case hg => rfl); (case hr => first | (go_simp; done) | (go_simp; rfl)); intro gb103 hg w27 hbox hb; have n0_ := Aside0.mk (below_step (belU HB.out) hb); have n1_ := Aside0.mk (hbox); have n2_ := Aside0.mk ((by rw [hg]; exact (sizU HB.out) : w.heap.size ≤ gb103)); have n3_ := Aside0.mk ((by rw [hg]; exact (sizU HB.out) : w.heap.size ≤ gb103)); clear HB; have HB := n0_; have BK103 := n1_; have GW103 := n2_; have GE103 := n3_; clear n0_ n1_ n2_ n3_; clear hb hbox hg; have hcz28_0 : w27.cell? ⟨gb103, 0, none⟩ = some (.int .i64 a0_0) := (blk_cell BK103.out 0).trans rfl; have hcz28_1 : w27.cell? ⟨gb103, 1, none⟩ = some (.int .i64 a0_1) := (blk_cell BK103.out 1).trans rfl; have hcz28_2 : w27.cell? ⟨gb103, 2, none⟩ = some (.int .i64 a0_2) := (blk_cell BK103.out 2).trans rfl; have hcz28_3 : w27.cell? ⟨gb103, 3, none⟩ = some (.int .i64 a0_3) := (blk_cell BK103.out 3).trans rfl; have hcz28_4 : w27.cell? ⟨gb103, 4, none⟩ = some (.int .i64 a0_4) := (blk_cell BK103.out 4).trans rfl; have hcz28_5 : w27.cell? ⟨gb103, 5, none⟩ = some (.int .i64 a0_5) := (blk_cell BK103.out 5).trans rfl; have hcz28_6 : w27.cell? ⟨gb103, 6, none⟩ = some (.string a0_6) := (blk_cell BK103.out 6).trans rfl; have hcz28_7 : w27.cell? ⟨gb103, 7, none⟩ = some (.string a0_7) := (blk_cell BK103.out 7).trans rfl; have hfz28_0 := blk_frozen BK103.out 0; have hfz28_1 := blk_frozen BK103.out 1; have hfz28_2 := blk_frozen BK103.out 2; have hfz28_3 := blk_frozen BK103.out 3; have hfz28_4 := blk_frozen BK103.out 4; have hfz28_5 := blk_frozen BK103.out 5; have hfz28_6 := blk_frozen BK103.out 6; have hfz28_7 := blk_frozen BK103.out 7) | ((with_reducible refine gate_callee (f := 39) rfl ?_); refine goesL_ (some 33) rfl rfl Try.func39 (by kernel_rfl) rfl #[.bool false] rfl (by (try simp only [List.map_toArray, List.map_cons, List.map_nil]); first | done | rfl | (simp only [List.length_drop, List.length_take]; rfl)) ?_; (with_reducible refine (talk_sure.calls false t114 _ A26.out).mono ?_); rintro e w' ⟨rfl, ⟨nd, rfl⟩⟩; refine ⟨_, rfl, ?_⟩))
      go_ret
      exact ⟨by first | rfl | (simp [errW_none, errW_some] <;> rfl) | (simp [*, errW_none, errW_some] <;> rfl), belG HB.out GE103.out⟩
  · rw [if_neg c2] at H
    have c2b0 : decide (1 ≤ a0_0) = false := decide_eq_false c2
    clear c2
    replace H := Option.bind_eq_some_iff.mp H
    obtain ⟨t115, A290, H⟩ := H
    replace H : (some t115) = some r := H
    have A29 := Aside0.mk A290
    clear A290
    obtain rfl := Option.some.inj H
    go_enter Try.func13, Try.ntmps13
    go_wp2_with (first | ((with_reducible refine gate_dst (N := 1) rfl ?_); (try (refine gate_guard (by rfl) ?_; dsimp only)); refine box_event ?hg (N := 1) ?hd (cs := #[.int .i64 a0_0, .int .i64 a0_1, .int .i64 a0_2, .int .i64 a0_3, .int .i64 a0_4, .int .i64 a0_5, .string a0_6, .string a0_7]) (t := 23) ?hr ?_; (case hd => rfl); (case hg => rfl); (case hr => first | (go_simp; done) | (go_simp; rfl)); intro gb103 hg w30 hbox hb; have n0_ := Aside0.mk (below_step (belU HB.out) hb); have n1_ := Aside0.mk (hbox); have n2_ := Aside0.mk ((by rw [hg]; exact (sizU HB.out) : w.heap.size ≤ gb103)); have n3_ := Aside0.mk ((by rw [hg]; exact (sizU HB.out) : w.heap.size ≤ gb103)); clear HB; have HB := n0_; have BK103 := n1_; have GW103 := n2_; have GE103 := n3_; clear n0_ n1_ n2_ n3_; clear hb hbox hg; have hcz31_0 : w30.cell? ⟨gb103, 0, none⟩ = some (.int .i64 a0_0) := (blk_cell BK103.out 0).trans rfl; have hcz31_1 : w30.cell? ⟨gb103, 1, none⟩ = some (.int .i64 a0_1) := (blk_cell BK103.out 1).trans rfl; have hcz31_2 : w30.cell? ⟨gb103, 2, none⟩ = some (.int .i64 a0_2) := (blk_cell BK103.out 2).trans rfl; have hcz31_3 : w30.cell? ⟨gb103, 3, none⟩ = some (.int .i64 a0_3) := (blk_cell BK103.out 3).trans rfl; have hcz31_4 : w30.cell? ⟨gb103, 4, none⟩ = some (.int .i64 a0_4) := (blk_cell BK103.out 4).trans rfl; have hcz31_5 : w30.cell? ⟨gb103, 5, none⟩ = some (.int .i64 a0_5) := (blk_cell BK103.out 5).trans rfl; have hcz31_6 : w30.cell? ⟨gb103, 6, none⟩ = some (.string a0_6) := (blk_cell BK103.out 6).trans rfl; have hcz31_7 : w30.cell? ⟨gb103, 7, none⟩ = some (.string a0_7) := (blk_cell BK103.out 7).trans rfl; have hfz31_0 := blk_frozen BK103.out 0; have hfz31_1 := blk_frozen BK103.out 1; have hfz31_2 := blk_frozen BK103.out 2; have hfz31_3 := blk_frozen BK103.out 3; have hfz31_4 := blk_frozen BK103.out 4; have hfz31_5 := blk_frozen BK103.out 5; have hfz31_6 := blk_frozen BK103.out 6; have hfz31_7 := blk_frozen BK103.out 7) | ((with_reducible refine gate_callee (f := 39) rfl ?_); refine goesL_ (some 33) rfl rfl Try.func39 (by kernel_rfl) rfl #[.bool false] rfl (by (try simp only [List.map_toArray, List.map_cons, List.map_nil]); first | done | rfl | (simp only [List.length_drop, List.length_take]; rfl)) ?_; (with_reducible refine (talk_sure.calls false t115 _ A29.out).mono ?_); rintro e w' ⟨rfl, ⟨nd, rfl⟩⟩; refine ⟨_, rfl, ?_⟩))
    go_ret
    exact ⟨by first | rfl | (simp [errW_none, errW_some] <;> rfl) | (simp [*, errW_none, errW_some] <;> rfl), belG HB.out GE103.out⟩

end Go.Proofs.Ytjaneipklpgnlaa.Q
