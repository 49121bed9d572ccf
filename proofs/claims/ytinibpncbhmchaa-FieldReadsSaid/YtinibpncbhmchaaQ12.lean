-- Written by wip/tools/printx.py (the kit's print, with functions given by hand). Not trusted: Lean checks it.
import Derived.Test.YtinibpncbhmchaaK1
import Derived.Test.YtinibpncbhmchaaQ0
import Derived.Test.YtinibpncbhmchaaQ7
import Derived.Test.YtinibpncbhmchaaQ8
namespace Go.Proofs.Ytinibpncbhmchaa.Q
open Go.RowKit Go.Proofs.YtinibpncbhmchaaW.PrintWords Go.Proofs.YtinibpncbhmchaaW.PrintLast Go.Proofs.YtinibpncbhmchaaW.PrintMore
attribute [local go_sem] max2_int min2_int max_two min_two max_three min_three max_four min_four   -- for this text's walks alone
attribute [local go_sem ↓] Go.Proofs.YtinibpncbhmchaaK.isSome_setCell
set_option linter.unusedVariables false
set_option linter.unusedSimpArgs false

/-! ### aquiferref04_Decode: function 14 -/
mutual
def aquiferref04_Decode.l0 : Nat → ByteArray → List (S39) → Int → Option ((List (S39)) × Int)
  | 0, _, _, _ => none
  | k + 1, x0, x4, x5 => if x5 < (x0.size : Int) then (if 0 ≤ x5 then (aquiferref04_Decode.l1 k x0 x4 x5 0 1 (wrap64 (x5 + 1)) (wrap64 (Int.tdiv (wrap64 (bt x0 x5)) 2)) (Int.tmod (wrap64 (bt x0 x5)) 2) 0 (⟨#[]⟩ : ByteArray)) else (none)) else ((aquiferref04_Encode.f k x4).bind fun bt191 => (if bt191.2 = 0 then (if bt191.1.toList = x0.toList then (some (x4, 0)) else (some (([] : List (S39)), 5))) else (some (([] : List (S39)), 5))))
def aquiferref04_Decode.j2 : Nat → ByteArray → List (S39) → Int → Int → Int → Int → Int → Int → Int → ByteArray → Option ((List (S39)) × Int)
  | 0, _, _, _, _, _, _, _, _, _, _ => none
  | k + 1, x0, x4, x5, x7, x8, x9, x194000, x194001, x194002, x194003 => if x9 ≥ (x0.size : Int) then (aquiferref04_Decode.j3 k x0 x4 x5 x7 x8 x9 true x194000 x194001 x194002 x194003) else (aquiferref04_Decode.j3 k x0 x4 x5 x7 x8 x9 (decide ((wrap64 (x9 - x5)) ≥ 10)) x194000 x194001 x194002 x194003)
def aquiferref04_Decode.j3 : Nat → ByteArray → List (S39) → Int → Int → Int → Int → Bool → Int → Int → Int → ByteArray → Option ((List (S39)) × Int)
  | 0, _, _, _, _, _, _, _, _, _, _, _ => none
  | k + 1, x0, x4, x5, x7, x8, x9, x70, x194000, x194001, x194002, x194003 => if x70 = true then (some (([] : List (S39)), 5)) else (if 0 ≤ x9 then (if x9 < (x0.size : Int) then (if (wrap64 (x7 + (wrap64 ((wrap64 (bt x0 x9)) * x8)))) < 0 then (aquiferref04_Decode.j4 k x0 x4 x5 (wrap64 (x7 + (wrap64 ((wrap64 (bt x0 x9)) * x8)))) (wrap64 (x9 + 1)) true x194000 x194001 x194002 x194003) else (if x194001 = 1 then (aquiferref04_Decode.j4 k x0 x4 x5 (wrap64 (x7 + (wrap64 ((wrap64 (bt x0 x9)) * x8)))) (wrap64 (x9 + 1)) (decide ((wrap64 (x7 + (wrap64 ((wrap64 (bt x0 x9)) * x8)))) > (wrap64 ((x0.size : Int) - (wrap64 (x9 + 1)))))) x194000 x194001 x194002 x194003) else (aquiferref04_Decode.j4 k x0 x4 x5 (wrap64 (x7 + (wrap64 ((wrap64 (bt x0 x9)) * x8)))) (wrap64 (x9 + 1)) false x194000 x194001 x194002 x194003))) else (none)) else (none))
def aquiferref04_Decode.j4 : Nat → ByteArray → List (S39) → Int → Int → Int → Bool → Int → Int → Int → ByteArray → Option ((List (S39)) × Int)
  | 0, _, _, _, _, _, _, _, _, _, _ => none
  | k + 1, x0, x4, x5, x7, x9, x95, x194000, x194001, x194002, x194003 => if x95 = true then (some (([] : List (S39)), 5)) else (if x194001 = 0 then ((aquiferref04_bytes.f k x194000 x194001 x7 x194003).bind fun t194 => (if 0 ≤ x5 then (if x5 ≤ x9 then (if x9 ≤ (x0.size : Int) then (if (strOfNums t194).toList = (x0.extract (x5 : Int).toNat (x9 : Int).toNat).toList then (if x4.length < 3518437208883 then (aquiferref04_Decode.l0 k x0 (x4 ++ [(⟨x194000, x194001, x7, x194003⟩ : S39)]) x9) else (none)) else (some (([] : List (S39)), 5))) else (none)) else (none)) else (none))) else (if 0 ≤ x9 then (if x9 ≤ (wrap64 (x9 + x7)) then (if (wrap64 (x9 + x7)) ≤ (x0.size : Int) then ((aquiferref04_bytes.f k x194000 x194001 x194002 (x0.extract (x9 : Int).toNat ((wrap64 (x9 + x7)) : Int).toNat)).bind fun t200 => (if 0 ≤ x5 then (if x5 ≤ (wrap64 (x9 + x7)) then (if (strOfNums t200).toList = (x0.extract (x5 : Int).toNat ((wrap64 (x9 + x7)) : Int).toNat).toList then (if x4.length < 3518437208883 then (aquiferref04_Decode.l0 k x0 (x4 ++ [(⟨x194000, x194001, x194002, x0.extract (x9 : Int).toNat ((wrap64 (x9 + x7)) : Int).toNat⟩ : S39)]) (wrap64 (x9 + x7))) else (none)) else (some (([] : List (S39)), 5))) else (none)) else (none))) else (none)) else (none)) else (none)))
def aquiferref04_Decode.l1 : Nat → ByteArray → List (S39) → Int → Int → Int → Int → Int → Int → Int → ByteArray → Option ((List (S39)) × Int)
  | 0, _, _, _, _, _, _, _, _, _, _ => none
  | k + 1, x0, x4, x5, x7, x8, x9, x194000, x194001, x194002, x194003 => if x9 < (x0.size : Int) then (if (wrap64 (x9 - x5)) < 10 then (if 0 ≤ x9 then (if (bt x0 x9) ≥ 128 then (aquiferref04_Decode.l1 k x0 x4 x5 (wrap64 (x7 + (wrap64 ((wrap64 ((wrap64 (bt x0 x9)) - 128)) * x8)))) (wrap64 (x8 * 128)) (wrap64 (x9 + 1)) x194000 x194001 x194002 x194003) else (aquiferref04_Decode.j2 k x0 x4 x5 x7 x8 x9 x194000 x194001 x194002 x194003)) else (none)) else (aquiferref04_Decode.j2 k x0 x4 x5 x7 x8 x9 x194000 x194001 x194002 x194003)) else (aquiferref04_Decode.j2 k x0 x4 x5 x7 x8 x9 x194000 x194001 x194002 x194003)
end
def aquiferref04_Decode.f (k : Nat) (a0 : ByteArray) : Option ((List (S39)) × Int) := if (a0.size : Int) > 65536 then (some (([] : List (S39)), 5)) else (aquiferref04_Decode.l0 k a0 ([] : List (S39)) 0)
theorem aquiferref04_Decode.mono_l : ∀ k, (∀ y0 y1 y2, LeO (aquiferref04_Decode.l0 k y0 y1 y2) (aquiferref04_Decode.l0 (k + 1) y0 y1 y2)) ∧ (∀ y0 y1 y2 y3 y4 y5 y6 y7 y8 y9, LeO (aquiferref04_Decode.j2 k y0 y1 y2 y3 y4 y5 y6 y7 y8 y9) (aquiferref04_Decode.j2 (k + 1) y0 y1 y2 y3 y4 y5 y6 y7 y8 y9)) ∧ (∀ y0 y1 y2 y3 y4 y5 y6 y7 y8 y9 y10, LeO (aquiferref04_Decode.j3 k y0 y1 y2 y3 y4 y5 y6 y7 y8 y9 y10) (aquiferref04_Decode.j3 (k + 1) y0 y1 y2 y3 y4 y5 y6 y7 y8 y9 y10)) ∧ (∀ y0 y1 y2 y3 y4 y5 y6 y7 y8 y9, LeO (aquiferref04_Decode.j4 k y0 y1 y2 y3 y4 y5 y6 y7 y8 y9) (aquiferref04_Decode.j4 (k + 1) y0 y1 y2 y3 y4 y5 y6 y7 y8 y9)) ∧ (∀ y0 y1 y2 y3 y4 y5 y6 y7 y8 y9, LeO (aquiferref04_Decode.l1 k y0 y1 y2 y3 y4 y5 y6 y7 y8 y9) (aquiferref04_Decode.l1 (k + 1) y0 y1 y2 y3 y4 y5 y6 y7 y8 y9))
  | 0 => ⟨fun _ _ _ r h => by simp [aquiferref04_Decode.l0] at h, fun _ _ _ _ _ _ _ _ _ _ r h => by simp [aquiferref04_Decode.j2] at h, fun _ _ _ _ _ _ _ _ _ _ _ r h => by simp [aquiferref04_Decode.j3] at h, fun _ _ _ _ _ _ _ _ _ _ r h => by simp [aquiferref04_Decode.j4] at h, fun _ _ _ _ _ _ _ _ _ _ r h => by simp [aquiferref04_Decode.l1] at h⟩
  | k + 1 => by
    obtain ⟨ih0, ih1, ih2, ih3, ih4⟩ := aquiferref04_Decode.mono_l k
    refine ⟨?_, ?_, ?_, ?_, ?_⟩
    · intro y0 y1 y2
      unfold aquiferref04_Decode.l0
      repeat' first
      | (with_reducible exact ih0 _ _ _)
      | (with_reducible exact ih1 _ _ _ _ _ _ _ _ _ _)
      | (with_reducible exact ih2 _ _ _ _ _ _ _ _ _ _ _)
      | (with_reducible exact ih3 _ _ _ _ _ _ _ _ _ _)
      | (with_reducible exact ih4 _ _ _ _ _ _ _ _ _ _)
      | (with_reducible exact aquiferref04_Encode.mono _ _)
      | (with_reducible exact aquiferref04_bytes.mono _ _ _ _ _)
      | (with_reducible exact LeO.refl _)
      | (with_reducible exact LeO.none _)
      | (with_reducible refine LeO.ite ?_ ?_)
      | (with_reducible refine LeO.bind ?_ (fun _ => ?_))
      | exact ih0 _ _ _
      | exact ih1 _ _ _ _ _ _ _ _ _ _
      | exact ih2 _ _ _ _ _ _ _ _ _ _ _
      | exact ih3 _ _ _ _ _ _ _ _ _ _
      | exact ih4 _ _ _ _ _ _ _ _ _ _
      | exact aquiferref04_Encode.mono _ _
      | exact aquiferref04_bytes.mono _ _ _ _ _
      | exact LeO.none _
      | refine LeO.ite ?_ ?_
      | refine LeO.bind ?_ (fun _ => ?_)
    · intro y0 y1 y2 y3 y4 y5 y6 y7 y8 y9
      unfold aquiferref04_Decode.j2
      repeat' first
      | (with_reducible exact ih0 _ _ _)
      | (with_reducible exact ih1 _ _ _ _ _ _ _ _ _ _)
      | (with_reducible exact ih2 _ _ _ _ _ _ _ _ _ _ _)
      | (with_reducible exact ih3 _ _ _ _ _ _ _ _ _ _)
      | (with_reducible exact ih4 _ _ _ _ _ _ _ _ _ _)
      | (with_reducible exact aquiferref04_Encode.mono _ _)
      | (with_reducible exact aquiferref04_bytes.mono _ _ _ _ _)
      | (with_reducible exact LeO.refl _)
      | (with_reducible exact LeO.none _)
      | (with_reducible refine LeO.ite ?_ ?_)
      | (with_reducible refine LeO.bind ?_ (fun _ => ?_))
      | exact ih0 _ _ _
      | exact ih1 _ _ _ _ _ _ _ _ _ _
      | exact ih2 _ _ _ _ _ _ _ _ _ _ _
      | exact ih3 _ _ _ _ _ _ _ _ _ _
      | exact ih4 _ _ _ _ _ _ _ _ _ _
      | exact aquiferref04_Encode.mono _ _
      | exact aquiferref04_bytes.mono _ _ _ _ _
      | exact LeO.none _
      | refine LeO.ite ?_ ?_
      | refine LeO.bind ?_ (fun _ => ?_)
    · intro y0 y1 y2 y3 y4 y5 y6 y7 y8 y9 y10
      unfold aquiferref04_Decode.j3
      repeat' first
      | (with_reducible exact ih0 _ _ _)
      | (with_reducible exact ih1 _ _ _ _ _ _ _ _ _ _)
      | (with_reducible exact ih2 _ _ _ _ _ _ _ _ _ _ _)
      | (with_reducible exact ih3 _ _ _ _ _ _ _ _ _ _)
      | (with_reducible exact ih4 _ _ _ _ _ _ _ _ _ _)
      | (with_reducible exact aquiferref04_Encode.mono _ _)
      | (with_reducible exact aquiferref04_bytes.mono _ _ _ _ _)
      | (with_reducible exact LeO.refl _)
      | (with_reducible exact LeO.none _)
      | (with_reducible refine LeO.ite ?_ ?_)
      | (with_reducible refine LeO.bind ?_ (fun _ => ?_))
      | exact ih0 _ _ _
      | exact ih1 _ _ _ _ _ _ _ _ _ _
      | exact ih2 _ _ _ _ _ _ _ _ _ _ _
      | exact ih3 _ _ _ _ _ _ _ _ _ _
      | exact ih4 _ _ _ _ _ _ _ _ _ _
      | exact aquiferref04_Encode.mono _ _
      | exact aquiferref04_bytes.mono _ _ _ _ _
      | exact LeO.none _
      | refine LeO.ite ?_ ?_
      | refine LeO.bind ?_ (fun _ => ?_)
    · intro y0 y1 y2 y3 y4 y5 y6 y7 y8 y9
      unfold aquiferref04_Decode.j4
      repeat' first
      | (with_reducible exact ih0 _ _ _)
      | (with_reducible exact ih1 _ _ _ _ _ _ _ _ _ _)
      | (with_reducible exact ih2 _ _ _ _ _ _ _ _ _ _ _)
      | (with_reducible exact ih3 _ _ _ _ _ _ _ _ _ _)
      | (with_reducible exact ih4 _ _ _ _ _ _ _ _ _ _)
      | (with_reducible exact aquiferref04_Encode.mono _ _)
      | (with_reducible exact aquiferref04_bytes.mono _ _ _ _ _)
      | (with_reducible exact LeO.refl _)
      | (with_reducible exact LeO.none _)
      | (with_reducible refine LeO.ite ?_ ?_)
      | (with_reducible refine LeO.bind ?_ (fun _ => ?_))
      | exact ih0 _ _ _
      | exact ih1 _ _ _ _ _ _ _ _ _ _
      | exact ih2 _ _ _ _ _ _ _ _ _ _ _
      | exact ih3 _ _ _ _ _ _ _ _ _ _
      | exact ih4 _ _ _ _ _ _ _ _ _ _
      | exact aquiferref04_Encode.mono _ _
      | exact aquiferref04_bytes.mono _ _ _ _ _
      | exact LeO.none _
      | refine LeO.ite ?_ ?_
      | refine LeO.bind ?_ (fun _ => ?_)
    · intro y0 y1 y2 y3 y4 y5 y6 y7 y8 y9
      unfold aquiferref04_Decode.l1
      repeat' first
      | (with_reducible exact ih0 _ _ _)
      | (with_reducible exact ih1 _ _ _ _ _ _ _ _ _ _)
      | (with_reducible exact ih2 _ _ _ _ _ _ _ _ _ _ _)
      | (with_reducible exact ih3 _ _ _ _ _ _ _ _ _ _)
      | (with_reducible exact ih4 _ _ _ _ _ _ _ _ _ _)
      | (with_reducible exact aquiferref04_Encode.mono _ _)
      | (with_reducible exact aquiferref04_bytes.mono _ _ _ _ _)
      | (with_reducible exact LeO.refl _)
      | (with_reducible exact LeO.none _)
      | (with_reducible refine LeO.ite ?_ ?_)
      | (with_reducible refine LeO.bind ?_ (fun _ => ?_))
      | exact ih0 _ _ _
      | exact ih1 _ _ _ _ _ _ _ _ _ _
      | exact ih2 _ _ _ _ _ _ _ _ _ _ _
      | exact ih3 _ _ _ _ _ _ _ _ _ _
      | exact ih4 _ _ _ _ _ _ _ _ _ _
      | exact aquiferref04_Encode.mono _ _
      | exact aquiferref04_bytes.mono _ _ _ _ _
      | exact LeO.none _
      | refine LeO.ite ?_ ?_
      | refine LeO.bind ?_ (fun _ => ?_)
theorem aquiferref04_Decode.mono : ∀ a0 k, LeO (aquiferref04_Decode.f k a0) (aquiferref04_Decode.f (k + 1) a0) := by
  intro a0 k
  obtain ⟨ih0, ih1, ih2, ih3, ih4⟩ := aquiferref04_Decode.mono_l k
  unfold aquiferref04_Decode.f
  repeat' first
      | (with_reducible exact ih0 _ _ _)
      | (with_reducible exact ih1 _ _ _ _ _ _ _ _ _ _)
      | (with_reducible exact ih2 _ _ _ _ _ _ _ _ _ _ _)
      | (with_reducible exact ih3 _ _ _ _ _ _ _ _ _ _)
      | (with_reducible exact ih4 _ _ _ _ _ _ _ _ _ _)
      | (with_reducible exact aquiferref04_Encode.mono _ _)
      | (with_reducible exact aquiferref04_bytes.mono _ _ _ _ _)
      | (with_reducible exact LeO.refl _)
      | (with_reducible exact LeO.none _)
      | (with_reducible refine LeO.ite ?_ ?_)
      | (with_reducible refine LeO.bind ?_ (fun _ => ?_))
      | exact ih0 _ _ _
      | exact ih1 _ _ _ _ _ _ _ _ _ _
      | exact ih2 _ _ _ _ _ _ _ _ _ _ _
      | exact ih3 _ _ _ _ _ _ _ _ _ _
      | exact ih4 _ _ _ _ _ _ _ _ _ _
      | exact aquiferref04_Encode.mono _ _
      | exact aquiferref04_bytes.mono _ _ _ _ _
      | exact LeO.none _
      | refine LeO.ite ?_ ?_
      | refine LeO.bind ?_ (fun _ => ?_)
def aquiferref04_Decode.T6 : Bool × List (List Nat × List Nat) := (true, [([], []), ([], []), ([0, 1], [0, 1]), ([2], [2]), ([3], [3]), ([], []), ([], []), ([5, 6], [5, 6]), ([7], [7]), ([8], [8]), ([4, 9], [4, 9]), ([], []), ([11, 10, 0, 1, 2, 3, 4, 5, 6, 7, 8, 9, 10, 11], [10, 11])])
def aquiferref04_Decode.B6 : List Nat := [0, 0, 3, 7, 15, 0, 0, 96, 224, 480, 1023, 0, 4095]
theorem aquiferref04_Decode.tab6 : rtab .any (opsOf Try.f14 6) = aquiferref04_Decode.T6 := by kernel_rfl
theorem aquiferref04_Decode.bits6 : waitsOk aquiferref04_Decode.T6.2 aquiferref04_Decode.B6 = true := by kernel_rfl
def aquiferref04_Decode.T24 : Bool × List (List Nat × List Nat) := (true, [([], []), ([0], [0]), ([1], [1]), ([], []), ([], []), ([], []), ([3, 4, 5], [3, 4, 5]), ([2, 6], [2, 6])])
def aquiferref04_Decode.B24 : List Nat := [0, 1, 3, 0, 0, 0, 56, 127]
theorem aquiferref04_Decode.tab24 : rtab .any (opsOf Try.f14 24) = aquiferref04_Decode.T24 := by kernel_rfl
theorem aquiferref04_Decode.bits24 : waitsOk aquiferref04_Decode.T24.2 aquiferref04_Decode.B24 = true := by kernel_rfl
set_option maxHeartbeats 8000000 in
set_option maxRecDepth 100000 in
theorem aquiferref04_Decode.calls (k : Nat) (a0 : ByteArray) (r1 : List (S39)) (r2 : Int) (w : World) (h : aquiferref04_Decode.f k a0 = some (r1, r2)) :
    Calls Try.prog 14 #[.string a0] w fun e w' => ∃ v0_ : Value, e = .returned (.tuple #[v0_, .int .i64 r2]) ∧ Kd.R k39 39 w' w.heap.size (fun _ => True) v0_ r1 ∧ Below w.heap.size w w' := by
  have hu39 := Try.underlying39
  have HB := Aside0.mk (Below.refl w.heap.size w)
  have H : (if (a0.size : Int) > 65536 then (some (([] : List (S39)), 5)) else (aquiferref04_Decode.l0 k a0 ([] : List (S39)) 0)) = some (r1, r2) := h
  clear h
  by_cases c2 : (a0.size : Int) > 65536
  · rw [if_pos c2] at H
    have c2b0 : decide (65536 < (a0.size : Int)) = true := decide_eq_true c2
    have c2b1 : decide (65536 < a0.size) = true := decide_eq_true (by omega)
    clear c2
    simp only [Option.some.injEq, Prod.mk.injEq] at H
    obtain ⟨rfl, rfl⟩ := H
    go_enter Try.func14, Try.ntmps14
    go_wp2
    go_ret2
    exact ⟨_, by first | rfl | (simp [errW_none, errW_some] <;> rfl) | (simp [*, errW_none, errW_some] <;> rfl), by first | exact Kd.R_nil _ _ _ _ _ | exact Kd.N_nil _ _ _ _ _ | exact Kd.V_nil _ _ _ _ _ | exact Kd.Q_nil _ _ _ _ _ | exact Kd.S_nil _ _ _ _ _, by repeat (first | (with_reducible first | exact HB.out | apply below_alloc | apply pw_below_drewN | apply below_drew1) | exact HB.out)⟩
  · rw [if_neg c2] at H
    have c2b0 : decide (65536 < (a0.size : Int)) = false := decide_eq_false c2
    have c2b1 : decide (65536 < a0.size) = false := decide_eq_false (by omega)
    clear c2
    have H' := Aside0.mk H
    clear H
    go_enter Try.func14, Try.ntmps14
    go_wp2
    go_loopg [4, 5] k (fun kq v4 v5 w' => ∃ (x4_1 : List (S39)) (x5_1 : Int), v5 = .int .i64 x5_1 ∧ Aside0 (aquiferref04_Decode.l0 kq a0 x4_1 x5_1 = some (r1, r2)) ∧ Aside0 (kq ≤ k) ∧ Aside0 (Kd.R k39 39 w' w.heap.size (fun _ => True) v4 x4_1) ∧ Aside0 (Below w.heap.size w w'))
    case atStart => exact ⟨(([] : List (S39))), (0), (by first | rfl | (simp; done) | (simp [*]; done)), H', ⟨Nat.le_refl _⟩, ⟨by first | exact Kd.R_nil _ _ _ _ _ | exact Kd.N_nil _ _ _ _ _ | exact Kd.V_nil _ _ _ _ _ | exact Kd.Q_nil _ _ _ _ _ | exact Kd.S_nil _ _ _ _ _⟩, ⟨by repeat (first | (with_reducible first | exact HB.out | apply below_alloc | apply pw_below_drewN | apply below_drew1) | exact HB.out)⟩⟩
    case round =>
      clear H'
      try clear c1
      try clear c2
      try clear c2b0
      try clear c2b1
      try clear p2
      obtain ⟨x4_1, x5_1, rfl, HA, HK1, HO_4, HB⟩ := hrel
      cases gk with
      | zero => exact absurd HA.out (by simp [aquiferref04_Decode.l0])
      | succ k1 =>
        have H := HA.out
        clear HA
        simp only [aquiferref04_Decode.l0] at H
        by_cases c3 : x5_1 < (a0.size : Int)
        · rw [if_pos c3] at H
          have c3b0 : decide (x5_1 < (a0.size : Int)) = true := decide_eq_true c3
          clear c3
          by_cases c4 : 0 ≤ x5_1
          · rw [if_pos c4] at H
            have c4b0 : decide (0 ≤ x5_1) = true := decide_eq_true c4
            clear c4
            have HC7 := Aside0.mk H
            clear H
            try go_wp2
            have n0_ := Aside0.mk (Kd.R_drew HO_4.out)
            have n1_ := Aside0.mk (below_drew1 HB.out)
            clear HO_4
            clear HB
            have HO_4 := n0_
            have HB := n1_
            clear n0_ n1_
            have p5 : 0 ≤ (x5_1 : Int) := of_decide_eq_true (by first | (with_reducible assumption) | assumption)
            have q5 : x5_1 < (a0.size : Int) := of_decide_eq_true (by first | (with_reducible assumption) | assumption)
            have hx5 := bt_at a0 x5_1
            replace p5 := eq_true p5
            replace q5 := eq_true q5
            have p6 : 0 ≤ (x5_1 : Int) := of_decide_eq_true (by first | (with_reducible assumption) | assumption)
            have q6 : x5_1 < (a0.size : Int) := of_decide_eq_true (by first | (with_reducible assumption) | assumption)
            have hx6 := bt_at a0 x5_1
            replace p6 := eq_true p6
            replace q6 := eq_true q6
            refine start_ (n := 13) (S := fun w' => True) (ds := []) #[false, false, false, false, false, false, false, false, false, false, false, false, false] (by kernel_rfl) rfl rfl trivial (fun hHeld => ?_); refine with_tabW aquiferref04_Decode.tab6 aquiferref04_Decode.bits6 (fun HT_ HW_ => ?_)
            generalize wr.drew = w8 at HO_4 HB hHeld ⊢
            refine pure_ (i := 0) (N := some 19) (v := ?_) (a' := ?_) #[true, false, false, false, false, false, false, false, false, false, false, false, false] rfl rfl (any_of HT_.out (by kernel_rfl)) (fun _ _ _ h => h) (Or.inl ⟨by rfl, ?_⟩) ?_ ?_
            rotate_left
            · intro w'
              go_simp
              with_reducible rfl
            rotate_left
            · simp only [Act.put, List.setIfInBounds_toArray, List.set_cons_zero, List.set_cons_succ, i64_w, i32_w]
              rfl
            refine pure_ (i := 1) (N := some 20) (v := ?_) (a' := ?_) #[true, true, false, false, false, false, false, false, false, false, false, false, false] rfl rfl (any_of HT_.out (by kernel_rfl)) (fun _ _ _ h => h) (Or.inl ⟨by rfl, ?_⟩) ?_ ?_
            rotate_left
            · intro w'
              go_simp
              with_reducible rfl
            rotate_left
            · simp only [Act.put, List.setIfInBounds_toArray, List.set_cons_zero, List.set_cons_succ, i64_w, i32_w]
              rfl
            refine pure_ (i := 5) (N := some 24) (v := ?_) (a' := ?_) #[true, true, false, false, false, true, false, false, false, false, false, false, false] rfl rfl (any_of HT_.out (by kernel_rfl)) (fun _ _ _ h => h) (Or.inl ⟨by rfl, ?_⟩) ?_ ?_
            rotate_left
            · intro w'
              go_simp
              with_reducible rfl
            rotate_left
            · simp only [Act.put, List.setIfInBounds_toArray, List.set_cons_zero, List.set_cons_succ, i64_w, i32_w]
              rfl
            refine pure_ (i := 6) (N := some 25) (v := ?_) (a' := ?_) #[true, true, false, false, false, true, true, false, false, false, false, false, false] rfl rfl (any_of HT_.out (by kernel_rfl)) (fun _ _ _ h => h) (Or.inl ⟨by rfl, ?_⟩) ?_ ?_
            rotate_left
            · intro w'
              go_simp
              with_reducible rfl
            rotate_left
            · simp only [Act.put, List.setIfInBounds_toArray, List.set_cons_zero, List.set_cons_succ, i64_w, i32_w]
              rfl
            refine take_ (i := 2) (N := some 21) (v := ?_) (a' := ?_) #[true, true, true, false, false, true, true, false, false, false, false, false, false] rfl rfl (take_ofW HT_.out HW_.out (by kernel_rfl)) (fun _ _ _ h => h) (Or.inl ⟨by rfl, ?_⟩) hHeld ?_ ?_
            rotate_left
            · intro w' _
              go_simp
              with_reducible rfl
            rotate_left
            · simp only [Act.put, List.setIfInBounds_toArray, List.set_cons_zero, List.set_cons_succ, i64_w, i32_w]
              rfl
            refine pure_ (i := 3) (N := some 22) (v := ?_) (a' := ?_) #[true, true, true, true, false, true, true, false, false, false, false, false, false] rfl rfl (any_of HT_.out (by kernel_rfl)) (fun _ _ _ h => h) (Or.inl ⟨by rfl, ?_⟩) ?_ ?_
            rotate_left
            · intro w'
              go_simp
              with_reducible rfl
            rotate_left
            · simp only [Act.put, List.setIfInBounds_toArray, List.set_cons_zero, List.set_cons_succ, i64_w, i32_w]
              rfl
            refine pure_ (i := 4) (N := some 23) (v := ?_) (a' := ?_) #[true, true, true, true, true, true, true, false, false, false, false, false, false] rfl rfl (any_of HT_.out (by kernel_rfl)) (fun _ _ _ h => h) (Or.inl ⟨by rfl, ?_⟩) ?_ ?_
            rotate_left
            · intro w'
              go_simp
              with_reducible rfl
            rotate_left
            · simp only [Act.put, List.setIfInBounds_toArray, List.set_cons_zero, List.set_cons_succ, i64_w, i32_w]
              rfl
            refine take_ (i := 7) (N := some 26) (v := ?_) (a' := ?_) #[true, true, true, true, true, true, true, true, false, false, false, false, false] rfl rfl (take_ofW HT_.out HW_.out (by kernel_rfl)) (fun _ _ _ h => h) (Or.inl ⟨by rfl, ?_⟩) hHeld ?_ ?_
            rotate_left
            · intro w' _
              go_simp
              with_reducible rfl
            rotate_left
            · simp only [Act.put, List.setIfInBounds_toArray, List.set_cons_zero, List.set_cons_succ, i64_w, i32_w]
              rfl
            refine pure_ (i := 8) (N := some 27) (v := ?_) (a' := ?_) #[true, true, true, true, true, true, true, true, true, false, false, false, false] rfl rfl (any_of HT_.out (by kernel_rfl)) (fun _ _ _ h => h) (Or.inl ⟨by rfl, ?_⟩) ?_ ?_
            rotate_left
            · intro w'
              go_simp
              with_reducible rfl
            rotate_left
            · simp only [Act.put, List.setIfInBounds_toArray, List.set_cons_zero, List.set_cons_succ, i64_w, i32_w]
              rfl
            refine pure_ (i := 9) (N := some 28) (v := ?_) (a' := ?_) #[true, true, true, true, true, true, true, true, true, true, false, false, false] rfl rfl (any_of HT_.out (by kernel_rfl)) (fun _ _ _ h => h) (Or.inl ⟨by rfl, ?_⟩) ?_ ?_
            rotate_left
            · intro w'
              go_simp
              with_reducible rfl
            rotate_left
            · simp only [Act.put, List.setIfInBounds_toArray, List.set_cons_zero, List.set_cons_succ, i64_w, i32_w]
              rfl
            refine pure_ (i := 10) (N := some 29) (v := ?_) (a' := ?_) #[true, true, true, true, true, true, true, true, true, true, true, false, false] rfl rfl (any_of HT_.out (by kernel_rfl)) (fun _ _ _ h => h) (Or.inl ⟨by rfl, ?_⟩) ?_ ?_
            rotate_left
            · intro w'
              go_simp
              with_reducible rfl
            rotate_left
            · simp only [Act.put, List.setIfInBounds_toArray, List.set_cons_zero, List.set_cons_succ, i64_w, i32_w]
              rfl
            refine one_ (i := 11) (N := some 6) #[true, true, true, true, true, true, true, true, true, true, true, true, false] rfl rfl (one_of HT_.out (by kernel_rfl)) (by decide) (fun K hK => ?_)
            refine box_step ?hg (N := 6) ?hd (cs := #[.int .i64 0, .int .i64 0, .int .i64 0, .string (⟨#[]⟩ : ByteArray)]) (t := 39) ?hr ?_; (case hd => rfl); (case hg => rfl); (case hr => first | (go_simp; done) | (go_simp; rfl))
            intro gb193 hg w9 hbox hb
            have n0_ := Aside0.mk (Kd.R_below (Kd.R_elderB (by (with_reducible repeat (first | apply Kd.R_alloc | apply Kd.R_drewN | apply Kd.R_drew)); exact HO_4.out) gb193 (Nat.le_of_eq hg.symm)) hb)
            have n1_ := Aside0.mk (below_step (by repeat (first | (with_reducible first | exact HB.out | apply below_alloc | apply pw_below_drewN | apply below_drew1) | exact HB.out)) hb)
            have n2_ := Aside0.mk (hbox)
            have n3_ := Aside0.mk ((by rw [hg]; exact (below_size (by repeat (first | (with_reducible first | exact HB.out | apply below_alloc | apply pw_below_drewN | apply below_drew1) | exact HB.out))) : w.heap.size ≤ gb193))
            have n4_ := Aside0.mk ((by rw [hg]; exact (below_size (by repeat (first | (with_reducible first | exact HB.out | apply below_alloc | apply pw_below_drewN | apply below_drew1) | exact HB.out))) : w.heap.size ≤ gb193))
            clear HO_4
            clear HB
            have HO_4 := n0_
            have HB := n1_
            have BK193 := n2_
            have GW193 := n3_
            have GE193 := n4_
            clear n0_ n1_ n2_ n3_ n4_
            clear hb hbox hg
            refine hK.out _ _ trivial (fun hHeld => ?_)
            clear hK K
            refine norm_ (a' := ?_) ?_ ?_
            rotate_left
            · show Act.put _ (some 6) _ = _
              simp only [Act.put, List.setIfInBounds_toArray, List.set_cons_zero, List.set_cons_succ, i64_w, i32_w]
              rfl
            refine one_ (i := 12) (N := none) #[true, true, true, true, true, true, true, true, true, true, true, true, true] rfl rfl (one_of HT_.out (by kernel_rfl)) (by decide) (fun K hK => ?_)
            have hs10 : w9.cell? ⟨gb193, 0, none⟩ = some (.int .i64 0) := (blk_cell BK193.out 0).trans rfl
            have hfs10 := blk_frozen BK193.out 0
            have hs11 : w9.cell? ⟨gb193, 1, none⟩ = some (.int .i64 0) := (blk_cell BK193.out 1).trans rfl
            have hfs11 := blk_frozen BK193.out 1
            have hs12 : w9.cell? ⟨gb193, 2, none⟩ = some (.int .i64 0) := (blk_cell BK193.out 2).trans rfl
            have hfs12 := blk_frozen BK193.out 2
            have hs13 : w9.cell? ⟨gb193, 3, none⟩ = some (.string (⟨#[]⟩ : ByteArray)) := (blk_cell BK193.out 3).trans rfl
            have hfs13 := blk_frozen BK193.out 3
            refine skip_ (w1 := ?_) (by rfl) rfl ?_ ?_
            rotate_left
            · go_simp
              rfl
            refine hK.out _ _ trivial (fun hHeld => ?_)
            clear hK K
            refine done_ (done_of HT_.out (by kernel_rfl)) ?_
            go_upto_block 2 with (fail)
            go_cut [7, 8, 9] (fun v7 v8 v9 wc => ∃ (kq : Nat) (x7_6 : Int) (x8_6 : Int) (x9_6 : Int), v7 = .int .i64 x7_6 ∧ v8 = .int .i64 x8_6 ∧ v9 = .int .i64 x9_6 ∧ Aside0 (aquiferref04_Decode.j2 kq a0 x4_1 x5_1 x7_6 x8_6 x9_6 (wrap64 (Int.tdiv (wrap64 (bt a0 x5_1)) 2)) (Int.tmod (wrap64 (bt a0 x5_1)) 2) 0 (⟨#[]⟩ : ByteArray) = some (r1, r2)) ∧ Aside0 (kq ≤ k1) ∧ Aside0 (Kd.R k39 39 wc w.heap.size (fun k_ => k_ ≠ gb193) u4 x4_1) ∧ Aside0 (wc.heap[gb193]? = some (.cells #[.int .i64 (wrap64 (Int.tdiv (wrap64 (bt a0 x5_1)) 2)), .int .i64 (Int.tmod (wrap64 (bt a0 x5_1)) 2), .int .i64 0, .string (⟨#[]⟩ : ByteArray)] 39 (0, 0))) ∧ Aside0 (Below w.heap.size w wc))
            case first =>
              have H := HC7.out
              clear HC7
              have H' := Aside0.mk H
              clear H
              go_wp2
              go_loopg [7, 8, 9] k1 (fun kq v7 v8 v9 w' => ∃ (x7_2 : Int) (x8_2 : Int) (x9_2 : Int), v7 = .int .i64 x7_2 ∧ v8 = .int .i64 x8_2 ∧ v9 = .int .i64 x9_2 ∧ Aside0 (aquiferref04_Decode.l1 kq a0 x4_1 x5_1 x7_2 x8_2 x9_2 (wrap64 (Int.tdiv (wrap64 (bt a0 x5_1)) 2)) (Int.tmod (wrap64 (bt a0 x5_1)) 2) 0 (⟨#[]⟩ : ByteArray) = some (r1, r2)) ∧ Aside0 (kq ≤ k1) ∧ Aside0 (Kd.R k39 39 w' w.heap.size (fun k_ => k_ ≠ gb193) u4 x4_1) ∧ Aside0 (w'.heap[gb193]? = some (.cells #[.int .i64 (wrap64 (Int.tdiv (wrap64 (bt a0 x5_1)) 2)), .int .i64 (Int.tmod (wrap64 (bt a0 x5_1)) 2), .int .i64 0, .string (⟨#[]⟩ : ByteArray)] 39 (0, 0))) ∧ Aside0 (Below w.heap.size w w'))
              case atStart => exact ⟨(0), (1), (wrap64 (x5_1 + 1)), (by first | rfl | (simp; done) | (simp [*]; done)), (by first | rfl | (simp; done) | (simp [*]; done)), (by first | rfl | (simp; done) | (simp [*]; done)), H', ⟨Nat.le_refl _⟩, ⟨by (with_reducible repeat (first | apply Kd.R_alloc | apply Kd.R_drewN | apply Kd.R_drew)); exact Kd.R_mono (Kd.R_far (p := ⟨gb193, 3, none⟩) (Kd.R_far (p := ⟨gb193, 2, none⟩) (Kd.R_far (p := ⟨gb193, 1, none⟩) (Kd.R_far (p := ⟨gb193, 0, none⟩) (Kd.R_mono HO_4.out (fun k_ hk => (⟨hk, hk.2⟩ : _ ∧ k_ ≠ gb193))) (fun _ hk => hk.2) (.int .i64 (wrap64 (Int.tdiv (wrap64 (bt a0 x5_1)) 2)))) (fun _ hk => hk.2) (.int .i64 (Int.tmod (wrap64 (bt a0 x5_1)) 2))) (fun _ hk => hk.2) (.int .i64 0)) (fun _ hk => hk.2) (.string (⟨#[]⟩ : ByteArray))) (fun _ hk => hk.1.2)⟩, ⟨by (with_reducible repeat (first | refine blk_drewN ?_ _ | refine blk_drew ?_ | refine blk_alloc ?_ _)); refine blk_put (cs := #[.int .i64 (wrap64 (Int.tdiv (wrap64 (bt a0 x5_1)) 2)), .int .i64 (Int.tmod (wrap64 (bt a0 x5_1)) 2), .int .i64 0, .string (⟨#[]⟩ : ByteArray)]) ?_ 3 _ rfl; (with_reducible repeat (first | refine blk_drewN ?_ _ | refine blk_drew ?_ | refine blk_alloc ?_ _)); refine blk_put (cs := #[.int .i64 (wrap64 (Int.tdiv (wrap64 (bt a0 x5_1)) 2)), .int .i64 (Int.tmod (wrap64 (bt a0 x5_1)) 2), .int .i64 0, .string (⟨#[]⟩ : ByteArray)]) ?_ 2 _ rfl; (with_reducible repeat (first | refine blk_drewN ?_ _ | refine blk_drew ?_ | refine blk_alloc ?_ _)); refine blk_put (cs := #[.int .i64 (wrap64 (Int.tdiv (wrap64 (bt a0 x5_1)) 2)), .int .i64 0, .int .i64 0, .string (⟨#[]⟩ : ByteArray)]) ?_ 1 _ rfl; (with_reducible repeat (first | refine blk_drewN ?_ _ | refine blk_drew ?_ | refine blk_alloc ?_ _)); refine blk_put (cs := #[.int .i64 0, .int .i64 0, .int .i64 0, .string (⟨#[]⟩ : ByteArray)]) ?_ 0 _ rfl; (with_reducible repeat (first | refine blk_drewN ?_ _ | refine blk_drew ?_ | refine blk_alloc ?_ _)); exact BK193.out⟩, ⟨by repeat (first | (with_reducible first | exact HB.out | apply below_alloc | apply pw_below_drewN | apply below_drew1 | refine below_set ?_ GE193.out) | exact HB.out)⟩⟩
              case round =>
                clear H'
                try clear c1
                try clear c2
                try clear c2b0
                try clear c2b1
                try clear p2
                try clear c3
                try clear c3b0
                try clear c4
                try clear c4b0
                try clear p5
                try clear q5
                try clear hx5
                try clear p6
                try clear q6
                try clear hx6
                try clear p2
                try clear p5
                try clear p6
                try clear q5
                try clear q6
                obtain ⟨x7_2, x8_2, x9_2, rfl, rfl, rfl, HA, HK2, HO_4, BK193, HB⟩ := hrel
                cases gk with
                | zero => exact absurd HA.out (by simp [aquiferref04_Decode.l1])
                | succ k2 =>
                  have H := HA.out
                  clear HA
                  simp only [aquiferref04_Decode.l1] at H
                  by_cases c14 : x9_2 < (a0.size : Int)
                  · rw [if_pos c14] at H
                    have c14b0 : decide (x9_2 < (a0.size : Int)) = true := decide_eq_true c14
                    clear c14
                    (first | rw [c14b0] | (simp only [i64_w, i32_w]; rw [c14b0]) | skip)
                    by_cases c15 : (wrap64 (x9_2 - x5_1)) < 10
                    · rw [if_pos c15] at H
                      have c15b0 : decide ((wrap64 (x9_2 - x5_1)) < 10) = true := decide_eq_true c15
                      clear c15
                      by_cases c16 : 0 ≤ x9_2
                      · rw [if_pos c16] at H
                        have c16b0 : decide (0 ≤ x9_2) = true := decide_eq_true c16
                        clear c16
                        by_cases c18 : (bt a0 x9_2) ≥ 128
                        · rw [if_pos c18] at H
                          have c18b0 : decide (128 ≤ (bt a0 x9_2)) = true := decide_eq_true c18
                          clear c18
                          have H' := Aside0.mk H
                          clear H
                          have p17 : 0 ≤ (x9_2 : Int) := of_decide_eq_true (by first | (with_reducible assumption) | assumption)
                          have q17 : x9_2 < (a0.size : Int) := of_decide_eq_true (by first | (with_reducible assumption) | assumption)
                          have hx17 := bt_at a0 x9_2
                          replace p17 := eq_true p17
                          replace q17 := eq_true q17
                          have p19 : 0 ≤ (x9_2 : Int) := of_decide_eq_true (by first | (with_reducible assumption) | assumption)
                          have q19 : x9_2 < (a0.size : Int) := of_decide_eq_true (by first | (with_reducible assumption) | assumption)
                          have hx19 := bt_at a0 x9_2
                          replace p19 := eq_true p19
                          replace q19 := eq_true q19
                          go_wp2
                          go_roundg k2
                          case measure => have := HK1.out; have := HK2.out; omega
                          case rel => exact ⟨(wrap64 (x7_2 + (wrap64 ((wrap64 ((wrap64 (bt a0 x9_2)) - 128)) * x8_2)))), (wrap64 (x8_2 * 128)), (wrap64 (x9_2 + 1)), (by first | rfl | (simp; done) | (simp [*]; done)), (by first | rfl | (simp; done) | (simp [*]; done)), (by first | rfl | (simp; done) | (simp [*]; done)), H', ⟨by have := HK1.out; have := HK2.out; omega⟩, ⟨by (with_reducible repeat (first | apply Kd.R_alloc | apply Kd.R_drewN | apply Kd.R_drew)); exact HO_4.out⟩, ⟨by (with_reducible repeat (first | refine blk_drewN ?_ _ | refine blk_drew ?_ | refine blk_alloc ?_ _)); exact BK193.out⟩, ⟨by repeat (first | (with_reducible first | exact HB.out | apply below_alloc | apply pw_below_drewN | apply below_drew1 | refine below_set ?_ GE193.out) | exact HB.out)⟩⟩
                        · rw [if_neg c18] at H
                          have c18b0 : decide (128 ≤ (bt a0 x9_2)) = false := decide_eq_false c18
                          clear c18
                          have H' := Aside0.mk H
                          clear H
                          have p17 : 0 ≤ (x9_2 : Int) := of_decide_eq_true (by first | (with_reducible assumption) | assumption)
                          have q17 : x9_2 < (a0.size : Int) := of_decide_eq_true (by first | (with_reducible assumption) | assumption)
                          have hx17 := bt_at a0 x9_2
                          replace p17 := eq_true p17
                          replace q17 := eq_true q17
                          go_wp2
                          go_meet
                          case rel => exact ⟨_, (x7_2), (x8_2), (x9_2), (by first | rfl | (simp; done) | (simp [*]; done)), (by first | rfl | (simp; done) | (simp [*]; done)), (by first | rfl | (simp; done) | (simp [*]; done)), H', ⟨by have := HK1.out; have := HK2.out; first | omega | exact Nat.le_refl _⟩, ⟨by (with_reducible repeat (first | apply Kd.R_alloc | apply Kd.R_drewN | apply Kd.R_drew)); exact HO_4.out⟩, ⟨by (with_reducible repeat (first | refine blk_drewN ?_ _ | refine blk_drew ?_ | refine blk_alloc ?_ _)); exact BK193.out⟩, ⟨by repeat (first | (with_reducible first | exact HB.out | apply below_alloc | apply pw_below_drewN | apply below_drew1 | refine below_set ?_ GE193.out) | exact HB.out)⟩⟩
                      · rw [if_neg c16] at H
                        exact absurd H (by simp)
                    · rw [if_neg c15] at H
                      have c15b0 : decide ((wrap64 (x9_2 - x5_1)) < 10) = false := decide_eq_false c15
                      clear c15
                      have H' := Aside0.mk H
                      clear H
                      go_wp2
                      go_meet
                      case rel => exact ⟨_, (x7_2), (x8_2), (x9_2), (by first | rfl | (simp; done) | (simp [*]; done)), (by first | rfl | (simp; done) | (simp [*]; done)), (by first | rfl | (simp; done) | (simp [*]; done)), H', ⟨by have := HK1.out; have := HK2.out; first | omega | exact Nat.le_refl _⟩, ⟨by (with_reducible repeat (first | apply Kd.R_alloc | apply Kd.R_drewN | apply Kd.R_drew)); exact HO_4.out⟩, ⟨by (with_reducible repeat (first | refine blk_drewN ?_ _ | refine blk_drew ?_ | refine blk_alloc ?_ _)); exact BK193.out⟩, ⟨by repeat (first | (with_reducible first | exact HB.out | apply below_alloc | apply pw_below_drewN | apply below_drew1 | refine below_set ?_ GE193.out) | exact HB.out)⟩⟩
                  · rw [if_neg c14] at H
                    have c14b0 : decide (x9_2 < (a0.size : Int)) = false := decide_eq_false c14
                    clear c14
                    (first | rw [c14b0] | (simp only [i64_w, i32_w]; rw [c14b0]) | skip)
                    have H' := Aside0.mk H
                    clear H
                    go_wp2
                    go_meet
                    case rel => exact ⟨_, (x7_2), (x8_2), (x9_2), (by first | rfl | (simp; done) | (simp [*]; done)), (by first | rfl | (simp; done) | (simp [*]; done)), (by first | rfl | (simp; done) | (simp [*]; done)), H', ⟨by have := HK1.out; have := HK2.out; first | omega | exact Nat.le_refl _⟩, ⟨by (with_reducible repeat (first | apply Kd.R_alloc | apply Kd.R_drewN | apply Kd.R_drew)); exact HO_4.out⟩, ⟨by (with_reducible repeat (first | refine blk_drewN ?_ _ | refine blk_drew ?_ | refine blk_alloc ?_ _)); exact BK193.out⟩, ⟨by repeat (first | (with_reducible first | exact HB.out | apply below_alloc | apply pw_below_drewN | apply below_drew1 | refine below_set ?_ GE193.out) | exact HB.out)⟩⟩
            case rest =>
              clear HC7
              try clear c1
              try clear p1
              try clear q1
              try clear hx1
              try clear c2
              try clear c2b0
              try clear c2b1
              try clear p2
              try clear c3
              try clear c3b0
              try clear c4
              try clear c4b0
              try clear p5
              try clear q5
              try clear hx5
              try clear p6
              try clear q6
              try clear hx6
              try clear c14
              try clear c14b0
              try clear c15
              try clear c15b0
              try clear c16
              try clear c16b0
              try clear p17
              try clear q17
              try clear hx17
              try clear c18
              try clear c18b0
              try clear p19
              try clear q19
              try clear hx19
              try clear p17
              try clear p19
              try clear p2
              try clear p5
              try clear p6
              try clear q17
              try clear q19
              try clear q5
              try clear q6
              obtain ⟨kq, x7_6, x8_6, x9_6, rfl, rfl, rfl, HA, HJ6, HO_4, BK193, HB⟩ := hcut
              cases kq with
              | zero => exact absurd HA.out (by simp [aquiferref04_Decode.j2])
              | succ kj6 =>
                have H := HA.out
                clear HA
                simp only [aquiferref04_Decode.j2] at H
                have HC20 := Aside0.mk H
                clear H
                go_upto_region 14 with (fail)
                go_cut [70] (fun v70 wc => ∃ (kq : Nat) (x70_19 : Bool), v70 = .bool x70_19 ∧ Aside0 (aquiferref04_Decode.j3 kq a0 x4_1 x5_1 x7_6 x8_6 x9_6 x70_19 (wrap64 (Int.tdiv (wrap64 (bt a0 x5_1)) 2)) (Int.tmod (wrap64 (bt a0 x5_1)) 2) 0 (⟨#[]⟩ : ByteArray) = some (r1, r2)) ∧ Aside0 (kq ≤ kj6) ∧ Aside0 (Kd.R k39 39 wc w.heap.size (fun k_ => k_ ≠ gb193) u4 x4_1) ∧ Aside0 (wc.heap[gb193]? = some (.cells #[.int .i64 (wrap64 (Int.tdiv (wrap64 (bt a0 x5_1)) 2)), .int .i64 (Int.tmod (wrap64 (bt a0 x5_1)) 2), .int .i64 0, .string (⟨#[]⟩ : ByteArray)] 39 (0, 0))) ∧ Aside0 (Below w.heap.size w wc))
                case first =>
                  have H := HC20.out
                  clear HC20
                  by_cases c21 : x9_6 ≥ (a0.size : Int)
                  · rw [if_pos c21] at H
                    have c21b0 : decide ((a0.size : Int) ≤ x9_6) = true := decide_eq_true c21
                    clear c21
                    (first | rw [c21b0] | (simp only [i64_w, i32_w]; rw [c21b0]) | skip)
                    have H' := Aside0.mk H
                    clear H
                    go_wp2
                    go_meet
                    case rel => exact ⟨_, (true), (by first | rfl | (simp; done) | (simp [*]; done)), H', ⟨by have := HK1.out; have := HJ6.out; first | omega | exact Nat.le_refl _⟩, ⟨by (with_reducible repeat (first | apply Kd.R_alloc | apply Kd.R_drewN | apply Kd.R_drew)); exact HO_4.out⟩, ⟨by (with_reducible repeat (first | refine blk_drewN ?_ _ | refine blk_drew ?_ | refine blk_alloc ?_ _)); exact BK193.out⟩, ⟨by repeat (first | (with_reducible first | exact HB.out | apply below_alloc | apply pw_below_drewN | apply below_drew1 | refine below_set ?_ GE193.out) | exact HB.out)⟩⟩
                  · rw [if_neg c21] at H
                    have c21b0 : decide ((a0.size : Int) ≤ x9_6) = false := decide_eq_false c21
                    clear c21
                    (first | rw [c21b0] | (simp only [i64_w, i32_w]; rw [c21b0]) | skip)
                    have H' := Aside0.mk H
                    clear H
                    go_wp2
                    go_meet
                    case rel => exact ⟨_, (decide ((wrap64 (x9_6 - x5_1)) ≥ 10)), (by first | rfl | (simp; done) | (simp [*]; done)), H', ⟨by have := HK1.out; have := HJ6.out; first | omega | exact Nat.le_refl _⟩, ⟨by (with_reducible repeat (first | apply Kd.R_alloc | apply Kd.R_drewN | apply Kd.R_drew)); exact HO_4.out⟩, ⟨by (with_reducible repeat (first | refine blk_drewN ?_ _ | refine blk_drew ?_ | refine blk_alloc ?_ _)); exact BK193.out⟩, ⟨by repeat (first | (with_reducible first | exact HB.out | apply below_alloc | apply pw_below_drewN | apply below_drew1 | refine below_set ?_ GE193.out) | exact HB.out)⟩⟩
                case rest =>
                  clear HC20
                  try clear c1
                  try clear p1
                  try clear q1
                  try clear hx1
                  try clear c2
                  try clear c2b0
                  try clear c2b1
                  try clear p2
                  try clear c3
                  try clear c3b0
                  try clear c4
                  try clear c4b0
                  try clear p5
                  try clear q5
                  try clear hx5
                  try clear p6
                  try clear q6
                  try clear hx6
                  try clear c14
                  try clear c14b0
                  try clear c15
                  try clear c15b0
                  try clear c16
                  try clear c16b0
                  try clear p17
                  try clear q17
                  try clear hx17
                  try clear c18
                  try clear c18b0
                  try clear p19
                  try clear q19
                  try clear hx19
                  try clear c21
                  try clear c21b0
                  try clear p1
                  try clear p17
                  try clear p19
                  try clear p2
                  try clear p5
                  try clear p6
                  try clear q1
                  try clear q17
                  try clear q19
                  try clear q5
                  try clear q6
                  obtain ⟨kq, x70_19, rfl, HA, HJ19, HO_4, BK193, HB⟩ := hcut
                  cases kq with
                  | zero => exact absurd HA.out (by simp [aquiferref04_Decode.j3])
                  | succ kj19 =>
                    have H := HA.out
                    clear HA
                    simp only [aquiferref04_Decode.j3] at H
                    by_cases c22 : x70_19 = true
                    · subst c22
                      have H1 : (some (([] : List (S39)), 5)) = some (r1, r2) := by rw [if_pos rfl] at H; exact H
                      clear H
                      have H := H1
                      clear H1
                      simp only [Option.some.injEq, Prod.mk.injEq] at H
                      obtain ⟨rfl, rfl⟩ := H
                      go_wp2
                      go_ret2
                      exact ⟨_, by first | rfl | (simp [errW_none, errW_some] <;> rfl) | (simp [*, errW_none, errW_some] <;> rfl), by first | exact Kd.R_nil _ _ _ _ _ | exact Kd.N_nil _ _ _ _ _ | exact Kd.V_nil _ _ _ _ _ | exact Kd.Q_nil _ _ _ _ _ | exact Kd.S_nil _ _ _ _ _, by repeat (first | (with_reducible first | exact HB.out | apply below_alloc | apply pw_below_drewN | apply below_drew1 | refine below_set ?_ GE193.out) | exact HB.out)⟩
                    · replace c22 := Bool.eq_false_iff.mpr c22
                      subst c22
                      have H1 : (if 0 ≤ x9_6 then (if x9_6 < (a0.size : Int) then (if (wrap64 (x7_6 + (wrap64 ((wrap64 (bt a0 x9_6)) * x8_6)))) < 0 then (aquiferref04_Decode.j4 kj19 a0 x4_1 x5_1 (wrap64 (x7_6 + (wrap64 ((wrap64 (bt a0 x9_6)) * x8_6)))) (wrap64 (x9_6 + 1)) true (wrap64 (Int.tdiv (wrap64 (bt a0 x5_1)) 2)) (Int.tmod (wrap64 (bt a0 x5_1)) 2) 0 (⟨#[]⟩ : ByteArray)) else (if (Int.tmod (wrap64 (bt a0 x5_1)) 2) = 1 then (aquiferref04_Decode.j4 kj19 a0 x4_1 x5_1 (wrap64 (x7_6 + (wrap64 ((wrap64 (bt a0 x9_6)) * x8_6)))) (wrap64 (x9_6 + 1)) (decide ((wrap64 (x7_6 + (wrap64 ((wrap64 (bt a0 x9_6)) * x8_6)))) > (wrap64 ((a0.size : Int) - (wrap64 (x9_6 + 1)))))) (wrap64 (Int.tdiv (wrap64 (bt a0 x5_1)) 2)) (Int.tmod (wrap64 (bt a0 x5_1)) 2) 0 (⟨#[]⟩ : ByteArray)) else (aquiferref04_Decode.j4 kj19 a0 x4_1 x5_1 (wrap64 (x7_6 + (wrap64 ((wrap64 (bt a0 x9_6)) * x8_6)))) (wrap64 (x9_6 + 1)) false (wrap64 (Int.tdiv (wrap64 (bt a0 x5_1)) 2)) (Int.tmod (wrap64 (bt a0 x5_1)) 2) 0 (⟨#[]⟩ : ByteArray)))) else (none)) else (none)) = some (r1, r2) := by rw [if_neg (show ¬ (false = true) by decide)] at H; exact H
                      clear H
                      have H := H1
                      clear H1
                      by_cases c23 : 0 ≤ x9_6
                      · rw [if_pos c23] at H
                        have c23b0 : decide (0 ≤ x9_6) = true := decide_eq_true c23
                        clear c23
                        by_cases c24 : x9_6 < (a0.size : Int)
                        · rw [if_pos c24] at H
                          have c24b0 : decide (x9_6 < (a0.size : Int)) = true := decide_eq_true c24
                          clear c24
                          have HC26 := Aside0.mk H
                          clear H
                          have p25 : 0 ≤ (x9_6 : Int) := of_decide_eq_true (by first | (with_reducible assumption) | assumption)
                          have q25 : x9_6 < (a0.size : Int) := of_decide_eq_true (by first | (with_reducible assumption) | assumption)
                          have hx25 := bt_at a0 x9_6
                          replace p25 := eq_true p25
                          replace q25 := eq_true q25
                          go_upto_region 18 with (fail)
                          go_cut [95] (fun v95 wc => ∃ (kq : Nat) (x95_25 : Bool), v95 = .bool x95_25 ∧ Aside0 (aquiferref04_Decode.j4 kq a0 x4_1 x5_1 (wrap64 (x7_6 + (wrap64 ((wrap64 (bt a0 x9_6)) * x8_6)))) (wrap64 (x9_6 + 1)) x95_25 (wrap64 (Int.tdiv (wrap64 (bt a0 x5_1)) 2)) (Int.tmod (wrap64 (bt a0 x5_1)) 2) 0 (⟨#[]⟩ : ByteArray) = some (r1, r2)) ∧ Aside0 (kq ≤ kj19) ∧ Aside0 (Kd.R k39 39 wc w.heap.size (fun k_ => k_ ≠ gb193) u4 x4_1) ∧ Aside0 (wc.heap[gb193]? = some (.cells #[.int .i64 (wrap64 (Int.tdiv (wrap64 (bt a0 x5_1)) 2)), .int .i64 (Int.tmod (wrap64 (bt a0 x5_1)) 2), .int .i64 0, .string (⟨#[]⟩ : ByteArray)] 39 (0, 0))) ∧ Aside0 (Below w.heap.size w wc))
                          case first =>
                            have H := HC26.out
                            clear HC26
                            by_cases c27 : (wrap64 (x7_6 + (wrap64 ((wrap64 (bt a0 x9_6)) * x8_6)))) < 0
                            · rw [if_pos c27] at H
                              have c27b0 : decide ((wrap64 (x7_6 + (wrap64 ((wrap64 (bt a0 x9_6)) * x8_6)))) < 0) = true := decide_eq_true c27
                              clear c27
                              (first | rw [c27b0] | (simp only [i64_w, i32_w]; rw [c27b0]) | skip)
                              have H' := Aside0.mk H
                              clear H
                              go_wp2
                              go_meet
                              case rel => exact ⟨_, (true), (by first | rfl | (simp; done) | (simp [*]; done)), H', ⟨by have := HK1.out; have := HJ6.out; have := HJ19.out; first | omega | exact Nat.le_refl _⟩, ⟨by (with_reducible repeat (first | apply Kd.R_alloc | apply Kd.R_drewN | apply Kd.R_drew)); exact HO_4.out⟩, ⟨by (with_reducible repeat (first | refine blk_drewN ?_ _ | refine blk_drew ?_ | refine blk_alloc ?_ _)); exact BK193.out⟩, ⟨by repeat (first | (with_reducible first | exact HB.out | apply below_alloc | apply pw_below_drewN | apply below_drew1 | refine below_set ?_ GE193.out) | exact HB.out)⟩⟩
                            · rw [if_neg c27] at H
                              have c27b0 : decide ((wrap64 (x7_6 + (wrap64 ((wrap64 (bt a0 x9_6)) * x8_6)))) < 0) = false := decide_eq_false c27
                              clear c27
                              (first | rw [c27b0] | (simp only [i64_w, i32_w]; rw [c27b0]) | skip)
                              by_cases c28 : (Int.tmod (wrap64 (bt a0 x5_1)) 2) = 1
                              · rw [if_pos c28] at H
                                have c28b0 : ((Int.tmod (wrap64 (bt a0 x5_1)) 2) == 1) = true := beq_iff_eq.mpr c28
                                have c28b1 : ((Int.tmod (wrap64 (bt a0 x5_1)) 2) != 1) = false := bne_eq_false_iff_eq.mpr c28
                                clear c28
                                have H' := Aside0.mk H
                                clear H
                                have hcz29_0 : wc.cell? ⟨gb193, 0, none⟩ = some (.int .i64 (wrap64 (Int.tdiv (wrap64 (bt a0 x5_1)) 2))) := (blk_cell BK193.out 0).trans rfl
                                have hcz29_1 : wc.cell? ⟨gb193, 1, none⟩ = some (.int .i64 (Int.tmod (wrap64 (bt a0 x5_1)) 2)) := (blk_cell BK193.out 1).trans rfl
                                have hcz29_2 : wc.cell? ⟨gb193, 2, none⟩ = some (.int .i64 0) := (blk_cell BK193.out 2).trans rfl
                                have hcz29_3 : wc.cell? ⟨gb193, 3, none⟩ = some (.string (⟨#[]⟩ : ByteArray)) := (blk_cell BK193.out 3).trans rfl
                                have hfz29_0 := blk_frozen BK193.out 0
                                have hfz29_1 := blk_frozen BK193.out 1
                                have hfz29_2 := blk_frozen BK193.out 2
                                have hfz29_3 := blk_frozen BK193.out 3
                                go_wp2
                                go_meet
                                case rel => exact ⟨_, (decide ((wrap64 (x7_6 + (wrap64 ((wrap64 (bt a0 x9_6)) * x8_6)))) > (wrap64 ((a0.size : Int) - (wrap64 (x9_6 + 1)))))), (by first | rfl | (simp; done) | (simp [*]; done)), H', ⟨by have := HK1.out; have := HJ6.out; have := HJ19.out; first | omega | exact Nat.le_refl _⟩, ⟨by (with_reducible repeat (first | apply Kd.R_alloc | apply Kd.R_drewN | apply Kd.R_drew)); exact HO_4.out⟩, ⟨by (with_reducible repeat (first | refine blk_drewN ?_ _ | refine blk_drew ?_ | refine blk_alloc ?_ _)); exact BK193.out⟩, ⟨by repeat (first | (with_reducible first | exact HB.out | apply below_alloc | apply pw_below_drewN | apply below_drew1 | refine below_set ?_ GE193.out) | exact HB.out)⟩⟩
                              · rw [if_neg c28] at H
                                have c28b0 : ((Int.tmod (wrap64 (bt a0 x5_1)) 2) == 1) = false := beq_eq_false_iff_ne.mpr c28
                                have c28b1 : ((Int.tmod (wrap64 (bt a0 x5_1)) 2) != 1) = true := bne_iff_ne.mpr c28
                                have H' := Aside0.mk H
                                clear H
                                have hcz30_0 : wc.cell? ⟨gb193, 0, none⟩ = some (.int .i64 (wrap64 (Int.tdiv (wrap64 (bt a0 x5_1)) 2))) := (blk_cell BK193.out 0).trans rfl
                                have hcz30_1 : wc.cell? ⟨gb193, 1, none⟩ = some (.int .i64 (Int.tmod (wrap64 (bt a0 x5_1)) 2)) := (blk_cell BK193.out 1).trans rfl
                                have hcz30_2 : wc.cell? ⟨gb193, 2, none⟩ = some (.int .i64 0) := (blk_cell BK193.out 2).trans rfl
                                have hcz30_3 : wc.cell? ⟨gb193, 3, none⟩ = some (.string (⟨#[]⟩ : ByteArray)) := (blk_cell BK193.out 3).trans rfl
                                have hfz30_0 := blk_frozen BK193.out 0
                                have hfz30_1 := blk_frozen BK193.out 1
                                have hfz30_2 := blk_frozen BK193.out 2
                                have hfz30_3 := blk_frozen BK193.out 3
                                go_wp2
                                go_meet
                                case rel => exact ⟨_, (false), (by first | rfl | (simp; done) | (simp [*]; done)), H', ⟨by have := HK1.out; have := HJ6.out; have := HJ19.out; first | omega | exact Nat.le_refl _⟩, ⟨by (with_reducible repeat (first | apply Kd.R_alloc | apply Kd.R_drewN | apply Kd.R_drew)); exact HO_4.out⟩, ⟨by (with_reducible repeat (first | refine blk_drewN ?_ _ | refine blk_drew ?_ | refine blk_alloc ?_ _)); exact BK193.out⟩, ⟨by repeat (first | (with_reducible first | exact HB.out | apply below_alloc | apply pw_below_drewN | apply below_drew1 | refine below_set ?_ GE193.out) | exact HB.out)⟩⟩
                          case rest =>
                            clear HC26
                            try clear c1
                            try clear p1
                            try clear q1
                            try clear hx1
                            try clear c2
                            try clear c2b0
                            try clear c2b1
                            try clear p2
                            try clear q2
                            try clear hx2
                            try clear c3
                            try clear c3b0
                            try clear c4
                            try clear c4b0
                            try clear p5
                            try clear q5
                            try clear hx5
                            try clear p6
                            try clear q6
                            try clear hx6
                            try clear c14
                            try clear c14b0
                            try clear c15
                            try clear c15b0
                            try clear c16
                            try clear c16b0
                            try clear p17
                            try clear q17
                            try clear hx17
                            try clear c18
                            try clear c18b0
                            try clear p19
                            try clear q19
                            try clear hx19
                            try clear c21
                            try clear c21b0
                            try clear c22
                            try clear c23
                            try clear c23b0
                            try clear c24
                            try clear c24b0
                            try clear p25
                            try clear q25
                            try clear hx25
                            try clear c27
                            try clear c27b0
                            try clear c28
                            try clear c28b0
                            try clear c28b1
                            try clear hcz29_0
                            try clear hcz29_1
                            try clear hcz29_2
                            try clear hcz29_3
                            try clear hcz30_0
                            try clear hcz30_1
                            try clear hcz30_2
                            try clear hcz30_3
                            try clear hfz29_0
                            try clear hfz29_1
                            try clear hfz29_2
                            try clear hfz29_3
                            try clear hfz30_0
                            try clear hfz30_1
                            try clear hfz30_2
                            try clear hfz30_3
                            try clear p1
                            try clear p17
                            try clear p19
                            try clear p2
                            try clear p25
                            try clear p5
                            try clear p6
                            try clear q1
                            try clear q17
                            try clear q19
                            try clear q25
                            try clear q5
                            try clear q6
                            obtain ⟨kq, x95_25, rfl, HA, HJ25, HO_4, BK193, HB⟩ := hcut
                            cases kq with
                            | zero => exact absurd HA.out (by simp [aquiferref04_Decode.j4])
                            | succ kj25 =>
                              have H := HA.out
                              clear HA
                              simp only [aquiferref04_Decode.j4] at H
                              by_cases c31 : x95_25 = true
                              · subst c31
                                have H1 : (some (([] : List (S39)), 5)) = some (r1, r2) := by rw [if_pos rfl] at H; exact H
                                clear H
                                have H := H1
                                clear H1
                                simp only [Option.some.injEq, Prod.mk.injEq] at H
                                obtain ⟨rfl, rfl⟩ := H
                                go_wp2
                                go_ret2
                                exact ⟨_, by first | rfl | (simp [errW_none, errW_some] <;> rfl) | (simp [*, errW_none, errW_some] <;> rfl), by first | exact Kd.R_nil _ _ _ _ _ | exact Kd.N_nil _ _ _ _ _ | exact Kd.V_nil _ _ _ _ _ | exact Kd.Q_nil _ _ _ _ _ | exact Kd.S_nil _ _ _ _ _, by repeat (first | (with_reducible first | exact HB.out | apply below_alloc | apply pw_below_drewN | apply below_drew1 | refine below_set ?_ GE193.out) | exact HB.out)⟩
                              · replace c31 := Bool.eq_false_iff.mpr c31
                                subst c31
                                have H1 : (if (Int.tmod (wrap64 (bt a0 x5_1)) 2) = 0 then ((aquiferref04_bytes.f kj25 (wrap64 (Int.tdiv (wrap64 (bt a0 x5_1)) 2)) (Int.tmod (wrap64 (bt a0 x5_1)) 2) (wrap64 (x7_6 + (wrap64 ((wrap64 (bt a0 x9_6)) * x8_6)))) (⟨#[]⟩ : ByteArray)).bind fun t194 => (if 0 ≤ x5_1 then (if x5_1 ≤ (wrap64 (x9_6 + 1)) then (if (wrap64 (x9_6 + 1)) ≤ (a0.size : Int) then (if (strOfNums t194).toList = (a0.extract (x5_1 : Int).toNat ((wrap64 (x9_6 + 1)) : Int).toNat).toList then (if x4_1.length < 3518437208883 then (aquiferref04_Decode.l0 kj25 a0 (x4_1 ++ [(⟨(wrap64 (Int.tdiv (wrap64 (bt a0 x5_1)) 2)), (Int.tmod (wrap64 (bt a0 x5_1)) 2), (wrap64 (x7_6 + (wrap64 ((wrap64 (bt a0 x9_6)) * x8_6)))), (⟨#[]⟩ : ByteArray)⟩ : S39)]) (wrap64 (x9_6 + 1))) else (none)) else (some (([] : List (S39)), 5))) else (none)) else (none)) else (none))) else (if 0 ≤ (wrap64 (x9_6 + 1)) then (if (wrap64 (x9_6 + 1)) ≤ (wrap64 ((wrap64 (x9_6 + 1)) + (wrap64 (x7_6 + (wrap64 ((wrap64 (bt a0 x9_6)) * x8_6)))))) then (if (wrap64 ((wrap64 (x9_6 + 1)) + (wrap64 (x7_6 + (wrap64 ((wrap64 (bt a0 x9_6)) * x8_6)))))) ≤ (a0.size : Int) then ((aquiferref04_bytes.f kj25 (wrap64 (Int.tdiv (wrap64 (bt a0 x5_1)) 2)) (Int.tmod (wrap64 (bt a0 x5_1)) 2) 0 (a0.extract ((wrap64 (x9_6 + 1)) : Int).toNat ((wrap64 ((wrap64 (x9_6 + 1)) + (wrap64 (x7_6 + (wrap64 ((wrap64 (bt a0 x9_6)) * x8_6)))))) : Int).toNat)).bind fun t200 => (if 0 ≤ x5_1 then (if x5_1 ≤ (wrap64 ((wrap64 (x9_6 + 1)) + (wrap64 (x7_6 + (wrap64 ((wrap64 (bt a0 x9_6)) * x8_6)))))) then (if (strOfNums t200).toList = (a0.extract (x5_1 : Int).toNat ((wrap64 ((wrap64 (x9_6 + 1)) + (wrap64 (x7_6 + (wrap64 ((wrap64 (bt a0 x9_6)) * x8_6)))))) : Int).toNat).toList then (if x4_1.length < 3518437208883 then (aquiferref04_Decode.l0 kj25 a0 (x4_1 ++ [(⟨(wrap64 (Int.tdiv (wrap64 (bt a0 x5_1)) 2)), (Int.tmod (wrap64 (bt a0 x5_1)) 2), 0, a0.extract ((wrap64 (x9_6 + 1)) : Int).toNat ((wrap64 ((wrap64 (x9_6 + 1)) + (wrap64 (x7_6 + (wrap64 ((wrap64 (bt a0 x9_6)) * x8_6)))))) : Int).toNat⟩ : S39)]) (wrap64 ((wrap64 (x9_6 + 1)) + (wrap64 (x7_6 + (wrap64 ((wrap64 (bt a0 x9_6)) * x8_6))))))) else (none)) else (some (([] : List (S39)), 5))) else (none)) else (none))) else (none)) else (none)) else (none))) = some (r1, r2) := by rw [if_neg (show ¬ (false = true) by decide)] at H; exact H
                                clear H
                                have H := H1
                                clear H1
                                by_cases c32 : (Int.tmod (wrap64 (bt a0 x5_1)) 2) = 0
                                · rw [if_pos c32] at H
                                  have c32b0 : ((Int.tmod (wrap64 (bt a0 x5_1)) 2) == 0) = true := beq_iff_eq.mpr c32
                                  have c32b1 : ((Int.tmod (wrap64 (bt a0 x5_1)) 2) != 0) = false := bne_eq_false_iff_eq.mpr c32
                                  clear c32
                                  replace H := Option.bind_eq_some_iff.mp H
                                  obtain ⟨t194, A330, H⟩ := H
                                  replace H : (if 0 ≤ x5_1 then (if x5_1 ≤ (wrap64 (x9_6 + 1)) then (if (wrap64 (x9_6 + 1)) ≤ (a0.size : Int) then (if (strOfNums t194).toList = (a0.extract (x5_1 : Int).toNat ((wrap64 (x9_6 + 1)) : Int).toNat).toList then (if x4_1.length < 3518437208883 then (aquiferref04_Decode.l0 kj25 a0 (x4_1 ++ [(⟨(wrap64 (Int.tdiv (wrap64 (bt a0 x5_1)) 2)), (Int.tmod (wrap64 (bt a0 x5_1)) 2), (wrap64 (x7_6 + (wrap64 ((wrap64 (bt a0 x9_6)) * x8_6)))), (⟨#[]⟩ : ByteArray)⟩ : S39)]) (wrap64 (x9_6 + 1))) else (none)) else (some (([] : List (S39)), 5))) else (none)) else (none)) else (none)) = some (r1, r2) := H
                                  have A33 := Aside0.mk A330
                                  clear A330
                                  by_cases c34 : 0 ≤ x5_1
                                  · rw [if_pos c34] at H
                                    have c34b0 := eq_true c34
                                    have c34b1 : decide (0 ≤ x5_1) = true := decide_eq_true c34
                                    clear c34
                                    by_cases c35 : x5_1 ≤ (wrap64 (x9_6 + 1))
                                    · rw [if_pos c35] at H
                                      have c35b0 := eq_true c35
                                      have c35b1 : decide (x5_1 ≤ (wrap64 (x9_6 + 1))) = true := decide_eq_true c35
                                      by_cases c36 : (wrap64 (x9_6 + 1)) ≤ (a0.size : Int)
                                      · rw [if_pos c36] at H
                                        have c36b0 := eq_true c36
                                        have c36b1 : decide ((wrap64 (x9_6 + 1)) ≤ (a0.size : Int)) = true := decide_eq_true c36
                                        by_cases c37 : (strOfNums t194).toList = (a0.extract (x5_1 : Int).toNat ((wrap64 (x9_6 + 1)) : Int).toNat).toList
                                        · rw [if_pos c37] at H
                                          have c37b0 : ((strOfNums t194).toList == (a0.extract (x5_1 : Int).toNat ((wrap64 (x9_6 + 1)) : Int).toNat).toList) = true := beq_iff_eq.mpr c37
                                          have c37b1 : ((strOfNums t194).toList != (a0.extract (x5_1 : Int).toNat ((wrap64 (x9_6 + 1)) : Int).toNat).toList) = false := bne_eq_false_iff_eq.mpr c37
                                          clear c37
                                          by_cases c38 : x4_1.length < 3518437208883
                                          · rw [if_pos c38] at H
                                            have LMc38 := Aside0.mk c38
                                            clear c38
                                            obtain ⟨y197, hy197⟩ : ∃ y_ : List (S39), y_ = (x4_1 ++ [(⟨(wrap64 (Int.tdiv (wrap64 (bt a0 x5_1)) 2)), (Int.tmod (wrap64 (bt a0 x5_1)) 2), (wrap64 (x7_6 + (wrap64 ((wrap64 (bt a0 x9_6)) * x8_6)))), (⟨#[]⟩ : ByteArray)⟩ : S39)]) := ⟨_, rfl⟩
                                            replace H : (aquiferref04_Decode.l0 kj25 a0 y197 (wrap64 (x9_6 + 1))) = some (r1, r2) := by first | (rw [hy197]; with_reducible exact H) | (have H2_ := (Option.bind_some _ _).symm.trans H; rw [hy197]; with_reducible exact H2_) | (have H2_ := (Option.bind_some _ _).symm.trans H; with_reducible exact H2_) | with_reducible exact H | (rw [hy197]; exact H) | exact H
                                            have Ny197 := Aside0.mk hy197
                                            clear hy197
                                            have H' := Aside0.mk H
                                            clear H
                                            have hcz39_0 : wc.cell? ⟨gb193, 0, none⟩ = some (.int .i64 (wrap64 (Int.tdiv (wrap64 (bt a0 x5_1)) 2))) := (blk_cell BK193.out 0).trans rfl
                                            have hcz39_1 : wc.cell? ⟨gb193, 1, none⟩ = some (.int .i64 (Int.tmod (wrap64 (bt a0 x5_1)) 2)) := (blk_cell BK193.out 1).trans rfl
                                            have hcz39_2 : wc.cell? ⟨gb193, 2, none⟩ = some (.int .i64 0) := (blk_cell BK193.out 2).trans rfl
                                            have hcz39_3 : wc.cell? ⟨gb193, 3, none⟩ = some (.string (⟨#[]⟩ : ByteArray)) := (blk_cell BK193.out 3).trans rfl
                                            have hfz39_0 := blk_frozen BK193.out 0
                                            have hfz39_1 := blk_frozen BK193.out 1
                                            have hfz39_2 := blk_frozen BK193.out 2
                                            have hfz39_3 := blk_frozen BK193.out 3
                                            try go_wp2
                                            have n0_ : Aside0 (Kd.R k39 39 (wc.setCell ⟨gb193, 2, none⟩ (.int .i64 (wrap64 (x7_6 + (wrap64 ((wrap64 (bt a0 x9_6)) * x8_6)))))) w.heap.size (fun k_ => k_ ≠ gb193) u4 x4_1) := ⟨by (with_reducible repeat (first | apply Kd.R_alloc | apply Kd.R_drewN | apply Kd.R_drew)); exact Kd.R_mono (Kd.R_far (p := ⟨gb193, 2, none⟩) (Kd.R_mono HO_4.out (fun k_ hk => (⟨hk, hk⟩ : _ ∧ k_ ≠ gb193))) (fun _ hk => hk.2) (.int .i64 (wrap64 (x7_6 + (wrap64 ((wrap64 (bt a0 x9_6)) * x8_6)))))) (fun _ hk => hk.1)⟩
                                            have n1_ : Aside0 ((wc.setCell ⟨gb193, 2, none⟩ (.int .i64 (wrap64 (x7_6 + (wrap64 ((wrap64 (bt a0 x9_6)) * x8_6)))))).heap[gb193]? = some (.cells #[.int .i64 (wrap64 (Int.tdiv (wrap64 (bt a0 x5_1)) 2)), .int .i64 (Int.tmod (wrap64 (bt a0 x5_1)) 2), .int .i64 (wrap64 (x7_6 + (wrap64 ((wrap64 (bt a0 x9_6)) * x8_6)))), .string (⟨#[]⟩ : ByteArray)] 39 (0, 0))) := ⟨by (with_reducible repeat (first | refine blk_drewN ?_ _ | refine blk_drew ?_ | refine blk_alloc ?_ _)); refine blk_put (cs := #[.int .i64 (wrap64 (Int.tdiv (wrap64 (bt a0 x5_1)) 2)), .int .i64 (Int.tmod (wrap64 (bt a0 x5_1)) 2), .int .i64 0, .string (⟨#[]⟩ : ByteArray)]) ?_ 2 _ rfl; (with_reducible repeat (first | refine blk_drewN ?_ _ | refine blk_drew ?_ | refine blk_alloc ?_ _)); exact BK193.out⟩
                                            have n2_ : Aside0 (Below w.heap.size w (wc.setCell ⟨gb193, 2, none⟩ (.int .i64 (wrap64 (x7_6 + (wrap64 ((wrap64 (bt a0 x9_6)) * x8_6))))))) := ⟨by repeat (first | (with_reducible first | exact HB.out | apply below_alloc | apply pw_below_drewN | apply below_drew1 | refine below_set ?_ GE193.out) | exact HB.out)⟩
                                            (try clear HO_4)
                                            (try clear BK193)
                                            (try clear HB)
                                            generalize (wc.setCell ⟨gb193, 2, none⟩ (.int .i64 (wrap64 (x7_6 + (wrap64 ((wrap64 (bt a0 x9_6)) * x8_6)))))) = w40 at n0_ n1_ n2_ ⊢
                                            have HO_4 := n0_
                                            have BK193 := n1_
                                            have HB := n2_
                                            clear n0_ n1_ n2_
                                            have n0_ := Aside0.mk (Kd.R_drew HO_4.out)
                                            have n1_ := Aside0.mk (blk_drew BK193.out)
                                            have n2_ := Aside0.mk (below_drew1 HB.out)
                                            clear HO_4
                                            clear BK193
                                            clear HB
                                            have HO_4 := n0_
                                            have BK193 := n1_
                                            have HB := n2_
                                            clear n0_ n1_ n2_
                                            refine start_ (n := 8) (S := fun w' => w'.cell? ⟨gb193, 0, none⟩ = some (.int .i64 (wrap64 (Int.tdiv (wrap64 (bt a0 x5_1)) 2))) ∧ w'.cell? ⟨gb193, 1, none⟩ = some (.int .i64 (Int.tmod (wrap64 (bt a0 x5_1)) 2)) ∧ w'.cell? ⟨gb193, 2, none⟩ = some (.int .i64 (wrap64 (x7_6 + (wrap64 ((wrap64 (bt a0 x9_6)) * x8_6))))) ∧ w'.cell? ⟨gb193, 3, none⟩ = some (.string (⟨#[]⟩ : ByteArray))) (ds := []) #[false, false, false, false, false, false, false, false] (by kernel_rfl) rfl rfl ⟨(blk_cell BK193.out 0).trans rfl, (blk_cell BK193.out 1).trans rfl, (blk_cell BK193.out 2).trans rfl, (blk_cell BK193.out 3).trans rfl⟩ (fun hHeld => ?_); refine with_tabW aquiferref04_Decode.tab24 aquiferref04_Decode.bits24 (fun HT_ HW_ => ?_)
                                            generalize w40.drew = w41 at HO_4 BK193 HB hHeld ⊢
                                            refine pure_ (i := 3) (N := some 114) (v := ?_) (a' := ?_) #[false, false, false, true, false, false, false, false] rfl rfl (any_of HT_.out (by kernel_rfl)) (fun _ _ _ h => h) (Or.inl ⟨by rfl, ?_⟩) ?_ ?_
                                            rotate_left
                                            · intro w'
                                              go_simp
                                              with_reducible rfl
                                            rotate_left
                                            · simp only [Act.put, List.setIfInBounds_toArray, List.set_cons_zero, List.set_cons_succ, i64_w, i32_w]
                                              rfl
                                            refine pure_ (i := 4) (N := some 115) (v := ?_) (a' := ?_) #[false, false, false, true, true, false, false, false] rfl rfl (any_of HT_.out (by kernel_rfl)) (fun _ _ _ h => h) (Or.inl ⟨by rfl, ?_⟩) ?_ ?_
                                            rotate_left
                                            · intro w'
                                              go_simp
                                              with_reducible rfl
                                            rotate_left
                                            · simp only [Act.put, List.setIfInBounds_toArray, List.set_cons_zero, List.set_cons_succ, i64_w, i32_w]
                                              rfl
                                            refine pure_ (i := 5) (N := some 116) (v := ?_) (a' := ?_) #[false, false, false, true, true, true, false, false] rfl rfl (any_of HT_.out (by kernel_rfl)) (fun _ _ _ h => h) (Or.inl ⟨by rfl, ?_⟩) ?_ ?_
                                            rotate_left
                                            · intro w'
                                              go_simp
                                              with_reducible rfl
                                            rotate_left
                                            · simp only [Act.put, List.setIfInBounds_toArray, List.set_cons_zero, List.set_cons_succ, i64_w, i32_w]
                                              rfl
                                            refine pure_ (i := 6) (N := some 117) (v := ?_) (a' := ?_) #[false, false, false, true, true, true, true, false] rfl rfl (any_of HT_.out (by kernel_rfl)) (fun _ _ _ h => h) (Or.inl ⟨by rfl, ?_⟩) ?_ ?_
                                            rotate_left
                                            · intro w'
                                              go_simp
                                              with_reducible rfl
                                            rotate_left
                                            · simp only [Act.put, List.setIfInBounds_toArray, List.set_cons_zero, List.set_cons_succ, i64_w, i32_w]
                                              rfl
                                            refine take_ (i := 0) (N := some 111) (v := ?_) (a' := ?_) #[true, false, false, true, true, true, true, false] rfl rfl (take_ofW HT_.out HW_.out (by kernel_rfl)) (fun _ _ _ h => h) (Or.inl ⟨by rfl, ?_⟩) hHeld ?_ ?_
                                            rotate_left
                                            · rintro w' ⟨s0, s1, s2, s3⟩
                                              go_simp
                                              with_reducible rfl
                                            rotate_left
                                            · simp only [Act.put, List.setIfInBounds_toArray, List.set_cons_zero, List.set_cons_succ, i64_w, i32_w]
                                              rfl
                                            refine one_ (i := 1) (N := some 112) #[true, true, false, true, true, true, true, false] rfl rfl (one_of HT_.out (by kernel_rfl)) (by decide) (fun K hK => ?_)
                                            refine goes_ Try.func27 (by kernel_rfl) rfl #[.agg #[.int .i64 (wrap64 (Int.tdiv (wrap64 (bt a0 x5_1)) 2)), .int .i64 (Int.tmod (wrap64 (bt a0 x5_1)) 2), .int .i64 (wrap64 (x7_6 + (wrap64 ((wrap64 (bt a0 x9_6)) * x8_6)))), .string (⟨#[]⟩ : ByteArray)]] (by rfl) rfl rfl (by (try simp only [List.map_toArray, List.map_cons, List.map_nil]); first | done | rfl | (simp only [List.length_drop, List.length_take]; rfl)) ?_
                                            with_reducible refine (aquiferref04_bytes.calls kj25 (wrap64 (Int.tdiv (wrap64 (bt a0 x5_1)) 2)) (Int.tmod (wrap64 (bt a0 x5_1)) 2) (wrap64 (x7_6 + (wrap64 ((wrap64 (bt a0 x9_6)) * x8_6)))) (⟨#[]⟩ : ByteArray) t194 _ A33.out).mono ?_
                                            rintro e w42 ⟨v195, rfl, ho0, hb⟩
                                            refine ⟨_, rfl, ?_⟩
                                            have n0_ := Aside0.mk (Kd.R_below (by (with_reducible repeat (first | apply Kd.R_alloc | apply Kd.R_drewN | apply Kd.R_drew)); exact HO_4.out) hb)
                                            have n1_ := Aside0.mk (Kd.R_lower ho0 (below_size (by repeat (first | (with_reducible first | exact HB.out | apply below_alloc | apply pw_below_drewN | apply below_drew1 | refine below_set ?_ GE193.out) | exact HB.out))))
                                            have n2_ := Aside0.mk (blk_below (g := gb193) (o := .cells #[.int .i64 (wrap64 (Int.tdiv (wrap64 (bt a0 x5_1)) 2)), .int .i64 (Int.tmod (wrap64 (bt a0 x5_1)) 2), .int .i64 (wrap64 (x7_6 + (wrap64 ((wrap64 (bt a0 x9_6)) * x8_6)))), .string (⟨#[]⟩ : ByteArray)] 39 (0, 0)) (by (with_reducible repeat (first | refine blk_drewN ?_ _ | refine blk_drew ?_ | refine blk_alloc ?_ _)); exact BK193.out) hb)
                                            have n3_ := Aside0.mk (below_step (by repeat (first | (with_reducible first | exact HB.out | apply below_alloc | apply pw_below_drewN | apply below_drew1 | refine below_set ?_ GE193.out) | exact HB.out)) hb)
                                            clear HO_4
                                            clear BK193
                                            clear HB
                                            have HO_4 := n0_
                                            have HO196 := n1_
                                            have BK193 := n2_
                                            have HB := n3_
                                            clear n0_ n1_ n2_ n3_
                                            (try clear hb)
                                            (try clear hb2)
                                            (try clear hk)
                                            (try clear hi)
                                            (try clear ho0)
                                            refine hK.out _ _ ⟨(blk_cell BK193.out 0).trans rfl, (blk_cell BK193.out 1).trans rfl, (blk_cell BK193.out 2).trans rfl, (blk_cell BK193.out 3).trans rfl⟩ (fun hHeld => ?_)
                                            clear hK K
                                            refine norm_ (a' := ?_) ?_ ?_
                                            rotate_left
                                            · show Act.put _ (some 112) _ = _
                                              simp only [Act.put, List.setIfInBounds_toArray, List.set_cons_zero, List.set_cons_succ, i64_w, i32_w]
                                              rfl
                                            refine one_ (i := 2) (N := some 113) #[true, true, true, true, true, true, true, false] rfl rfl (one_of HT_.out (by kernel_rfl)) (by decide) (fun K hK => ?_)
                                            have hcv43 := own_string (P := Try.prog) Try.underlying50 Try.underlying5 Try.underlying9 (Kd.own_of_R HO196.out)
                                            refine value_ (w1 := ?_) (v := ?_) (by rfl) rfl ?_ ?_
                                            rotate_left 2
                                            · go_simp
                                              constructor
                                              · rfl
                                              · rfl
                                            clear hcv43
                                            refine hK.out _ _ ⟨(blk_cell BK193.out 0).trans rfl, (blk_cell BK193.out 1).trans rfl, (blk_cell BK193.out 2).trans rfl, (blk_cell BK193.out 3).trans rfl⟩ (fun hHeld => ?_)
                                            clear hK K
                                            refine norm_ (a' := ?_) ?_ ?_
                                            rotate_left
                                            · show Act.put _ (some 113) _ = _
                                              simp only [Act.put, List.setIfInBounds_toArray, List.set_cons_zero, List.set_cons_succ, i64_w, i32_w]
                                              rfl
                                            refine pure_ (i := 7) (N := some 118) (v := ?_) (a' := ?_) #[true, true, true, true, true, true, true, true] rfl rfl (any_of HT_.out (by kernel_rfl)) (fun _ _ _ h => h) (Or.inl ⟨by rfl, ?_⟩) ?_ ?_
                                            rotate_left
                                            · intro w'
                                              go_simp
                                              with_reducible rfl
                                            rotate_left
                                            · simp only [Act.put, List.setIfInBounds_toArray, List.set_cons_zero, List.set_cons_succ, i64_w, i32_w]
                                              rfl
                                            refine done_ (done_of HT_.out (by kernel_rfl)) ?_
                                            have hcz44_0 : w42.cell? ⟨gb193, 0, none⟩ = some (.int .i64 (wrap64 (Int.tdiv (wrap64 (bt a0 x5_1)) 2))) := (blk_cell BK193.out 0).trans rfl
                                            have hcz44_1 : w42.cell? ⟨gb193, 1, none⟩ = some (.int .i64 (Int.tmod (wrap64 (bt a0 x5_1)) 2)) := (blk_cell BK193.out 1).trans rfl
                                            have hcz44_2 : w42.cell? ⟨gb193, 2, none⟩ = some (.int .i64 (wrap64 (x7_6 + (wrap64 ((wrap64 (bt a0 x9_6)) * x8_6))))) := (blk_cell BK193.out 2).trans rfl
                                            have hcz44_3 : w42.cell? ⟨gb193, 3, none⟩ = some (.string (⟨#[]⟩ : ByteArray)) := (blk_cell BK193.out 3).trans rfl
                                            have hfz44_0 := blk_frozen BK193.out 0
                                            have hfz44_1 := blk_frozen BK193.out 1
                                            have hfz44_2 := blk_frozen BK193.out 2
                                            have hfz44_3 := blk_frozen BK193.out 3
                                            try go_wp2_with (first | ((with_reducible refine gate_builtin (b := .append) (xs := #[.tmp 119, .tmp 121]) rfl ?_); (try (refine gate_guard (by rfl) ?_; dsimp only)); at_builtin; refine Kd.R_append k39 (w0 := w) w.heap.size rfl (.tmp 119) (.tmp 121) 22 39 (.agg #[(.int .i64 0), (.int .i64 0), (.int .i64 0), (.string ⟨#[]⟩)]) 40 rfl Try.underlying22 info39 rfl (by decide) (by omega) u4 x4_1 (⟨(wrap64 (Int.tdiv (wrap64 (bt a0 x5_1)) 2)), (Int.tmod (wrap64 (bt a0 x5_1)) 2), (wrap64 (x7_6 + (wrap64 ((wrap64 (bt a0 x9_6)) * x8_6)))), (⟨#[]⟩ : ByteArray)⟩ : S39) [.int .i64 (wrap64 (Int.tdiv (wrap64 (bt a0 x5_1)) 2)), .int .i64 (Int.tmod (wrap64 (bt a0 x5_1)) 2), .int .i64 (wrap64 (x7_6 + (wrap64 ((wrap64 (bt a0 x9_6)) * x8_6)))), .string (⟨#[]⟩ : ByteArray)] (fun k_ => k_ ≠ gb193) (fun _ => False) rfl rfl ?aP (fun _ hk => hk.elim) ?aF ?aO ?aB ?aS ?aL ?_; (case aP => exact k39_mkM _ _ _ (⟨(wrap64 (Int.tdiv (wrap64 (bt a0 x5_1)) 2)), (Int.tmod (wrap64 (bt a0 x5_1)) 2), (wrap64 (x7_6 + (wrap64 ((wrap64 (bt a0 x9_6)) * x8_6)))), (⟨#[]⟩ : ByteArray)⟩ : S39)); (case aB => exact (by repeat (first | (with_reducible first | exact HB.out | apply below_alloc | apply pw_below_drewN | apply below_drew1 | refine below_set ?_ GE193.out) | exact HB.out))); (case aF => exact (fun k_ hk => Kd.freshB (g := gb193) (o := .cells #[.int .i64 (wrap64 (Int.tdiv (wrap64 (bt a0 x5_1)) 2)), .int .i64 (Int.tmod (wrap64 (bt a0 x5_1)) 2), .int .i64 (wrap64 (x7_6 + (wrap64 ((wrap64 (bt a0 x9_6)) * x8_6)))), .string (⟨#[]⟩ : ByteArray)] 39 (0, 0)) (by (with_reducible repeat (first | refine blk_drewN ?_ _ | refine blk_drew ?_ | refine blk_alloc ?_ _)); exact BK193.out) k_ hk)); (case aO => exact (by (with_reducible repeat (first | apply Kd.R_alloc | apply Kd.R_drewN | apply Kd.R_drew)); exact HO_4.out)); (case aS => exact (below_size (by repeat (first | (with_reducible first | exact HB.out | apply below_alloc | apply pw_below_drewN | apply below_drew1 | refine below_set ?_ GE193.out) | exact HB.out)))); (case aL => have := LMc38.out; omega); intro v198 w45 ho hb hg hat; rw [← Ny197.out] at ho; have n0_ := Aside0.mk (blk_grown (g := gb193) (o := .cells #[.int .i64 (wrap64 (Int.tdiv (wrap64 (bt a0 x5_1)) 2)), .int .i64 (Int.tmod (wrap64 (bt a0 x5_1)) 2), .int .i64 (wrap64 (x7_6 + (wrap64 ((wrap64 (bt a0 x9_6)) * x8_6)))), .string (⟨#[]⟩ : ByteArray)] 39 (0, 0)) (by (with_reducible repeat (first | refine blk_drewN ?_ _ | refine blk_drew ?_ | refine blk_alloc ?_ _)); exact BK193.out) hg (Kd.R_away HO_4.out (fun _ hk => hk))); have n1_ := Aside0.mk (Kd.R_over' (by (with_reducible repeat (first | apply Kd.R_alloc | apply Kd.R_drewN | apply Kd.R_drew)); exact HO196.out) (Kd.R_typed (by (with_reducible repeat (first | apply Kd.R_alloc | apply Kd.R_drewN | apply Kd.R_drew)); exact HO_4.out)) (by decide) hg); have n2_ := Aside0.mk (hb); have n3_ := Aside0.mk (ho); clear BK193; clear HO196; clear HB; clear HO_4; have BK193 := n0_; have HO196 := n1_; have HB := n2_; have HO199 := n3_; clear n0_ n1_ n2_ n3_; clear ho hb hg hat))
                                            go_roundg kj25
                                            case measure => have := HK1.out; have := HJ6.out; have := HJ19.out; have := HJ25.out; omega
                                            case rel => exact ⟨(y197), ((wrap64 (x9_6 + 1))), (by first | rfl | (simp; done) | (simp [*]; done)), H', ⟨by have := HK1.out; have := HJ6.out; have := HJ19.out; have := HJ25.out; omega⟩, ⟨by (with_reducible repeat (first | apply Kd.R_alloc | apply Kd.R_drewN | apply Kd.R_drew)); exact Kd.R_mono HO199.out (fun _ hk => trivial)⟩, ⟨by repeat (first | (with_reducible first | exact HB.out | apply below_alloc | apply pw_below_drewN | apply below_drew1 | refine below_set ?_ GE193.out) | exact HB.out)⟩⟩
                                          · rw [if_neg c38] at H
                                            exact absurd H (by simp)
                                        · rw [if_neg c37] at H
                                          have c37b0 : ((strOfNums t194).toList == (a0.extract (x5_1 : Int).toNat ((wrap64 (x9_6 + 1)) : Int).toNat).toList) = false := beq_eq_false_iff_ne.mpr c37
                                          have c37b1 : ((strOfNums t194).toList != (a0.extract (x5_1 : Int).toNat ((wrap64 (x9_6 + 1)) : Int).toNat).toList) = true := bne_iff_ne.mpr c37
                                          simp only [Option.some.injEq, Prod.mk.injEq] at H
                                          obtain ⟨rfl, rfl⟩ := H
                                          have hcz46_0 : wc.cell? ⟨gb193, 0, none⟩ = some (.int .i64 (wrap64 (Int.tdiv (wrap64 (bt a0 x5_1)) 2))) := (blk_cell BK193.out 0).trans rfl
                                          have hcz46_1 : wc.cell? ⟨gb193, 1, none⟩ = some (.int .i64 (Int.tmod (wrap64 (bt a0 x5_1)) 2)) := (blk_cell BK193.out 1).trans rfl
                                          have hcz46_2 : wc.cell? ⟨gb193, 2, none⟩ = some (.int .i64 0) := (blk_cell BK193.out 2).trans rfl
                                          have hcz46_3 : wc.cell? ⟨gb193, 3, none⟩ = some (.string (⟨#[]⟩ : ByteArray)) := (blk_cell BK193.out 3).trans rfl
                                          have hfz46_0 := blk_frozen BK193.out 0
                                          have hfz46_1 := blk_frozen BK193.out 1
                                          have hfz46_2 := blk_frozen BK193.out 2
                                          have hfz46_3 := blk_frozen BK193.out 3
                                          try go_wp2
                                          have n0_ : Aside0 (Kd.R k39 39 (wc.setCell ⟨gb193, 2, none⟩ (.int .i64 (wrap64 (x7_6 + (wrap64 ((wrap64 (bt a0 x9_6)) * x8_6)))))) w.heap.size (fun k_ => k_ ≠ gb193) u4 x4_1) := ⟨by (with_reducible repeat (first | apply Kd.R_alloc | apply Kd.R_drewN | apply Kd.R_drew)); exact Kd.R_mono (Kd.R_far (p := ⟨gb193, 2, none⟩) (Kd.R_mono HO_4.out (fun k_ hk => (⟨hk, hk⟩ : _ ∧ k_ ≠ gb193))) (fun _ hk => hk.2) (.int .i64 (wrap64 (x7_6 + (wrap64 ((wrap64 (bt a0 x9_6)) * x8_6)))))) (fun _ hk => hk.1)⟩
                                          have n1_ : Aside0 ((wc.setCell ⟨gb193, 2, none⟩ (.int .i64 (wrap64 (x7_6 + (wrap64 ((wrap64 (bt a0 x9_6)) * x8_6)))))).heap[gb193]? = some (.cells #[.int .i64 (wrap64 (Int.tdiv (wrap64 (bt a0 x5_1)) 2)), .int .i64 (Int.tmod (wrap64 (bt a0 x5_1)) 2), .int .i64 (wrap64 (x7_6 + (wrap64 ((wrap64 (bt a0 x9_6)) * x8_6)))), .string (⟨#[]⟩ : ByteArray)] 39 (0, 0))) := ⟨by (with_reducible repeat (first | refine blk_drewN ?_ _ | refine blk_drew ?_ | refine blk_alloc ?_ _)); refine blk_put (cs := #[.int .i64 (wrap64 (Int.tdiv (wrap64 (bt a0 x5_1)) 2)), .int .i64 (Int.tmod (wrap64 (bt a0 x5_1)) 2), .int .i64 0, .string (⟨#[]⟩ : ByteArray)]) ?_ 2 _ rfl; (with_reducible repeat (first | refine blk_drewN ?_ _ | refine blk_drew ?_ | refine blk_alloc ?_ _)); exact BK193.out⟩
                                          have n2_ : Aside0 (Below w.heap.size w (wc.setCell ⟨gb193, 2, none⟩ (.int .i64 (wrap64 (x7_6 + (wrap64 ((wrap64 (bt a0 x9_6)) * x8_6))))))) := ⟨by repeat (first | (with_reducible first | exact HB.out | apply below_alloc | apply pw_below_drewN | apply below_drew1 | refine below_set ?_ GE193.out) | exact HB.out)⟩
                                          (try clear HO_4)
                                          (try clear BK193)
                                          (try clear HB)
                                          generalize (wc.setCell ⟨gb193, 2, none⟩ (.int .i64 (wrap64 (x7_6 + (wrap64 ((wrap64 (bt a0 x9_6)) * x8_6)))))) = w47 at n0_ n1_ n2_ ⊢
                                          have HO_4 := n0_
                                          have BK193 := n1_
                                          have HB := n2_
                                          clear n0_ n1_ n2_
                                          have n0_ := Aside0.mk (Kd.R_drew HO_4.out)
                                          have n1_ := Aside0.mk (blk_drew BK193.out)
                                          have n2_ := Aside0.mk (below_drew1 HB.out)
                                          clear HO_4
                                          clear BK193
                                          clear HB
                                          have HO_4 := n0_
                                          have BK193 := n1_
                                          have HB := n2_
                                          clear n0_ n1_ n2_
                                          refine start_ (n := 8) (S := fun w' => w'.cell? ⟨gb193, 0, none⟩ = some (.int .i64 (wrap64 (Int.tdiv (wrap64 (bt a0 x5_1)) 2))) ∧ w'.cell? ⟨gb193, 1, none⟩ = some (.int .i64 (Int.tmod (wrap64 (bt a0 x5_1)) 2)) ∧ w'.cell? ⟨gb193, 2, none⟩ = some (.int .i64 (wrap64 (x7_6 + (wrap64 ((wrap64 (bt a0 x9_6)) * x8_6))))) ∧ w'.cell? ⟨gb193, 3, none⟩ = some (.string (⟨#[]⟩ : ByteArray))) (ds := []) #[false, false, false, false, false, false, false, false] (by kernel_rfl) rfl rfl ⟨(blk_cell BK193.out 0).trans rfl, (blk_cell BK193.out 1).trans rfl, (blk_cell BK193.out 2).trans rfl, (blk_cell BK193.out 3).trans rfl⟩ (fun hHeld => ?_); refine with_tabW aquiferref04_Decode.tab24 aquiferref04_Decode.bits24 (fun HT_ HW_ => ?_)
                                          generalize w47.drew = w48 at HO_4 BK193 HB hHeld ⊢
                                          refine pure_ (i := 3) (N := some 114) (v := ?_) (a' := ?_) #[false, false, false, true, false, false, false, false] rfl rfl (any_of HT_.out (by kernel_rfl)) (fun _ _ _ h => h) (Or.inl ⟨by rfl, ?_⟩) ?_ ?_
                                          rotate_left
                                          · intro w'
                                            go_simp
                                            with_reducible rfl
                                          rotate_left
                                          · simp only [Act.put, List.setIfInBounds_toArray, List.set_cons_zero, List.set_cons_succ, i64_w, i32_w]
                                            rfl
                                          refine pure_ (i := 4) (N := some 115) (v := ?_) (a' := ?_) #[false, false, false, true, true, false, false, false] rfl rfl (any_of HT_.out (by kernel_rfl)) (fun _ _ _ h => h) (Or.inl ⟨by rfl, ?_⟩) ?_ ?_
                                          rotate_left
                                          · intro w'
                                            go_simp
                                            with_reducible rfl
                                          rotate_left
                                          · simp only [Act.put, List.setIfInBounds_toArray, List.set_cons_zero, List.set_cons_succ, i64_w, i32_w]
                                            rfl
                                          refine pure_ (i := 5) (N := some 116) (v := ?_) (a' := ?_) #[false, false, false, true, true, true, false, false] rfl rfl (any_of HT_.out (by kernel_rfl)) (fun _ _ _ h => h) (Or.inl ⟨by rfl, ?_⟩) ?_ ?_
                                          rotate_left
                                          · intro w'
                                            go_simp
                                            with_reducible rfl
                                          rotate_left
                                          · simp only [Act.put, List.setIfInBounds_toArray, List.set_cons_zero, List.set_cons_succ, i64_w, i32_w]
                                            rfl
                                          refine pure_ (i := 6) (N := some 117) (v := ?_) (a' := ?_) #[false, false, false, true, true, true, true, false] rfl rfl (any_of HT_.out (by kernel_rfl)) (fun _ _ _ h => h) (Or.inl ⟨by rfl, ?_⟩) ?_ ?_
                                          rotate_left
                                          · intro w'
                                            go_simp
                                            with_reducible rfl
                                          rotate_left
                                          · simp only [Act.put, List.setIfInBounds_toArray, List.set_cons_zero, List.set_cons_succ, i64_w, i32_w]
                                            rfl
                                          refine take_ (i := 0) (N := some 111) (v := ?_) (a' := ?_) #[true, false, false, true, true, true, true, false] rfl rfl (take_ofW HT_.out HW_.out (by kernel_rfl)) (fun _ _ _ h => h) (Or.inl ⟨by rfl, ?_⟩) hHeld ?_ ?_
                                          rotate_left
                                          · rintro w' ⟨s0, s1, s2, s3⟩
                                            go_simp
                                            with_reducible rfl
                                          rotate_left
                                          · simp only [Act.put, List.setIfInBounds_toArray, List.set_cons_zero, List.set_cons_succ, i64_w, i32_w]
                                            rfl
                                          refine one_ (i := 1) (N := some 112) #[true, true, false, true, true, true, true, false] rfl rfl (one_of HT_.out (by kernel_rfl)) (by decide) (fun K hK => ?_)
                                          refine goes_ Try.func27 (by kernel_rfl) rfl #[.agg #[.int .i64 (wrap64 (Int.tdiv (wrap64 (bt a0 x5_1)) 2)), .int .i64 (Int.tmod (wrap64 (bt a0 x5_1)) 2), .int .i64 (wrap64 (x7_6 + (wrap64 ((wrap64 (bt a0 x9_6)) * x8_6)))), .string (⟨#[]⟩ : ByteArray)]] (by rfl) rfl rfl (by (try simp only [List.map_toArray, List.map_cons, List.map_nil]); first | done | rfl | (simp only [List.length_drop, List.length_take]; rfl)) ?_
                                          with_reducible refine (aquiferref04_bytes.calls kj25 (wrap64 (Int.tdiv (wrap64 (bt a0 x5_1)) 2)) (Int.tmod (wrap64 (bt a0 x5_1)) 2) (wrap64 (x7_6 + (wrap64 ((wrap64 (bt a0 x9_6)) * x8_6)))) (⟨#[]⟩ : ByteArray) t194 _ A33.out).mono ?_
                                          rintro e w49 ⟨v195, rfl, ho0, hb⟩
                                          refine ⟨_, rfl, ?_⟩
                                          have n0_ := Aside0.mk (Kd.R_below (by (with_reducible repeat (first | apply Kd.R_alloc | apply Kd.R_drewN | apply Kd.R_drew)); exact HO_4.out) hb)
                                          have n1_ := Aside0.mk (Kd.R_lower ho0 (below_size (by repeat (first | (with_reducible first | exact HB.out | apply below_alloc | apply pw_below_drewN | apply below_drew1 | refine below_set ?_ GE193.out) | exact HB.out))))
                                          have n2_ := Aside0.mk (blk_below (g := gb193) (o := .cells #[.int .i64 (wrap64 (Int.tdiv (wrap64 (bt a0 x5_1)) 2)), .int .i64 (Int.tmod (wrap64 (bt a0 x5_1)) 2), .int .i64 (wrap64 (x7_6 + (wrap64 ((wrap64 (bt a0 x9_6)) * x8_6)))), .string (⟨#[]⟩ : ByteArray)] 39 (0, 0)) (by (with_reducible repeat (first | refine blk_drewN ?_ _ | refine blk_drew ?_ | refine blk_alloc ?_ _)); exact BK193.out) hb)
                                          have n3_ := Aside0.mk (below_step (by repeat (first | (with_reducible first | exact HB.out | apply below_alloc | apply pw_below_drewN | apply below_drew1 | refine below_set ?_ GE193.out) | exact HB.out)) hb)
                                          clear HO_4
                                          clear BK193
                                          clear HB
                                          have HO_4 := n0_
                                          have HO196 := n1_
                                          have BK193 := n2_
                                          have HB := n3_
                                          clear n0_ n1_ n2_ n3_
                                          (try clear hb)
                                          (try clear hb2)
                                          (try clear hk)
                                          (try clear hi)
                                          (try clear ho0)
                                          refine hK.out _ _ ⟨(blk_cell BK193.out 0).trans rfl, (blk_cell BK193.out 1).trans rfl, (blk_cell BK193.out 2).trans rfl, (blk_cell BK193.out 3).trans rfl⟩ (fun hHeld => ?_)
                                          clear hK K
                                          refine norm_ (a' := ?_) ?_ ?_
                                          rotate_left
                                          · show Act.put _ (some 112) _ = _
                                            simp only [Act.put, List.setIfInBounds_toArray, List.set_cons_zero, List.set_cons_succ, i64_w, i32_w]
                                            rfl
                                          refine one_ (i := 2) (N := some 113) #[true, true, true, true, true, true, true, false] rfl rfl (one_of HT_.out (by kernel_rfl)) (by decide) (fun K hK => ?_)
                                          have hcv50 := own_string (P := Try.prog) Try.underlying50 Try.underlying5 Try.underlying9 (Kd.own_of_R HO196.out)
                                          refine value_ (w1 := ?_) (v := ?_) (by rfl) rfl ?_ ?_
                                          rotate_left 2
                                          · go_simp
                                            constructor
                                            · rfl
                                            · rfl
                                          clear hcv50
                                          refine hK.out _ _ ⟨(blk_cell BK193.out 0).trans rfl, (blk_cell BK193.out 1).trans rfl, (blk_cell BK193.out 2).trans rfl, (blk_cell BK193.out 3).trans rfl⟩ (fun hHeld => ?_)
                                          clear hK K
                                          refine norm_ (a' := ?_) ?_ ?_
                                          rotate_left
                                          · show Act.put _ (some 113) _ = _
                                            simp only [Act.put, List.setIfInBounds_toArray, List.set_cons_zero, List.set_cons_succ, i64_w, i32_w]
                                            rfl
                                          refine pure_ (i := 7) (N := some 118) (v := ?_) (a' := ?_) #[true, true, true, true, true, true, true, true] rfl rfl (any_of HT_.out (by kernel_rfl)) (fun _ _ _ h => h) (Or.inl ⟨by rfl, ?_⟩) ?_ ?_
                                          rotate_left
                                          · intro w'
                                            go_simp
                                            with_reducible rfl
                                          rotate_left
                                          · simp only [Act.put, List.setIfInBounds_toArray, List.set_cons_zero, List.set_cons_succ, i64_w, i32_w]
                                            rfl
                                          refine done_ (done_of HT_.out (by kernel_rfl)) ?_
                                          try go_wp2
                                          go_ret2
                                          exact ⟨_, by first | rfl | (simp [errW_none, errW_some] <;> rfl) | (simp [*, errW_none, errW_some] <;> rfl), by first | exact Kd.R_nil _ _ _ _ _ | exact Kd.N_nil _ _ _ _ _ | exact Kd.V_nil _ _ _ _ _ | exact Kd.Q_nil _ _ _ _ _ | exact Kd.S_nil _ _ _ _ _, by repeat (first | (with_reducible first | exact HB.out | apply below_alloc | apply pw_below_drewN | apply below_drew1 | refine below_set ?_ GE193.out) | exact HB.out)⟩
                                      · rw [if_neg c36] at H
                                        exact absurd H (by simp)
                                    · rw [if_neg c35] at H
                                      exact absurd H (by simp)
                                  · rw [if_neg c34] at H
                                    exact absurd H (by simp)
                                · rw [if_neg c32] at H
                                  have c32b0 : ((Int.tmod (wrap64 (bt a0 x5_1)) 2) == 0) = false := beq_eq_false_iff_ne.mpr c32
                                  have c32b1 : ((Int.tmod (wrap64 (bt a0 x5_1)) 2) != 0) = true := bne_iff_ne.mpr c32
                                  obtain ⟨ji51, hji51⟩ : ∃ j_ : Int, (wrap64 (x9_6 + 1)) = j_ := ⟨_, rfl⟩
                                  replace H : (if 0 ≤ (ji51) then (if (ji51) ≤ (wrap64 ((ji51) + (wrap64 (x7_6 + (wrap64 ((wrap64 (bt a0 x9_6)) * x8_6)))))) then (if (wrap64 ((ji51) + (wrap64 (x7_6 + (wrap64 ((wrap64 (bt a0 x9_6)) * x8_6)))))) ≤ (a0.size : Int) then ((aquiferref04_bytes.f kj25 (wrap64 (Int.tdiv (wrap64 (bt a0 x5_1)) 2)) (Int.tmod (wrap64 (bt a0 x5_1)) 2) 0 (a0.extract ((ji51) : Int).toNat ((wrap64 ((ji51) + (wrap64 (x7_6 + (wrap64 ((wrap64 (bt a0 x9_6)) * x8_6)))))) : Int).toNat)).bind fun t200 => (if 0 ≤ x5_1 then (if x5_1 ≤ (wrap64 ((ji51) + (wrap64 (x7_6 + (wrap64 ((wrap64 (bt a0 x9_6)) * x8_6)))))) then (if (strOfNums t200).toList = (a0.extract (x5_1 : Int).toNat ((wrap64 ((ji51) + (wrap64 (x7_6 + (wrap64 ((wrap64 (bt a0 x9_6)) * x8_6)))))) : Int).toNat).toList then (if x4_1.length < 3518437208883 then (aquiferref04_Decode.l0 kj25 a0 (x4_1 ++ [(⟨(wrap64 (Int.tdiv (wrap64 (bt a0 x5_1)) 2)), (Int.tmod (wrap64 (bt a0 x5_1)) 2), 0, a0.extract ((ji51) : Int).toNat ((wrap64 ((ji51) + (wrap64 (x7_6 + (wrap64 ((wrap64 (bt a0 x9_6)) * x8_6)))))) : Int).toNat⟩ : S39)]) (wrap64 ((ji51) + (wrap64 (x7_6 + (wrap64 ((wrap64 (bt a0 x9_6)) * x8_6))))))) else (none)) else (some (([] : List (S39)), 5))) else (none)) else (none))) else (none)) else (none)) else (none)) = some (r1, r2) := by first | (rw [hji51] at H; exact H) | (simp only [hji51] at H ⊢; exact H)
                                  have hji51w : (IntKind.i64.wrap (x9_6 + 1)) = ji51 := (i64_w _).trans hji51
                                  by_cases c52 : 0 ≤ (ji51)
                                  · rw [if_pos c52] at H
                                    have c52b0 := eq_true c52
                                    have c52b1 : decide (0 ≤ (ji51)) = true := decide_eq_true c52
                                    clear c52
                                    by_cases c53 : (ji51) ≤ (wrap64 ((ji51) + (wrap64 (x7_6 + (wrap64 ((wrap64 (bt a0 x9_6)) * x8_6))))))
                                    · rw [if_pos c53] at H
                                      have c53b0 := eq_true c53
                                      have c53b1 : decide ((ji51) ≤ (wrap64 ((ji51) + (wrap64 (x7_6 + (wrap64 ((wrap64 (bt a0 x9_6)) * x8_6))))))) = true := decide_eq_true c53
                                      by_cases c54 : (wrap64 ((ji51) + (wrap64 (x7_6 + (wrap64 ((wrap64 (bt a0 x9_6)) * x8_6)))))) ≤ (a0.size : Int)
                                      · rw [if_pos c54] at H
                                        have c54b0 := eq_true c54
                                        have c54b1 : decide ((wrap64 ((ji51) + (wrap64 (x7_6 + (wrap64 ((wrap64 (bt a0 x9_6)) * x8_6)))))) ≤ (a0.size : Int)) = true := decide_eq_true c54
                                        replace H := Option.bind_eq_some_iff.mp H
                                        obtain ⟨t200, A550, H⟩ := H
                                        replace H : (if 0 ≤ x5_1 then (if x5_1 ≤ (wrap64 ((ji51) + (wrap64 (x7_6 + (wrap64 ((wrap64 (bt a0 x9_6)) * x8_6)))))) then (if (strOfNums t200).toList = (a0.extract (x5_1 : Int).toNat ((wrap64 ((ji51) + (wrap64 (x7_6 + (wrap64 ((wrap64 (bt a0 x9_6)) * x8_6)))))) : Int).toNat).toList then (if x4_1.length < 3518437208883 then (aquiferref04_Decode.l0 kj25 a0 (x4_1 ++ [(⟨(wrap64 (Int.tdiv (wrap64 (bt a0 x5_1)) 2)), (Int.tmod (wrap64 (bt a0 x5_1)) 2), 0, a0.extract ((ji51) : Int).toNat ((wrap64 ((ji51) + (wrap64 (x7_6 + (wrap64 ((wrap64 (bt a0 x9_6)) * x8_6)))))) : Int).toNat⟩ : S39)]) (wrap64 ((ji51) + (wrap64 (x7_6 + (wrap64 ((wrap64 (bt a0 x9_6)) * x8_6))))))) else (none)) else (some (([] : List (S39)), 5))) else (none)) else (none)) = some (r1, r2) := H
                                        have A55 := Aside0.mk A550
                                        clear A550
                                        by_cases c56 : 0 ≤ x5_1
                                        · rw [if_pos c56] at H
                                          have c56b0 := eq_true c56
                                          have c56b1 : decide (0 ≤ x5_1) = true := decide_eq_true c56
                                          clear c56
                                          by_cases c57 : x5_1 ≤ (wrap64 ((ji51) + (wrap64 (x7_6 + (wrap64 ((wrap64 (bt a0 x9_6)) * x8_6))))))
                                          · rw [if_pos c57] at H
                                            have c57b0 := eq_true c57
                                            have c57b1 : decide (x5_1 ≤ (wrap64 ((ji51) + (wrap64 (x7_6 + (wrap64 ((wrap64 (bt a0 x9_6)) * x8_6))))))) = true := decide_eq_true c57
                                            have c58b0 := eq_true (of_decide_eq_true (by first | (with_reducible assumption) | assumption) : (wrap64 ((ji51) + (wrap64 (x7_6 + (wrap64 ((wrap64 (bt a0 x9_6)) * x8_6)))))) ≤ (a0.size : Int))
                                            by_cases c59 : (strOfNums t200).toList = (a0.extract (x5_1 : Int).toNat ((wrap64 ((ji51) + (wrap64 (x7_6 + (wrap64 ((wrap64 (bt a0 x9_6)) * x8_6)))))) : Int).toNat).toList
                                            · rw [if_pos c59] at H
                                              have c59b0 : ((strOfNums t200).toList == (a0.extract (x5_1 : Int).toNat ((wrap64 ((ji51) + (wrap64 (x7_6 + (wrap64 ((wrap64 (bt a0 x9_6)) * x8_6)))))) : Int).toNat).toList) = true := beq_iff_eq.mpr c59
                                              have c59b1 : ((strOfNums t200).toList != (a0.extract (x5_1 : Int).toNat ((wrap64 ((ji51) + (wrap64 (x7_6 + (wrap64 ((wrap64 (bt a0 x9_6)) * x8_6)))))) : Int).toNat).toList) = false := bne_eq_false_iff_eq.mpr c59
                                              clear c59
                                              by_cases c60 : x4_1.length < 3518437208883
                                              · rw [if_pos c60] at H
                                                have LMc60 := Aside0.mk c60
                                                clear c60
                                                obtain ⟨y203, hy203⟩ : ∃ y_ : List (S39), y_ = (x4_1 ++ [(⟨(wrap64 (Int.tdiv (wrap64 (bt a0 x5_1)) 2)), (Int.tmod (wrap64 (bt a0 x5_1)) 2), 0, a0.extract ((ji51) : Int).toNat ((wrap64 ((ji51) + (wrap64 (x7_6 + (wrap64 ((wrap64 (bt a0 x9_6)) * x8_6)))))) : Int).toNat⟩ : S39)]) := ⟨_, rfl⟩
                                                replace H : (aquiferref04_Decode.l0 kj25 a0 y203 (wrap64 ((ji51) + (wrap64 (x7_6 + (wrap64 ((wrap64 (bt a0 x9_6)) * x8_6))))))) = some (r1, r2) := by first | (rw [hy203]; with_reducible exact H) | (have H2_ := (Option.bind_some _ _).symm.trans H; rw [hy203]; with_reducible exact H2_) | (have H2_ := (Option.bind_some _ _).symm.trans H; with_reducible exact H2_) | with_reducible exact H | (rw [hy203]; exact H) | exact H
                                                have Ny203 := Aside0.mk hy203
                                                clear hy203
                                                have H' := Aside0.mk H
                                                clear H
                                                have hcz61_0 : wc.cell? ⟨gb193, 0, none⟩ = some (.int .i64 (wrap64 (Int.tdiv (wrap64 (bt a0 x5_1)) 2))) := (blk_cell BK193.out 0).trans rfl
                                                have hcz61_1 : wc.cell? ⟨gb193, 1, none⟩ = some (.int .i64 (Int.tmod (wrap64 (bt a0 x5_1)) 2)) := (blk_cell BK193.out 1).trans rfl
                                                have hcz61_2 : wc.cell? ⟨gb193, 2, none⟩ = some (.int .i64 0) := (blk_cell BK193.out 2).trans rfl
                                                have hcz61_3 : wc.cell? ⟨gb193, 3, none⟩ = some (.string (⟨#[]⟩ : ByteArray)) := (blk_cell BK193.out 3).trans rfl
                                                have hfz61_0 := blk_frozen BK193.out 0
                                                have hfz61_1 := blk_frozen BK193.out 1
                                                have hfz61_2 := blk_frozen BK193.out 2
                                                have hfz61_3 := blk_frozen BK193.out 3
                                                try go_wp2
                                                have n0_ : Aside0 (Kd.R k39 39 (wc.setCell ⟨gb193, 3, none⟩ (.string (a0.extract ((ji51) : Int).toNat ((wrap64 ((ji51) + (wrap64 (x7_6 + (wrap64 ((wrap64 (bt a0 x9_6)) * x8_6)))))) : Int).toNat))) w.heap.size (fun k_ => k_ ≠ gb193) u4 x4_1) := ⟨by (with_reducible repeat (first | apply Kd.R_alloc | apply Kd.R_drewN | apply Kd.R_drew)); exact Kd.R_mono (Kd.R_far (p := ⟨gb193, 3, none⟩) (Kd.R_mono HO_4.out (fun k_ hk => (⟨hk, hk⟩ : _ ∧ k_ ≠ gb193))) (fun _ hk => hk.2) (.string (a0.extract ((ji51) : Int).toNat ((wrap64 ((ji51) + (wrap64 (x7_6 + (wrap64 ((wrap64 (bt a0 x9_6)) * x8_6)))))) : Int).toNat))) (fun _ hk => hk.1)⟩
                                                have n1_ : Aside0 ((wc.setCell ⟨gb193, 3, none⟩ (.string (a0.extract ((ji51) : Int).toNat ((wrap64 ((ji51) + (wrap64 (x7_6 + (wrap64 ((wrap64 (bt a0 x9_6)) * x8_6)))))) : Int).toNat))).heap[gb193]? = some (.cells #[.int .i64 (wrap64 (Int.tdiv (wrap64 (bt a0 x5_1)) 2)), .int .i64 (Int.tmod (wrap64 (bt a0 x5_1)) 2), .int .i64 0, .string (a0.extract ((ji51) : Int).toNat ((wrap64 ((ji51) + (wrap64 (x7_6 + (wrap64 ((wrap64 (bt a0 x9_6)) * x8_6)))))) : Int).toNat)] 39 (0, 0))) := ⟨by (with_reducible repeat (first | refine blk_drewN ?_ _ | refine blk_drew ?_ | refine blk_alloc ?_ _)); refine blk_put (cs := #[.int .i64 (wrap64 (Int.tdiv (wrap64 (bt a0 x5_1)) 2)), .int .i64 (Int.tmod (wrap64 (bt a0 x5_1)) 2), .int .i64 0, .string (⟨#[]⟩ : ByteArray)]) ?_ 3 _ rfl; (with_reducible repeat (first | refine blk_drewN ?_ _ | refine blk_drew ?_ | refine blk_alloc ?_ _)); exact BK193.out⟩
                                                have n2_ : Aside0 (Below w.heap.size w (wc.setCell ⟨gb193, 3, none⟩ (.string (a0.extract ((ji51) : Int).toNat ((wrap64 ((ji51) + (wrap64 (x7_6 + (wrap64 ((wrap64 (bt a0 x9_6)) * x8_6)))))) : Int).toNat)))) := ⟨by repeat (first | (with_reducible first | exact HB.out | apply below_alloc | apply pw_below_drewN | apply below_drew1 | refine below_set ?_ GE193.out) | exact HB.out)⟩
                                                (try clear HO_4)
                                                (try clear BK193)
                                                (try clear HB)
                                                generalize (wc.setCell ⟨gb193, 3, none⟩ (.string (a0.extract ((ji51) : Int).toNat ((wrap64 ((ji51) + (wrap64 (x7_6 + (wrap64 ((wrap64 (bt a0 x9_6)) * x8_6)))))) : Int).toNat))) = w62 at n0_ n1_ n2_ ⊢
                                                have HO_4 := n0_
                                                have BK193 := n1_
                                                have HB := n2_
                                                clear n0_ n1_ n2_
                                                have n0_ := Aside0.mk (Kd.R_drew HO_4.out)
                                                have n1_ := Aside0.mk (blk_drew BK193.out)
                                                have n2_ := Aside0.mk (below_drew1 HB.out)
                                                clear HO_4
                                                clear BK193
                                                clear HB
                                                have HO_4 := n0_
                                                have BK193 := n1_
                                                have HB := n2_
                                                clear n0_ n1_ n2_
                                                refine start_ (n := 8) (S := fun w' => w'.cell? ⟨gb193, 0, none⟩ = some (.int .i64 (wrap64 (Int.tdiv (wrap64 (bt a0 x5_1)) 2))) ∧ w'.cell? ⟨gb193, 1, none⟩ = some (.int .i64 (Int.tmod (wrap64 (bt a0 x5_1)) 2)) ∧ w'.cell? ⟨gb193, 2, none⟩ = some (.int .i64 0) ∧ w'.cell? ⟨gb193, 3, none⟩ = some (.string (a0.extract ((ji51) : Int).toNat ((wrap64 ((ji51) + (wrap64 (x7_6 + (wrap64 ((wrap64 (bt a0 x9_6)) * x8_6)))))) : Int).toNat))) (ds := []) #[false, false, false, false, false, false, false, false] (by kernel_rfl) rfl rfl ⟨(blk_cell BK193.out 0).trans rfl, (blk_cell BK193.out 1).trans rfl, (blk_cell BK193.out 2).trans rfl, (blk_cell BK193.out 3).trans rfl⟩ (fun hHeld => ?_); refine with_tabW aquiferref04_Decode.tab24 aquiferref04_Decode.bits24 (fun HT_ HW_ => ?_)
                                                generalize w62.drew = w63 at HO_4 BK193 HB hHeld ⊢
                                                refine pure_ (i := 3) (N := some 114) (v := ?_) (a' := ?_) #[false, false, false, true, false, false, false, false] rfl rfl (any_of HT_.out (by kernel_rfl)) (fun _ _ _ h => h) (Or.inl ⟨by rfl, ?_⟩) ?_ ?_
                                                rotate_left
                                                · intro w'
                                                  go_simp
                                                  with_reducible rfl
                                                rotate_left
                                                · simp only [Act.put, List.setIfInBounds_toArray, List.set_cons_zero, List.set_cons_succ, i64_w, i32_w]
                                                  rfl
                                                refine pure_ (i := 4) (N := some 115) (v := ?_) (a' := ?_) #[false, false, false, true, true, false, false, false] rfl rfl (any_of HT_.out (by kernel_rfl)) (fun _ _ _ h => h) (Or.inl ⟨by rfl, ?_⟩) ?_ ?_
                                                rotate_left
                                                · intro w'
                                                  go_simp
                                                  with_reducible rfl
                                                rotate_left
                                                · simp only [Act.put, List.setIfInBounds_toArray, List.set_cons_zero, List.set_cons_succ, i64_w, i32_w]
                                                  rfl
                                                refine pure_ (i := 5) (N := some 116) (v := ?_) (a' := ?_) #[false, false, false, true, true, true, false, false] rfl rfl (any_of HT_.out (by kernel_rfl)) (fun _ _ _ h => h) (Or.inl ⟨by rfl, ?_⟩) ?_ ?_
                                                rotate_left
                                                · intro w'
                                                  go_simp
                                                  with_reducible rfl
                                                rotate_left
                                                · simp only [Act.put, List.setIfInBounds_toArray, List.set_cons_zero, List.set_cons_succ, i64_w, i32_w]
                                                  rfl
                                                refine pure_ (i := 6) (N := some 117) (v := ?_) (a' := ?_) #[false, false, false, true, true, true, true, false] rfl rfl (any_of HT_.out (by kernel_rfl)) (fun _ _ _ h => h) (Or.inl ⟨by rfl, ?_⟩) ?_ ?_
                                                rotate_left
                                                · intro w'
                                                  go_simp
                                                  with_reducible rfl
                                                rotate_left
                                                · simp only [Act.put, List.setIfInBounds_toArray, List.set_cons_zero, List.set_cons_succ, i64_w, i32_w]
                                                  rfl
                                                refine take_ (i := 0) (N := some 111) (v := ?_) (a' := ?_) #[true, false, false, true, true, true, true, false] rfl rfl (take_ofW HT_.out HW_.out (by kernel_rfl)) (fun _ _ _ h => h) (Or.inl ⟨by rfl, ?_⟩) hHeld ?_ ?_
                                                rotate_left
                                                · rintro w' ⟨s0, s1, s2, s3⟩
                                                  go_simp
                                                  with_reducible rfl
                                                rotate_left
                                                · simp only [Act.put, List.setIfInBounds_toArray, List.set_cons_zero, List.set_cons_succ, i64_w, i32_w]
                                                  rfl
                                                refine one_ (i := 1) (N := some 112) #[true, true, false, true, true, true, true, false] rfl rfl (one_of HT_.out (by kernel_rfl)) (by decide) (fun K hK => ?_)
                                                refine goes_ Try.func27 (by kernel_rfl) rfl #[.agg #[.int .i64 (wrap64 (Int.tdiv (wrap64 (bt a0 x5_1)) 2)), .int .i64 (Int.tmod (wrap64 (bt a0 x5_1)) 2), .int .i64 0, .string (a0.extract ((ji51) : Int).toNat ((wrap64 ((ji51) + (wrap64 (x7_6 + (wrap64 ((wrap64 (bt a0 x9_6)) * x8_6)))))) : Int).toNat)]] (by rfl) rfl rfl (by (try simp only [List.map_toArray, List.map_cons, List.map_nil]); first | done | (simp only [hji51]; rfl) | rfl | (simp only [List.length_drop, List.length_take]; rfl)) ?_
                                                with_reducible refine (aquiferref04_bytes.calls kj25 (wrap64 (Int.tdiv (wrap64 (bt a0 x5_1)) 2)) (Int.tmod (wrap64 (bt a0 x5_1)) 2) 0 (a0.extract ((ji51) : Int).toNat ((wrap64 ((ji51) + (wrap64 (x7_6 + (wrap64 ((wrap64 (bt a0 x9_6)) * x8_6)))))) : Int).toNat) t200 _ A55.out).mono ?_
                                                rintro e w64 ⟨v201, rfl, ho0, hb⟩
                                                refine ⟨_, rfl, ?_⟩
                                                have n0_ := Aside0.mk (Kd.R_below (by (with_reducible repeat (first | apply Kd.R_alloc | apply Kd.R_drewN | apply Kd.R_drew)); exact HO_4.out) hb)
                                                have n1_ := Aside0.mk (Kd.R_lower ho0 (below_size (by repeat (first | (with_reducible first | exact HB.out | apply below_alloc | apply pw_below_drewN | apply below_drew1 | refine below_set ?_ GE193.out) | exact HB.out))))
                                                have n2_ := Aside0.mk (blk_below (g := gb193) (o := .cells #[.int .i64 (wrap64 (Int.tdiv (wrap64 (bt a0 x5_1)) 2)), .int .i64 (Int.tmod (wrap64 (bt a0 x5_1)) 2), .int .i64 0, .string (a0.extract ((ji51) : Int).toNat ((wrap64 ((ji51) + (wrap64 (x7_6 + (wrap64 ((wrap64 (bt a0 x9_6)) * x8_6)))))) : Int).toNat)] 39 (0, 0)) (by (with_reducible repeat (first | refine blk_drewN ?_ _ | refine blk_drew ?_ | refine blk_alloc ?_ _)); exact BK193.out) hb)
                                                have n3_ := Aside0.mk (below_step (by repeat (first | (with_reducible first | exact HB.out | apply below_alloc | apply pw_below_drewN | apply below_drew1 | refine below_set ?_ GE193.out) | exact HB.out)) hb)
                                                clear HO_4
                                                clear BK193
                                                clear HB
                                                have HO_4 := n0_
                                                have HO202 := n1_
                                                have BK193 := n2_
                                                have HB := n3_
                                                clear n0_ n1_ n2_ n3_
                                                (try clear hb)
                                                (try clear hb2)
                                                (try clear hk)
                                                (try clear hi)
                                                (try clear ho0)
                                                refine hK.out _ _ ⟨(blk_cell BK193.out 0).trans rfl, (blk_cell BK193.out 1).trans rfl, (blk_cell BK193.out 2).trans rfl, (blk_cell BK193.out 3).trans rfl⟩ (fun hHeld => ?_)
                                                clear hK K
                                                refine norm_ (a' := ?_) ?_ ?_
                                                rotate_left
                                                · show Act.put _ (some 112) _ = _
                                                  simp only [Act.put, List.setIfInBounds_toArray, List.set_cons_zero, List.set_cons_succ, i64_w, i32_w]
                                                  rfl
                                                refine one_ (i := 2) (N := some 113) #[true, true, true, true, true, true, true, false] rfl rfl (one_of HT_.out (by kernel_rfl)) (by decide) (fun K hK => ?_)
                                                have hcv65 := own_string (P := Try.prog) Try.underlying50 Try.underlying5 Try.underlying9 (Kd.own_of_R HO202.out)
                                                refine value_ (w1 := ?_) (v := ?_) (by rfl) rfl ?_ ?_
                                                rotate_left 2
                                                · go_simp
                                                  constructor
                                                  · rfl
                                                  · rfl
                                                clear hcv65
                                                refine hK.out _ _ ⟨(blk_cell BK193.out 0).trans rfl, (blk_cell BK193.out 1).trans rfl, (blk_cell BK193.out 2).trans rfl, (blk_cell BK193.out 3).trans rfl⟩ (fun hHeld => ?_)
                                                clear hK K
                                                refine norm_ (a' := ?_) ?_ ?_
                                                rotate_left
                                                · show Act.put _ (some 113) _ = _
                                                  simp only [Act.put, List.setIfInBounds_toArray, List.set_cons_zero, List.set_cons_succ, i64_w, i32_w]
                                                  rfl
                                                refine pure_ (i := 7) (N := some 118) (v := ?_) (a' := ?_) #[true, true, true, true, true, true, true, true] rfl rfl (any_of HT_.out (by kernel_rfl)) (fun _ _ _ h => h) (Or.inl ⟨by rfl, ?_⟩) ?_ ?_
                                                rotate_left
                                                · intro w'
                                                  go_simp
                                                  with_reducible rfl
                                                rotate_left
                                                · simp only [Act.put, List.setIfInBounds_toArray, List.set_cons_zero, List.set_cons_succ, i64_w, i32_w]
                                                  rfl
                                                refine done_ (done_of HT_.out (by kernel_rfl)) ?_
                                                have hcz66_0 : w64.cell? ⟨gb193, 0, none⟩ = some (.int .i64 (wrap64 (Int.tdiv (wrap64 (bt a0 x5_1)) 2))) := (blk_cell BK193.out 0).trans rfl
                                                have hcz66_1 : w64.cell? ⟨gb193, 1, none⟩ = some (.int .i64 (Int.tmod (wrap64 (bt a0 x5_1)) 2)) := (blk_cell BK193.out 1).trans rfl
                                                have hcz66_2 : w64.cell? ⟨gb193, 2, none⟩ = some (.int .i64 0) := (blk_cell BK193.out 2).trans rfl
                                                have hcz66_3 : w64.cell? ⟨gb193, 3, none⟩ = some (.string (a0.extract ((ji51) : Int).toNat ((wrap64 ((ji51) + (wrap64 (x7_6 + (wrap64 ((wrap64 (bt a0 x9_6)) * x8_6)))))) : Int).toNat)) := (blk_cell BK193.out 3).trans rfl
                                                have hfz66_0 := blk_frozen BK193.out 0
                                                have hfz66_1 := blk_frozen BK193.out 1
                                                have hfz66_2 := blk_frozen BK193.out 2
                                                have hfz66_3 := blk_frozen BK193.out 3
                                                try go_wp2_with (first | ((with_reducible refine gate_builtin (b := .append) (xs := #[.tmp 119, .tmp 121]) rfl ?_); (try (refine gate_guard (by rfl) ?_; dsimp only)); at_builtin; refine Kd.R_append k39 (w0 := w) w.heap.size rfl (.tmp 119) (.tmp 121) 22 39 (.agg #[(.int .i64 0), (.int .i64 0), (.int .i64 0), (.string ⟨#[]⟩)]) 40 rfl Try.underlying22 info39 rfl (by decide) (by omega) u4 x4_1 (⟨(wrap64 (Int.tdiv (wrap64 (bt a0 x5_1)) 2)), (Int.tmod (wrap64 (bt a0 x5_1)) 2), 0, a0.extract ((ji51) : Int).toNat ((wrap64 ((ji51) + (wrap64 (x7_6 + (wrap64 ((wrap64 (bt a0 x9_6)) * x8_6)))))) : Int).toNat⟩ : S39) [.int .i64 (wrap64 (Int.tdiv (wrap64 (bt a0 x5_1)) 2)), .int .i64 (Int.tmod (wrap64 (bt a0 x5_1)) 2), .int .i64 0, .string (a0.extract ((ji51) : Int).toNat ((wrap64 ((ji51) + (wrap64 (x7_6 + (wrap64 ((wrap64 (bt a0 x9_6)) * x8_6)))))) : Int).toNat)] (fun k_ => k_ ≠ gb193) (fun _ => False) rfl rfl ?aP (fun _ hk => hk.elim) ?aF ?aO ?aB ?aS ?aL ?_; (case aP => exact k39_mkM _ _ _ (⟨(wrap64 (Int.tdiv (wrap64 (bt a0 x5_1)) 2)), (Int.tmod (wrap64 (bt a0 x5_1)) 2), 0, a0.extract ((ji51) : Int).toNat ((wrap64 ((ji51) + (wrap64 (x7_6 + (wrap64 ((wrap64 (bt a0 x9_6)) * x8_6)))))) : Int).toNat⟩ : S39)); (case aB => exact (by repeat (first | (with_reducible first | exact HB.out | apply below_alloc | apply pw_below_drewN | apply below_drew1 | refine below_set ?_ GE193.out) | exact HB.out))); (case aF => exact (fun k_ hk => Kd.freshB (g := gb193) (o := .cells #[.int .i64 (wrap64 (Int.tdiv (wrap64 (bt a0 x5_1)) 2)), .int .i64 (Int.tmod (wrap64 (bt a0 x5_1)) 2), .int .i64 0, .string (a0.extract ((ji51) : Int).toNat ((wrap64 ((ji51) + (wrap64 (x7_6 + (wrap64 ((wrap64 (bt a0 x9_6)) * x8_6)))))) : Int).toNat)] 39 (0, 0)) (by (with_reducible repeat (first | refine blk_drewN ?_ _ | refine blk_drew ?_ | refine blk_alloc ?_ _)); exact BK193.out) k_ hk)); (case aO => exact (by (with_reducible repeat (first | apply Kd.R_alloc | apply Kd.R_drewN | apply Kd.R_drew)); exact HO_4.out)); (case aS => exact (below_size (by repeat (first | (with_reducible first | exact HB.out | apply below_alloc | apply pw_below_drewN | apply below_drew1 | refine below_set ?_ GE193.out) | exact HB.out)))); (case aL => have := LMc60.out; omega); intro v204 w67 ho hb hg hat; rw [← Ny203.out] at ho; have n0_ := Aside0.mk (blk_grown (g := gb193) (o := .cells #[.int .i64 (wrap64 (Int.tdiv (wrap64 (bt a0 x5_1)) 2)), .int .i64 (Int.tmod (wrap64 (bt a0 x5_1)) 2), .int .i64 0, .string (a0.extract ((ji51) : Int).toNat ((wrap64 ((ji51) + (wrap64 (x7_6 + (wrap64 ((wrap64 (bt a0 x9_6)) * x8_6)))))) : Int).toNat)] 39 (0, 0)) (by (with_reducible repeat (first | refine blk_drewN ?_ _ | refine blk_drew ?_ | refine blk_alloc ?_ _)); exact BK193.out) hg (Kd.R_away HO_4.out (fun _ hk => hk))); have n1_ := Aside0.mk (Kd.R_over' (by (with_reducible repeat (first | apply Kd.R_alloc | apply Kd.R_drewN | apply Kd.R_drew)); exact HO202.out) (Kd.R_typed (by (with_reducible repeat (first | apply Kd.R_alloc | apply Kd.R_drewN | apply Kd.R_drew)); exact HO_4.out)) (by decide) hg); have n2_ := Aside0.mk (hb); have n3_ := Aside0.mk (ho); clear BK193; clear HO202; clear HB; clear HO_4; have BK193 := n0_; have HO202 := n1_; have HB := n2_; have HO205 := n3_; clear n0_ n1_ n2_ n3_; clear ho hb hg hat))
                                                go_roundg kj25
                                                case measure => have := HK1.out; have := HJ6.out; have := HJ19.out; have := HJ25.out; omega
                                                case rel => exact ⟨(y203), (wrap64 ((ji51) + (wrap64 (x7_6 + (wrap64 ((wrap64 (bt a0 x9_6)) * x8_6)))))), (by first | rfl | (simp; done) | (simp only [← hji51] <;> (first | rfl | simp)) | (simp [*]; done)), H', ⟨by have := HK1.out; have := HJ6.out; have := HJ19.out; have := HJ25.out; omega⟩, ⟨by (with_reducible repeat (first | apply Kd.R_alloc | apply Kd.R_drewN | apply Kd.R_drew)); exact Kd.R_mono HO205.out (fun _ hk => trivial)⟩, ⟨by repeat (first | (with_reducible first | exact HB.out | apply below_alloc | apply pw_below_drewN | apply below_drew1 | refine below_set ?_ GE193.out) | exact HB.out)⟩⟩
                                              · rw [if_neg c60] at H
                                                exact absurd H (by simp)
                                            · rw [if_neg c59] at H
                                              have c59b0 : ((strOfNums t200).toList == (a0.extract (x5_1 : Int).toNat ((wrap64 ((ji51) + (wrap64 (x7_6 + (wrap64 ((wrap64 (bt a0 x9_6)) * x8_6)))))) : Int).toNat).toList) = false := beq_eq_false_iff_ne.mpr c59
                                              have c59b1 : ((strOfNums t200).toList != (a0.extract (x5_1 : Int).toNat ((wrap64 ((ji51) + (wrap64 (x7_6 + (wrap64 ((wrap64 (bt a0 x9_6)) * x8_6)))))) : Int).toNat).toList) = true := bne_iff_ne.mpr c59
                                              simp only [Option.some.injEq, Prod.mk.injEq] at H
                                              obtain ⟨rfl, rfl⟩ := H
                                              have hcz68_0 : wc.cell? ⟨gb193, 0, none⟩ = some (.int .i64 (wrap64 (Int.tdiv (wrap64 (bt a0 x5_1)) 2))) := (blk_cell BK193.out 0).trans rfl
                                              have hcz68_1 : wc.cell? ⟨gb193, 1, none⟩ = some (.int .i64 (Int.tmod (wrap64 (bt a0 x5_1)) 2)) := (blk_cell BK193.out 1).trans rfl
                                              have hcz68_2 : wc.cell? ⟨gb193, 2, none⟩ = some (.int .i64 0) := (blk_cell BK193.out 2).trans rfl
                                              have hcz68_3 : wc.cell? ⟨gb193, 3, none⟩ = some (.string (⟨#[]⟩ : ByteArray)) := (blk_cell BK193.out 3).trans rfl
                                              have hfz68_0 := blk_frozen BK193.out 0
                                              have hfz68_1 := blk_frozen BK193.out 1
                                              have hfz68_2 := blk_frozen BK193.out 2
                                              have hfz68_3 := blk_frozen BK193.out 3
                                              try go_wp2
                                              have n0_ : Aside0 (Kd.R k39 39 (wc.setCell ⟨gb193, 3, none⟩ (.string (a0.extract ((ji51) : Int).toNat ((wrap64 ((ji51) + (wrap64 (x7_6 + (wrap64 ((wrap64 (bt a0 x9_6)) * x8_6)))))) : Int).toNat))) w.heap.size (fun k_ => k_ ≠ gb193) u4 x4_1) := ⟨by (with_reducible repeat (first | apply Kd.R_alloc | apply Kd.R_drewN | apply Kd.R_drew)); exact Kd.R_mono (Kd.R_far (p := ⟨gb193, 3, none⟩) (Kd.R_mono HO_4.out (fun k_ hk => (⟨hk, hk⟩ : _ ∧ k_ ≠ gb193))) (fun _ hk => hk.2) (.string (a0.extract ((ji51) : Int).toNat ((wrap64 ((ji51) + (wrap64 (x7_6 + (wrap64 ((wrap64 (bt a0 x9_6)) * x8_6)))))) : Int).toNat))) (fun _ hk => hk.1)⟩
                                              have n1_ : Aside0 ((wc.setCell ⟨gb193, 3, none⟩ (.string (a0.extract ((ji51) : Int).toNat ((wrap64 ((ji51) + (wrap64 (x7_6 + (wrap64 ((wrap64 (bt a0 x9_6)) * x8_6)))))) : Int).toNat))).heap[gb193]? = some (.cells #[.int .i64 (wrap64 (Int.tdiv (wrap64 (bt a0 x5_1)) 2)), .int .i64 (Int.tmod (wrap64 (bt a0 x5_1)) 2), .int .i64 0, .string (a0.extract ((ji51) : Int).toNat ((wrap64 ((ji51) + (wrap64 (x7_6 + (wrap64 ((wrap64 (bt a0 x9_6)) * x8_6)))))) : Int).toNat)] 39 (0, 0))) := ⟨by (with_reducible repeat (first | refine blk_drewN ?_ _ | refine blk_drew ?_ | refine blk_alloc ?_ _)); refine blk_put (cs := #[.int .i64 (wrap64 (Int.tdiv (wrap64 (bt a0 x5_1)) 2)), .int .i64 (Int.tmod (wrap64 (bt a0 x5_1)) 2), .int .i64 0, .string (⟨#[]⟩ : ByteArray)]) ?_ 3 _ rfl; (with_reducible repeat (first | refine blk_drewN ?_ _ | refine blk_drew ?_ | refine blk_alloc ?_ _)); exact BK193.out⟩
                                              have n2_ : Aside0 (Below w.heap.size w (wc.setCell ⟨gb193, 3, none⟩ (.string (a0.extract ((ji51) : Int).toNat ((wrap64 ((ji51) + (wrap64 (x7_6 + (wrap64 ((wrap64 (bt a0 x9_6)) * x8_6)))))) : Int).toNat)))) := ⟨by repeat (first | (with_reducible first | exact HB.out | apply below_alloc | apply pw_below_drewN | apply below_drew1 | refine below_set ?_ GE193.out) | exact HB.out)⟩
                                              (try clear HO_4)
                                              (try clear BK193)
                                              (try clear HB)
                                              generalize (wc.setCell ⟨gb193, 3, none⟩ (.string (a0.extract ((ji51) : Int).toNat ((wrap64 ((ji51) + (wrap64 (x7_6 + (wrap64 ((wrap64 (bt a0 x9_6)) * x8_6)))))) : Int).toNat))) = w69 at n0_ n1_ n2_ ⊢
                                              have HO_4 := n0_
                                              have BK193 := n1_
                                              have HB := n2_
                                              clear n0_ n1_ n2_
                                              have n0_ := Aside0.mk (Kd.R_drew HO_4.out)
                                              have n1_ := Aside0.mk (blk_drew BK193.out)
                                              have n2_ := Aside0.mk (below_drew1 HB.out)
                                              clear HO_4
                                              clear BK193
                                              clear HB
                                              have HO_4 := n0_
                                              have BK193 := n1_
                                              have HB := n2_
                                              clear n0_ n1_ n2_
                                              refine start_ (n := 8) (S := fun w' => w'.cell? ⟨gb193, 0, none⟩ = some (.int .i64 (wrap64 (Int.tdiv (wrap64 (bt a0 x5_1)) 2))) ∧ w'.cell? ⟨gb193, 1, none⟩ = some (.int .i64 (Int.tmod (wrap64 (bt a0 x5_1)) 2)) ∧ w'.cell? ⟨gb193, 2, none⟩ = some (.int .i64 0) ∧ w'.cell? ⟨gb193, 3, none⟩ = some (.string (a0.extract ((ji51) : Int).toNat ((wrap64 ((ji51) + (wrap64 (x7_6 + (wrap64 ((wrap64 (bt a0 x9_6)) * x8_6)))))) : Int).toNat))) (ds := []) #[false, false, false, false, false, false, false, false] (by kernel_rfl) rfl rfl ⟨(blk_cell BK193.out 0).trans rfl, (blk_cell BK193.out 1).trans rfl, (blk_cell BK193.out 2).trans rfl, (blk_cell BK193.out 3).trans rfl⟩ (fun hHeld => ?_); refine with_tabW aquiferref04_Decode.tab24 aquiferref04_Decode.bits24 (fun HT_ HW_ => ?_)
                                              generalize w69.drew = w70 at HO_4 BK193 HB hHeld ⊢
                                              refine pure_ (i := 3) (N := some 114) (v := ?_) (a' := ?_) #[false, false, false, true, false, false, false, false] rfl rfl (any_of HT_.out (by kernel_rfl)) (fun _ _ _ h => h) (Or.inl ⟨by rfl, ?_⟩) ?_ ?_
                                              rotate_left
                                              · intro w'
                                                go_simp
                                                with_reducible rfl
                                              rotate_left
                                              · simp only [Act.put, List.setIfInBounds_toArray, List.set_cons_zero, List.set_cons_succ, i64_w, i32_w]
                                                rfl
                                              refine pure_ (i := 4) (N := some 115) (v := ?_) (a' := ?_) #[false, false, false, true, true, false, false, false] rfl rfl (any_of HT_.out (by kernel_rfl)) (fun _ _ _ h => h) (Or.inl ⟨by rfl, ?_⟩) ?_ ?_
                                              rotate_left
                                              · intro w'
                                                go_simp
                                                with_reducible rfl
                                              rotate_left
                                              · simp only [Act.put, List.setIfInBounds_toArray, List.set_cons_zero, List.set_cons_succ, i64_w, i32_w]
                                                rfl
                                              refine pure_ (i := 5) (N := some 116) (v := ?_) (a' := ?_) #[false, false, false, true, true, true, false, false] rfl rfl (any_of HT_.out (by kernel_rfl)) (fun _ _ _ h => h) (Or.inl ⟨by rfl, ?_⟩) ?_ ?_
                                              rotate_left
                                              · intro w'
                                                go_simp
                                                with_reducible rfl
                                              rotate_left
                                              · simp only [Act.put, List.setIfInBounds_toArray, List.set_cons_zero, List.set_cons_succ, i64_w, i32_w]
                                                rfl
                                              refine pure_ (i := 6) (N := some 117) (v := ?_) (a' := ?_) #[false, false, false, true, true, true, true, false] rfl rfl (any_of HT_.out (by kernel_rfl)) (fun _ _ _ h => h) (Or.inl ⟨by rfl, ?_⟩) ?_ ?_
                                              rotate_left
                                              · intro w'
                                                go_simp
                                                with_reducible rfl
                                              rotate_left
                                              · simp only [Act.put, List.setIfInBounds_toArray, List.set_cons_zero, List.set_cons_succ, i64_w, i32_w]
                                                rfl
                                              refine take_ (i := 0) (N := some 111) (v := ?_) (a' := ?_) #[true, false, false, true, true, true, true, false] rfl rfl (take_ofW HT_.out HW_.out (by kernel_rfl)) (fun _ _ _ h => h) (Or.inl ⟨by rfl, ?_⟩) hHeld ?_ ?_
                                              rotate_left
                                              · rintro w' ⟨s0, s1, s2, s3⟩
                                                go_simp
                                                with_reducible rfl
                                              rotate_left
                                              · simp only [Act.put, List.setIfInBounds_toArray, List.set_cons_zero, List.set_cons_succ, i64_w, i32_w]
                                                rfl
                                              refine one_ (i := 1) (N := some 112) #[true, true, false, true, true, true, true, false] rfl rfl (one_of HT_.out (by kernel_rfl)) (by decide) (fun K hK => ?_)
                                              refine goes_ Try.func27 (by kernel_rfl) rfl #[.agg #[.int .i64 (wrap64 (Int.tdiv (wrap64 (bt a0 x5_1)) 2)), .int .i64 (Int.tmod (wrap64 (bt a0 x5_1)) 2), .int .i64 0, .string (a0.extract ((ji51) : Int).toNat ((wrap64 ((ji51) + (wrap64 (x7_6 + (wrap64 ((wrap64 (bt a0 x9_6)) * x8_6)))))) : Int).toNat)]] (by rfl) rfl rfl (by (try simp only [List.map_toArray, List.map_cons, List.map_nil]); first | done | (simp only [hji51]; rfl) | rfl | (simp only [List.length_drop, List.length_take]; rfl)) ?_
                                              with_reducible refine (aquiferref04_bytes.calls kj25 (wrap64 (Int.tdiv (wrap64 (bt a0 x5_1)) 2)) (Int.tmod (wrap64 (bt a0 x5_1)) 2) 0 (a0.extract ((ji51) : Int).toNat ((wrap64 ((ji51) + (wrap64 (x7_6 + (wrap64 ((wrap64 (bt a0 x9_6)) * x8_6)))))) : Int).toNat) t200 _ A55.out).mono ?_
                                              rintro e w71 ⟨v201, rfl, ho0, hb⟩
                                              refine ⟨_, rfl, ?_⟩
                                              have n0_ := Aside0.mk (Kd.R_below (by (with_reducible repeat (first | apply Kd.R_alloc | apply Kd.R_drewN | apply Kd.R_drew)); exact HO_4.out) hb)
                                              have n1_ := Aside0.mk (Kd.R_lower ho0 (below_size (by repeat (first | (with_reducible first | exact HB.out | apply below_alloc | apply pw_below_drewN | apply below_drew1 | refine below_set ?_ GE193.out) | exact HB.out))))
                                              have n2_ := Aside0.mk (blk_below (g := gb193) (o := .cells #[.int .i64 (wrap64 (Int.tdiv (wrap64 (bt a0 x5_1)) 2)), .int .i64 (Int.tmod (wrap64 (bt a0 x5_1)) 2), .int .i64 0, .string (a0.extract ((ji51) : Int).toNat ((wrap64 ((ji51) + (wrap64 (x7_6 + (wrap64 ((wrap64 (bt a0 x9_6)) * x8_6)))))) : Int).toNat)] 39 (0, 0)) (by (with_reducible repeat (first | refine blk_drewN ?_ _ | refine blk_drew ?_ | refine blk_alloc ?_ _)); exact BK193.out) hb)
                                              have n3_ := Aside0.mk (below_step (by repeat (first | (with_reducible first | exact HB.out | apply below_alloc | apply pw_below_drewN | apply below_drew1 | refine below_set ?_ GE193.out) | exact HB.out)) hb)
                                              clear HO_4
                                              clear BK193
                                              clear HB
                                              have HO_4 := n0_
                                              have HO202 := n1_
                                              have BK193 := n2_
                                              have HB := n3_
                                              clear n0_ n1_ n2_ n3_
                                              (try clear hb)
                                              (try clear hb2)
                                              (try clear hk)
                                              (try clear hi)
                                              (try clear ho0)
                                              refine hK.out _ _ ⟨(blk_cell BK193.out 0).trans rfl, (blk_cell BK193.out 1).trans rfl, (blk_cell BK193.out 2).trans rfl, (blk_cell BK193.out 3).trans rfl⟩ (fun hHeld => ?_)
                                              clear hK K
                                              refine norm_ (a' := ?_) ?_ ?_
                                              rotate_left
                                              · show Act.put _ (some 112) _ = _
                                                simp only [Act.put, List.setIfInBounds_toArray, List.set_cons_zero, List.set_cons_succ, i64_w, i32_w]
                                                rfl
                                              refine one_ (i := 2) (N := some 113) #[true, true, true, true, true, true, true, false] rfl rfl (one_of HT_.out (by kernel_rfl)) (by decide) (fun K hK => ?_)
                                              have hcv72 := own_string (P := Try.prog) Try.underlying50 Try.underlying5 Try.underlying9 (Kd.own_of_R HO202.out)
                                              refine value_ (w1 := ?_) (v := ?_) (by rfl) rfl ?_ ?_
                                              rotate_left 2
                                              · go_simp
                                                constructor
                                                · rfl
                                                · rfl
                                              clear hcv72
                                              refine hK.out _ _ ⟨(blk_cell BK193.out 0).trans rfl, (blk_cell BK193.out 1).trans rfl, (blk_cell BK193.out 2).trans rfl, (blk_cell BK193.out 3).trans rfl⟩ (fun hHeld => ?_)
                                              clear hK K
                                              refine norm_ (a' := ?_) ?_ ?_
                                              rotate_left
                                              · show Act.put _ (some 113) _ = _
                                                simp only [Act.put, List.setIfInBounds_toArray, List.set_cons_zero, List.set_cons_succ, i64_w, i32_w]
                                                rfl
                                              refine pure_ (i := 7) (N := some 118) (v := ?_) (a' := ?_) #[true, true, true, true, true, true, true, true] rfl rfl (any_of HT_.out (by kernel_rfl)) (fun _ _ _ h => h) (Or.inl ⟨by rfl, ?_⟩) ?_ ?_
                                              rotate_left
                                              · intro w'
                                                go_simp
                                                with_reducible rfl
                                              rotate_left
                                              · simp only [Act.put, List.setIfInBounds_toArray, List.set_cons_zero, List.set_cons_succ, i64_w, i32_w]
                                                rfl
                                              refine done_ (done_of HT_.out (by kernel_rfl)) ?_
                                              try go_wp2
                                              go_ret2
                                              exact ⟨_, by first | rfl | (simp [errW_none, errW_some] <;> rfl) | (simp only [← hji51]; first | rfl | (simp [errW_none, errW_some] <;> rfl)) | (simp [*, errW_none, errW_some] <;> rfl), by first | exact Kd.R_nil _ _ _ _ _ | exact Kd.N_nil _ _ _ _ _ | exact Kd.V_nil _ _ _ _ _ | exact Kd.Q_nil _ _ _ _ _ | exact Kd.S_nil _ _ _ _ _, by repeat (first | (with_reducible first | exact HB.out | apply below_alloc | apply pw_below_drewN | apply below_drew1 | refine below_set ?_ GE193.out) | exact HB.out)⟩
                                          · rw [if_neg c57] at H
                                            exact absurd H (by simp)
                                        · rw [if_neg c56] at H
                                          exact absurd H (by simp)
                                      · rw [if_neg c54] at H
                                        exact absurd H (by simp)
                                    · rw [if_neg c53] at H
                                      exact absurd H (by simp)
                                  · rw [if_neg c52] at H
                                    exact absurd H (by simp)
                        · rw [if_neg c24] at H
                          exact absurd H (by simp)
                      · rw [if_neg c23] at H
                        exact absurd H (by simp)
          · rw [if_neg c4] at H
            exact absurd H (by simp)
        · rw [if_neg c3] at H
          have c3b0 : decide (x5_1 < (a0.size : Int)) = false := decide_eq_false c3
          clear c3
          replace H := Option.bind_eq_some_iff.mp H
          obtain ⟨⟨t191, t192⟩, A730, H⟩ := H
          replace H : (if t192 = 0 then (if t191.toList = a0.toList then (some (x4_1, 0)) else (some (([] : List (S39)), 5))) else (some (([] : List (S39)), 5))) = some (r1, r2) := H
          have A73 := Aside0.mk A730
          clear A730
          by_cases c74 : t192 = 0
          · rw [if_pos c74] at H
            have c74b0 : (t192 == 0) = true := beq_iff_eq.mpr c74
            have c74b1 : (t192 != 0) = false := bne_eq_false_iff_eq.mpr c74
            clear c74
            by_cases c75 : t191.toList = a0.toList
            · rw [if_pos c75] at H
              have c75b0 : (t191.toList == a0.toList) = true := beq_iff_eq.mpr c75
              have c75b1 : (t191.toList != a0.toList) = false := bne_eq_false_iff_eq.mpr c75
              clear c75
              simp only [Option.some.injEq, Prod.mk.injEq] at H
              obtain ⟨rfl, rfl⟩ := H
              obtain ⟨Ao76, co76, eo76⟩ := Kd.R_slice HO_4.out
              subst eo76
              go_wp2_with (first | ((with_reducible refine gate_callee (f := 11) rfl ?_); refine goesL_ (some 126) rfl rfl Try.func11 (by kernel_rfl) rfl #[.slice Ao76 x4_1.length co76] rfl (by (try simp only [List.map_toArray, List.map_cons, List.map_nil]); first | done | rfl | (simp only [List.length_drop, List.length_take]; rfl)) ?_; (with_reducible refine (aquiferref04_Encode.calls k1 _ _ x4_1 t191 t192 _ ?side1 ?side2 A73.out).mono ?_); (case side1 => repeat (first | exact (Kd.R_reads' HO_4.out).2.2 | (with_reducible refine Kd.C_alloc ?_ _) | (with_reducible refine Kd.C_drewN ?_ _) | (with_reducible refine Kd.C_drew ?_))); (case side2 => exact (Kd.R_reads' HO_4.out).2.1); rintro e w77 ⟨rfl, hb⟩; refine ⟨_, rfl, ?_⟩; have n0_ := Aside0.mk (Kd.R_below (by (with_reducible repeat (first | apply Kd.R_alloc | apply Kd.R_drewN | apply Kd.R_drew)); exact HO_4.out) hb); have n1_ := Aside0.mk (below_step (by repeat (first | (with_reducible first | exact HB.out | apply below_alloc | apply pw_below_drewN | apply below_drew1) | exact HB.out)) hb); clear HO_4; clear HB; have HO_4 := n0_; have HB := n1_; clear n0_ n1_; (try clear hb); (try clear hb2); (try clear hk); (try clear hi)))
              go_ret2
              exact ⟨_, by first | rfl | (simp [errW_none, errW_some] <;> rfl) | (simp [*, errW_none, errW_some] <;> rfl), by (with_reducible repeat (first | apply Kd.R_alloc | apply Kd.R_drewN | apply Kd.R_drew)); exact HO_4.out, by repeat (first | (with_reducible first | exact HB.out | apply below_alloc | apply pw_below_drewN | apply below_drew1) | exact HB.out)⟩
            · rw [if_neg c75] at H
              have c75b0 : (t191.toList == a0.toList) = false := beq_eq_false_iff_ne.mpr c75
              have c75b1 : (t191.toList != a0.toList) = true := bne_iff_ne.mpr c75
              simp only [Option.some.injEq, Prod.mk.injEq] at H
              obtain ⟨rfl, rfl⟩ := H
              obtain ⟨Ao78, co78, eo78⟩ := Kd.R_slice HO_4.out
              subst eo78
              go_wp2_with (first | ((with_reducible refine gate_callee (f := 11) rfl ?_); refine goesL_ (some 126) rfl rfl Try.func11 (by kernel_rfl) rfl #[.slice Ao78 x4_1.length co78] rfl (by (try simp only [List.map_toArray, List.map_cons, List.map_nil]); first | done | rfl | (simp only [List.length_drop, List.length_take]; rfl)) ?_; (with_reducible refine (aquiferref04_Encode.calls k1 _ _ x4_1 t191 t192 _ ?side1 ?side2 A73.out).mono ?_); (case side1 => repeat (first | exact (Kd.R_reads' HO_4.out).2.2 | (with_reducible refine Kd.C_alloc ?_ _) | (with_reducible refine Kd.C_drewN ?_ _) | (with_reducible refine Kd.C_drew ?_))); (case side2 => exact (Kd.R_reads' HO_4.out).2.1); rintro e w79 ⟨rfl, hb⟩; refine ⟨_, rfl, ?_⟩; have n0_ := Aside0.mk (Kd.R_below (by (with_reducible repeat (first | apply Kd.R_alloc | apply Kd.R_drewN | apply Kd.R_drew)); exact HO_4.out) hb); have n1_ := Aside0.mk (below_step (by repeat (first | (with_reducible first | exact HB.out | apply below_alloc | apply pw_below_drewN | apply below_drew1) | exact HB.out)) hb); clear HO_4; clear HB; have HO_4 := n0_; have HB := n1_; clear n0_ n1_; (try clear hb); (try clear hb2); (try clear hk); (try clear hi)))
              go_ret2
              exact ⟨_, by first | rfl | (simp [errW_none, errW_some] <;> rfl) | (simp [*, errW_none, errW_some] <;> rfl), by first | exact Kd.R_nil _ _ _ _ _ | exact Kd.N_nil _ _ _ _ _ | exact Kd.V_nil _ _ _ _ _ | exact Kd.Q_nil _ _ _ _ _ | exact Kd.S_nil _ _ _ _ _, by repeat (first | (with_reducible first | exact HB.out | apply below_alloc | apply pw_below_drewN | apply below_drew1) | exact HB.out)⟩
          · rw [if_neg c74] at H
            have c74b0 : (t192 == 0) = false := beq_eq_false_iff_ne.mpr c74
            have c74b1 : (t192 != 0) = true := bne_iff_ne.mpr c74
            simp only [Option.some.injEq, Prod.mk.injEq] at H
            obtain ⟨rfl, rfl⟩ := H
            obtain ⟨Ao80, co80, eo80⟩ := Kd.R_slice HO_4.out
            subst eo80
            go_wp2_with (first | ((with_reducible refine gate_callee (f := 11) rfl ?_); refine goesL_ (some 126) rfl rfl Try.func11 (by kernel_rfl) rfl #[.slice Ao80 x4_1.length co80] rfl (by (try simp only [List.map_toArray, List.map_cons, List.map_nil]); first | done | rfl | (simp only [List.length_drop, List.length_take]; rfl)) ?_; (with_reducible refine (aquiferref04_Encode.calls k1 _ _ x4_1 t191 t192 _ ?side1 ?side2 A73.out).mono ?_); (case side1 => repeat (first | exact (Kd.R_reads' HO_4.out).2.2 | (with_reducible refine Kd.C_alloc ?_ _) | (with_reducible refine Kd.C_drewN ?_ _) | (with_reducible refine Kd.C_drew ?_))); (case side2 => exact (Kd.R_reads' HO_4.out).2.1); rintro e w81 ⟨rfl, hb⟩; refine ⟨_, rfl, ?_⟩; have n0_ := Aside0.mk (Kd.R_below (by (with_reducible repeat (first | apply Kd.R_alloc | apply Kd.R_drewN | apply Kd.R_drew)); exact HO_4.out) hb); have n1_ := Aside0.mk (below_step (by repeat (first | (with_reducible first | exact HB.out | apply below_alloc | apply pw_below_drewN | apply below_drew1) | exact HB.out)) hb); clear HO_4; clear HB; have HO_4 := n0_; have HB := n1_; clear n0_ n1_; (try clear hb); (try clear hb2); (try clear hk); (try clear hi)))
            go_ret2
            exact ⟨_, by first | rfl | (simp [errW_none, errW_some] <;> rfl) | (simp [*, errW_none, errW_some] <;> rfl), by first | exact Kd.R_nil _ _ _ _ _ | exact Kd.N_nil _ _ _ _ _ | exact Kd.V_nil _ _ _ _ _ | exact Kd.Q_nil _ _ _ _ _ | exact Kd.S_nil _ _ _ _ _, by repeat (first | (with_reducible first | exact HB.out | apply below_alloc | apply pw_below_drewN | apply below_drew1) | exact HB.out)⟩

end Go.Proofs.Ytinibpncbhmchaa.Q
