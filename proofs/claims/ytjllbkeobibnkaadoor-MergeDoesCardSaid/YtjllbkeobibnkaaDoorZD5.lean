/-
What is proved: aquifer/aquiferlaw28.MergeDoes answers true for every input, and leaves its arguments as they were.
-/
import Derived.Test.YtjllbkeobibnkaaDoorZD1
import Derived.Test.YtjllbkeobibnkaaDoorZD4
import Derived.Test.YtjllbkeobibnkaaDoorZD2
import Derived.StillTailTactics
import Derived.BigQuiet
import Derived.Deep.RegionHeld3
import Derived.Test.YtjllbkeobibnkaaDoorZD3
import Derived.Test.YtjllbkeobibnkaaDoorRows
import Derived.Test.YtjllbkeobibnkaaDoorCards
import Derived.Test.YtjllbkeobibnkaaDoorTie
import Derived.WalkKit
import Derived.ProofKit
import Derived.OpenShut
import Derived.ShutString
import Derived.ChangeOld
import Derived.Below
import Derived.SizedLaws
import Derived.LaidLaws
import Derived.LaidMore
import Derived.Lay
import Derived.SevenTiedAt
import Derived.Stop.Joined
set_option linter.unusedVariables false
set_option linter.unusedSimpArgs false
namespace Go.Proofs.YtjllbkeobibnkaaDoor.Q
open Go.RowKit Go.Proofs.YtjllbkeobibnkaaDoorW.PrintWords Go.Proofs.YtjllbkeobibnkaaDoorW.PrintLast Go.Proofs.YtjllbkeobibnkaaDoorW.PrintMore Go.Proofs.YtjllbkeobibnkaaDoorK
attribute [local go_sem] max2_int min2_int max_two min_two max_three min_three max_four min_four   -- for this text's walks alone
attribute [local go_sem ↓] Go.Proofs.YtjllbkeobibnkaaDoorK.isSome_setCell
set_option linter.unusedVariables false
set_option linter.unusedSimpArgs false

/-! ### path_is: function 75 -/
def path_is.f (a0 : ByteArray) (a1 : Int) : Option (Bool) := (path_Kind.f a0).bind fun bt129 => (if bt129.2 = 0 then (if a1 = 0 then (some true) else (some (bt129.1 == a1))) else (some false))
set_option maxHeartbeats 8000000 in
set_option maxRecDepth 100000 in
theorem path_is.calls (a0 : ByteArray) (a1 : Int) (r : Bool) (w : World) (h : path_is.f a0 a1 = some r) :
    Calls Tryd.prog 75 #[.string a0, .int .i64 a1] w fun e w' => e = .returned (.bool r) ∧ Below w.heap.size w w' := by
  have HB := Aside0.mk (Below.refl w.heap.size w)
  have H : ((path_Kind.f a0).bind fun bt129 => (if bt129.2 = 0 then (if a1 = 0 then (some true) else (some (bt129.1 == a1))) else (some false))) = some r := h
  clear h
  replace H := Option.bind_eq_some_iff.mp H
  obtain ⟨⟨t129, t130⟩, A30, H⟩ := H
  replace H : (if t130 = 0 then (if a1 = 0 then (some true) else (some (t129 == a1))) else (some false)) = some r := H
  have A3 := Aside0.mk A30
  clear A30
  by_cases c4 : t130 = 0
  · rw [if_pos c4] at H
    have c4b0 : (t130 == 0) = true := beq_iff_eq.mpr c4
    have c4b1 : (t130 != 0) = false := bne_eq_false_iff_eq.mpr c4
    clear c4
    by_cases c5 : a1 = 0
    · rw [if_pos c5] at H
      have c5b0 : (a1 == 0) = true := beq_iff_eq.mpr c5
      have c5b1 : (a1 != 0) = false := bne_eq_false_iff_eq.mpr c5
      clear c5
      obtain rfl := Option.some.inj H
      go_enter Tryd.func75, Tryd.ntmps75
      go_wp2_with (first | ((with_reducible refine gate_callee (f := 47) rfl ?_); refine goesL_ (some 9) rfl rfl Tryd.func47 (by kernel_rfl) rfl #[.string a0] rfl (by (try simp only [List.map_toArray, List.map_cons, List.map_nil]); first | done | rfl | (simp only [List.length_drop, List.length_take]; rfl)) ?_; (with_reducible refine (path_Kind.calls a0 t129 t130 _ A3.out).mono ?_); rintro e w6 ⟨rfl, hb⟩; refine ⟨_, rfl, ?_⟩; have n0_ := Aside0.mk (below_step (belU HB.out) hb); clear HB; have HB := n0_; clear n0_; (try clear hb); (try clear hb2); (try clear hk); (try clear hi)))
      go_ret
      exact ⟨by first | rfl | (simp [errW_none, errW_some] <;> rfl) | (simp [*, errW_none, errW_some] <;> rfl), belU HB.out⟩
    · rw [if_neg c5] at H
      have c5b0 : (a1 == 0) = false := beq_eq_false_iff_ne.mpr c5
      have c5b1 : (a1 != 0) = true := bne_iff_ne.mpr c5
      obtain rfl := Option.some.inj H
      go_enter Tryd.func75, Tryd.ntmps75
      go_wp2_with (first | ((with_reducible refine gate_callee (f := 47) rfl ?_); refine goesL_ (some 9) rfl rfl Tryd.func47 (by kernel_rfl) rfl #[.string a0] rfl (by (try simp only [List.map_toArray, List.map_cons, List.map_nil]); first | done | rfl | (simp only [List.length_drop, List.length_take]; rfl)) ?_; (with_reducible refine (path_Kind.calls a0 t129 t130 _ A3.out).mono ?_); rintro e w7 ⟨rfl, hb⟩; refine ⟨_, rfl, ?_⟩; have n0_ := Aside0.mk (below_step (belU HB.out) hb); clear HB; have HB := n0_; clear n0_; (try clear hb); (try clear hb2); (try clear hk); (try clear hi)))
      go_ret
      exact ⟨by first | rfl | (simp [errW_none, errW_some] <;> rfl) | (simp [*, errW_none, errW_some] <;> rfl), belU HB.out⟩
  · rw [if_neg c4] at H
    have c4b0 : (t130 == 0) = false := beq_eq_false_iff_ne.mpr c4
    have c4b1 : (t130 != 0) = true := bne_iff_ne.mpr c4
    obtain rfl := Option.some.inj H
    go_enter Tryd.func75, Tryd.ntmps75
    go_wp2_with (first | ((with_reducible refine gate_callee (f := 47) rfl ?_); refine goesL_ (some 9) rfl rfl Tryd.func47 (by kernel_rfl) rfl #[.string a0] rfl (by (try simp only [List.map_toArray, List.map_cons, List.map_nil]); first | done | rfl | (simp only [List.length_drop, List.length_take]; rfl)) ?_; (with_reducible refine (path_Kind.calls a0 t129 t130 _ A3.out).mono ?_); rintro e w8 ⟨rfl, hb⟩; refine ⟨_, rfl, ?_⟩; have n0_ := Aside0.mk (below_step (belU HB.out) hb); clear HB; have HB := n0_; clear n0_; (try clear hb); (try clear hb2); (try clear hk); (try clear hi)))
    go_ret
    exact ⟨by first | rfl | (simp [errW_none, errW_some] <;> rfl) | (simp [*, errW_none, errW_some] <;> rfl), belU HB.out⟩

end Go.Proofs.YtjllbkeobibnkaaDoor.Q

namespace Go.Proofs.YtjllbkeobibnkaaDoor.Q
open Go.RowKit Go.Proofs.YtjllbkeobibnkaaDoorW.PrintWords Go.Proofs.YtjllbkeobibnkaaDoorW.PrintLast Go.Proofs.YtjllbkeobibnkaaDoorW.PrintMore
attribute [local go_sem] max2_int min2_int max_two min_two max_three min_three max_four min_four   -- for this text's walks alone
attribute [local go_sem ↓] Go.Proofs.YtjllbkeobibnkaaDoorK.isSome_setCell
set_option linter.unusedVariables false
set_option linter.unusedSimpArgs false

/-! ### bytealg_LastIndexByteString: function 90 -/
def bytealg_LastIndexByteString.l0 : Nat → ByteArray → Int → Int → Option (Int)
  | 0, _, _, _ => none
  | k + 1, x0, x1, x5 => if x5 ≥ 0 then (if 0 ≤ x5 then (if x5 < (x0.size : Int) then (if (bt x0 x5) = x1 then (some x5) else (bytealg_LastIndexByteString.l0 k x0 x1 (wrap64 (x5 - 1)))) else (none)) else (none)) else (some (-1))
def bytealg_LastIndexByteString.f (k : Nat) (a0 : ByteArray) (a1 : Int) : Option (Int) := bytealg_LastIndexByteString.l0 k a0 a1 (wrap64 ((a0.size : Int) - 1))
theorem bytealg_LastIndexByteString.mono_l : ∀ k, (∀ y0 y1 y2, LeO (bytealg_LastIndexByteString.l0 k y0 y1 y2) (bytealg_LastIndexByteString.l0 (k + 1) y0 y1 y2))
  | 0 => fun _ _ _ r h => by simp [bytealg_LastIndexByteString.l0] at h
  | k + 1 => by
    have ih0 := bytealg_LastIndexByteString.mono_l k
    · intro y0 y1 y2
      unfold bytealg_LastIndexByteString.l0
      repeat' first
      | (with_reducible exact ih0 _ _ _)
      | (with_reducible exact LeO.refl _)
      | (with_reducible exact LeO.none _)
      | (with_reducible refine LeO.ite ?_ ?_)
      | (with_reducible refine LeO.bind ?_ (fun _ => ?_))
      | exact ih0 _ _ _
      | exact LeO.none _
      | refine LeO.ite ?_ ?_
      | refine LeO.bind ?_ (fun _ => ?_)
theorem bytealg_LastIndexByteString.mono : ∀ a0 a1 k, LeO (bytealg_LastIndexByteString.f k a0 a1) (bytealg_LastIndexByteString.f (k + 1) a0 a1) := by
  intro a0 a1 k
  have ih0 := bytealg_LastIndexByteString.mono_l k
  unfold bytealg_LastIndexByteString.f
  repeat' first
      | (with_reducible exact ih0 _ _ _)
      | (with_reducible exact LeO.refl _)
      | (with_reducible exact LeO.none _)
      | (with_reducible refine LeO.ite ?_ ?_)
      | (with_reducible refine LeO.bind ?_ (fun _ => ?_))
      | exact ih0 _ _ _
      | exact LeO.none _
      | refine LeO.ite ?_ ?_
      | refine LeO.bind ?_ (fun _ => ?_)
set_option maxHeartbeats 8000000 in
set_option maxRecDepth 100000 in
theorem bytealg_LastIndexByteString.calls (k : Nat) (a0 : ByteArray) (a1 : Int) (r : Int) (w : World) (h : bytealg_LastIndexByteString.f k a0 a1 = some r) :
    Calls Tryd.prog 90 #[.string a0, .int .u8 a1] w fun e w' => e = .returned (.int .i64 r) ∧ Drawn0 w w' := by
  have H : (bytealg_LastIndexByteString.l0 k a0 a1 (wrap64 ((a0.size : Int) - 1))) = some r := h
  clear h
  have H' := Aside0.mk H
  clear H
  go_enter Tryd.func90, Tryd.ntmps90
  go_wp2
  go_loopg [5] k (fun kq v5 w' => ∃ (x5_1 : Int), v5 = .int .i64 x5_1 ∧ Aside0 (bytealg_LastIndexByteString.l0 kq a0 a1 x5_1 = some r) ∧ Aside0 (kq ≤ k) ∧ Drawn0 w w')
  case atStart => exact ⟨(wrap64 ((a0.size : Int) - 1)), (by first | rfl | (simp; done) | (simp [*]; done)), H', ⟨Nat.le_refl _⟩, by repeat (first | exact Drawn0.refl _ | apply Drawn0.step)⟩
  case round =>
    clear H'
    try clear p2
    obtain ⟨x5_1, rfl, HA, HK1, ⟨m1, rfl⟩⟩ := hrel
    cases gk with
    | zero => exact absurd HA.out (by simp [bytealg_LastIndexByteString.l0])
    | succ k1 =>
      have H := HA.out
      clear HA
      simp only [bytealg_LastIndexByteString.l0] at H
      by_cases c3 : x5_1 ≥ 0
      · rw [if_pos c3] at H
        have c3b0 : decide (0 ≤ x5_1) = true := decide_eq_true c3
        clear c3
        by_cases c4 : 0 ≤ x5_1
        · rw [if_pos c4] at H
          have c4b0 : decide (0 ≤ x5_1) = true := decide_eq_true c4
          clear c4
          by_cases c5 : x5_1 < (a0.size : Int)
          · rw [if_pos c5] at H
            have c5b0 : decide (x5_1 < (a0.size : Int)) = true := decide_eq_true c5
            clear c5
            by_cases c7 : (bt a0 x5_1) = a1
            · rw [if_pos c7] at H
              have c7b0 : ((bt a0 x5_1) == a1) = true := beq_iff_eq.mpr c7
              have c7b1 : ((bt a0 x5_1) != a1) = false := bne_eq_false_iff_eq.mpr c7
              clear c7
              obtain rfl := Option.some.inj H
              have p6 : 0 ≤ (x5_1 : Int) := of_decide_eq_true (by first | (with_reducible assumption) | assumption)
              have q6 : x5_1 < (a0.size : Int) := of_decide_eq_true (by first | (with_reducible assumption) | assumption)
              have hx6 := bt_at a0 x5_1
              replace p6 := eq_true p6
              replace q6 := eq_true q6
              go_wp2
              go_ret
              exact ⟨by first | rfl | (simp; done) | (simp [*]; done), by repeat (first | exact Drawn0.refl _ | apply Drawn0.step)⟩
            · rw [if_neg c7] at H
              have c7b0 : ((bt a0 x5_1) == a1) = false := beq_eq_false_iff_ne.mpr c7
              have c7b1 : ((bt a0 x5_1) != a1) = true := bne_iff_ne.mpr c7
              have H' := Aside0.mk H
              clear H
              have p6 : 0 ≤ (x5_1 : Int) := of_decide_eq_true (by first | (with_reducible assumption) | assumption)
              have q6 : x5_1 < (a0.size : Int) := of_decide_eq_true (by first | (with_reducible assumption) | assumption)
              have hx6 := bt_at a0 x5_1
              replace p6 := eq_true p6
              replace q6 := eq_true q6
              go_wp2
              go_roundg k1
              case measure => have := HK1.out; omega
              case rel => exact ⟨(wrap64 (x5_1 - 1)), (by first | rfl | (simp; done) | (simp [*]; done)), H', ⟨by have := HK1.out; omega⟩, by repeat (first | exact Drawn0.refl _ | apply Drawn0.step)⟩
          · rw [if_neg c5] at H
            exact absurd H (by simp)
        · rw [if_neg c4] at H
          exact absurd H (by simp)
      · rw [if_neg c3] at H
        have c3b0 : decide (0 ≤ x5_1) = false := decide_eq_false c3
        clear c3
        obtain rfl := Option.some.inj H
        go_wp2
        go_ret
        exact ⟨by first | rfl | (simp; done) | (simp [*]; done), by repeat (first | exact Drawn0.refl _ | apply Drawn0.step)⟩

end Go.Proofs.YtjllbkeobibnkaaDoor.Q

namespace Go.Proofs.YtjllbkeobibnkaaDoor.Q
open Go.RowKit Go.Proofs.YtjllbkeobibnkaaDoorW.PrintWords Go.Proofs.YtjllbkeobibnkaaDoorW.PrintLast Go.Proofs.YtjllbkeobibnkaaDoorW.PrintMore
attribute [local go_sem] max2_int min2_int max_two min_two max_three min_three max_four min_four   -- for this text's walks alone
attribute [local go_sem ↓] Go.Proofs.YtjllbkeobibnkaaDoorK.isSome_setCell
set_option linter.unusedVariables false
set_option linter.unusedSimpArgs false

/-! ### strings_LastIndexByte: function 76 -/
def strings_LastIndexByte.f (k : Nat) (a0 : ByteArray) (a1 : Int) : Option (Int) := (bytealg_LastIndexByteString.f k a0 a1).bind fun t131 => (some t131)
theorem strings_LastIndexByte.mono : ∀ a0 a1 k, LeO (strings_LastIndexByte.f k a0 a1) (strings_LastIndexByte.f (k + 1) a0 a1) := by
  intro a0 a1 k
  unfold strings_LastIndexByte.f
  repeat' first
      | (with_reducible exact bytealg_LastIndexByteString.mono _ _ _)
      | (with_reducible exact LeO.refl _)
      | (with_reducible exact LeO.none _)
      | (with_reducible refine LeO.ite ?_ ?_)
      | (with_reducible refine LeO.bind ?_ (fun _ => ?_))
      | exact bytealg_LastIndexByteString.mono _ _ _
      | exact LeO.none _
      | refine LeO.ite ?_ ?_
      | refine LeO.bind ?_ (fun _ => ?_)
set_option maxHeartbeats 8000000 in
set_option maxRecDepth 100000 in
theorem strings_LastIndexByte.calls (k : Nat) (a0 : ByteArray) (a1 : Int) (r : Int) (w : World) (h : strings_LastIndexByte.f k a0 a1 = some r) :
    Calls Tryd.prog 76 #[.string a0, .int .u8 a1] w fun e w' => e = .returned (.int .i64 r) ∧ Drawn0 w w' := by
  have H : ((bytealg_LastIndexByteString.f k a0 a1).bind fun t131 => (some t131)) = some r := h
  clear h
  replace H := Option.bind_eq_some_iff.mp H
  obtain ⟨t131, A30, H⟩ := H
  replace H : (some t131) = some r := H
  have A3 := Aside0.mk A30
  clear A30
  obtain rfl := Option.some.inj H
  go_enter Tryd.func76, Tryd.ntmps76
  go_wp2_with (first | ((with_reducible refine gate_callee (f := 90) rfl ?_); refine goesL_ (some 7) rfl rfl Tryd.func90 (by kernel_rfl) rfl #[.string a0, .int .u8 a1] rfl (by (try simp only [List.map_toArray, List.map_cons, List.map_nil]); first | done | rfl | (simp only [List.length_drop, List.length_take]; rfl)) ?_; (with_reducible refine (bytealg_LastIndexByteString.calls k a0 a1 t131 _ A3.out).mono ?_); rintro e w' ⟨rfl, ⟨nd, rfl⟩⟩; refine ⟨_, rfl, ?_⟩))
  go_ret
  exact ⟨by first | rfl | (simp; done) | (simp [*]; done), by repeat (first | exact Drawn0.refl _ | apply Drawn0.step)⟩

end Go.Proofs.YtjllbkeobibnkaaDoor.Q

namespace Go.Proofs.YtjllbkeobibnkaaDoor.Q
open Go.RowKit Go.Proofs.YtjllbkeobibnkaaDoorW.PrintWords Go.Proofs.YtjllbkeobibnkaaDoorW.PrintLast Go.Proofs.YtjllbkeobibnkaaDoorW.PrintMore Go.Proofs.YtjllbkeobibnkaaDoorK
attribute [local go_sem] max2_int min2_int max_two min_two max_three min_three max_four min_four   -- for this text's walks alone
attribute [local go_sem ↓] Go.Proofs.YtjllbkeobibnkaaDoorK.isSome_setCell
set_option linter.unusedVariables false
set_option linter.unusedSimpArgs false

/-! ### path_sure: function 77 -/
def path_sure.f (a0 : ByteArray) : Option (ByteArray × Int) := (path_Kind.f a0).bind fun bt132 => (if bt132.2 = 0 then (some (a0, 0)) else (some ((⟨#[]⟩ : ByteArray), bt132.2)))
set_option maxHeartbeats 8000000 in
set_option maxRecDepth 100000 in
theorem path_sure.calls (a0 : ByteArray) (r1 : ByteArray) (r2 : Int) (w : World) (h : path_sure.f a0 = some (r1, r2)) :
    Calls Tryd.prog 77 #[.string a0] w fun e w' => e = .returned (.tuple #[.string r1, .int .i64 r2]) ∧ Below w.heap.size w w' := by
  have HB := Aside0.mk (Below.refl w.heap.size w)
  have H : ((path_Kind.f a0).bind fun bt132 => (if bt132.2 = 0 then (some (a0, 0)) else (some ((⟨#[]⟩ : ByteArray), bt132.2)))) = some (r1, r2) := h
  clear h
  replace H := Option.bind_eq_some_iff.mp H
  obtain ⟨⟨t132, t133⟩, A20, H⟩ := H
  replace H : (if t133 = 0 then (some (a0, 0)) else (some ((⟨#[]⟩ : ByteArray), t133))) = some (r1, r2) := H
  have A2 := Aside0.mk A20
  clear A20
  by_cases c3 : t133 = 0
  · rw [if_pos c3] at H
    have c3b0 : (t133 == 0) = true := beq_iff_eq.mpr c3
    have c3b1 : (t133 != 0) = false := bne_eq_false_iff_eq.mpr c3
    clear c3
    simp only [Option.some.injEq, Prod.mk.injEq] at H
    obtain ⟨rfl, rfl⟩ := H
    go_enter Tryd.func77, Tryd.ntmps77
    go_wp2_with (first | ((with_reducible refine gate_callee (f := 47) rfl ?_); refine goesL_ (some 8) rfl rfl Tryd.func47 (by kernel_rfl) rfl #[.string a0] rfl (by (try simp only [List.map_toArray, List.map_cons, List.map_nil]); first | done | rfl | (simp only [List.length_drop, List.length_take]; rfl)) ?_; (with_reducible refine (path_Kind.calls a0 t132 t133 _ A2.out).mono ?_); rintro e w4 ⟨rfl, hb⟩; refine ⟨_, rfl, ?_⟩; have n0_ := Aside0.mk (below_step (belU HB.out) hb); clear HB; have HB := n0_; clear n0_; (try clear hb); (try clear hb2); (try clear hk); (try clear hi)))
    go_ret2
    exact ⟨by first | rfl | (simp [errW_none, errW_some] <;> rfl) | (simp [*, errW_none, errW_some] <;> rfl), belU HB.out⟩
  · rw [if_neg c3] at H
    have c3b0 : (t133 == 0) = false := beq_eq_false_iff_ne.mpr c3
    have c3b1 : (t133 != 0) = true := bne_iff_ne.mpr c3
    simp only [Option.some.injEq, Prod.mk.injEq] at H
    obtain ⟨rfl, rfl⟩ := H
    go_enter Tryd.func77, Tryd.ntmps77
    go_wp2_with (first | ((with_reducible refine gate_callee (f := 47) rfl ?_); refine goesL_ (some 8) rfl rfl Tryd.func47 (by kernel_rfl) rfl #[.string a0] rfl (by (try simp only [List.map_toArray, List.map_cons, List.map_nil]); first | done | rfl | (simp only [List.length_drop, List.length_take]; rfl)) ?_; (with_reducible refine (path_Kind.calls a0 t132 t133 _ A2.out).mono ?_); rintro e w5 ⟨rfl, hb⟩; refine ⟨_, rfl, ?_⟩; have n0_ := Aside0.mk (below_step (belU HB.out) hb); clear HB; have HB := n0_; clear n0_; (try clear hb); (try clear hb2); (try clear hk); (try clear hi)))
    go_ret2
    exact ⟨by first | rfl | (simp [errW_none, errW_some] <;> rfl) | (simp [*, errW_none, errW_some] <;> rfl), belU HB.out⟩

end Go.Proofs.YtjllbkeobibnkaaDoor.Q

namespace Go.Proofs.YtjllbkeobibnkaaDoor.Q
open Go Go.Proofs Go.Shelf Go.RowKit Go.Lib Go.Proofs.YtjllbkeobibnkaaDoorP Go.Proofs.YtjllbkeobibnkaaDoorK Go.Proofs.YtjllbkeobibnkaaDoorW.PrintWords Go.Proofs.YtjllbkeobibnkaaDoorW.PrintLast Go.Proofs.YtjllbkeobibnkaaDoorW.PrintMore
set_option linter.unusedSimpArgs false
set_option linter.unusedVariables false
/-! ### path.Copy -/
/-- The name of a copy. -/
def cpName (p : ByteArray) (n : Nat) : ByteArray := p.extract 0 (lastIndexByte p 46).toNat ++ ⟨#[126]⟩ ++ decB n ++ p.extract (lastIndexByte p 46).toNat p.size
def cpK (p : ByteArray) (n : Nat) : ByteArray × Int := if kindS p = (2, 0) then (if (kindS (cpName p n)).2 = 0 then (cpName p n, 0) else (⟨#[]⟩, (kindS (cpName p n)).2)) else (⟨#[]⟩, 2)
theorem dec_size (n : Nat) : (decB n).size ≤ 3 := by
  show ((digs n).dropWhile (· == 48)).toArray.size ≤ 3
  rw [List.size_toArray]
  exact (List.dropWhile_sublist _).length_le
theorem cp_size (p : ByteArray) (n : Nat) : (cpName p n).size ≤ 2 * p.size + 4 := by
  have := dec_size n
  unfold cpName
  rw [ByteArray.size_append, ByteArray.size_append, ByteArray.size_append, ByteArray.size_extract, ByteArray.size_extract]
  have h1 : (⟨#[126]⟩ : ByteArray).size = 1 := rfl
  omega
theorem is2_any (w : World) (p : ByteArray) (hp : p.size ≤ 65536) : Calls Tryd.prog 75 #[.string p, .int .i64 2] w fun e w' => e = .returned (.bool (decide (kindS p = (2, 0)))) ∧ Below w.heap.size w w' := by
  refine path_is.calls p 2 _ w ?_
  unfold path_is.f path_Kind.f
  rw [if_pos hp, Option.bind_some]
  generalize kindS p = r
  obtain ⟨k, e⟩ := r
  by_cases h : e = 0
  · subst h
    rw [if_pos rfl, if_neg (by decide)]
    by_cases h2 : k = 2
    · subst h2; rfl
    · rw [decide_eq_false (fun e2 => h2 (by injection e2)), beq_eq_false_iff_ne.mpr h2]
  · rw [if_neg h, decide_eq_false (fun e2 => h (by injection e2))]
set_option maxRecDepth 100000 in
set_option maxHeartbeats 2000000 in
theorem pcopy_any (p : ByteArray) (hp : p.size ≤ 32000) : ∀ W (n : Nat), 1 ≤ n → n ≤ 999 → Calls Tryd.prog 56 #[.string p, .int .i64 (n : Int)] W fun e w' => e = .returned (.tuple #[.string (cpK p n).1, .int .i64 (cpK p n).2]) ∧ Below W.heap.size W w' := by
  intro w n h1 h2
  have HI := Aside0.mk (fun W => is2_any W p (by omega))
  unfold cpK
  by_cases hk : kindS p = (2, 0)
  · rw [if_pos hk]
    have hz : 0 ≤ lastIndexByte p 46 ∧ lastIndexByte p 46 ≤ (p.size : Int) := by
      obtain ⟨i, h1, h2, _⟩ := last_point p hk
      rw [h2]; omega
    have hsz : (cpName p n).size ≤ 65536 := by have := cp_size p n; omega
    have hks := fun W => Kind_any W (cpName p n) hsz
    have hsu : ∀ W, Calls Tryd.prog 77 #[.string (cpName p n)] W fun e w' => e = .returned (.tuple #[.string (if (kindS (cpName p n)).2 = 0 then (cpName p n, 0) else (⟨#[]⟩, (kindS (cpName p n)).2)).1, .int .i64 (if (kindS (cpName p n)).2 = 0 then (cpName p n, (0 : Int)) else (⟨#[]⟩, (kindS (cpName p n)).2)).2]) ∧ Below W.heap.size W w' := fun W => by
      refine path_sure.calls (cpName p n) _ _ W ?_
      unfold path_sure.f path_Kind.f
      rw [if_pos hsz, Option.bind_some]
      split <;> rfl
    generalize (if (kindS (cpName p n)).2 = 0 then (cpName p n, (0 : Int)) else (⟨#[]⟩, (kindS (cpName p n)).2)) = u at hsu ⊢
    have hli := fun W => Any.strings_LastIndexByte layLastIdx p 46 (by omega) W
    change ∀ W, Calls Tryd.prog 76 _ W _ at hli
    have hde := fun W => decimal_any W n h1 h2
    have HS := Aside0.mk hsu
    have HL := Aside0.mk hli
    have HD := Aside0.mk hde
    rw [decide_eq_true hk] at HI
    clear hk hks hsu hli hde hsz
    go_enter Tryd.func56, Tryd.ntmps56
    go_wp2_with fail
    refine (HI.out _).mono ?_
    rintro r1 w1 ⟨rfl, hb⟩
    have p1 := prev_call hb
    clear hb
    go_wp2_with fail
    refine (HL.out _).mono ?_
    rintro r2 w2 ⟨rfl, hw2⟩
    subst hw2
    obtain ⟨z, hzz⟩ : ∃ z : Nat, lastIndexByte p 46 = (z : Int) := ⟨(lastIndexByte p 46).toNat, by omega⟩
    have hcn : cpName p n = p.extract 0 z ++ ⟨#[126]⟩ ++ decB n ++ p.extract z p.size := by unfold cpName; rw [hzz]; rfl
    rw [hzz] at hz ⊢
    have hz2 : z ≤ p.size := by omega
    clear hz
    go_wp2_with fail
    have hdz := dec_size n
    have b1 : ¬ (9223372036854775807 < z + 1) := by omega
    have b2 : ¬ (9223372036854775807 < z + 1 + (decB n).size) := by omega
    have b3 : ¬ (9223372036854775807 < z + 1 + (decB n).size + (p.size - z)) := by omega
    go_region_held3 (fun _ => True) (first | exact trivial)
      (first | (go_at_call 78; refine (HD.out _).mono ?_; rintro r3 w3 ⟨rfl, hb⟩; have p3 := prev_call hb; clear hb) | (go_at_call 77; rw [← hcn]; refine (HS.out _).mono ?_; rintro r4 w4 ⟨rfl, hb⟩; have p4 := prev_call hb; clear hb))
    go_wp2_with fail
    go_ret2
    exact ⟨rfl, bel _ _⟩
  · rw [if_neg hk]
    rw [decide_eq_false hk] at HI
    clear hk
    go_enter Tryd.func56, Tryd.ntmps56
    go_wp2_with fail
    refine (HI.out _).mono ?_
    rintro r1 w1 ⟨rfl, hb⟩
    have p1 := prev_call hb
    clear hb
    go_wp2_with fail
    go_ret2
    exact ⟨rfl, bel _ _⟩
end Go.Proofs.YtjllbkeobibnkaaDoor.Q

namespace Go.Proofs.YtjllbkeobibnkaaDoor.Q
open Go Go.Proofs Go.Shelf Go.RowKit Go.Lib Go.Sort Go.Proofs.YtjllbkeobibnkaaDoorP Go.Proofs.YtjllbkeobibnkaaDoorK Go.Proofs.YtjllbkeobibnkaaDoorW.PrintWords Go.Proofs.YtjllbkeobibnkaaDoorW.PrintLast Go.Proofs.YtjllbkeobibnkaaDoorW.PrintMore
set_option linter.unusedSimpArgs false
set_option linter.unusedVariables false
/-! ### merge.Plan: what it computes; what is kept by a loop that writes one elder box -/
def planStep (s : S24) (inn : List ByteArray) (st : List S33 × List ByteArray) (p : ByteArray) : List S33 × List ByteArray :=
  if hasS inn p = false then st
  else if (stepS (atS s p) p).f0 = 7 then
    (if (freeN (cpK p) (takenS s st.2) 999 1).2 = true then (st.1 ++ [{ stepS (atS s p) p with f3 := (freeN (cpK p) (takenS s st.2) 999 1).1 }, ⟨1, 0, (freeN (cpK p) (takenS s st.2) 999 1).1, eB⟩], st.2 ++ [(freeN (cpK p) (takenS s st.2) 999 1).1])
     else (st.1 ++ [⟨8, (stepS (atS s p) p).f1, p, eB⟩], st.2))
  else if (stepS (atS s p) p).f0 = 0 then st
  else (st.1 ++ [stepS (atS s p) p], st.2)
def planF (s : S24) (inn : List ByteArray) : List S33 × List ByteArray := (pathsS s).foldl (planStep s inn) ([], [])
def planS (s : S24) (inn : List ByteArray) : List S33 × Int := if checkS s = 0 ∧ mayS inn = true then ((planF s inn).1, 0) else ([], 2)
theorem stepS_zero (x : S65) (p : ByteArray) : (stepS x p).f0 = 0 → stepS x p = z33 := by
  unfold stepS
  split
  all_goals (try (split))
  all_goals first
    | exact fun _ => rfl
    | (intro h; simp at h)
instance : Go.Proofs.YtjllbkeobibnkaaDoorK.NotIn 41 (9 :: Kd.string.E) := ⟨by decide⟩
instance : Go.Proofs.YtjllbkeobibnkaaDoorK.NotIn 33 (9 :: Kd.string.E) := ⟨by decide⟩
instance : Go.Proofs.YtjllbkeobibnkaaDoorK.NotIn 24 (9 :: Kd.string.E) := ⟨by decide⟩
instance : Go.Proofs.YtjllbkeobibnkaaDoorK.NotIn 41 (33 :: k33.E) := ⟨by decide⟩
instance : Go.Proofs.YtjllbkeobibnkaaDoorK.NotIn 24 (33 :: k33.E) := ⟨by decide⟩
theorem paths_len {s : S24} (h : tinyS s = true) : (pathsS s).length ≤ 3000 := by
  obtain ⟨t1, t2, t3⟩ := tinyS_open h
  unfold pathsS
  have a := mergeL_len (mergeL (pathsK s.f0) (pathsK s.f1)) (pathsK s.f2)
  have b := mergeL_len (pathsK s.f0) (pathsK s.f1)
  have a1 := (fewK_open t1).1
  have a2 := (fewK_open t2).1
  have a3 := (fewK_open t3).1
  unfold pathsK at a b ⊢
  simp only [List.length_map] at a b ⊢
  omega
theorem paths_sz {s : S24} (h : tinyS s = true) : ∀ p ∈ pathsS s, p.size ≤ 32000 := by
  obtain ⟨t1, t2, t3⟩ := tinyS_open h
  intro p hp
  unfold pathsS at hp
  rcases mergeL_mem _ _ p hp with hp | hp
  · rcases mergeL_mem _ _ p hp with hp | hp
    · obtain ⟨k, hk, rfl⟩ := List.mem_map.1 hp
      exact (fewK_open t1).2 k hk
    · obtain ⟨k, hk, rfl⟩ := List.mem_map.1 hp
      exact (fewK_open t2).2 k hk
  · obtain ⟨k, hk, rfl⟩ := List.mem_map.1 hp
    exact (fewK_open t3).2 k hk
end Go.Proofs.YtjllbkeobibnkaaDoor.Q

namespace Go.Proofs.YtjllbkeobibnkaaDoor.Q
open Go Go.Proofs Go.Shelf Go.RowKit Go.Lib Go.Sort Go.Proofs.YtjllbkeobibnkaaDoorP Go.Proofs.YtjllbkeobibnkaaDoorK
/-! ### The chapter's example -/
def sumB (b : UInt8) : Sum := ⟨b :: List.replicate 31 0, rfl⟩
def axB : ByteArray := ⟨#[97, 46, 120]⟩
def ax1B : ByteArray := ⟨#[97, 126, 49, 46, 120]⟩
def wkS : S24 := ⟨[⟨axB, ⟨1, 0, sumB 1⟩⟩], [⟨axB, ⟨0, 0, sumB 2⟩⟩], [⟨axB, ⟨2, 0, sumB 3⟩⟩]⟩
theorem tl_loop (b : ByteArray) : b.toList = b.data.toList := ByteArray.toList_eq b
theorem wk_kind : kindS axB = (2, 0) := by decide +kernel
theorem wk_eq (k : S58) (p : ByteArray) : eqP p k = (k.f0.data.toList == p.data.toList) := by unfold eqP; rw [tl_loop, tl_loop]
theorem wk_check : checkS wkS = 0 := by
  unfold checkS
  rw [if_pos (by decide +kernel)]
  rw [if_neg]
  simp [wkS, badK, findS, wk_eq]
theorem wk_may : mayS [eB] = true := by decide +kernel
theorem wk_paths : pathsS wkS = [axB] := by decide +kernel
theorem wk_has : hasS [eB] axB = true := by decide +kernel
theorem wk_find (v : Int) (b : UInt8) : findS [⟨axB, ⟨v, 0, sumB b⟩⟩] axB = (⟨v, 0, sumB b⟩, true) := by
  unfold findS
  rw [if_pos (by rw [wk_eq]; simp)]
theorem wk_at : atS wkS axB = ⟨⟨1, 0, sumB 1⟩, ⟨0, 0, sumB 2⟩, ⟨2, 0, sumB 3⟩, true, true, true, true, true⟩ := by
  unfold atS wkS
  simp only [wk_find]
  rfl
theorem wk_step : stepS (atS wkS axB) axB = ⟨7, 2, axB, eB⟩ := by
  rw [wk_at]
  rfl
theorem wk_no (v : Int) (b : UInt8) : findS [⟨axB, ⟨v, 0, sumB b⟩⟩] ax1B = (z51, false) := by
  unfold findS
  rw [if_neg (by rw [wk_eq]; exact (by decide +kernel : ¬ (axB.data.toList == ax1B.data.toList) = true))]
  rfl
theorem wk_taken : takenS wkS [] ax1B = false := by
  unfold takenS hasK atS wkS
  simp only [wk_no]
  rfl
theorem wk_cp : cpK axB 1 = (ax1B, 0) := by
  have h1 : cpName axB 1 = ax1B := by decide +kernel
  unfold cpK
  rw [if_pos wk_kind, h1, if_pos (by decide +kernel)]
theorem wk_free : freeN (cpK axB) (takenS wkS []) 999 1 = (ax1B, true) := by
  unfold freeN
  rw [wk_cp]
  rw [if_pos ⟨rfl, wk_taken⟩]
theorem wk_plan : planS wkS [eB] = ([⟨7, 2, axB, ax1B⟩, ⟨1, 0, ax1B, eB⟩], 0) := by
  unfold planS
  rw [if_pos ⟨wk_check, wk_may⟩]
  unfold planF
  rw [wk_paths]
  simp only [List.foldl_cons, List.foldl_nil]
  unfold planStep
  rw [if_neg (by rw [wk_has]; decide), wk_step]
  simp only [wk_free]
  rfl
theorem wk_tiny : tinyS wkS = true := by decide +kernel
theorem wk_short : shortP [eB] = true := by decide +kernel
end Go.Proofs.YtjllbkeobibnkaaDoor.Q

namespace Go.Proofs.YtjllbkeobibnkaaDoor.Q
open Go Go.Proofs Go.Shelf Go.RowKit Go.Lib Go.Sort Go.Proofs.YtjllbkeobibnkaaDoorP Go.Proofs.YtjllbkeobibnkaaDoorK Go.Proofs.YtjllbkeobibnkaaDoorW.PrintWords Go.Proofs.YtjllbkeobibnkaaDoorW.PrintLast Go.Proofs.YtjllbkeobibnkaaDoorW.PrintMore
set_option linter.unusedSimpArgs false
set_option linter.unusedVariables false
/-! ### merge.Plan -/
attribute [local go_sem] A51_size A51_0 A51_1 A51_g0 A51_g1 A58_size A58_0 A58_1 A58_2 A58_g0 A58_g1 A58_g2 cell_held frozen_held
attribute [local go_sem] zero51 zero58 zero65 set58 laid58 A33 z33 eB
attribute [local go_sem ↓ high] lvx_of
attribute [local go_sem] lv_sc lv24 lv33
attribute [local go_sem ↓ high] lv51 lv51s lv58 lv58a lv65 lv65a lv65l lv65r sc51 sc58 sc65 sc65a sc65l sc65r sc58a
set_option maxRecDepth 100000 in
set_option maxHeartbeats 4000000 in
theorem plan_any (w : World) (s : S24) (v : Array Value) (A0 : Option Addr) (c0 : Nat) (inn : List ByteArray) (hs : SideIn w s v) (ht : tinyS s = true) (hi : Kd.C Kd.string w A0 inn.length inn) (hic : inn.length ≤ c0) (hsh : shortP inn = true) :
    Calls Tryd.prog 18 #[.agg v, .slice A0 inn.length c0] w fun e w' => ∃ v, e = .returned (.tuple #[v, .int .i64 (planS s inn).2]) ∧ k33.R 33 w' w.heap.size (fun _ => True) v (planS s inn).1 ∧ Below w.heap.size w w' := by
  have eg : ∀ args w, (callFunc 45 args).run Tryd.prog w = .ok (.enter 45 args) w := enters_of Tryd.func45 (by kernel_rfl) rfl
  have hin := (shortP_mem hsh).1
  have HK := Aside0.mk (fun W (hb : Below w.heap.size w W) => Check_any W s v (hs.below hb) (tinyS_ok ht))
  have HM := Aside0.mk (fun W (hb : Below w.heap.size w W) => may_any W A0 c0 inn (Kd.C_below hi hb) hic hsh)
  have HP := Aside0.mk (fun W (hb : Below w.heap.size w W) => paths_any W s v (hs.below hb) ht)
  have HH := Aside0.mk (fun W p (hb : Below w.heap.size w W) hp => Has_any W A0 c0 inn p (Kd.C_below hi hb) hin hp)
  have HA := Aside0.mk (fun W p (hb : Below w.heap.size w W) => at_any W s v p (hs.below hb) (okS_short (tinyS_ok ht)))
  have HF := Aside0.mk (fun W p b b2 A cc ch (hb : Below w.heap.size w W) h h2 hC hl hp => free_any W p 45 #[.pointer (some ⟨b, 0, none⟩), .pointer (some ⟨b2, 0, none⟩)] eg (cpK p) (takenS s ch) (plan1_any W s v b b2 A cc ch (hs.below hb) (tinyS_ok ht) h h2 hC hl) (pcopy_any p hp))
  have hpl := paths_len ht
  have HPZ := Aside0.mk (paths_sz ht)
  have h02 := checkS_two s
  obtain ⟨R, hR⟩ : ∃ R, planF s inn = R := ⟨_, rfl⟩
  unfold planS
  rw [hR]
  unfold planF at hR
  obtain ⟨A, c, B, d, C, e, rfl, l1, l2, l3, h1, h2, h3⟩ := hs.out
  clear hs ht l1 l2 l3 h1 h2 h3 eg hi hsh
  generalize s.f0.length = n0 at *
  generalize s.f1.length = n1 at *
  generalize s.f2.length = n2 at *
  generalize pathsS s = l at *
  generalize checkS s = k at *
  generalize mayS inn = my at *
  have HR0 := Aside0.mk hR
  clear hR
  rcases h02 with rfl | rfl
  rotate_left
  · rw [if_neg (fun h => absurd h.1 (by decide))]
    go_enter Tryd.func18, Tryd.ntmps18
    go_wp2_with fail
    refine (HK.out _ (bel _ _)).mono ?_
    rintro r1 w1 ⟨rfl, hb⟩
    have p1 := prev_call hb
    clear hb
    go_wp2_with fail
    go_ret2
    exact ⟨_, rfl, Kd.R_nil _ _ _ _ _, bel _ _⟩
  cases my with
  | false =>
    rw [if_neg (fun h => absurd h.2 (by decide))]
    go_enter Tryd.func18, Tryd.ntmps18
    go_wp2_with fail
    refine (HK.out _ (bel _ _)).mono ?_
    rintro r1 w1 ⟨rfl, hb⟩
    have p1 := prev_call hb
    clear hb
    go_wp2_with fail
    refine (HM.out _ (bel _ _)).mono ?_
    rintro r2 w2 ⟨rfl, hb⟩
    have p2 := prev_call hb
    clear hb
    go_wp2_with fail
    go_ret2
    exact ⟨_, rfl, Kd.R_nil _ _ _ _ _, bel _ _⟩
  | true =>
    rw [if_pos ⟨rfl, rfl⟩]
    go_enter Tryd.func18, Tryd.ntmps18
    go_wp2_with fail
    refine (HK.out _ (bel _ _)).mono ?_
    rintro r1 w1 ⟨rfl, hb⟩
    have p1 := prev_call hb
    clear hb
    go_wp2_with fail
    refine (HM.out _ (bel _ _)).mono ?_
    rintro r2 w2 ⟨rfl, hb⟩
    have p2 := prev_call hb
    clear hb
    go_wp2_with fail
    refine (HP.out _ (bel _ _)).mono ?_
    rintro r3 w3 ⟨v3, rfl, hv, hb⟩
    have p3 := prev_call hb
    have s2 := siz w w2
    obtain ⟨A3, c3, rfl⟩ := Kd.R_slice hv
    have hv := Kd.R_lower hv (Nat.le_refl _)
    have HV3 := Aside0.mk hv
    clear hb hv
    go_wp2_with fail
    have hnb : ∀ ad, A3 = some ad → 0 < l.length → ad.block ≠ w2.heap.size := by
      rintro ad rfl h0 e
      have := Kd.R_base hv ad.block (by simp [Value.ownBlock])
      rw [World.size_alloc] at this
      omega
    have HNB := Aside0.mk hnb
    have s3 : w2.heap.size < w3.heap.size := held_lt (W := w3) (g := w2.heap.size)
    clear hv hnb
    go_loopw [6, 24] (fun u i wr => ∃ (j : Nat) (out : List S33) (ch : List ByteArray) (Ac : Option Addr) (cc : Nat), j ≤ l.length ∧ i = .int .i64 (j : Int) ∧ Aside0 ((l.drop j).foldl (planStep s inn) (out, ch) = R) ∧ out.length ≤ 2 * j ∧ ch.length ≤ j ∧ Aside0 (k33.R 33 wr w3.heap.size (fun _ => True) u out) ∧ Aside0 (Go.Proofs.YtjllbkeobibnkaaDoorK.Holds wr w2.heap.size (.cells #[.slice Ac ch.length cc] 41)) ∧ Aside0 (Go.Proofs.YtjllbkeobibnkaaDoorK.Holds wr w.heap.size (.cells #[.slice A n0 c, .slice B n1 d, .slice C n2 e] 24)) ∧ Aside0 (Kd.string.R 9 wr w3.heap.size (fun _ => True) (.slice Ac ch.length cc) ch) ∧ Aside0 (Below w.heap.size w wr) ∧ Aside0 (Go.Proofs.YtjllbkeobibnkaaDoorK.Kp w3.heap.size w2.heap.size w3 wr)) (fun _ i _ => l.length - (intOf i).toNat)
    case atStart => exact ⟨0, [], [], none, 0, Nat.zero_le _, rfl, HR0, Nat.le_refl _, Nat.le_refl _, ⟨Kd.R_nil _ _ _ _ _⟩, ⟨inferInstance⟩, ⟨inferInstance⟩, ⟨Kd.R_nil _ _ _ _ _⟩, ⟨bel _ _⟩, ⟨inferInstance⟩⟩
    case round =>
      obtain ⟨j, out, ch, Ac, cc, hj, rfl, HI, hol, hcl, HO, HG, HX, HC, HB, HKP⟩ := hrel
      have bw : Bel w.heap.size w wr := ⟨fun _ => HB.out⟩
      have kp := HKP.out
      have hg := HG.out
      have hx := HX.out
      clear HR0
      by_cases hlt : j < l.length
      · obtain ⟨ad, e0, x0⟩ := C_str' (Kd.R_reads' HV3.out).2.2 j hlt
        subst e0
        have hnb := HNB.out ad rfl (by omega)
        replace x0 := kp.cell rfl x0 (by rw [show (ad.add j).block = ad.block by unfold Addr.add; split <;> rfl]; exact hnb)
        have hI := HI.out
        rw [List.drop_eq_getElem_cons hlt, List.foldl_cons] at hI
        have hps := HPZ.out _ (List.getElem_mem hlt)
        generalize l[j] = p at x0 hI hps
        have HHP := Aside0.mk (fun W hb => HH.out W p hb (by omega))
        have HPS := Aside0.mk hps
        have HII := Aside0.mk hI
        clear hI HI hps
        cases hb : hasS inn p with
        | false =>
          have hI := HII.out
          unfold planStep at hI
          rw [if_pos hb] at hI
          have HIN : Aside0 ((l.drop (j + 1)).foldl (planStep s inn) (out, ch) = R) := ⟨hI⟩
          rw [hb] at HHP
          clear hI hb
          go_wp2_with fail
          refine (HHP.out _ (bel _ _)).mono ?_
          rintro r4 w4 ⟨rfl, hb⟩
          have p4 := prev_call hb
          clear hb
          go_wp2_with fail
          go_roundw
          case rel => exact ⟨j + 1, out, ch, Ac, cc, by omega, by go_num, HIN, by omega, by omega, ⟨rowB HO.out (bel wr _)⟩, ⟨inferInstance⟩, ⟨inferInstance⟩, ⟨rowB HC.out (bel wr _)⟩, ⟨bel _ _⟩, ⟨inferInstance⟩⟩
          case measure => simp [intOf]; omega
        | true =>
          have hI := HII.out
          unfold planStep at hI
          rw [if_neg (by rw [hb]; decide)] at hI
          dsimp only at hI
          have HIP := Aside0.mk hI
          rw [hb] at HHP
          have hz := stepS_zero (atS s p) p
          have HAP := Aside0.mk (fun W hb => HA.out W p hb)
          have HST := Aside0.mk (fun W => step_any W (atS s p) p)
          generalize stepS (atS s p) p = x at HST HIP hz
          generalize atS s p = y at HAP HST
          have HZ := Aside0.mk hz
          clear hI hb hz HII
          go_wp2_with fail
          refine (HHP.out _ (bel _ _)).mono ?_
          rintro r4 w4 ⟨rfl, hb⟩
          have p4 := prev_call hb
          clear hb
          go_wp2_with fail
          refine (HAP.out _ (bel _ _)).mono ?_
          rintro r5 w5 ⟨rfl, hb⟩
          have p5 := prev_call hb
          clear hb
          go_wp2_with fail
          refine (HST.out _).mono ?_
          rintro r6 w6 ⟨rfl, hb⟩
          have p6 := prev_call hb
          have s6 : w3.heap.size ≤ w6.heap.size := ((inferInstance : Go.Proofs.YtjllbkeobibnkaaDoorK.Kp w3.heap.size w2.heap.size w3 w6).out (Nat.le_refl _)).1
          have s7 := siz w w3
          have s8 := siz wr w6
          clear hb
          have a1 : Apart w.heap.size (.row w6.heap.size) := apart_ne (by omega)
          have a2 : Apart w2.heap.size (.row w6.heap.size) := apart_ne (by omega)
          have a3 : OwnB w.heap.size (.row w6.heap.size) := own_row (by omega)
          have a4 : OwnB wr.heap.size (.row w6.heap.size) := own_row (by omega)
          have a5 : OwnB w3.heap.size (.row w6.heap.size) := own_row (by omega)
          have s9 : w3.heap.size ≤ wr.heap.size := (kp.out (Nat.le_refl _)).1
          have s10 : w.heap.size < w2.heap.size := held_lt (W := w2) (g := w.heap.size)
          have a6 : Apart w.heap.size (.row w2.heap.size) := apart_ne (by omega)
          have a8 : Apart w6.heap.size (.row w2.heap.size) := apart_ne (by omega)
          have a7 : OwnB w.heap.size (.row w2.heap.size) := own_row (by omega)
          have z9 : Go.Proofs.YtjllbkeobibnkaaDoorK.Size w3.heap.size wr := ⟨s9⟩
          obtain ⟨Ao, co, ho⟩ := Kd.R_slice HO.out
          subst ho
          by_cases h7 : x.f0 = 7
          · have hI := HIP.out
            rw [if_pos h7] at hI
            have HI7 := Aside0.mk hI
            have h7b : (x.f0 != 7) = false := by rw [h7]; rfl
            have HFP := Aside0.mk (fun W b b2 A cc hb h h2 hC => HF.out W p b b2 A cc ch hb h h2 hC (by omega) HPS.out)
            generalize freeN (cpK p) (takenS s ch) 999 1 = q at HFP HI7
            obtain ⟨tq, ok⟩ := q
            dsimp only at HFP HI7
            clear hI HIP h7
            go_wp2_with fail
            refine (HFP.out _ _ _ _ _ (bel _ _) held held (Kd.R_reads' (rowX HC.out)).2.2).mono ?_
            rintro r7 w7 ⟨rfl, hb⟩
            have p7 := prev_call hb
            clear hb
            cases ok with
            | false =>
              have hI := HI7.out
              rw [if_neg (by decide)] at hI
              have HIN : Aside0 ((l.drop (j + 1)).foldl (planStep s inn) (out ++ [⟨8, x.f1, p, eB⟩], ch) = R) := ⟨hI⟩
              clear hI HI7
              go_wp2_with ((with_reducible refine gate_builtin (b := .append) (xs := #[.tmp 55, .tmp 60]) rfl ?_); at_builtin; refine put33 w3.heap.size rfl (.tmp 55) (.tmp 60) rfl (.slice Ao out.length co) out ⟨8, x.f1, p, eB⟩ rfl ?aX ?aO ?aS ?aL ?_; (case aX => first | rfl | (simp only [World.size_setCell, size_setRow, World.size_alloc]; rfl)); (case aO => exact rowX HO.out); (case aS => exact (inferInstance : Go.Proofs.YtjllbkeobibnkaaDoorK.Size w3.heap.size _).out); (case aL => omega); intro v8 w8 h8 hg8 hat8; have p8 := prev_grown hg8; have n8a := noRow_g (L := 9 :: Kd.string.E) hg8 (rowX HO.out) (by decide); have n8b := apart_g (g := w.heap.size) (t := 24) hg8 (rowX HO.out) (by decide); have n8c := apart_g (g := w2.heap.size) (t := 41) hg8 (rowX HO.out) (by decide); have n8d := ownB_g hg8 (rowX HO.out) (Nat.le_refl w3.heap.size); have n8e := ownB_g (b := w.heap.size) hg8 (rowX HO.out) (by omega); have HV8 := Aside0.mk h8; clear h8 hg8 hat8)
              go_roundw
              case rel => exact ⟨j + 1, _, ch, Ac, cc, by omega, by go_num, HIN, by simp only [List.length_append, List.length_singleton]; omega, by omega, HV8, ⟨inferInstance⟩, ⟨inferInstance⟩, ⟨rowX HC.out⟩, ⟨bel _ _⟩, ⟨inferInstance⟩⟩
              case measure => simp [intOf]; omega
            | true =>
              have hI := HI7.out
              rw [if_pos rfl] at hI
              have HIN : Aside0 ((l.drop (j + 1)).foldl (planStep s inn) (out ++ [⟨x.f0, x.f1, x.f2, tq⟩, ⟨1, 0, tq, eB⟩], ch ++ [tq]) = R) := ⟨hI⟩
              clear hI HI7
              go_wp2_with (first
                | ((with_reducible refine gate_builtin (b := .append) (xs := #[.tmp 62, .tmp 64]) rfl ?_); at_builtin; refine put41 w3.heap.size rfl (.tmp 62) (.tmp 64) rfl (.slice Ac ch.length cc) ch tq rfl ?aX ?aO ?aS ?aL ?_; (case aX => first | rfl | (simp only [World.size_setCell, size_setRow, World.size_alloc]; rfl)); (case aO => exact rowX HC.out); (case aS => exact (inferInstance : Go.Proofs.YtjllbkeobibnkaaDoorK.Size w3.heap.size _).out); (case aL => omega); intro v8 w8 h8 hg8 hat8; have p8 := prev_grown hg8; have n8a := noRow_g (L := 33 :: k33.E) hg8 (rowX HC.out) (by decide); have n8b := apart_g (g := w.heap.size) (t := 24) hg8 (rowX HC.out) (by decide); have n8c := apart_g (g := w2.heap.size) (t := 41) hg8 (rowX HC.out) (by decide); have n8f := apart_g (g := w6.heap.size) (t := 33) hg8 (rowX HC.out) (by decide); have n8d := ownB_g hg8 (rowX HC.out) (Nat.le_refl w3.heap.size); have n8e := ownB_g (b := w.heap.size) hg8 (rowX HC.out) (by omega); have n8g := ownB_g (b := w2.heap.size) hg8 (rowX HC.out) (by omega); obtain ⟨A8, c8, e8⟩ := Kd.R_slice h8; subst e8; have HV8 := Aside0.mk h8; clear h8 hg8 hat8)
                | ((with_reducible refine gate_builtin (b := .append) (xs := #[.tmp 68, .tmp 72]) rfl ?_); at_builtin; refine put33two w3.heap.size rfl (.tmp 68) (.tmp 72) rfl (.slice Ao out.length co) out ⟨x.f0, x.f1, x.f2, tq⟩ ⟨1, 0, tq, eB⟩ rfl ?aX ?aO ?aS ?aL ?_; (case aX => first | rfl | (simp only [World.size_setCell, size_setRow, World.size_alloc]; rfl)); (case aO => exact rowX HO.out); (case aS => exact (inferInstance : Go.Proofs.YtjllbkeobibnkaaDoorK.Size w3.heap.size _).out); (case aL => omega); intro v9 w9 h9 hg9 hat9; have p9 := prev_grown hg9; have n9a := noRow_g (L := 9 :: Kd.string.E) hg9 (rowX HO.out) (by decide); have n9b := apart_g (g := w.heap.size) (t := 24) hg9 (rowX HO.out) (by decide); have n9c := apart_g (g := w2.heap.size) (t := 41) hg9 (rowX HO.out) (by decide); have n9d := ownB_g hg9 (rowX HO.out) (Nat.le_refl w3.heap.size); have n9e := ownB_g (b := w.heap.size) hg9 (rowX HO.out) (by omega); have HV9 := Aside0.mk h9; clear h9 hg9 hat9))
              have hq : (ch ++ [tq]).length = ch.length + 1 := by simp
              go_roundw
              case rel => exact ⟨j + 1, _, ch ++ [tq], A8, c8, by omega, by go_num, HIN, by simp only [List.length_append, List.length_cons, List.length_nil]; omega, by omega, HV9, ⟨by rw [hq]; exact inferInstance⟩, ⟨inferInstance⟩, ⟨rowX HV8.out⟩, ⟨bel _ _⟩, ⟨inferInstance⟩⟩
              case measure => simp [intOf]; omega
          · have hI := HIP.out
            rw [if_neg h7] at hI
            have HI7 := Aside0.mk hI
            have h7b : (x.f0 != 7) = true := bne_iff_ne.mpr h7
            clear hI HIP h7
            by_cases h0 : x.f0 = 0
            · have hI := HI7.out
              rw [if_pos h0] at hI
              have HIN : Aside0 ((l.drop (j + 1)).foldl (planStep s inn) (out, ch) = R) := ⟨hI⟩
              have hx := HZ.out h0
              subst hx
              clear hI HI7 h0 h7b
              go_wp2_with fail
              go_roundw
              case rel => exact ⟨j + 1, out, ch, Ac, cc, by omega, by go_num, HIN, by omega, by omega, ⟨rowX HO.out⟩, ⟨inferInstance⟩, ⟨inferInstance⟩, ⟨rowX HC.out⟩, ⟨bel _ _⟩, ⟨inferInstance⟩⟩
              case measure => simp [intOf]; omega
            · have hI := HI7.out
              rw [if_neg h0] at hI
              have HIN : Aside0 ((l.drop (j + 1)).foldl (planStep s inn) (out ++ [x], ch) = R) := ⟨hI⟩
              have h0b : (x.f0 != 0) = true := bne_iff_ne.mpr h0
              have h0c : (x.f0 == 0) = false := beq_eq_false_iff_ne.mpr h0
              clear hI HI7 h0
              go_wp2_with ((with_reducible refine gate_builtin (b := .append) (xs := #[.tmp 43, .tmp 45]) rfl ?_); at_builtin; refine put33 w3.heap.size rfl (.tmp 43) (.tmp 45) rfl (.slice Ao out.length co) out x rfl ?aX ?aO ?aS ?aL ?_; (case aX => first | rfl | (simp only [World.size_setCell, size_setRow, World.size_alloc]; rfl)); (case aO => exact rowX HO.out); (case aS => exact (inferInstance : Go.Proofs.YtjllbkeobibnkaaDoorK.Size w3.heap.size _).out); (case aL => omega); intro v8 w8 h8 hg8 hat8; have p8 := prev_grown hg8; have n8a := noRow_g (L := 9 :: Kd.string.E) hg8 (rowX HO.out) (by decide); have n8b := apart_g (g := w.heap.size) (t := 24) hg8 (rowX HO.out) (by decide); have n8c := apart_g (g := w2.heap.size) (t := 41) hg8 (rowX HO.out) (by decide); have n8d := ownB_g hg8 (rowX HO.out) (Nat.le_refl w3.heap.size); have n8e := ownB_g (b := w.heap.size) hg8 (rowX HO.out) (by omega); have HV8 := Aside0.mk h8; clear h8 hg8 hat8)
              go_roundw
              case rel => exact ⟨j + 1, _, ch, Ac, cc, by omega, by go_num, HIN, by simp only [List.length_append, List.length_singleton]; omega, by omega, HV8, ⟨inferInstance⟩, ⟨inferInstance⟩, ⟨rowX HC.out⟩, ⟨bel _ _⟩, ⟨inferInstance⟩⟩
              case measure => simp [intOf]; omega
      · have hI := HI.out
        rw [List.drop_of_length_le (by omega)] at hI
        simp only [List.foldl_nil] at hI
        have HIE := Aside0.mk hI
        clear hI HI
        go_wp2_with fail
        go_ret2
        exact ⟨_, rfl, Kd.R_lower (by rw [← HIE.out]; exact HO.out) (siz w w3), bel _ _⟩
end Go.Proofs.YtjllbkeobibnkaaDoor.Q

namespace Go.Proofs.YtjllbkeobibnkaaDoor.Q
open Go Go.Proofs Go.Shelf Go.RowKit Go.Lib Go.Sort Go.Proofs.YtjllbkeobibnkaaDoorP Go.Proofs.YtjllbkeobibnkaaDoorK Go.Proofs.YtjllbkeobibnkaaDoorW.PrintWords Go.Proofs.YtjllbkeobibnkaaDoorW.PrintLast Go.Proofs.YtjllbkeobibnkaaDoorW.PrintMore
set_option linter.unusedSimpArgs false
set_option linter.unusedVariables false
/-! ### The law's works: its lists -/
theorem one58 {W : World} (p : S58) (cs : Array Value) (hcs : cs = A58 p) : k58.C (W.alloc (.cells cs 58)) (some ⟨W.heap.size, 0, none⟩) 1 [p] := by
  subst hcs
  refine ⟨rfl, by decide, fun _ => ⟨_, rfl, fun j x hj => ?_⟩⟩
  have hb := blk_new W (.cells (A58 p) 58)
  obtain rfl : j = 0 := by
    have := (List.getElem?_eq_some_iff.1 hj).1
    simp at this
    omega
  obtain rfl : p = x := by simpa using hj
  refine ⟨L58 p, L58_len p, rfl, fun i u hi => ?_⟩
  rw [Nat.zero_mul, Nat.zero_add, Addr.add_lit, Nat.zero_add, blk_cell hb]
  unfold A58
  simpa using hi
set_option maxRecDepth 100000 in
set_option maxHeartbeats 4000000 in
theorem works1_any (w : World) (v : Int) (b : UInt8) : Calls Tryd.prog 33 #[.int .i64 v, .int .u8 (b.toNat : Int)] w fun e w' => ∃ ad, e = .returned (.slice (some ad) 1 1) ∧ k58.C w' (some ad) 1 [⟨axB, ⟨v, 0, sumB b⟩⟩] ∧ Below w.heap.size w w' := by
  go_enter Tryd.func33, Tryd.ntmps33
  go_wp2_with fail
  go_ret
  exact ⟨_, rfl, one58 _ _ rfl, bel _ _⟩
end Go.Proofs.YtjllbkeobibnkaaDoor.Q

namespace Go.Proofs.YtjllbkeobibnkaaDoor.Q
open Go Go.Proofs Go.Shelf Go.RowKit Go.Lib Go.Sort Go.Proofs.YtjllbkeobibnkaaDoorP Go.Proofs.YtjllbkeobibnkaaDoorK Go.Proofs.YtjllbkeobibnkaaDoorW.PrintWords Go.Proofs.YtjllbkeobibnkaaDoorW.PrintLast Go.Proofs.YtjllbkeobibnkaaDoorW.PrintMore
set_option linter.unusedSimpArgs false
set_option linter.unusedVariables false
/-! ### The law's works -/
theorem str1 {W : World} {g : Nat} {p : ByteArray} (h : W.heap[g]? = some (.cells #[.string p] 9 (0, 0))) : Kd.string.C W (some ⟨g, 0, none⟩) 1 [p] := by
  refine ⟨rfl, by decide, fun _ => ⟨_, rfl, fun j x hj => ?_⟩⟩
  obtain rfl : j = 0 := by
    have := (List.getElem?_eq_some_iff.1 hj).1
    simp at this
    omega
  obtain rfl : p = x := by simpa using hj
  refine ⟨[.string p], rfl, rfl, fun i u hi => ?_⟩
  rw [Nat.zero_mul, Nat.zero_add, Addr.add_lit, Nat.zero_add, blk_cell h]
  cases i with
  | zero => exact hi
  | succ i => simp at hi
theorem wk_side {W : World} {d1 d2 d3 : Addr} (h1 : k58.C W (some d1) 1 [⟨axB, ⟨1, 0, sumB 1⟩⟩]) (h2 : k58.C W (some d2) 1 [⟨axB, ⟨0, 0, sumB 2⟩⟩]) (h3 : k58.C W (some d3) 1 [⟨axB, ⟨2, 0, sumB 3⟩⟩]) : SideIn W wkS #[.slice (some d1) 1 1, .slice (some d2) 1 1, .slice (some d3) 1 1] :=
  ⟨⟨_, _, _, _, _, _, rfl, Nat.le_refl _, Nat.le_refl _, Nat.le_refl _, h1, h2, h3⟩⟩
attribute [local go_sem] cell_held frozen_held
set_option maxRecDepth 100000 in
set_option maxHeartbeats 4000000 in
theorem works_any (w : World) : Calls Tryd.prog 13 #[] w fun e w' => e = .returned (.bool true) ∧ Below w.heap.size w w' := by
  have eg : ∀ args w, (callFunc 33 args).run Tryd.prog w = .ok (.enter 33 args) w := enters_of Tryd.func33 (by kernel_rfl) rfl
  have HW := Aside0.mk (fun W v b => works1_any W v b)
  have HP := Aside0.mk (fun W d1 d2 d3 g (h1 : k58.C W (some d1) 1 [⟨axB, ⟨1, 0, sumB 1⟩⟩]) (h2 : k58.C W (some d2) 1 [⟨axB, ⟨0, 0, sumB 2⟩⟩]) (h3 : k58.C W (some d3) 1 [⟨axB, ⟨2, 0, sumB 3⟩⟩]) (h4 : Kd.string.C W (some ⟨g, 0, none⟩) 1 [eB]) => plan_any W wkS _ (some ⟨g, 0, none⟩) 1 [eB] (wk_side h1 h2 h3) wk_tiny h4 (Nat.le_refl _) wk_short)
  rw [wk_plan] at HP
  go_enter Tryd.func13, Tryd.ntmps13
  go_wp2_with fail
  refine (HW.out _ 1 1).mono ?_
  rintro e1 w1 ⟨d1, rfl, hc, hb⟩
  have p1 := prev_call hb
  have HC1 := Aside0.mk hc
  clear hb hc
  go_wp2_with fail
  refine (HW.out _ 0 2).mono ?_
  rintro e2 w2 ⟨d2, rfl, hc, hb⟩
  have p2 := prev_call hb
  have HC2 := Aside0.mk hc
  clear hb hc
  go_wp2_with fail
  refine (HW.out _ 2 3).mono ?_
  rintro e3 w3 ⟨d3, rfl, hc, hb⟩
  have p3 := prev_call hb
  have HC3 := Aside0.mk hc
  clear hb hc
  go_wp2_with fail
  refine (HP.out _ _ _ _ _ (Kd.C_below HC1.out (bel _ _)) (Kd.C_below HC2.out (bel _ _)) (Kd.C_below HC3.out (bel _ _)) (str1 held)).mono ?_
  rintro e4 w4 ⟨v, rfl, hv, hb⟩
  have p4 := prev_call hb
  obtain ⟨X, cx, rfl⟩ := Kd.R_slice hv
  have hr := (Kd.R_reads' hv).2.2
  obtain ⟨ad, ea, x0⟩ := C33_at hr 0 (by decide)
  obtain ⟨ad2, eb, x1⟩ := C33_at hr 1 (by decide)
  obtain rfl : ad = ad2 := Option.some.inj (ea.symm.trans eb)
  subst ea
  rw [Nat.zero_mul, add_zero_] at x0
  rw [Addr.add_succ' ad 3] at x1
  obtain ⟨a0, a1, a2, a3⟩ := at33 x0
  obtain ⟨b0, b1, b2, b3⟩ := at33 x1
  simp only [List.getElem_cons_zero, List.getElem_cons_succ] at a0 a1 a2 a3 b0 b1 b2 b3
  simp only [axB, ax1B, eB] at a2 a3 b2 b3
  clear hb hv hr eb x0 x1
  go_wp2_with fail
  go_ret
  exact ⟨rfl, bel _ _⟩
end Go.Proofs.YtjllbkeobibnkaaDoor.Q

namespace Go.Proofs.YtjllbkeobibnkaaDoor.Q
open Go.RowKit Go.Proofs.YtjllbkeobibnkaaDoorW.PrintWords Go.Proofs.YtjllbkeobibnkaaDoorW.PrintLast Go.Proofs.YtjllbkeobibnkaaDoorW.PrintMore Go.Proofs.YtjllbkeobibnkaaDoorK
attribute [local go_sem] max2_int min2_int max_two min_two max_three min_three max_four min_four   -- for this text's walks alone
attribute [local go_sem ↓] Go.Proofs.YtjllbkeobibnkaaDoorK.isSome_setCell
set_option linter.unusedVariables false
set_option linter.unusedSimpArgs false

/-! ### aquiferref05_sure: function 79 -/
def aquiferref05_sure.f (k : Nat) (a0 : ByteArray) : Option (ByteArray × Int) := (aquiferref05_Kind.f k a0).bind fun bt139 => (if bt139.2 = 0 then (some (a0, 0)) else (some ((⟨#[]⟩ : ByteArray), bt139.2)))
theorem aquiferref05_sure.mono : ∀ a0 k, LeO (aquiferref05_sure.f k a0) (aquiferref05_sure.f (k + 1) a0) := by
  intro a0 k
  unfold aquiferref05_sure.f
  repeat' first
      | (with_reducible exact aquiferref05_Kind.mono _ _)
      | (with_reducible exact LeO.refl _)
      | (with_reducible exact LeO.none _)
      | (with_reducible refine LeO.ite ?_ ?_)
      | (with_reducible refine LeO.bind ?_ (fun _ => ?_))
      | exact aquiferref05_Kind.mono _ _
      | exact LeO.none _
      | refine LeO.ite ?_ ?_
      | refine LeO.bind ?_ (fun _ => ?_)
set_option maxHeartbeats 8000000 in
set_option maxRecDepth 100000 in
theorem aquiferref05_sure.calls (k : Nat) (a0 : ByteArray) (r1 : ByteArray) (r2 : Int) (w : World) (h : aquiferref05_sure.f k a0 = some (r1, r2)) :
    Calls Tryd.prog 79 #[.string a0] w fun e w' => e = .returned (.tuple #[.string r1, .int .i64 r2]) ∧ Below w.heap.size w w' := by
  have HB := Aside0.mk (Below.refl w.heap.size w)
  have H : ((aquiferref05_Kind.f k a0).bind fun bt139 => (if bt139.2 = 0 then (some (a0, 0)) else (some ((⟨#[]⟩ : ByteArray), bt139.2)))) = some (r1, r2) := h
  clear h
  replace H := Option.bind_eq_some_iff.mp H
  obtain ⟨⟨t139, t140⟩, A20, H⟩ := H
  replace H : (if t140 = 0 then (some (a0, 0)) else (some ((⟨#[]⟩ : ByteArray), t140))) = some (r1, r2) := H
  have A2 := Aside0.mk A20
  clear A20
  by_cases c3 : t140 = 0
  · rw [if_pos c3] at H
    have c3b0 : (t140 == 0) = true := beq_iff_eq.mpr c3
    have c3b1 : (t140 != 0) = false := bne_eq_false_iff_eq.mpr c3
    clear c3
    simp only [Option.some.injEq, Prod.mk.injEq] at H
    obtain ⟨rfl, rfl⟩ := H
    go_enter Tryd.func79, Tryd.ntmps79
    go_wp2_with (first | ((with_reducible refine gate_callee (f := 66) rfl ?_); refine goesL_ (some 8) rfl rfl Tryd.func66 (by kernel_rfl) rfl #[.string a0] rfl (by (try simp only [List.map_toArray, List.map_cons, List.map_nil]); first | done | rfl | (simp only [List.length_drop, List.length_take]; rfl)) ?_; (with_reducible refine (aquiferref05_Kind.calls k a0 t139 t140 _ A2.out).mono ?_); rintro e w4 ⟨rfl, hb⟩; refine ⟨_, rfl, ?_⟩; have n0_ := Aside0.mk (below_step (belU HB.out) hb); clear HB; have HB := n0_; clear n0_; (try clear hb); (try clear hb2); (try clear hk); (try clear hi)))
    go_ret2
    exact ⟨by first | rfl | (simp [errW_none, errW_some] <;> rfl) | (simp [*, errW_none, errW_some] <;> rfl), belU HB.out⟩
  · rw [if_neg c3] at H
    have c3b0 : (t140 == 0) = false := beq_eq_false_iff_ne.mpr c3
    have c3b1 : (t140 != 0) = true := bne_iff_ne.mpr c3
    simp only [Option.some.injEq, Prod.mk.injEq] at H
    obtain ⟨rfl, rfl⟩ := H
    go_enter Tryd.func79, Tryd.ntmps79
    go_wp2_with (first | ((with_reducible refine gate_callee (f := 66) rfl ?_); refine goesL_ (some 8) rfl rfl Tryd.func66 (by kernel_rfl) rfl #[.string a0] rfl (by (try simp only [List.map_toArray, List.map_cons, List.map_nil]); first | done | rfl | (simp only [List.length_drop, List.length_take]; rfl)) ?_; (with_reducible refine (aquiferref05_Kind.calls k a0 t139 t140 _ A2.out).mono ?_); rintro e w5 ⟨rfl, hb⟩; refine ⟨_, rfl, ?_⟩; have n0_ := Aside0.mk (below_step (belU HB.out) hb); clear HB; have HB := n0_; clear n0_; (try clear hb); (try clear hb2); (try clear hk); (try clear hi)))
    go_ret2
    exact ⟨by first | rfl | (simp [errW_none, errW_some] <;> rfl) | (simp [*, errW_none, errW_some] <;> rfl), belU HB.out⟩

end Go.Proofs.YtjllbkeobibnkaaDoor.Q

namespace Go.Proofs.YtjllbkeobibnkaaDoor.Q
open Go Go.Proofs Go.Shelf Go.RowKit Go.Lib Go.Proofs.YtjllbkeobibnkaaDoorP Go.Proofs.YtjllbkeobibnkaaDoorK Go.Proofs.YtjllbkeobibnkaaDoorW.PrintWords Go.Proofs.YtjllbkeobibnkaaDoorW.PrintLast Go.Proofs.YtjllbkeobibnkaaDoorW.PrintMore
set_option linter.unusedSimpArgs false
set_option linter.unusedVariables false
/-! ### The document's path.Copy -/
/-- The last point among the first j bytes; 0: none. -/
def atP (p : ByteArray) (j : Nat) : Nat := (lastIdx p 46 j).toNat
theorem bt_get (p : ByteArray) (j : Nat) (h : j < p.size) : bt p (j : Int) = ((p.data[j]!).toNat : Int) := by
  have h1 : bt p (j : Int) = ((p[j]'h).toNat : Int) := by simp [bt, h]
  rw [h1, getElem!_pos p.data j h]
  rfl
set_option maxRecDepth 100000 in
set_option maxHeartbeats 2000000 in
theorem rpcopy_any (p : ByteArray) (hp : p.size ≤ 32000) : ∀ W (n : Nat), 1 ≤ n → n ≤ 999 → Calls Tryd.prog 57 #[.string p, .int .i64 (n : Int)] W fun e w' => e = .returned (.tuple #[.string (cpK p n).1, .int .i64 (cpK p n).2]) ∧ Below W.heap.size W w' := by
  intro w n h1 h2
  have hk0 := fun W => rKind_any W p (by omega)
  have HK := Aside0.mk hk0
  clear hk0
  have g1 : ¬ ((n : Int) < 1) := by omega
  have g2 : ¬ ((999 : Int) < (n : Int)) := by omega
  have G1 : decide ((n : Int) < 1) = false := decide_eq_false g1
  have G2 : decide ((999 : Int) < (n : Int)) = false := decide_eq_false g2
  unfold cpK
  by_cases hk : kindS p = (2, 0)
  · rw [if_pos hk]
    obtain ⟨z, hz1, hz2, hz3, hz4⟩ := last_point p hk
    have hsz : (cpName p n).size ≤ 65536 := by have := cp_size p n; omega
    have hsu : ∀ W, Calls Tryd.prog 79 #[.string (cpName p n)] W fun e w' => e = .returned (.tuple #[.string (if (kindS (cpName p n)).2 = 0 then (cpName p n, 0) else (⟨#[]⟩, (kindS (cpName p n)).2)).1, .int .i64 (if (kindS (cpName p n)).2 = 0 then (cpName p n, (0 : Int)) else (⟨#[]⟩, (kindS (cpName p n)).2)).2]) ∧ Below W.heap.size W w' := fun W => by
      refine aquiferref05_sure.calls (65536 + 300) (cpName p n) _ _ W ?_
      unfold aquiferref05_sure.f
      rw [refkind _ hsz _ (by omega), Option.bind_some]
      split <;> rfl
    generalize (if (kindS (cpName p n)).2 = 0 then (cpName p n, (0 : Int)) else (⟨#[]⟩, (kindS (cpName p n)).2)) = u at hsu ⊢
    have hde : ∀ W, Calls Tryd.prog 80 #[.int .i64 (n : Int)] W fun e w' => e = .returned (.string (decB n)) ∧ Below W.heap.size W w' := fun W => (aquiferref05_decimal.calls 12 (n : Int) _ W (refdec n h1 h2)).mono fun _ _ h => ⟨h.1, h.2.below⟩
    have HS := Aside0.mk hsu
    have HD := Aside0.mk hde
    have hcn : cpName p n = p.extract 0 z ++ ⟨#[126]⟩ ++ decB n ++ p.extract z p.size := by unfold cpName; rw [hz2]; rfl
    have HZ := Aside0.mk hz2
    rw [hk] at HK
    clear hk hsu hde hsz hz2 hz3 hz4
    go_enter Tryd.func57, Tryd.ntmps57
    go_wp2_with fail
    refine (HK.out _).mono ?_
    rintro r1 w1 ⟨rfl, hb⟩
    have p1 := prev_call hb
    clear hb
    go_wp2_with fail
    go_loopw [8, 9] (fun a i wr => ∃ j : Nat, j ≤ p.size ∧ i = .int .i64 (j : Int) ∧ a = .int .i64 (atP p j : Int) ∧ wr = w1) (fun _ i _ => p.size - (intOf i).toNat)
    case atStart => exact ⟨0, Nat.zero_le _, rfl, rfl, rfl⟩
    case round =>
      obtain ⟨j, hj, rfl, rfl, hw⟩ := hrel
      obtain rfl : w1 = wr := hw.symm
      by_cases hlt : j < p.size
      · have hb : ((p[j]'hlt).toNat : Int) = ((p.data[j]!).toNat : Int) := by rw [getElem!_pos p.data j hlt]; rfl
        by_cases hx : ((p.data[j]!).toNat : Int) = 46
        · have ha : atP p (j + 1) = j := by unfold atP; rw [lastIdx_hit p 46 j hx]; rfl
          rw [hx] at hb
          have hbb : (((p[j]'hlt).toNat : Int) == 46) = true := beq_iff_eq.mpr hb
          clear hx hb
          go_wp2_with fail
          go_roundw
          case rel => exact ⟨j + 1, by omega, by go_num, by rw [ha], trivial⟩
          case measure => simp [intOf]; omega
        · have ha : atP p (j + 1) = atP p j := by unfold atP; rw [lastIdx_miss p 46 j hx]
          rw [← hb] at hx
          have hbb : (((p[j]'hlt).toNat : Int) == 46) = false := beq_eq_false_iff_ne.mpr hx
          clear hx hb
          go_wp2_with fail
          go_roundw
          case rel => exact ⟨j + 1, by omega, by go_num, by rw [ha], trivial⟩
          case measure => simp [intOf]; omega
      · obtain rfl : j = p.size := by omega
        have ha : atP p p.size = z := by unfold atP; rw [show lastIdx p 46 p.size = lastIndexByte p 46 from rfl, HZ.out]; rfl
        rw [ha]
        clear ha
        have hdz := dec_size n
        have hz2 : z ≤ p.size := by omega
        have hz5 : (0 : Int) ≤ (z : Int) := by omega
        have hz6 : (z : Int) ≤ (p.size : Int) := by omega
        clear hz1 hj hlt
        have b1 : ¬ (9223372036854775807 < z + 1) := by omega
        have b2 : ¬ (9223372036854775807 < z + 1 + (decB n).size) := by omega
        have b3 : ¬ (9223372036854775807 < z + 1 + (decB n).size + (p.size - z)) := by omega
        go_wp2_with fail
        go_region_held3 (fun _ => True) (first | exact trivial)
          (first | (go_at_call 80; refine (HD.out _).mono ?_; rintro r3 w3 ⟨rfl, hb⟩; have p3 := prev_call hb; clear hb) | (go_at_call 79; rw [← hcn]; refine (HS.out _).mono ?_; rintro r4 w4 ⟨rfl, hb⟩; have p4 := prev_call hb; clear hb))
        go_wp2_with fail
        go_ret2
        exact ⟨rfl, bel _ _⟩
  · rw [if_neg hk]
    generalize kindS p = r at HK hk
    obtain ⟨k, e⟩ := r
    dsimp only at HK
    have hk' : ¬ (k = 2 ∧ e = 0) := fun h => hk (by rw [h.1, h.2])
    clear hk
    by_cases he : e = 0
    · subst he
      have hk2 : ¬ k = 2 := fun h => hk' ⟨h, rfl⟩
      clear hk'
      go_enter Tryd.func57, Tryd.ntmps57
      go_wp2_with fail
      refine (HK.out _).mono ?_
      rintro r1 w1 ⟨rfl, hb⟩
      have p1 := prev_call hb
      clear hb
      go_wp2_with fail
      go_ret2
      exact ⟨rfl, bel _ _⟩
    · clear hk'
      go_enter Tryd.func57, Tryd.ntmps57
      go_wp2_with fail
      refine (HK.out _).mono ?_
      rintro r1 w1 ⟨rfl, hb⟩
      have p1 := prev_call hb
      clear hb
      go_wp2_with fail
      go_ret2
      exact ⟨rfl, bel _ _⟩
end Go.Proofs.YtjllbkeobibnkaaDoor.Q

namespace Go.Proofs.YtjllbkeobibnkaaDoor.Q
open Go Go.Proofs Go.Shelf Go.RowKit Go.Lib Go.Sort Go.Proofs.YtjllbkeobibnkaaDoorP Go.Proofs.YtjllbkeobibnkaaDoorK Go.Proofs.YtjllbkeobibnkaaDoorW.PrintWords Go.Proofs.YtjllbkeobibnkaaDoorW.PrintLast Go.Proofs.YtjllbkeobibnkaaDoorW.PrintMore
set_option linter.unusedSimpArgs false
set_option linter.unusedVariables false
/-! ### MergeTells -/
theorem cutB_size (p : ByteArray) : (cutB p).size ≤ 110 := by
  unfold cutB mn
  rw [ByteArray.size_extract]
  split <;> omega
theorem fewL_few (l : List S58) : fewK (fewL l) = true := by
  unfold fewK fewL
  rw [List.length_map, List.length_take, decide_eq_true (by omega : min 20 l.length ≤ 1000), Bool.true_and, List.all_eq_true]
  intro k hk
  obtain ⟨x, _, rfl⟩ := List.mem_map.1 hk
  have := cutB_size x.f0
  exact decide_eq_true (by show (cutB x.f0).size ≤ 32000; omega)
theorem fewS_tiny (s : S24) : tinyS (fewS s) = true := by
  unfold tinyS fewS
  rw [fewL_few, fewL_few, fewL_few]
  rfl
attribute [local go_sem] min2_mnF min_two cell_held frozen_held
attribute [local go_sem ↓ high] lvx_of
attribute [local go_sem] lv_sc lv24 lv33
--REGWORDS tells1
def tells1.T1 : Bool × List (List Nat × List Nat) := (true, [([], []), ([0], [0]), ([], []), ([], []), ([3], [3]), ([4], [4]), ([2, 5], [2, 5]), ([1, 1, 0, 1], [1]), ([6, 7, 0, 1, 2, 3, 4, 5, 6, 7], [2, 3, 6])])
def tells1.B1 : List Nat := [0, 1, 0, 0, 8, 24, 60, 3, 255]
theorem tells1.tab1 : rtab .any (opsOf Tryd.f3 1) = tells1.T1 := by kernel_rfl
theorem tells1.bits1 : waitsOk tells1.T1.2 tells1.B1 = true := by kernel_rfl
--END
set_option maxRecDepth 100000 in
set_option maxHeartbeats 4000000 in
theorem tells_any (w : World) (s : S24) (v : Array Value) (p : ByteArray) (hs : SideIn w s v) :
    Calls Tryd.prog 3 #[.agg v, .string p] w fun e w' => e = .returned (.bool true) ∧ Below w.heap.size w w' := by
  have HF := Aside0.mk (fun W (hb : Below w.heap.size w W) => Few_any W s v (hs.below hb))
  have ht := fewS_tiny s
  generalize fewS s = t at HF ht
  have hp := cutB_size p
  obtain ⟨m1, m2⟩ := mn_ok p
  have HC := Aside0.mk (fun W v h => Changed_any W t v (cutB p) h (tinyS_ok ht))
  have HD := Aside0.mk (fun W v h => rChanged_any W t v (cutB p) h (tinyS_ok ht))
  have HP := Aside0.mk (fun W v h => Copy_any W t v (cutB p) (cpK (cutB p)) (pcopy_any (cutB p) (by omega)) h (tinyS_ok ht))
  have HQ := Aside0.mk (fun W v h => rCopy_any W t v (cutB p) (cpK (cutB p)) (rpcopy_any (cutB p) (by omega)) h (tinyS_ok ht))
  have HW := Aside0.mk (fun W => works_any W)
  obtain ⟨A, c, B, d, C, e, rfl, l1, l2, l3, h1, h2, h3⟩ := hs.out
  generalize copyS (cpK (cutB p)) t = cc at HP HQ
  generalize chgS t (cutB p) = ch at HC HD
  unfold cutB at HC HD HP HQ
  obtain ⟨cq, ck⟩ := cc
  obtain ⟨ha, hb⟩ := ch
  dsimp only at HC HD HP HQ
  clear hs ht hp l1 l2 l3 h1 h2 h3
  generalize s.f0.length = n0 at *
  generalize s.f1.length = n1 at *
  generalize s.f2.length = n2 at *
  go_enter Tryd.func3, Tryd.ntmps3
  go_wp2_with fail
  --REG tells1
  refine start_ (n := 9) (S := fun w' => w'.heap[w.heap.size]? = some (.cells #[.slice A n0 c, .slice B n1 d, .slice C n2 e] 24 (0, 0))) (ds := [7]) #[false, false, false, false, false, false, false, false, false] (by kernel_rfl) rfl rfl held (fun hHeld => ?_); refine with_tabW tells1.tab1 tells1.bits1 (fun HT_ HW_ => ?_)
  refine pure_ (i := 2) (N := some 15) (v := ?_) (a' := ?_) #[false, false, true, false, false, false, false, false, false] rfl rfl (any_of HT_.out (by kernel_rfl)) (fun _ _ _ h => h) (Or.inl ⟨by rfl, ?_⟩) ?_ ?_
  rotate_left
  · intro w'
    go_simp
    with_reducible rfl
  rotate_left
  · simp only [Act.put, List.setIfInBounds_toArray, List.set_cons_zero, List.set_cons_succ, i64_w, i32_w]
    rfl
  refine pure_ (i := 3) (N := some 16) (v := ?_) (a' := ?_) #[false, false, true, true, false, false, false, false, false] rfl rfl (any_of HT_.out (by kernel_rfl)) (fun _ _ _ h => h) (Or.inl ⟨by rfl, ?_⟩) ?_ ?_
  rotate_left
  · intro w'
    go_simp
    with_reducible rfl
  rotate_left
  · simp only [Act.put, List.setIfInBounds_toArray, List.set_cons_zero, List.set_cons_succ, i64_w, i32_w]
    rfl
  refine pure_ (i := 4) (N := some 17) (v := ?_) (a' := ?_) #[false, false, true, true, true, false, false, false, false] rfl rfl (any_of HT_.out (by kernel_rfl)) (fun _ _ _ h => h) (Or.inl ⟨by rfl, ?_⟩) ?_ ?_
  rotate_left
  · intro w'
    go_simp
    with_reducible rfl
  rotate_left
  · simp only [Act.put, List.setIfInBounds_toArray, List.set_cons_zero, List.set_cons_succ, i64_w, i32_w]
    rfl
  refine pure_ (i := 5) (N := some 18) (v := ?_) (a' := ?_) #[false, false, true, true, true, true, false, false, false] rfl rfl (any_of HT_.out (by kernel_rfl)) (fun _ _ _ h => h) (Or.inl ⟨by rfl, ?_⟩) ?_ ?_
  rotate_left
  · intro w'
    go_simp
    with_reducible rfl
  rotate_left
  · simp only [Act.put, List.setIfInBounds_toArray, List.set_cons_zero, List.set_cons_succ, i64_w, i32_w]
    rfl
  refine pure_ (i := 6) (N := some 19) (v := ?_) (a' := ?_) #[false, false, true, true, true, true, true, false, false] rfl rfl (any_of HT_.out (by kernel_rfl)) (fun _ _ _ h => h) (Or.inl ⟨by rfl, ?_⟩) ?_ ?_
  rotate_left
  · intro w'
    go_simp
    with_reducible rfl
  rotate_left
  · simp only [Act.put, List.setIfInBounds_toArray, List.set_cons_zero, List.set_cons_succ, i64_w, i32_w]
    rfl
  refine take_ (i := 0) (N := some 13) (v := ?_) (a' := ?_) #[true, false, true, true, true, true, true, false, false] rfl rfl (take_ofW HT_.out HW_.out (by kernel_rfl)) (fun _ _ _ h => h) (Or.inl ⟨by rfl, ?_⟩) hHeld ?_ ?_
  rotate_left
  · rintro w' s0
    have i0 : Go.Proofs.YtjllbkeobibnkaaDoorK.Holds w' w.heap.size (.cells #[.slice A n0 c, .slice B n1 d, .slice C n2 e] 24) := ⟨s0⟩
    go_simp
    with_reducible rfl
  rotate_left
  · simp only [Act.put, List.setIfInBounds_toArray, List.set_cons_zero, List.set_cons_succ, i64_w, i32_w]
    rfl
  refine one_ (i := 1) (N := some 14) #[true, true, true, true, true, true, true, false, false] rfl rfl (one_of HT_.out (by kernel_rfl)) (by decide) (fun K hK => ?_)
  refine goes_ Tryd.func8 (by kernel_rfl) rfl #[.agg #[.slice A n0 c, .slice B n1 d, .slice C n2 e]] (by rfl) rfl rfl (by (try simp only [List.map_toArray, List.map_cons, List.map_nil]); first | done | rfl) ?_
  refine (HF.out _ (bel _ _)).mono ?_
  rintro e1 w1 ⟨v1, rfl, hv, hb⟩
  have p1 := prev_call hb
  have HV1 := Aside0.mk hv
  obtain ⟨A1, c1, B1, d1, C1, x1, rfl, _, _, _, _, _, _⟩ := hv.side.out
  clear hb hv
  refine ⟨_, rfl, ?_⟩
  refine hK.out _ _ held (fun hHeld => ?_)
  clear hK K
  refine norm_ (a' := ?_) ?_ ?_
  rotate_left
  · show Act.put _ (some 14) _ = _
    simp only [Act.put, List.setIfInBounds_toArray, List.set_cons_zero, List.set_cons_succ, i64_w, i32_w]
    rfl
  refine last_ (i := 7) (N := none) #[true, true, true, true, true, true, true, true, false] rfl rfl (one_of HT_.out (by kernel_rfl)) (by decide) (fun K hK => ?_)
  refine box_skip (by rfl) rfl 24 (.tmp 2) (.tmp 14) rfl held #[.slice A1 t.f0.length c1, .slice B1 t.f1.length d1, .slice C1 t.f2.length x1] rfl rfl info24 (by rfl) (by rfl) ?_
  intro w2 hx2 hg2
  have p2 := prev_row hg2
  have h2 : Go.Proofs.YtjllbkeobibnkaaDoorK.Holds w2 w.heap.size (.cells #[.slice A1 t.f0.length c1, .slice B1 t.f1.length d1, .slice C1 t.f2.length x1] 24) := ⟨hx2⟩
  clear hx2 hg2
  refine hK.out _ _ ?_
  clear hK K
  refine pure_ (i := 8) (N := some 1) (v := ?_) (a' := ?_) #[true, true, true, true, true, true, true, true, true] rfl rfl (any_of HT_.out (by kernel_rfl)) (fun _ _ _ h => h) (Or.inl ⟨by rfl, ?_⟩) ?_ ?_
  rotate_left
  · intro w'
    go_simp
    with_reducible rfl
  rotate_left
  · simp only [Act.put, List.setIfInBounds_toArray, List.set_cons_zero, List.set_cons_succ, i64_w, i32_w]
    rfl
  refine done_ (done_of HT_.out (by kernel_rfl)) ?_
  --END
  go_wp2_with fail
  refine (HC.out _ _ (SideR.x HV1.out).side).mono ?_
  rintro e3 w3 ⟨rfl, hb⟩
  have p3 := prev_call hb
  clear hb
  go_wp2_with fail
  refine (HD.out _ _ (SideR.x HV1.out).side).mono ?_
  rintro e4 w4 ⟨rfl, hb⟩
  have p4 := prev_call hb
  clear hb
  go_wp2_with fail
  refine (HP.out _ _ (SideR.x HV1.out).side).mono ?_
  rintro e5 w5 ⟨rfl, hb⟩
  have p5 := prev_call hb
  clear hb
  go_wp2_with fail
  refine (HQ.out _ _ (SideR.x HV1.out).side).mono ?_
  rintro e6 w6 ⟨rfl, hb⟩
  have p6 := prev_call hb
  clear hb
  go_wp2_with fail
  refine (HW.out _).mono ?_
  rintro e7 w7 ⟨rfl, hb⟩
  have p7 := prev_call hb
  clear hb
  go_wp2_with fail
  go_ret
  exact ⟨rfl, bel _ _⟩
end Go.Proofs.YtjllbkeobibnkaaDoor.Q

namespace Go.Proofs.YtjllbkeobibnkaaDoor.Q
open Go Go.Proofs Go.Shelf Go.RowKit Go.Lib Go.Sort Go.Proofs.YtjllbkeobibnkaaDoorP Go.Proofs.YtjllbkeobibnkaaDoorK Go.Proofs.YtjllbkeobibnkaaDoorW.PrintWords Go.Proofs.YtjllbkeobibnkaaDoorW.PrintLast Go.Proofs.YtjllbkeobibnkaaDoorW.PrintMore
set_option linter.unusedSimpArgs false
set_option linter.unusedVariables false
/-! ### MergeDoes -/
theorem setCell_comm (w : World) (g i j : Nat) (v u : Value) (h : i ≠ j) : (w.setCell ⟨g, i, none⟩ v).setCell ⟨g, j, none⟩ u = (w.setCell ⟨g, j, none⟩ u).setCell ⟨g, i, none⟩ v := by
  have e : ∀ (a b : Value) (x y : Nat), (w.setCell ⟨g, x, none⟩ a).setCell ⟨g, y, none⟩ b = { w with heap := ((w.setCell ⟨g, x, none⟩ a).setCell ⟨g, y, none⟩ b).heap } := fun _ _ _ _ => rfl
  rw [e, e u v j i]
  congr 1
  unfold World.setCell
  apply Array.ext
  · simp only [Array.size_modify]
  · intro k h1 h2
    simp only [Array.getElem_modify]
    split
    · generalize w.heap[k]'_ = o
      cases o <;> simp
      exact Array.setIfInBounds_comm _ _ h
    · rfl
theorem cutB_twice (s : ByteArray) : cutB (cutB s) = cutB s := by
  have h := cutB_size s
  generalize cutB s = r at h ⊢
  unfold cutB
  have hm : (mn (r.size : Int) 110).toNat = r.size := by
    unfold mn
    split <;> omega
  rw [hm, ByteArray.extract_zero_size]
theorem fewL_twice (l : List S58) : fewL (fewL l) = fewL l := by
  unfold fewL
  rw [List.take_of_length_le (by rw [List.length_map, List.length_take]; omega), List.map_map]
  apply List.map_congr_left
  intro x _
  show cutK (cutK x) = cutK x
  unfold cutK
  rw [cutB_twice]
theorem fewS_twice (s : S24) : fewS (fewS s) = fewS s := by
  unfold fewS
  rw [fewL_twice, fewL_twice, fewL_twice]
theorem doS_code (s : S24) (x : S33) (ver : Int) : (doS s x ver).2 = 0 ∨ (doS s x ver).1 = z24 := by
  unfold doS doT
  split
  · split
    · split
      · exact .inr rfl
      · exact .inl rfl
    · exact .inr rfl
  · exact .inr rfl
theorem withS_len (l : List S58) (p : ByteArray) (a : S51) : (withS l p a).length ≤ l.length + 1 := by
  rw [withS_ins]
  have := ins_len p a l
  omega
theorem shortS_mk {s : S24} (h1 : s.f0.length ≤ 1048576) (h2 : s.f1.length ≤ 1048576) (h3 : s.f2.length ≤ 1048576) : shortS s = true := by
  unfold shortS
  simp [h1, h2, h3]
theorem doS_len (s : S24) (x : S33) (ver : Int) (ht : tinyS s = true) : shortS (doS s x ver).1 = true := by
  obtain ⟨t1, t2, t3⟩ := tinyS_open ht
  have f1 := (fewK_open t1).1
  have f2 := (fewK_open t2).1
  have f3 := (fewK_open t3).1
  have hw := fun l a => withS_len l x.f2 a
  have hw3 := fun l a => withS_len l x.f3 a
  have ho := fun l => wo_len l x.f2
  have hz : shortS z24 = true := by decide
  unfold doS doT
  split
  · split
    · split
      · exact hz
      · generalize atS s x.f2 = y
        unfold doG
        dsimp only
        have a1 := hw s.f0 y.r
        have a2 := hw s.f1 y.r
        have a3 := fun a => hw s.f0 a
        have a4 := fun a => hw s.f1 a
        have a5 := fun a => hw s.f2 a
        have a6 := hw3 s.f1 y.l
        have a7 := hw (withS s.f1 x.f3 y.l) y.r
        have b1 := ho s.f0
        have b2 := ho s.f1
        have b3 := ho s.f2
        have a3' := a3 ⟨ver, y.l.f1, y.l.f2⟩
        have a4' := a4 ⟨ver, y.l.f1, y.l.f2⟩
        have a5' := a5 ⟨ver, y.l.f1, y.l.f2⟩
        have a4'' := a4 ⟨y.r.f0, y.l.f1, y.l.f2⟩
        clear a3 a4 a5 hw hw3 ho
        split
        · exact shortS_mk (by dsimp only; omega) (by dsimp only; omega) (by dsimp only; omega)
        · split
          · exact shortS_mk (by dsimp only; omega) (by dsimp only; omega) (by dsimp only; omega)
          · split
            · exact shortS_mk (by dsimp only; omega) (by dsimp only; omega) (by dsimp only; omega)
            · split
              · exact shortS_mk (by dsimp only; omega) (by dsimp only; omega) (by dsimp only; omega)
              · split
                · exact shortS_mk (by dsimp only; omega) (by dsimp only; omega) (by dsimp only; omega)
                · split
                  · exact shortS_mk (by dsimp only; omega) (by dsimp only; omega) (by dsimp only; omega)
                  · exact shortS_mk (by dsimp only; omega) (by dsimp only; omega) (by dsimp only; omega)
    · exact hz
  · exact hz
attribute [local go_sem] min2_mnF min_two cell_held frozen_held
attribute [local go_sem ↓ high] lvx_of
attribute [local go_sem] lv_sc lv24 lv33
--REGWORDS does3
def does3.T3 : Bool × List (List Nat × List Nat) := (true, [([], []), ([0], [0]), ([], []), ([2], [2]), ([3], [3]), ([4], [4]), ([1, 5], [1, 5]), ([], []), ([7], [7]), ([], []), ([9], [9]), ([10], [10]), ([11], [11]), ([8, 12], [8, 12]), ([0, 1, 2, 3, 4, 5, 6, 7, 8, 9, 10], []), ([14, 6, 0, 1, 2, 3, 4, 5, 6, 7, 8, 9, 10], [6, 14]), ([0, 1, 2, 3, 4, 5, 6, 7, 8, 9, 10, 11, 12, 13, 14, 15], []), ([16, 13, 15, 0, 1, 2, 3, 4, 5, 6, 7, 8, 9, 10, 11, 12, 13, 14, 15], [13, 16])])
def does3.B3 : List Nat := [0, 1, 0, 4, 12, 28, 63, 0, 128, 0, 512, 1536, 3584, 8064, 2047, 18431, 65535, 131071]
theorem does3.tab3 : rtab .any (opsOf Tryd.f4 3) = does3.T3 := by kernel_rfl
theorem does3.bits3 : waitsOk does3.T3.2 does3.B3 = true := by kernel_rfl
--END
set_option maxRecDepth 100000 in
set_option maxHeartbeats 4000000 in
theorem does_any (w : World) (s : S24) (v : Array Value) (x : S33) (ver : Int) (hs : SideIn w s v) :
    Calls Tryd.prog 4 #[.agg v, .agg (A33 x), .int .i64 ver] w fun e w' => e = .returned (.bool true) ∧ Below w.heap.size w w' := by
  have HF := Aside0.mk (fun W (hb : Below w.heap.size w W) => Few_any W s v (hs.below hb))
  have ht := fewS_tiny s
  have h2 := fewS_twice s
  generalize fewS s = t at HF ht h2
  have HG := Aside0.mk (fun W v h => Few_any W t v h)
  rw [h2] at HG
  obtain ⟨k, u, p, q⟩ := x
  have hp := cutB_size p
  have hq := cutB_size q
  obtain ⟨m1, m2⟩ := mn_ok p
  obtain ⟨m3, m4⟩ := mn_ok q
  have HD := Aside0.mk (fun W v h => do_any W t v ⟨k, u, cutB p, cutB q⟩ ver h ht (by show (cutB p).size ≤ 32000; omega) (by show (cutB q).size ≤ 32000; omega))
  have HR := Aside0.mk (fun W v h => rdo_any W t v ⟨k, u, cutB p, cutB q⟩ ver h ht (by show (cutB p).size ≤ 32000; omega) (by show (cutB q).size ≤ 32000; omega))
  have hz := doS_code t ⟨k, u, cutB p, cutB q⟩ ver
  have hn := doS_len t ⟨k, u, cutB p, cutB q⟩ ver ht
  generalize doS t ⟨k, u, cutB p, cutB q⟩ ver = dd at HD HR hz hn
  obtain ⟨dt, dc⟩ := dd
  have HS := Aside0.mk (fun W v v' h h' => rsameS_any W dt dt v v' h h' hn hn)
  have HS2 := Aside0.mk (fun W v v' h h' => rsameS_any W t t v v' h h' (okS_short (tinyS_ok ht)) (okS_short (tinyS_ok ht)))
  rw [(sameS_iff dt dt).2 rfl] at HS
  rw [(sameS_iff t t).2 rfl] at HS2
  have HW := Aside0.mk (fun W => works_any W)
  obtain ⟨A, c, B, d, C, e, rfl, l1, l2, l3, h1, h2, h3⟩ := hs.out
  unfold cutB at HD HR
  dsimp only [A33] at HD HR hz ⊢
  clear hs ht hp hq hn l1 l2 l3 h1 h2 h3
  generalize s.f0.length = n0 at *
  generalize s.f1.length = n1 at *
  generalize s.f2.length = n2 at *
  go_enter Tryd.func4, Tryd.ntmps4
  have a10 : Apart (w.heap.size + 1) (.row w.heap.size) := apart_ne (by omega)
  have a01 : Apart w.heap.size (.row (w.heap.size + 1)) := apart_ne (by omega)
  have o0 : OwnB w.heap.size (.row w.heap.size) := own_row (by omega)
  have o1 : OwnB w.heap.size (.row (w.heap.size + 1)) := own_row (by omega)
  go_wp2_with fail
  refine (HF.out _ (bel _ _)).mono ?_
  rintro e1 w1 ⟨v1, rfl, hv, hb⟩
  have p1 := prev_call hb
  have HV1 := Aside0.mk hv
  obtain ⟨A1, c1, B1, d1, C1, x1, rfl, _, _, _, _, _, _⟩ := hv.side.out
  clear hb hv
  go_wp2_with fail
  refine (HG.out _ _ (SideR.x HV1.out).side).mono ?_
  rintro e2 w2 ⟨v2, rfl, hv, hb⟩
  have p2 := prev_call hb
  have HV2 := Aside0.mk hv
  obtain ⟨A2, c2, B2, d2, C2, x2, rfl, _, _, _, _, _, _⟩ := hv.side.out
  clear hb hv
  have s2 : w.heap.size + 1 < w2.heap.size := held_lt (W := w2) (g := w.heap.size + 1)
  have a20 : Apart w.heap.size (.row w2.heap.size) := apart_ne (by omega)
  have a21 : Apart (w.heap.size + 1) (.row w2.heap.size) := apart_ne (by omega)
  have a22 : Apart w2.heap.size (.row (w.heap.size + 1)) := apart_ne (by omega)
  have a23 : Apart w2.heap.size (.row w.heap.size) := apart_ne (by omega)
  have o2 : OwnB w.heap.size (.row w2.heap.size) := own_row (by omega)
  go_wp2_with fail
  --REG does3
  refine start_ (n := 18) (S := fun w' => w'.heap[w.heap.size + 1]? = some (.cells #[.int .i64 k, .int .i64 u, .string p, .string q] 33 (0, 0))) (ds := [15, 17]) #[false, false, false, false, false, false, false, false, false, false, false, false, false, false, false, false, false, false] (by kernel_rfl) rfl rfl held (fun hHeld => ?_); refine with_tabW does3.tab3 does3.bits3 (fun HT_ HW_ => ?_)
  refine pure_ (i := 0) (N := some 16) (v := ?_) (a' := ?_) #[true, false, false, false, false, false, false, false, false, false, false, false, false, false, false, false, false, false] rfl rfl (any_of HT_.out (by kernel_rfl)) (fun _ _ _ h => h) (Or.inl ⟨by rfl, ?_⟩) ?_ ?_
  rotate_left
  · intro w'
    go_simp
    with_reducible rfl
  rotate_left
  · simp only [Act.put, List.setIfInBounds_toArray, List.set_cons_zero, List.set_cons_succ, i64_w, i32_w]
    rfl
  refine pure_ (i := 2) (N := some 18) (v := ?_) (a' := ?_) #[true, false, true, false, false, false, false, false, false, false, false, false, false, false, false, false, false, false] rfl rfl (any_of HT_.out (by kernel_rfl)) (fun _ _ _ h => h) (Or.inl ⟨by rfl, ?_⟩) ?_ ?_
  rotate_left
  · intro w'
    go_simp
    with_reducible rfl
  rotate_left
  · simp only [Act.put, List.setIfInBounds_toArray, List.set_cons_zero, List.set_cons_succ, i64_w, i32_w]
    rfl
  refine pure_ (i := 7) (N := some 23) (v := ?_) (a' := ?_) #[true, false, true, false, false, false, false, true, false, false, false, false, false, false, false, false, false, false] rfl rfl (any_of HT_.out (by kernel_rfl)) (fun _ _ _ h => h) (Or.inl ⟨by rfl, ?_⟩) ?_ ?_
  rotate_left
  · intro w'
    go_simp
    with_reducible rfl
  rotate_left
  · simp only [Act.put, List.setIfInBounds_toArray, List.set_cons_zero, List.set_cons_succ, i64_w, i32_w]
    rfl
  refine pure_ (i := 9) (N := some 25) (v := ?_) (a' := ?_) #[true, false, true, false, false, false, false, true, false, true, false, false, false, false, false, false, false, false] rfl rfl (any_of HT_.out (by kernel_rfl)) (fun _ _ _ h => h) (Or.inl ⟨by rfl, ?_⟩) ?_ ?_
  rotate_left
  · intro w'
    go_simp
    with_reducible rfl
  rotate_left
  · simp only [Act.put, List.setIfInBounds_toArray, List.set_cons_zero, List.set_cons_succ, i64_w, i32_w]
    rfl
  refine take_ (i := 1) (N := some 17) (v := ?_) (a' := ?_) #[true, true, true, false, false, false, false, true, false, true, false, false, false, false, false, false, false, false] rfl rfl (take_ofW HT_.out HW_.out (by kernel_rfl)) (fun _ _ _ h => h) (Or.inl ⟨by rfl, ?_⟩) hHeld ?_ ?_
  rotate_left
  · rintro w' s0
    have i0 : Go.Proofs.YtjllbkeobibnkaaDoorK.Holds w' (w.heap.size + 1) (.cells #[.int .i64 k, .int .i64 u, .string p, .string q] 33) := ⟨s0⟩
    go_simp
    with_reducible rfl
  rotate_left
  · simp only [Act.put, List.setIfInBounds_toArray, List.set_cons_zero, List.set_cons_succ, i64_w, i32_w]
    rfl
  refine take_ (i := 3) (N := some 19) (v := ?_) (a' := ?_) #[true, true, true, true, false, false, false, true, false, true, false, false, false, false, false, false, false, false] rfl rfl (take_ofW HT_.out HW_.out (by kernel_rfl)) (fun _ _ _ h => h) (Or.inl ⟨by rfl, ?_⟩) hHeld ?_ ?_
  rotate_left
  · rintro w' s0
    have i0 : Go.Proofs.YtjllbkeobibnkaaDoorK.Holds w' (w.heap.size + 1) (.cells #[.int .i64 k, .int .i64 u, .string p, .string q] 33) := ⟨s0⟩
    go_simp
    with_reducible rfl
  rotate_left
  · simp only [Act.put, List.setIfInBounds_toArray, List.set_cons_zero, List.set_cons_succ, i64_w, i32_w]
    rfl
  refine pure_ (i := 4) (N := some 20) (v := ?_) (a' := ?_) #[true, true, true, true, true, false, false, true, false, true, false, false, false, false, false, false, false, false] rfl rfl (any_of HT_.out (by kernel_rfl)) (fun _ _ _ h => h) (Or.inl ⟨by rfl, ?_⟩) ?_ ?_
  rotate_left
  · intro w'
    go_simp
    with_reducible rfl
  rotate_left
  · simp only [Act.put, List.setIfInBounds_toArray, List.set_cons_zero, List.set_cons_succ, i64_w, i32_w]
    rfl
  refine pure_ (i := 5) (N := some 21) (v := ?_) (a' := ?_) #[true, true, true, true, true, true, false, true, false, true, false, false, false, false, false, false, false, false] rfl rfl (any_of HT_.out (by kernel_rfl)) (fun _ _ _ h => h) (Or.inl ⟨by rfl, ?_⟩) ?_ ?_
  rotate_left
  · intro w'
    go_simp
    with_reducible rfl
  rotate_left
  · simp only [Act.put, List.setIfInBounds_toArray, List.set_cons_zero, List.set_cons_succ, i64_w, i32_w]
    rfl
  refine pure_ (i := 6) (N := some 22) (v := ?_) (a' := ?_) #[true, true, true, true, true, true, true, true, false, true, false, false, false, false, false, false, false, false] rfl rfl (any_of HT_.out (by kernel_rfl)) (fun _ _ _ h => h) (Or.inl ⟨by rfl, ?_⟩) ?_ ?_
  rotate_left
  · intro w'
    go_simp
    with_reducible rfl
  rotate_left
  · simp only [Act.put, List.setIfInBounds_toArray, List.set_cons_zero, List.set_cons_succ, i64_w, i32_w]
    rfl
  refine take_ (i := 8) (N := some 24) (v := ?_) (a' := ?_) #[true, true, true, true, true, true, true, true, true, true, false, false, false, false, false, false, false, false] rfl rfl (take_ofW HT_.out HW_.out (by kernel_rfl)) (fun _ _ _ h => h) (Or.inl ⟨by rfl, ?_⟩) hHeld ?_ ?_
  rotate_left
  · rintro w' s0
    have i0 : Go.Proofs.YtjllbkeobibnkaaDoorK.Holds w' (w.heap.size + 1) (.cells #[.int .i64 k, .int .i64 u, .string p, .string q] 33) := ⟨s0⟩
    go_simp
    with_reducible rfl
  rotate_left
  · simp only [Act.put, List.setIfInBounds_toArray, List.set_cons_zero, List.set_cons_succ, i64_w, i32_w]
    rfl
  refine take_ (i := 10) (N := some 26) (v := ?_) (a' := ?_) #[true, true, true, true, true, true, true, true, true, true, true, false, false, false, false, false, false, false] rfl rfl (take_ofW HT_.out HW_.out (by kernel_rfl)) (fun _ _ _ h => h) (Or.inl ⟨by rfl, ?_⟩) hHeld ?_ ?_
  rotate_left
  · rintro w' s0
    have i0 : Go.Proofs.YtjllbkeobibnkaaDoorK.Holds w' (w.heap.size + 1) (.cells #[.int .i64 k, .int .i64 u, .string p, .string q] 33) := ⟨s0⟩
    go_simp
    with_reducible rfl
  rotate_left
  · simp only [Act.put, List.setIfInBounds_toArray, List.set_cons_zero, List.set_cons_succ, i64_w, i32_w]
    rfl
  refine pure_ (i := 11) (N := some 27) (v := ?_) (a' := ?_) #[true, true, true, true, true, true, true, true, true, true, true, true, false, false, false, false, false, false] rfl rfl (any_of HT_.out (by kernel_rfl)) (fun _ _ _ h => h) (Or.inl ⟨by rfl, ?_⟩) ?_ ?_
  rotate_left
  · intro w'
    go_simp
    with_reducible rfl
  rotate_left
  · simp only [Act.put, List.setIfInBounds_toArray, List.set_cons_zero, List.set_cons_succ, i64_w, i32_w]
    rfl
  refine pure_ (i := 12) (N := some 28) (v := ?_) (a' := ?_) #[true, true, true, true, true, true, true, true, true, true, true, true, true, false, false, false, false, false] rfl rfl (any_of HT_.out (by kernel_rfl)) (fun _ _ _ h => h) (Or.inl ⟨by rfl, ?_⟩) ?_ ?_
  rotate_left
  · intro w'
    go_simp
    with_reducible rfl
  rotate_left
  · simp only [Act.put, List.setIfInBounds_toArray, List.set_cons_zero, List.set_cons_succ, i64_w, i32_w]
    rfl
  refine pure_ (i := 13) (N := some 29) (v := ?_) (a' := ?_) #[true, true, true, true, true, true, true, true, true, true, true, true, true, true, false, false, false, false] rfl rfl (any_of HT_.out (by kernel_rfl)) (fun _ _ _ h => h) (Or.inl ⟨by rfl, ?_⟩) ?_ ?_
  rotate_left
  · intro w'
    go_simp
    with_reducible rfl
  rotate_left
  · simp only [Act.put, List.setIfInBounds_toArray, List.set_cons_zero, List.set_cons_succ, i64_w, i32_w]
    rfl
  refine pure_ (i := 14) (N := some 30) (v := ?_) (a' := ?_) #[true, true, true, true, true, true, true, true, true, true, true, true, true, true, true, false, false, false] rfl rfl (any_of HT_.out (by kernel_rfl)) (fun _ _ _ h => h) (Or.inl ⟨by rfl, ?_⟩) ?_ ?_
  rotate_left
  · intro w'
    go_simp
    with_reducible rfl
  rotate_left
  · simp only [Act.put, List.setIfInBounds_toArray, List.set_cons_zero, List.set_cons_succ, i64_w, i32_w]
    rfl
  refine last_ (i := 15) (N := none) #[true, true, true, true, true, true, true, true, true, true, true, true, true, true, true, true, false, false] rfl rfl (one_of HT_.out (by kernel_rfl)) (by decide) (fun K hK => ?_)
  refine skip_ (by rfl) rfl (by go_simp; rfl) ?_
  refine hK.out _ _ ?_
  clear hK K
  refine pure_ (i := 16) (N := some 31) (v := ?_) (a' := ?_) #[true, true, true, true, true, true, true, true, true, true, true, true, true, true, true, true, true, false] rfl rfl (any_of HT_.out (by kernel_rfl)) (fun _ _ _ h => h) (Or.inl ⟨by rfl, ?_⟩) ?_ ?_
  rotate_left
  · intro w'
    go_simp
    with_reducible rfl
  rotate_left
  · simp only [Act.put, List.setIfInBounds_toArray, List.set_cons_zero, List.set_cons_succ, i64_w, i32_w]
    rfl
  refine last_ (i := 17) (N := none) #[true, true, true, true, true, true, true, true, true, true, true, true, true, true, true, true, true, true] rfl rfl (one_of HT_.out (by kernel_rfl)) (by decide) (fun K hK => ?_)
  refine skip_ (by rfl) rfl (by go_simp; rfl) ?_
  refine hK.out _ _ ?_
  clear hK K
  refine done_ (done_of HT_.out (by kernel_rfl)) ?_
  --END
  go_wp2_with fail
  have X1 := Aside0.mk (SideR.x (w' := w2) HV1.out)
  clear HV1
  have HV1 := X1
  clear X1
  refine (HD.out _ _ (SideR.x HV1.out).side).mono ?_
  rintro e3 w3 ⟨v3, rfl, hv, hb⟩
  have p3 := prev_call hb
  have HV3 := Aside0.mk hv
  obtain ⟨A3, c3, B3, d3, C3, x3, rfl, _, _, _, _, _, _⟩ := hv.out
  have X1 := Aside0.mk (SideR.x (w' := w3) HV1.out)
  have X2 := Aside0.mk (SideR.x (w' := w3) HV2.out)
  have s3 : w2.heap.size < w3.heap.size := held_lt (W := w3) (g := w2.heap.size)
  clear hb hv HV1 HV2
  have a30 : Apart w.heap.size (.row w3.heap.size) := apart_ne (by omega)
  have a31 : Apart (w.heap.size + 1) (.row w3.heap.size) := apart_ne (by omega)
  have a32 : Apart w2.heap.size (.row w3.heap.size) := apart_ne (by omega)
  have o3 : OwnB w.heap.size (.row w3.heap.size) := own_row (by omega)
  go_wp2_with fail
  refine (HR.out _ _ (SideR.x X1.out).side).mono ?_
  rintro e4 w4 ⟨v4, rfl, hv, hb⟩
  have p4 := prev_call hb
  have HV4 := Aside0.mk hv
  obtain ⟨A4, c4, B4, d4, C4, x4, rfl, _, _, _, _, _, _⟩ := hv.out
  have HV1 := Aside0.mk (SideR.x (w' := w4) X1.out)
  have HV2 := Aside0.mk (SideR.x (w' := w4) X2.out)
  have s4 : w3.heap.size < w4.heap.size := held_lt (W := w4) (g := w3.heap.size)
  clear hb hv X1 X2
  have a40 : Apart w.heap.size (.row w4.heap.size) := apart_ne (by omega)
  have a41 : Apart (w.heap.size + 1) (.row w4.heap.size) := apart_ne (by omega)
  have a42 : Apart w2.heap.size (.row w4.heap.size) := apart_ne (by omega)
  have a43 : Apart w3.heap.size (.row w4.heap.size) := apart_ne (by omega)
  have o4 : OwnB w.heap.size (.row w4.heap.size) := own_row (by omega)
  have o43 : OwnB w3.heap.size (.row w4.heap.size) := own_row (by omega)
  have o44 : OwnB w4.heap.size (.row w4.heap.size) := own_row (by omega)
  have o33 : OwnB w3.heap.size (.row w3.heap.size) := own_row (by omega)
  by_cases hdc : dc = 0
  · subst hdc
    go_wp2_with fail
    refine (HS.out _ _ _ (SideIn.below HV3.out (bel w3 _)) (SideIn.below HV4.out (bel w4 _))).mono ?_
    rintro e5 w5 ⟨rfl, hb⟩
    have p5 := prev_call hb
    clear hb
    go_wp2_with fail
    refine (HS2.out _ _ _ (SideR.x HV1.out).side (SideR.x HV2.out).side).mono ?_
    rintro e6 w6 ⟨rfl, hb⟩
    have p6 := prev_call hb
    clear hb
    go_wp2_with fail
    refine (HW.out _).mono ?_
    rintro e7 w7 ⟨rfl, hb⟩
    have p7 := prev_call hb
    clear hb
    go_wp2_with fail
    go_ret
    exact ⟨rfl, bel _ _⟩
  · have hdt : dt = z24 := by
      rcases hz with h | h
      · exact absurd h hdc
      · exact h
    subst hdt
    have hdb : (dc == 0) = false := beq_eq_false_iff_ne.mpr hdc
    have hdn : (dc != 0) = true := by rw [bne, hdb]; rfl
    go_wp2_with fail
    refine (HS.out _ _ _ (SideIn.below HV3.out (bel w3 _)) (SideIn.ofRow (Row.nil _) (Row.nil _) (Row.nil _))).mono ?_
    rintro e5 w5 ⟨rfl, hb⟩
    have p5 := prev_call hb
    clear hb
    go_wp2_with fail
    refine (HS2.out _ _ _ (SideR.x HV1.out).side (SideR.x HV2.out).side).mono ?_
    rintro e6 w6 ⟨rfl, hb⟩
    have p6 := prev_call hb
    clear hb
    go_wp2_with fail
    refine (HW.out _).mono ?_
    rintro e7 w7 ⟨rfl, hb⟩
    have p7 := prev_call hb
    clear hb
    go_wp2_with fail
    go_ret
    exact ⟨rfl, bel _ _⟩
end Go.Proofs.YtjllbkeobibnkaaDoor.Q

namespace Go.Proofs.YtjllbkeobibnkaaDoor.mergeDoes
open Go.ChangeShapes Go.WideShapes Go.ChangeAt Go.RowKit Go.Proofs.YtjllbkeobibnkaaDoorK Go.Proofs.YtjllbkeobibnkaaDoorW.PrintWords Go.Proofs.YtjllbkeobibnkaaDoor.Q
open Go.ChangeMaps (open_string shut_string)
set_option linter.unusedVariables false
theorem own : ownKnob Tryd.prog.godebug = none := by kernel_rfl
theorem laidOut : laidOutB Tryd.prog = true := by kernel_rfl
set_option maxRecDepth 100000 in
theorem lifted (os : Os) (started : os.Started) (H : Type) (enc : TypeId × Value → H) :
    ReturnsInHanded {} Tryd.checked os 4 .any (fun w args => (Rows.mergeDoesSpec.pre enc Tryd.prog Tryd.f4 Rows.mergeDoesRow.domain false w args ∧ laidMetH Tryd.prog Rows.mergeDoesRow.laid w) ∧ sizedMet enc Tryd.prog Tryd.f4 (OpenSpec.ofChange Rows.mergeDoesSpec) false w args) (Rows.mergeDoesSpec.post enc Tryd.prog Tryd.f4 false true false false) := by
  refine returnsInHanded_of_change_and (C := Tryd.checked) (X := fun w _ => laidMetH Tryd.prog Rows.mergeDoesRow.laid w) (fun _ _ _ hh h => h.of_heap hh) own started (by kernel_rfl) Tryd.func4
    (ChangeSpec.witness_shaped (enc := enc) (C := Tryd.checked) (os := os) (X := fun w _ => laidMetH Tryd.prog Rows.mergeDoesRow.laid w) false (World.laidAll Tryd.prog os Rows.mergeDoesRow.laid) #[.agg #[.slice none 0 0, .slice none 0 0, .slice none 0 0], .agg #[.int .i64 0, .int .i64 0, .string ByteArray.empty, .string ByteArray.empty], .int .i64 0] 8 (World.laidAll_os _ _ _)
      (World.shaped_of_ZipB (by kernel_rfl) (by kernel_rfl)) (by kernel_rfl) (by kernel_rfl) (by kernel_rfl)
      (by rw [MakeChecks.laidMetH_plain _ _ _ (by kernel_rfl)]; exact laidMet_laidAll _ (by kernel_rfl) (by kernel_rfl))) ?_
  intro W base args ds gs before hval0 hW hcnd hsz0 _ _
  have hsz : (DataW.weightsEach Tryd.prog (Tryd.f4.params.toList ++ Rows.mergeDoesSpec.plain.varTypes Tryd.prog) (ds ++ gs)).all (· ≤ reachBytes) = true := hsz0
  have hval : ∀ (j : Nat) t v, Tryd.f4.params[j]? = some t → args[j]? = some v → Value.okWide Tryd.prog W .any base t v := hval0
  have hW' := hW
  obtain ⟨p, q, hA0, hV, rfl, hfz, hnd⟩ := hW
  have hA : DataW.TrodAll enc Tryd.prog W 0 (fun _ => true) true Tryd.f4.params.toList args.toList ds p := hA0
  rw [Tryd.params4] at hA hval hsz
  obtain ⟨v0, vs0, d0, ds0, p0, q0, hargs, rfl, rfl, h0, r0⟩ := trodAll_cons hA
  obtain ⟨v1, vs1, d1, ds1, p1, q1, rfl, rfl, rfl, h1, r1⟩ := trodAll_cons r0
  obtain ⟨v2, vs2, d2, ds2, p2, q2, rfl, rfl, rfl, h2, r2⟩ := trodAll_cons r1
  obtain ⟨rfl, rfl, rfl⟩ := trodAll_nil r2
  obtain rfl : args = #[v0, v1, v2] := by cases args; simp_all
  obtain ⟨rfl, rfl⟩ := trodVars_none hV
  obtain ⟨cs0, rfl, hz0⟩ := okWide_struct Tryd.underlying24 (hval 0 24 v0 rfl rfl)
  have k0 := h0
  have lt0 : ∀ x ∈ p0, x.block < W.heap.size := by obtain ⟨m, hm⟩ := k0; exact DataW.trod_lt m _ _ _ hm
  obtain ⟨x0, hK0, _⟩ : ∃ x, k24.K W x cs0.toList ∧ True := by
    obtain ⟨fuel, hf⟩ := h0
    exact opens24 _ _ _ _ _ _ _ _ _ hf
  have hS0 := k24_side hK0
  obtain ⟨cs1, rfl, hz1⟩ := okWide_struct Tryd.underlying33 (hval 1 33 v1 rfl rfl)
  have k1 := h1
  have lt1 : ∀ x ∈ p1, x.block < W.heap.size := by obtain ⟨m, hm⟩ := k1; exact DataW.trod_lt m _ _ _ hm
  obtain ⟨x1, hK1, _⟩ : ∃ x, k33.K W x cs1.toList ∧ True := by
    obtain ⟨fuel, hf⟩ := h1
    exact opens33 _ _ _ _ _ _ _ _ _ hf
  obtain rfl := k33_open hK1
  obtain ⟨a2, rfl, rfl, rfl, w2⟩ := open_int Tryd.underlying3 (hval 2 3 v2 rfl rfl) h2
  clear hA0 hval0 hsz0 hsz
  refine (does_any W x0 _ x1 a2 hS0).mono fun e W' he0 => ?_
  obtain ⟨rfl, bel0⟩ := he0
  have bel : Below W.heap.size W W' := bel0
  exact ⟨_, rfl, _, _, _, [], _, [], hW', trodAll_mk1 (shut_bool Tryd.underlying4 _), (trodAll_cons_mk (Below.trod laidOut (by kernel_rfl) (of_decide_eq_true (by kernel_rfl)) k0 bel lt0) (trodAll_cons_mk (Below.trod laidOut (by kernel_rfl) (of_decide_eq_true (by kernel_rfl)) k1 bel lt1) (trodAll_cons_mk (shut_int Tryd.underlying3 w2) trodAll_mk0))), rfl, bel.frame _, fun h => by cases h⟩
theorem over : Rows.mergeDoesRow.holds Tryd.pinned (OpenSpec.ofChange Rows.mergeDoesSpec) :=
  OpenClaim.holds_of_wide 4 Tryd.f4 rfl rfl rfl rfl rfl rfl rfl ⟨rfl, rfl, rfl, rfl, rfl⟩ rfl rfl rfl rfl rfl (by kernel_rfl) Tryd.func4 (by kernel_rfl)
    (of_decide_eq_true (by kernel_rfl)) (by unfold Func.isWrapper; first | (rw [if_pos (by decide +kernel)]; kernel_rfl) | (rw [if_neg (by decide +kernel)]; exact ⟨rfl, rfl⟩))
    (fun os started H enc _ => lifted os started H enc)
theorem card : Rows.MergeDoesCardSaid :=
  Claim7.holds_tied_plain_at .later [] [.data, .pinned] true (true, "78899013b187db133d03f13ef116ebf99bfe5271257e851bcb492081257ec2bb") false over (fun _ h => by cases h) (by kernel_rfl) (fun _ h => by cases h) mergeDoes_row_tie rfl ⟨rfl, rfl⟩ (by kernel_rfl) rfl
    (fun f fn hf hfn => by
      obtain rfl : f = 4 := Option.some.inj ((show Tryd.prog.funcNamed "aquifer/aquiferlaw28.MergeDoes" = some 4 by kernel_rfl).symm.trans hf) |>.symm
      obtain rfl : fn = Tryd.f4 := (Option.some.inj (Tryd.func4.symm.trans hfn)).symm
      exact ⟨by kernel_rfl, fun j t ht => by
        rw [Tryd.params4] at ht
        have hm : t ∈ [24, 33, 3] := by simpa using Array.mem_of_getElem? ht
        have hall : ([24, 33, 3].all fun u => !Tryd.prog.wantsStandIn u) = true := by kernel_rfl
        exact (show Tryd.prog.wantsStandIn t = false by simpa using List.all_eq_true.1 hall t hm)⟩)
    (by kernel_rfl)
theorem proved : Rows.MergeDoesCardSaid := card
#print axioms proved
end Go.Proofs.YtjllbkeobibnkaaDoor.mergeDoes
namespace Go.Proofs.YtjllbkeobibnkaaDoor
/-- The card, under a short name, for the claim. -/
theorem mergeDoes_holds : Rows.MergeDoesCardSaid := mergeDoes.proved
end Go.Proofs.YtjllbkeobibnkaaDoor
