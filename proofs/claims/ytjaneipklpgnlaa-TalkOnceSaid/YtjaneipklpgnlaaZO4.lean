/-
What is proved: aquifer/aquiferlaw20.TalkOnce answers true for every input, and leaves its arguments as they were.
-/
import Derived.Test.YtjaneipklpgnlaaZO3
import Derived.RegionTactic
import Derived.Test.YtjaneipklpgnlaaZO1
import Derived.Test.YtjaneipklpgnlaaRows
import Derived.WalkKit
import Derived.ProofKit
import Derived.OpenShut
import Derived.ShutString
import Derived.ChangeOld
import Derived.Below
import Derived.SizedLaws
namespace Go.Proofs.Ytjaneipklpgnlaa.Q
open Go Go.RowKit Go.Proofs.YtjaneipklpgnlaaK Go.Proofs.YtjaneipklpgnlaaW.PrintWords Go.Proofs.YtjaneipklpgnlaaW.PrintLast Go.Proofs.YtjaneipklpgnlaaW.PrintMore
set_option linter.unusedSimpArgs false
set_option linter.unusedVariables false
/-! ### Are changes, answers, alike -/
def eqC (x y : S81) : Bool := x.f0 == y.f0 && (x.f1.toList == y.f1.toList && (x.f2 == y.f2 && (x.f3 == y.f3 && x.f4.l == y.f4.l)))
theorem A81_cut (x : S81) : ((A81 x).extract 4 36).toList = sumL x.f4 := by
  have h := sumL_len x.f4
  simp [A81, L81, List.extract]
  rw [List.take_of_length_le (by omega)]
theorem part79 (w : World) (xs : Array Value) : (part 79 xs 4).run Try.prog w = .ok (.agg (xs.extract 4 36)) w := by
  obtain ⟨i, hi, hs⟩ := Option.map_eq_some_iff.1 info79
  unfold part isAgg
  simp [Sem.run_bind, run_underlying Try.underlying79, sizeOf, typeInfo, hi, hs]
attribute [local go_sem] A81_size A81_0 A81_1 A81_2 A81_3 A81_g0 A81_g1 A81_g2 A81_g3 cell_held frozen_held
theorem eqA81 (d : Nat) (w : World) (x y : S81) : (Op.equalIn (d + 3) 81 (.agg (A81 x)) (.agg (A81 y))).run Try.prog w = .ok (eqC x y) w := by
  obtain ⟨i0, hi, _⟩ := info_parts info5
  refine eqA_of Try.underlying81 (by kernel_rfl) ?_
  refine eqf_cons (by rfl) (by go_simp; rfl) (by go_simp; rfl) (by go_simp) ?_
  refine eqf_cons (by rfl) (by go_simp; rfl) (by go_simp; rfl) (by go_simp) ?_
  refine eqf_cons (by rfl) (by go_simp; rfl) (by go_simp; rfl) (by go_simp) ?_
  refine eqf_cons (by rfl) (by go_simp; rfl) (by go_simp; rfl) (by go_simp) ?_
  exact eqf_last (by rfl) (part79 _ _) (part79 _ _) (eq_sum d Try.underlying79 Try.underlying5 (by kernel_rfl) hi _ _ x.f4 y.f4 (A81_cut x) (A81_cut y))
theorem eqC_iff (x y : S81) : eqC x y = true ↔ x = y := by
  obtain ⟨x0, x1, x2, x3, x4⟩ := x
  obtain ⟨y0, y1, y2, y3, y4⟩ := y
  simp only [eqC, Bool.and_eq_true, beq_iff_eq, S81.mk.injEq]
  constructor
  · rintro ⟨h0, h1, h2, h3, h4⟩
    refine ⟨h0, ?_, h2, h3, Sum.eq h4⟩
    rw [ByteArray.toList_eq, ByteArray.toList_eq] at h1
    exact Go.WideShapes.bytes_inj h1
  · rintro ⟨rfl, rfl, rfl, rfl, rfl⟩
    exact ⟨rfl, rfl, rfl, rfl, rfl⟩
/-- A change lies at ad. -/
class Loads (W : World) (ad : Addr) (x : outParam S81) : Prop where
  out : At W ad (L81 x)
instance (W : World) (ad : Addr) (x : S81) [h : Loads W ad x] : Loads W.drew ad x := ⟨h.out⟩
instance (W : World) (n : Nat) (ad : Addr) (x : S81) [h : Loads W ad x] : Loads (W.drewN n) ad x := ⟨At_below h.out (pw_below_drewN (Below.refl _ _) n)⟩
theorem load81 {W : World} {ad : Addr} {x : S81} [h : Loads W ad x] : (loadVar 81 ad).run Try.prog W = .ok (.agg (A81 x)) W :=
  run_loadVar_at h.out Try.underlying81 rfl (by rw [L81_len]; exact info81)
attribute [local go_sem ↓] load81
attribute [local go_sem high] eqA81
def sameC : List S81 → List S81 → Bool
  | [], [] => true
  | x :: l, y :: m => eqC x y && sameC l m
  | _, _ => false
theorem sameC_iff (l : List S81) : ∀ m, sameC l m = true ↔ l = m := by
  induction l with
  | nil => intro m; cases m <;> simp [sameC]
  | cons x l ih => intro m; cases m <;> simp [sameC, eqC_iff, ih]
theorem sameC_len (l : List S81) : ∀ m, l.length ≠ m.length → sameC l m = false := by
  intro m h
  rw [Bool.eq_false_iff]
  intro e
  rw [sameC_iff] at e
  exact h (by rw [e])
set_option maxRecDepth 100000 in
set_option maxHeartbeats 2000000 in
theorem same_any (w : World) (A B : Option Addr) (c d : Nat) (l m : List S81) (hA : k81.C w A l.length l) (hB : k81.C w B m.length m) (hl : l.length ≤ 1048576) (hm : m.length ≤ 1048576) :
    Calls Try.prog 52 #[.slice A l.length c, .slice B m.length d] w fun e w' => e = .returned (.bool (sameC l m)) ∧ Below w.heap.size w w' := by
  have HA := Aside0.mk hA
  have HB := Aside0.mk hB
  clear hA hB
  by_cases hlm : l.length = m.length
  · have hlb : ((l.length : Int) == (m.length : Int)) = true := beq_iff_eq.mpr (by omega)
    have HS := Aside0.mk (Below.refl w.heap.size w)
    have HLM := Aside0.mk hlm
    rw [← hlm]
    clear hlm hm hlb
    go_enter Try.func52, Try.ntmps52
    go_wp2_with fail
    go_loopw [5] (fun i wr => ∃ j : Nat, j ≤ l.length ∧ i = .int .i64 (j : Int) ∧ Aside0 (sameC (l.drop j) (m.drop j) = sameC l m) ∧ Aside0 (Below w.heap.size w wr)) (fun i _ => l.length - (intOf i).toNat)
    case atStart => exact ⟨0, Nat.zero_le _, rfl, ⟨rfl⟩, HS⟩
    case round =>
      obtain ⟨j, hj, rfl, HI, HBr⟩ := hrel
      have pr := prev_above HBr.out
      by_cases hlt : j < l.length
      · have hlt2 : j < m.length := by have := HLM.out; omega
        obtain ⟨ad, e, x0⟩ := C81_at HA.out j hlt
        subst e
        obtain ⟨bd, e, y0⟩ := C81_at HB.out j hlt2
        subst e
        have hI := HI.out
        rw [List.drop_eq_getElem_cons hlt, List.drop_eq_getElem_cons hlt2] at hI
        generalize l[j] = x at x0 hI
        generalize m[j] = y at y0 hI
        have X : Loads wr (ad.add (j * 36)) x := ⟨At_below x0 HBr.out⟩
        have Y : Loads wr (bd.add (j * 36)) y := ⟨At_below y0 HBr.out⟩
        clear x0 y0 hlt2
        simp only [sameC] at hI
        cases hq : eqC x y
        · rw [hq, Bool.false_and] at hI
          have HI' := Aside0.mk hI
          clear hI HI
          go_wp2_with fail
          refine wp_region_quiet_lit (by kernel_rfl) (by kernel_rfl) ?_
          quiet_step (fail)
          quiet_step (fail)
          quiet_step (fail)
          refine wpQuiet_step (fun K hK => ?_)
          refine quiet_load (ad := ad.add (j * 36)) (by rfl) 81 (.tmp 19) rfl (A81 x) rfl (fun w h => by obtain ⟨n, rfl⟩ := h; exact Loads.out) (by rfl) Try.underlying81 rfl (by rw [L81_len]; exact info81) ?_
          refine hK _ ?_
          clear hK K
          quiet_step (fail)
          quiet_step (fail)
          quiet_step (fail)
          refine wpQuiet_step (fun K hK => ?_)
          refine quiet_load (ad := bd.add (j * 36)) (by rfl) 81 (.tmp 23) rfl (A81 y) rfl (fun w h => by obtain ⟨n, rfl⟩ := h; exact Loads.out) (by rfl) Try.underlying81 rfl (by rw [L81_len]; exact info81) ?_
          refine hK _ ?_
          clear hK K
          quiet_step (fail)
          refine wpQuiet_nil ?_
          rintro _ ⟨nq, rfl⟩
          go_wp2_with fail
          go_ret
          exact ⟨by rw [← HI'.out]; rfl, bel _ _⟩
        · rw [hq, Bool.true_and] at hI
          have HI' := Aside0.mk hI
          clear hI HI
          go_wp2_with fail
          refine wp_region_quiet_lit (by kernel_rfl) (by kernel_rfl) ?_
          quiet_step (fail)
          quiet_step (fail)
          quiet_step (fail)
          refine wpQuiet_step (fun K hK => ?_)
          refine quiet_load (ad := ad.add (j * 36)) (by rfl) 81 (.tmp 19) rfl (A81 x) rfl (fun w h => by obtain ⟨n, rfl⟩ := h; exact Loads.out) (by rfl) Try.underlying81 rfl (by rw [L81_len]; exact info81) ?_
          refine hK _ ?_
          clear hK K
          quiet_step (fail)
          quiet_step (fail)
          quiet_step (fail)
          refine wpQuiet_step (fun K hK => ?_)
          refine quiet_load (ad := bd.add (j * 36)) (by rfl) 81 (.tmp 23) rfl (A81 y) rfl (fun w h => by obtain ⟨n, rfl⟩ := h; exact Loads.out) (by rfl) Try.underlying81 rfl (by rw [L81_len]; exact info81) ?_
          refine hK _ ?_
          clear hK K
          quiet_step (fail)
          refine wpQuiet_nil ?_
          rintro _ ⟨nq, rfl⟩
          go_wp2_with fail
          go_roundw
          case rel => exact ⟨j + 1, by omega, by go_num, HI', ⟨bel _ _⟩⟩
          case measure => simp [intOf]; omega
      · have hI := HI.out
        rw [List.drop_of_length_le (by omega), List.drop_of_length_le (by have := HLM.out; omega)] at hI
        have HI' := Aside0.mk hI
        clear hI HI
        go_wp2_with fail
        go_ret
        exact ⟨by rw [← HI'.out]; rfl, bel _ _⟩
  · rw [sameC_len l m hlm]
    have hlb : ((l.length : Int) == (m.length : Int)) = false := beq_eq_false_iff_ne.mpr (by omega)
    clear hlm
    go_enter Try.func52, Try.ntmps52
    go_wp2_with fail
    go_ret
    exact ⟨rfl, bel _ _⟩
def sameA (a b : S42) : Bool := a.f0 == b.f0 && (a.f1 == b.f1 && (a.f2 == b.f2 && (a.f3 == b.f3 && (a.f4.toList == b.f4.toList && sameC a.f5 b.f5))))
theorem sameA_iff (a b : S42) : sameA a b = true ↔ a = b := by
  obtain ⟨a0, a1, a2, a3, a4, a5⟩ := a
  obtain ⟨b0, b1, b2, b3, b4, b5⟩ := b
  simp only [sameA, Bool.and_eq_true, beq_iff_eq, S42.mk.injEq, sameC_iff]
  constructor
  · rintro ⟨h0, h1, h2, h3, h4, h5⟩
    rw [ByteArray.toList_eq, ByteArray.toList_eq] at h4
    exact ⟨h0, h1, h2, h3, Go.WideShapes.bytes_inj h4, h5⟩
  · rintro ⟨rfl, rfl, rfl, rfl, rfl, rfl⟩
    exact ⟨rfl, rfl, rfl, rfl, rfl, rfl⟩
set_option maxRecDepth 100000 in
set_option maxHeartbeats 4000000 in
theorem sameA_any (w : World) (a b : S42) (A B : Option Addr) (c d : Nat) (hA : k81.C w A a.f5.length a.f5) (hB : k81.C w B b.f5.length b.f5) (hl : a.f5.length ≤ 1048576) (hm : b.f5.length ≤ 1048576) :
    Calls Try.prog 23 #[ansV a A c, ansV b B d] w fun e w' => e = .returned (.bool (sameA a b)) ∧ Below w.heap.size w w' := by
  have hu42 := Try.underlying42
  have HA := Aside0.mk hA
  have HB := Aside0.mk hB
  clear hA hB
  unfold sameA
  cases h0 : (a.f0 == b.f0)
  · rw [Bool.false_and]
    go_enter Try.func23, Try.ntmps23
    go_wp2_with fail
    go_ret
    exact ⟨rfl, bel _ _⟩
  · rw [Bool.true_and]
    cases h1 : (a.f1 == b.f1)
    · rw [Bool.false_and]
      go_enter Try.func23, Try.ntmps23
      go_wp2_with fail
      go_ret
      exact ⟨rfl, bel _ _⟩
    · rw [Bool.true_and]
      cases h2 : (a.f2 == b.f2)
      · rw [Bool.false_and]
        go_enter Try.func23, Try.ntmps23
        go_wp2_with fail
        go_ret
        exact ⟨rfl, bel _ _⟩
      · rw [Bool.true_and]
        cases h3 : (a.f3 == b.f3)
        · rw [Bool.false_and]
          go_enter Try.func23, Try.ntmps23
          go_wp2_with fail
          go_ret
          exact ⟨rfl, bel _ _⟩
        · rw [Bool.true_and]
          cases h4 : (a.f4.toList == b.f4.toList)
          · rw [Bool.false_and]
            go_enter Try.func23, Try.ntmps23
            go_wp2_with fail
            go_ret
            exact ⟨rfl, bel _ _⟩
          · rw [Bool.true_and]
            go_enter Try.func23, Try.ntmps23
            go_wp2_with fail
            refine (same_any _ A B c d a.f5 b.f5 ?hA ?hB hl hm).mono ?_
            case hA => exact Kd.C_below HA.out (bel _ _)
            case hB => exact Kd.C_below HB.out (bel _ _)
            rintro e w1 ⟨rfl, hb⟩
            have p1 := prev_call hb
            clear hb
            go_wp2_with fail
            go_ret
            exact ⟨rfl, bel _ _⟩
end Go.Proofs.Ytjaneipklpgnlaa.Q

namespace Go.Proofs.Ytjaneipklpgnlaa.Q
open Go Go.RowKit Go.Proofs.YtjaneipklpgnlaaK Go.Proofs.YtjaneipklpgnlaaW.PrintWords Go.Proofs.YtjaneipklpgnlaaW.PrintLast Go.Proofs.YtjaneipklpgnlaaW.PrintMore
attribute [local go_sem ↓] Go.Proofs.YtjaneipklpgnlaaK.isSome_setCell
attribute [local go_sem high] eqA23
attribute [local go_sem] min2_mn min_two cell_held frozen_held
set_option linter.unusedSimpArgs false
set_option linter.unusedVariables false
def cut9 (s : ByteArray) : ByteArray := s.extract 0 (mn (s.size : Int) 9000).toNat
theorem mn9_ok (s : ByteArray) : 0 ≤ mn (s.size : Int) 9000 ∧ mn (s.size : Int) 9000 ≤ (s.size : Int) := by unfold mn; split <;> omega
def back.T1 : Bool × List (List Nat × List Nat) := (true, [([], []), ([0], [0]), ([], []), ([2, 1], [2]), ([], []), ([], []), ([5], [5]), ([6], [6]), ([4, 7], [4, 7]), ([1, 3, 0, 1], [1]), ([3, 9, 0, 1, 2, 3, 9], [3]), ([8, 10, 0, 1, 2, 3, 4, 5, 6, 7, 8, 9, 10], [4, 5, 8])])
def back.B1 : List Nat := [0, 1, 0, 7, 0, 0, 32, 96, 240, 15, 527, 2047]
theorem back.tab1 : rtab .any (opsOf Try.f6 1) = back.T1 := by kernel_rfl
theorem back.bits1 : waitsOk back.T1.2 back.B1 = true := by kernel_rfl
set_option maxRecDepth 100000 in
set_option maxHeartbeats 4000000 in
theorem back_walk (w : World) (x q y : S23) (a b z : S42) (A : Option Addr) (c : Nat) (s s1 t u : ByteArray) (e f g h : Int) (hs1 : cut9 s = s1) (hc : k81.C w A a.f5.length a.f5)
    (hfw : ∀ W, Calls Try.prog 8 #[aggR x] W fun e w' => e = .returned (aggR q) ∧ Below W.heap.size W w')
    (hfa : ∀ W A c, k81.C W A a.f5.length a.f5 → Calls Try.prog 16 #[ansV a A c] W fun e w' => ∃ v, e = .returned (ansW b v) ∧ Kd.R k81 81 w' W.heap.size (fun _ => True) v b.f5 ∧ Below W.heap.size W w')
    (hrq : ∀ W, Calls Try.prog 9 #[aggR q] W fun r w' => r = .returned (.tuple #[.string t, .int .i64 e]) ∧ Below W.heap.size W w')
    (hr1 : e = 0 → ∀ W, Calls Try.prog 11 #[.string t] W fun r w' => r = .returned (.tuple #[aggR q, .int .i64 0]) ∧ Below W.heap.size W w')
    (han : ∀ W A c, k81.C W A b.f5.length b.f5 → Calls Try.prog 17 #[ansV b A c] W fun r w' => r = .returned (.tuple #[.string u, .int .i64 f]) ∧ Below W.heap.size W w')
    (ha1 : f = 0 → ∀ W, Calls Try.prog 19 #[.string u] W fun r w' => ∃ v, r = .returned (.tuple #[ansW b v, .int .i64 0]) ∧ Kd.R k81 81 w' W.heap.size (fun _ => True) v b.f5 ∧ Below W.heap.size W w')
    (hr2 : ∀ W, Calls Try.prog 11 #[.string s1] W fun r w' => r = .returned (.tuple #[aggR y, .int .i64 g]) ∧ Below W.heap.size W w')
    (hq2 : g = 0 → ∀ W, Calls Try.prog 9 #[aggR y] W fun r w' => r = .returned (.tuple #[.string s1, .int .i64 0]) ∧ Below W.heap.size W w')
    (ha2 : ∀ W, Calls Try.prog 19 #[.string s1] W fun r w' => ∃ v, r = .returned (.tuple #[ansW z v, .int .i64 h]) ∧ Kd.R k81 81 w' W.heap.size (fun _ => True) v z.f5 ∧ Below W.heap.size W w')
    (hbl : b.f5.length ≤ 1048576)
    (hn2 : h = 0 → ∀ W A c, k81.C W A z.f5.length z.f5 → Calls Try.prog 17 #[ansV z A c] W fun r w' => r = .returned (.tuple #[.string s1, .int .i64 0]) ∧ Below W.heap.size W w') :
    Calls Try.prog 6 #[aggR x, ansV a A c, .string s] w fun e w' => e = .returned (.bool true) ∧ Below w.heap.size w w' := by
  have hu23 := Try.underlying23
  have hu42 := Try.underlying42
  obtain ⟨m1, m2⟩ := mn9_ok s
  have HC := Aside0.mk hc
  have HFW := Aside0.mk hfw
  have HFA := Aside0.mk hfa
  have HRQ := Aside0.mk hrq
  have HR1 := Aside0.mk hr1
  have HAN := Aside0.mk han
  have HA1 := Aside0.mk ha1
  have HR2 := Aside0.mk hr2
  have HQ2 := Aside0.mk hq2
  have HA2 := Aside0.mk ha2
  have HN2 := Aside0.mk hn2
  have HS1 := Aside0.mk hs1
  have hsm := fun (W : World) (A B : Option Addr) (c d : Nat) (h1 : k81.C W A b.f5.length b.f5) (h2 : k81.C W B b.f5.length b.f5) => sameA_any W b b A B c d h1 h2 hbl hbl
  rw [(sameA_iff b b).mpr rfl] at hsm
  have HSM := Aside0.mk hsm
  clear hsm hbl
  clear hc hfw hfa hrq hr1 han ha1 hr2 hq2 ha2 hn2 hs1
  go_enter Try.func6, Try.ntmps6
  go_wp2_with fail
  refine start_ (n := 12) (S := fun w' => w'.heap[w.heap.size]? = some (.cells #[.int .i64 x.f0, .int .i64 x.f1, .int .i64 x.f2, .int .i64 x.f3, .int .i64 x.f4, .int .i64 x.f5, .string x.f6, .string x.f7] 23 (0, 0)) ∧ w'.heap[w.heap.size + 1]? = some (.cells #[.int .i64 a.f0, .int .i64 a.f1, .int .i64 a.f2, .int .i64 a.f3, .string a.f4, .slice A a.f5.length c] 42 (0, 0))) (ds := [9, 10]) #[false, false, false, false, false, false, false, false, false, false, false, false] (by kernel_rfl) rfl rfl ⟨held, held⟩ (fun hHeld => ?_); refine with_tabW back.tab1 back.bits1 (fun HT_ HW_ => ?_)
  refine pure_ (i := 4) (N := some 27) (v := ?_) (a' := ?_) #[false, false, false, false, true, false, false, false, false, false, false, false] rfl rfl (any_of HT_.out (by kernel_rfl)) (fun _ _ _ h => h) (Or.inl ⟨by rfl, ?_⟩) ?_ ?_
  rotate_left
  · intro w'
    go_simp
    with_reducible rfl
  rotate_left
  · simp only [Act.put, List.setIfInBounds_toArray, List.set_cons_zero, List.set_cons_succ, i64_w, i32_w]
    rfl
  refine pure_ (i := 5) (N := some 28) (v := ?_) (a' := ?_) #[false, false, false, false, true, true, false, false, false, false, false, false] rfl rfl (any_of HT_.out (by kernel_rfl)) (fun _ _ _ h => h) (Or.inl ⟨by rfl, ?_⟩) ?_ ?_
  rotate_left
  · intro w'
    go_simp
    with_reducible rfl
  rotate_left
  · simp only [Act.put, List.setIfInBounds_toArray, List.set_cons_zero, List.set_cons_succ, i64_w, i32_w]
    rfl
  refine pure_ (i := 6) (N := some 29) (v := ?_) (a' := ?_) #[false, false, false, false, true, true, true, false, false, false, false, false] rfl rfl (any_of HT_.out (by kernel_rfl)) (fun _ _ _ h => h) (Or.inl ⟨by rfl, ?_⟩) ?_ ?_
  rotate_left
  · intro w'
    go_simp
    with_reducible rfl
  rotate_left
  · simp only [Act.put, List.setIfInBounds_toArray, List.set_cons_zero, List.set_cons_succ, i64_w, i32_w]
    rfl
  refine pure_ (i := 7) (N := some 30) (v := ?_) (a' := ?_) #[false, false, false, false, true, true, true, true, false, false, false, false] rfl rfl (any_of HT_.out (by kernel_rfl)) (fun _ _ _ h => h) (Or.inl ⟨by rfl, ?_⟩) ?_ ?_
  rotate_left
  · intro w'
    go_simp
    with_reducible rfl
  rotate_left
  · simp only [Act.put, List.setIfInBounds_toArray, List.set_cons_zero, List.set_cons_succ, i64_w, i32_w]
    rfl
  refine pure_ (i := 8) (N := some 31) (v := ?_) (a' := ?_) #[false, false, false, false, true, true, true, true, true, false, false, false] rfl rfl (any_of HT_.out (by kernel_rfl)) (fun _ _ _ h => h) (Or.inl ⟨by rfl, ?_⟩) ?_ ?_
  rotate_left
  · intro w'
    go_simp
    with_reducible rfl
  rotate_left
  · simp only [Act.put, List.setIfInBounds_toArray, List.set_cons_zero, List.set_cons_succ, i64_w, i32_w]
    rfl
  refine take_ (i := 0) (N := some 23) (v := ?_) (a' := ?_) #[true, false, false, false, true, true, true, true, true, false, false, false] rfl rfl (take_ofW HT_.out HW_.out (by kernel_rfl)) (fun _ _ _ h => h) (Or.inl ⟨by rfl, ?_⟩) hHeld ?_ ?_
  rotate_left
  · rintro w' ⟨s0, s1⟩
    have i0 : Holds w' w.heap.size (.cells #[.int .i64 x.f0, .int .i64 x.f1, .int .i64 x.f2, .int .i64 x.f3, .int .i64 x.f4, .int .i64 x.f5, .string x.f6, .string x.f7] 23) := ⟨s0⟩
    have i1 : Holds w' (w.heap.size + 1) (.cells #[.int .i64 a.f0, .int .i64 a.f1, .int .i64 a.f2, .int .i64 a.f3, .string a.f4, .slice A a.f5.length c] 42) := ⟨s1⟩
    go_simp
    with_reducible rfl
  rotate_left
  · simp only [Act.put, List.setIfInBounds_toArray, List.set_cons_zero, List.set_cons_succ, i64_w, i32_w]
    rfl
  refine take_ (i := 2) (N := some 25) (v := ?_) (a' := ?_) #[true, false, true, false, true, true, true, true, true, false, false, false] rfl rfl (take_ofW HT_.out HW_.out (by kernel_rfl)) (fun _ _ _ h => h) (Or.inl ⟨by rfl, ?_⟩) hHeld ?_ ?_
  rotate_left
  · rintro w' ⟨s0, s1⟩
    have i0 : Holds w' w.heap.size (.cells #[.int .i64 x.f0, .int .i64 x.f1, .int .i64 x.f2, .int .i64 x.f3, .int .i64 x.f4, .int .i64 x.f5, .string x.f6, .string x.f7] 23) := ⟨s0⟩
    have i1 : Holds w' (w.heap.size + 1) (.cells #[.int .i64 a.f0, .int .i64 a.f1, .int .i64 a.f2, .int .i64 a.f3, .string a.f4, .slice A a.f5.length c] 42) := ⟨s1⟩
    go_simp
    with_reducible rfl
  rotate_left
  · simp only [Act.put, List.setIfInBounds_toArray, List.set_cons_zero, List.set_cons_succ, i64_w, i32_w]
    rfl
  refine one_ (i := 1) (N := some 24) #[true, true, true, false, true, true, true, true, true, false, false, false] rfl rfl (one_of HT_.out (by kernel_rfl)) (by decide) (fun K hK => ?_)
  refine goes_ Try.func8 (by kernel_rfl) rfl #[aggR x] (by rfl) rfl rfl (by (try simp only [List.map_toArray, List.map_cons, List.map_nil]); first | done | rfl) ?_
  refine (HFW.out _).mono ?_
  rintro e1 w1 ⟨rfl, hb⟩
  have p1 := prev_call hb
  clear hb
  refine ⟨_, rfl, ?_⟩
  refine hK.out _ _ ⟨held, held⟩ (fun hHeld => ?_)
  clear hK K
  refine norm_ (a' := ?_) ?_ ?_
  rotate_left
  · show Act.put _ (some 24) _ = _
    simp only [Act.put, List.setIfInBounds_toArray, List.set_cons_zero, List.set_cons_succ, i64_w, i32_w]
    rfl
  refine one_ (i := 3) (N := some 26) #[true, true, true, true, true, true, true, true, true, false, false, false] rfl rfl (one_of HT_.out (by kernel_rfl)) (by decide) (fun K hK => ?_)
  refine goes_ Try.func16 (by kernel_rfl) rfl #[ansV a A c] (by rfl) rfl rfl (by (try simp only [List.map_toArray, List.map_cons, List.map_nil]); first | done | rfl) ?_
  refine (HFA.out _ A c ?hC).mono ?_
  case hC => exact Kd.C_below HC.out (bel _ _)
  rintro e2 w2 ⟨v, rfl, hv, hb⟩
  have p2 := prev_call hb
  have hv := Kd.R_lower hv (siz w w1)
  obtain ⟨Ab, cb, rfl⟩ := Kd.R_slice hv
  have HV := Aside0.mk hv
  clear hv hb
  refine ⟨_, rfl, ?_⟩
  refine hK.out _ _ ⟨held, held⟩ (fun hHeld => ?_)
  clear hK K
  refine norm_ (a' := ?_) ?_ ?_
  rotate_left
  · show Act.put _ (some 26) _ = _
    simp only [Act.put, List.setIfInBounds_toArray, List.set_cons_zero, List.set_cons_succ, i64_w, i32_w]
    rfl
  refine last_ (i := 9) (N := none) #[true, true, true, true, true, true, true, true, true, true, false, false] rfl rfl (one_of HT_.out (by kernel_rfl)) (by decide) (fun K hK => ?_)
  refine box_skip (by rfl) rfl 23 (.tmp 3) (.tmp 24) rfl held #[.int .i64 q.f0, .int .i64 q.f1, .int .i64 q.f2, .int .i64 q.f3, .int .i64 q.f4, .int .i64 q.f5, .string q.f6, .string q.f7] rfl rfl info23 (by rfl) (by rfl) ?_
  intro w3 hx3 hg3
  have p3 := prev_row hg3
  have h3 : Holds w3 w.heap.size (.cells #[.int .i64 q.f0, .int .i64 q.f1, .int .i64 q.f2, .int .i64 q.f3, .int .i64 q.f4, .int .i64 q.f5, .string q.f6, .string q.f7] 23) := ⟨hx3⟩
  have a3 : Apart (w.heap.size + 1) (.row w.heap.size) := apart_ne (by omega)
  have n3 : NoRow (81 :: k81.E) w2 (.row w.heap.size) := noRow_row held (by decide)
  clear hx3 hg3
  refine hK.out _ _ ?_
  clear hK K
  refine last_ (i := 10) (N := none) #[true, true, true, true, true, true, true, true, true, true, true, false] rfl rfl (one_of HT_.out (by kernel_rfl)) (by decide) (fun K hK => ?_)
  refine box_skip (by rfl) rfl 42 (.tmp 4) (.tmp 26) rfl held #[.int .i64 b.f0, .int .i64 b.f1, .int .i64 b.f2, .int .i64 b.f3, .string b.f4, .slice Ab b.f5.length cb] rfl rfl info42 (by rfl) (by rfl) ?_
  intro w4 hx4 hg4
  have p4 := prev_row hg4
  have h4 : Holds w4 (w.heap.size + 1) (.cells #[.int .i64 b.f0, .int .i64 b.f1, .int .i64 b.f2, .int .i64 b.f3, .string b.f4, .slice Ab b.f5.length cb] 42) := ⟨hx4⟩
  have n4 : NoRow (81 :: k81.E) w3 (.row (w.heap.size + 1)) := noRow_row held (by decide)
  clear hx4 hg4
  refine hK.out _ _ ?_
  clear hK K
  refine pure_ (i := 11) (N := some 2) (v := ?_) (a' := ?_) #[true, true, true, true, true, true, true, true, true, true, true, true] rfl rfl (any_of HT_.out (by kernel_rfl)) (fun _ _ _ h => h) (Or.inl ⟨by rfl, ?_⟩) ?_ ?_
  rotate_left
  · intro w'
    go_simp
    with_reducible rfl
  rotate_left
  · simp only [Act.put, List.setIfInBounds_toArray, List.set_cons_zero, List.set_cons_succ, i64_w, i32_w]
    rfl
  refine done_ (done_of HT_.out (by kernel_rfl)) ?_
  have s4 := held_lt (W := w4) (g := w.heap.size + 1)
  have HV4 : Aside0 (Kd.R k81 81 w4 w.heap.size (fun _ => True) (.slice Ab b.f5.length cb) b.f5) := Aside0.mk (rowK HV.out)
  have HQB : Aside0 (w4.heap[w.heap.size]? = some (.cells #[.int .i64 q.f0, .int .i64 q.f1, .int .i64 q.f2, .int .i64 q.f3, .int .i64 q.f4, .int .i64 q.f5, .string q.f6, .string q.f7] 23 (0, 0))) := ⟨held⟩
  have hs1 := HS1.out
  unfold cut9 at hs1
  rw [hs1]
  clear hs1 HS1
  go_wp2_with fail
  refine (HRQ.out _).mono ?_
  rintro e5 w5 ⟨rfl, hb⟩
  have p5 := prev_call hb
  clear hb
  by_cases he : e = 0
  case' pos =>
    subst he
    have HR1' := Aside0.mk (HR1.out rfl)
    clear HR1
    go_wp2_with fail
    refine (HR1'.out _).mono ?_
    rintro e6 w6 ⟨rfl, hb⟩
    have p6 := prev_call hb
    have s6 := held_lt (W := w6) (g := w.heap.size + 1)
    have a6 : Apart w.heap.size (.row w6.heap.size) := apart_ne (by omega)
    have b6 : Apart (w.heap.size + 1) (.row w6.heap.size) := apart_ne (by omega)
    have o6 : OwnB w.heap.size (.row w6.heap.size) := own_row (by omega)
    have r6 : OwnB w4.heap.size (.row w6.heap.size) := own_row (bel w4 w6).size
    clear hb
    go_wp2_with (first
      | ((with_reducible refine gate_dst (N := 9) rfl ?_); refine new_event rfl (N := 9) rfl (ob := .cells #[.int .i64 0, .int .i64 0, .int .i64 0, .int .i64 0, .int .i64 0, .int .i64 0, .string ⟨#[]⟩, .string ⟨#[]⟩] 23) (by go_simp; rfl) ?_; intro w7 p7 h7)
      | (refine box_store rfl rfl 23 (.tmp 9) (.tmp 42) rfl held #[.int .i64 q.f0, .int .i64 q.f1, .int .i64 q.f2, .int .i64 q.f3, .int .i64 q.f4, .int .i64 q.f5, .string q.f6, .string q.f7] rfl rfl info23 (by rfl) (by rfl) ?_
         intro w8 hx8 hg8
         have p8 := prev_row hg8
         have h8 : Holds w8 w6.heap.size (.cells #[.int .i64 q.f0, .int .i64 q.f1, .int .i64 q.f2, .int .i64 q.f3, .int .i64 q.f4, .int .i64 q.f5, .string q.f6, .string q.f7] 23) := ⟨hx8⟩
         clear hx8 hg8)
      | (refine box_load rfl 23 (.tmp 9) rfl held rfl hu23 rfl info23 ?_)
      | (refine box_load rfl 23 (.tmp 3) rfl held rfl hu23 rfl info23 ?_))
  case' neg =>
    have hz1 : (e == 0) = false := beq_eq_false_iff_ne.mpr he
    go_wp2_with fail
  all_goals
    refine (HAN.out _ Ab cb ?hC).mono ?_
    case hC => exact (Kd.R_reads' (rowB HV4.out (bel w4 _))).2.2
    rintro r9 w9 ⟨rfl, hb⟩
    have p9 := prev_call hb
    clear hb
    by_cases hf : f = 0
    case' pos =>
      subst hf
      have HA1' := Aside0.mk (HA1.out rfl)
      clear HA1
      go_wp2_with fail
      refine (HA1'.out _).mono ?_
      rintro r10 w10 ⟨v10, rfl, hv10, hb⟩
      have p10 := prev_call hb
      obtain ⟨Ac, cc, rfl⟩ := Kd.R_slice hv10
      have HV10 := Aside0.mk hv10
      have s10 := held_lt (W := w10) (g := w.heap.size + 1)
      have a10 : Apart w.heap.size (.row w10.heap.size) := apart_ne (by omega)
      have b10 : Apart (w.heap.size + 1) (.row w10.heap.size) := apart_ne (by omega)
      have o10 : OwnB w.heap.size (.row w10.heap.size) := own_row (by omega)
      have r10 : OwnB w4.heap.size (.row w10.heap.size) := own_row (bel w4 w10).size
      clear hb hv10
      go_wp2_with (first
        | ((with_reducible refine gate_dst (N := 13) rfl ?_); refine new_event rfl (N := 13) rfl (ob := .cells Z42 42) (by go_simp; rfl) ?_; intro w11 p11 h11)
        | (refine box_store rfl rfl 42 (.tmp 13) (.tmp 61) rfl held #[.int .i64 b.f0, .int .i64 b.f1, .int .i64 b.f2, .int .i64 b.f3, .string b.f4, .slice Ac b.f5.length cc] rfl rfl info42 (by rfl) (by rfl) ?_
           intro w12 hx12 hg12
           have p12 := prev_row hg12
           have h12 : Holds w12 w10.heap.size (.cells #[.int .i64 b.f0, .int .i64 b.f1, .int .i64 b.f2, .int .i64 b.f3, .string b.f4, .slice Ac b.f5.length cc] 42) := ⟨hx12⟩
           clear hx12 hg12)
        | (refine box_load rfl 42 (.tmp 13) rfl held rfl hu42 rfl info42 ?_)
        | (refine box_load rfl 42 (.tmp 4) rfl held rfl hu42 rfl info42 ?_))
      refine (HSM.out _ Ac Ab cc cb ?hC ?hD).mono ?_
      case hC => exact (Kd.R_reads' (rowB HV10.out (bel w10 _))).2.2
      case hD => exact (Kd.R_reads' (rowB HV4.out (bel w4 _))).2.2
      rintro r13 w13 ⟨rfl, hb⟩
      have p13 := prev_call hb
      clear hb
      go_wp2_with fail
    case' neg =>
      have hz2 : (f == 0) = false := beq_eq_false_iff_ne.mpr hf
      go_wp2_with fail
  all_goals
    refine (HR2.out _).mono ?_
    rintro r14 w14 ⟨rfl, hb⟩
    have p14 := prev_call hb
    clear hb
    have s14 := held_lt (W := w14) (g := w.heap.size + 1)
    have a14 : Apart w.heap.size (.row w14.heap.size) := apart_ne (by omega)
    have b14 : Apart (w.heap.size + 1) (.row w14.heap.size) := apart_ne (by omega)
    have o14 : OwnB w.heap.size (.row w14.heap.size) := own_row (by omega)
    by_cases hg0 : g = 0
    case' pos =>
      subst hg0
      have HQ2' := Aside0.mk (HQ2.out rfl)
      clear HQ2
      go_wp2_with (first
        | ((with_reducible refine gate_dst (N := 15) rfl ?_); refine new_event rfl (N := 15) rfl (ob := .cells #[.int .i64 0, .int .i64 0, .int .i64 0, .int .i64 0, .int .i64 0, .int .i64 0, .string ⟨#[]⟩, .string ⟨#[]⟩] 23) (by go_simp; rfl) ?_; intro w15 p15 h15)
        | (refine box_store rfl rfl 23 (.tmp 15) (.tmp 74) rfl held #[.int .i64 y.f0, .int .i64 y.f1, .int .i64 y.f2, .int .i64 y.f3, .int .i64 y.f4, .int .i64 y.f5, .string y.f6, .string y.f7] rfl rfl info23 (by rfl) (by rfl) ?_
           intro w16 hx16 hg16
           have p16 := prev_row hg16
           have h16 : Holds w16 w14.heap.size (.cells #[.int .i64 y.f0, .int .i64 y.f1, .int .i64 y.f2, .int .i64 y.f3, .int .i64 y.f4, .int .i64 y.f5, .string y.f6, .string y.f7] 23) := ⟨hx16⟩
           clear hx16 hg16)
        | (refine box_load rfl 23 (.tmp 15) rfl held rfl hu23 rfl info23 ?_))
      refine (HQ2'.out _).mono ?_
      rintro r17 w17 ⟨rfl, hb⟩
      have p17 := prev_call hb
      clear hb
      go_wp2_with fail
    case' neg =>
      have hz3 : (g == 0) = false := beq_eq_false_iff_ne.mpr hg0
      go_wp2_with (first
        | ((with_reducible refine gate_dst (N := 15) rfl ?_); refine new_event rfl (N := 15) rfl (ob := .cells #[.int .i64 0, .int .i64 0, .int .i64 0, .int .i64 0, .int .i64 0, .int .i64 0, .string ⟨#[]⟩, .string ⟨#[]⟩] 23) (by go_simp; rfl) ?_; intro w15 p15 h15)
        | (refine box_store rfl rfl 23 (.tmp 15) (.tmp 74) rfl held #[.int .i64 y.f0, .int .i64 y.f1, .int .i64 y.f2, .int .i64 y.f3, .int .i64 y.f4, .int .i64 y.f5, .string y.f6, .string y.f7] rfl rfl info23 (by rfl) (by rfl) ?_
           intro w16 hx16 hg16
           have p16 := prev_row hg16
           have h16 : Holds w16 w14.heap.size (.cells #[.int .i64 y.f0, .int .i64 y.f1, .int .i64 y.f2, .int .i64 y.f3, .int .i64 y.f4, .int .i64 y.f5, .string y.f6, .string y.f7] 23) := ⟨hx16⟩
           clear hx16 hg16))
  all_goals
    refine (HA2.out _).mono ?_
    rintro r18 w18 ⟨v18, rfl, hv18, hb⟩
    have p18 := prev_call hb
    obtain ⟨Ad, cd, rfl⟩ := Kd.R_slice hv18
    have HV18 := Aside0.mk hv18
    have s18 := held_lt (W := w18) (g := w.heap.size + 1)
    have o18 : OwnB w.heap.size (.row w18.heap.size) := own_row (by omega)
    clear hb hv18
    by_cases hh0 : h = 0
    case' pos =>
      subst hh0
      have HN2' := Aside0.mk (HN2.out rfl)
      clear HN2
      go_wp2_with (first
        | ((with_reducible refine gate_dst (N := 19) rfl ?_); refine new_event rfl (N := 19) rfl (ob := .cells Z42 42) (by go_simp; rfl) ?_; intro w19 p19 h19)
        | (refine box_store rfl rfl 42 (.tmp 19) (.tmp 93) rfl held #[.int .i64 z.f0, .int .i64 z.f1, .int .i64 z.f2, .int .i64 z.f3, .string z.f4, .slice Ad z.f5.length cd] rfl rfl info42 (by rfl) (by rfl) ?_
           intro w20 hx20 hg20
           have p20 := prev_row hg20
           have h20 : Holds w20 w18.heap.size (.cells #[.int .i64 z.f0, .int .i64 z.f1, .int .i64 z.f2, .int .i64 z.f3, .string z.f4, .slice Ad z.f5.length cd] 42) := ⟨hx20⟩
           clear hx20 hg20)
        | (refine box_load rfl 42 (.tmp 19) rfl held rfl hu42 rfl info42 ?_))
      refine (HN2'.out _ Ad cd ?hC).mono ?_
      case hC => exact (Kd.R_reads' (rowB HV18.out (bel w18 _))).2.2
      rintro r21 w21 ⟨rfl, hb⟩
      have p21 := prev_call hb
      clear hb
      go_wp2_with fail
    case' neg =>
      have hz4 : (h == 0) = false := beq_eq_false_iff_ne.mpr hh0
      go_wp2_with (first
        | ((with_reducible refine gate_dst (N := 19) rfl ?_); refine new_event rfl (N := 19) rfl (ob := .cells Z42 42) (by go_simp; rfl) ?_; intro w19 p19 h19)
        | (refine box_store rfl rfl 42 (.tmp 19) (.tmp 93) rfl held #[.int .i64 z.f0, .int .i64 z.f1, .int .i64 z.f2, .int .i64 z.f3, .string z.f4, .slice Ad z.f5.length cd] rfl rfl info42 (by rfl) (by rfl) ?_
           intro w20 hx20 hg20
           have p20 := prev_row hg20
           have h20 : Holds w20 w18.heap.size (.cells #[.int .i64 z.f0, .int .i64 z.f1, .int .i64 z.f2, .int .i64 z.f3, .string z.f4, .slice Ad z.f5.length cd] 42) := ⟨hx20⟩
           clear hx20 hg20))
  all_goals
    refine (works_any _).mono ?_
    rintro r22 w22 ⟨rfl, hb⟩
    have p22 := prev_call hb
    clear hb
    go_wp2_with fail
    go_ret
    exact ⟨rfl, bel _ _⟩
end Go.Proofs.Ytjaneipklpgnlaa.Q

namespace Go.Proofs.Ytjaneipklpgnlaa.Q
open Go Go.RowKit Go.Proofs.YtjaneipklpgnlaaK Go.Proofs.YtjaneipklpgnlaaW.PrintWords Go.Proofs.YtjaneipklpgnlaaW.PrintLast Go.Proofs.YtjaneipklpgnlaaW.PrintMore
set_option linter.unusedSimpArgs false
set_option linter.unusedVariables false
/-! ### What is written of a change, of an answer, is read as it was -/
theorem rec_enc (c : S81) (h : (recS c).2 = 0) : encGo (recL c) 0 [] = ((recS c).1, 0) := by
  unfold recS at h ⊢
  split at h
  · simp at h
  · rename_i hn
    rw [if_neg hn]
    exact Prod.ext rfl h
theorem sumOf_sumS (s : Sum) : sumOf (sumS s) = s := by
  apply Sum.eq
  simp only [sumOf, sumS]
  rw [List.take_append_of_le_length (by rw [s.h]; exact Nat.le_refl _), List.take_of_length_le (by rw [s.h]; exact Nat.le_refl _)]
theorem sumOf_nil : sumOf ⟨#[]⟩ = sum0 := by
  apply Sum.eq
  rfl
theorem getT_none {L : List S84} {t : Int} (h : ∀ f ∈ L, f.f0 ≠ t) : getT L t = ⟨#[]⟩ := by
  unfold getT textsOf
  rw [none_of h]
  rfl
theorem unrL_recL (c : S81) (h : chgOk c = true) : unrL (recL c) = c := by
  obtain ⟨k, s, g, n, m⟩ := c
  unfold chgOk at h
  simp only [Bool.and_eq_true, Bool.or_eq_true] at h
  have hg := h.2
  have t1 := layN1_tags 1 k
  have t2 := layT1_tags 2 s
  have t4 := layN1_tags 4 n
  cases g
  · have t3 := layN1_tags 3 0
    have t5 := layT1_tags 5 (sumS m)
    have hL : recL ⟨k, s, false, n, m⟩ = layN 1 [k] ++ (layT 2 [s] ++ (layN 3 [0] ++ (layN 4 [n] ++ (layT 5 [sumS m] ++ [])))) := by
      simp only [recL, layN, layT, List.append_nil, List.append_assoc]
      rfl
    have B5 : tagsIn 6 64 ([] : List S84) := tagsIn_nil _ _
    have B4 := tagsIn_append (lo := 5) (hi := 64) (tagsIn_mono t5 (by omega) (by omega)) (tagsIn_mono B5 (by omega) (by omega))
    have B3 := tagsIn_append (lo := 4) (hi := 64) (tagsIn_mono t4 (by omega) (by omega)) (tagsIn_mono B4 (by omega) (by omega))
    have B2 := tagsIn_append (lo := 3) (hi := 64) (tagsIn_mono t3 (by omega) (by omega)) (tagsIn_mono B3 (by omega) (by omega))
    have B1 := tagsIn_append (lo := 2) (hi := 64) (tagsIn_mono t2 (by omega) (by omega)) (tagsIn_mono B2 (by omega) (by omega))
    rw [hL]
    unfold unrL
    rw [getN_lay (tags_ne B1 (by omega)),
      getT_skip (tags_ne t1 (by omega)), getT_lay (tags_ne B2 (by omega)),
      getN_skip (tags_ne t1 (by omega)), getN_skip (tags_ne t2 (by omega)), getN_lay (tags_ne B3 (by omega)),
      getN_skip (tags_ne t1 (by omega)), getN_skip (tags_ne t2 (by omega)), getN_skip (tags_ne t3 (by omega)), getN_lay (tags_ne B4 (by omega)),
      getT_skip (tags_ne t1 (by omega)), getT_skip (tags_ne t2 (by omega)), getT_skip (tags_ne t3 (by omega)), getT_skip (tags_ne t4 (by omega)), getT_lay (tags_ne B5 (by omega)), sumOf_sumS]
    rfl
  · have t3 := layN1_tags 3 1
    have hm : m = sum0 := by
      simp only [Bool.not_true, Bool.false_eq_true, false_or, Bool.and_eq_true, beq_iff_eq] at hg
      exact Sum.eq hg.2
    subst hm
    have hL : recL ⟨k, s, true, n, sum0⟩ = layN 1 [k] ++ (layT 2 [s] ++ (layN 3 [1] ++ (layN 4 [n] ++ []))) := by
      simp only [recL, layN, layT, List.append_nil, List.append_assoc, if_pos, if_true, ite_true]
      rfl
    have B4 : tagsIn 5 64 ([] : List S84) := tagsIn_nil _ _
    have B3 := tagsIn_append (lo := 4) (hi := 64) (tagsIn_mono t4 (by omega) (by omega)) (tagsIn_mono B4 (by omega) (by omega))
    have B2 := tagsIn_append (lo := 3) (hi := 64) (tagsIn_mono t3 (by omega) (by omega)) (tagsIn_mono B3 (by omega) (by omega))
    have B1 := tagsIn_append (lo := 2) (hi := 64) (tagsIn_mono t2 (by omega) (by omega)) (tagsIn_mono B2 (by omega) (by omega))
    rw [hL]
    unfold unrL
    rw [getN_lay (tags_ne B1 (by omega)),
      getT_skip (tags_ne t1 (by omega)), getT_lay (tags_ne B2 (by omega)),
      getN_skip (tags_ne t1 (by omega)), getN_skip (tags_ne t2 (by omega)), getN_lay (tags_ne B3 (by omega)),
      getN_skip (tags_ne t1 (by omega)), getN_skip (tags_ne t2 (by omega)), getN_skip (tags_ne t3 (by omega)), getN_lay (tags_ne B4 (by omega)),
      getT_skip (tags_ne t1 (by omega)), getT_skip (tags_ne t2 (by omega)), getT_skip (tags_ne t3 (by omega)), getT_skip (tags_ne t4 (by omega)), getT_none (by simp), sumOf_nil]
    rfl
theorem unr_rec (c : S81) (h : chgOk c = true) (h0 : (recS c).2 = 0) : unrS (recS c).1 = c := by
  have hd : decS (recS c).1 = (recL c, 0) := (dec_enc _ _).2 (rec_enc c h0)
  unfold unrS
  rw [hd]
  exact unrL_recL c h
/-- An answer's fields. -/
def ansL (a : S42) : List S84 := ansL0 a ++ a.f5.map fun c => fldT 6 (recS c).1
theorem ansGo_ok (l : List S81) : ∀ L : List S84, (ansGo l L).2 = 0 → (∀ c ∈ l, (recS c).2 = 0) ∧ encGo (L ++ l.map fun c => fldT 6 (recS c).1) 0 [] = ((ansGo l L).1, 0) := by
  induction l with
  | nil =>
    intro L h
    refine ⟨by simp, ?_⟩
    simp only [List.map_nil, List.append_nil]
    exact Prod.ext rfl h
  | cons c l ih =>
    intro L h
    simp only [ansGo] at h ⊢
    by_cases hc : (recS c).2 = 0
    · rw [if_pos hc] at h ⊢
      obtain ⟨h1, h2⟩ := ih _ h
      refine ⟨?_, ?_⟩
      · intro d hd
        rcases List.mem_cons.1 hd with rfl | hd
        · exact hc
        · exact h1 d hd
      · rw [List.append_assoc] at h2
        exact h2
    · rw [if_neg hc] at h
      exact absurd h hc
theorem ans_ok (a : S42) (h : (ansS a).2 = 0) : ansOk a = true := by
  cases hk : ansOk a with
  | true => rfl
  | false =>
    unfold ansS at h
    rw [hk] at h
    simp at h
theorem ans_enc (a : S42) (h : (ansS a).2 = 0) : (∀ c ∈ a.f5, (recS c).2 = 0) ∧ encGo (ansL a) 0 [] = ((ansS a).1, 0) := by
  have hk := ans_ok a h
  unfold ansS at h ⊢
  rw [if_pos hk] at h ⊢
  exact ansGo_ok a.f5 (ansL0 a) h
theorem texts_skip {A B : List S84} {t : Int} (h : ∀ f ∈ A, f.f0 ≠ t) : textsOf (A ++ B) t = textsOf B t := by
  unfold textsOf
  rw [List.filter_append, none_of h, List.nil_append]
theorem texts_all (l : List S81) : textsOf (l.map fun c => fldT 6 (recS c).1) 6 = l.map fun c => (recS c).1 := by
  unfold textsOf
  rw [List.filter_eq_self.2]
  · rw [List.map_map]
    rfl
  · intro f hf
    obtain ⟨c, _, rfl⟩ := List.mem_map.1 hf
    rfl
theorem ansOf_ansL (a : S42) (hk : ansOk a = true) (hr : ∀ c ∈ a.f5, (recS c).2 = 0) : ansOf (ansL a) = a := by
  have hc : ∀ c ∈ a.f5, chgOk c = true := by
    unfold ansOk at hk
    simp only [Bool.and_eq_true, Bool.not_eq_true', List.any_eq_false, Bool.not_eq_true', Bool.not_eq_false] at hk
    intro c h
    have := hk.2 c h
    simpa using this
  obtain ⟨k, x, y, z, s, l⟩ := a
  have hL : ansL ⟨k, x, y, z, s, l⟩ = layN 1 [k] ++ (layN 2 [x] ++ (layN 3 [y] ++ (layN 4 [z] ++ (layT 5 [s] ++ (l.map fun c => fldT 6 (recS c).1))))) := by
    simp only [ansL, ansL0, layN, layT, List.append_nil, List.append_assoc]
    rfl
  have t1 := layN1_tags 1 k
  have t2 := layN1_tags 2 x
  have t3 := layN1_tags 3 y
  have t4 := layN1_tags 4 z
  have t5 := layT1_tags 5 s
  have B5 : tagsIn 6 64 (l.map fun c => fldT 6 (recS c).1) := by
    intro f hf
    obtain ⟨c, _, rfl⟩ := List.mem_map.1 hf
    show (6 : Int) ≤ 6 ∧ (6 : Int) < 64
    omega
  have B4 := tagsIn_append (lo := 5) (hi := 64) (tagsIn_mono t5 (by omega) (by omega)) (tagsIn_mono B5 (by omega) (by omega))
  have B3 := tagsIn_append (lo := 4) (hi := 64) (tagsIn_mono t4 (by omega) (by omega)) (tagsIn_mono B4 (by omega) (by omega))
  have B2 := tagsIn_append (lo := 3) (hi := 64) (tagsIn_mono t3 (by omega) (by omega)) (tagsIn_mono B3 (by omega) (by omega))
  have B1 := tagsIn_append (lo := 2) (hi := 64) (tagsIn_mono t2 (by omega) (by omega)) (tagsIn_mono B2 (by omega) (by omega))
  rw [hL]
  unfold ansOf
  rw [getN_lay (tags_ne B1 (by omega)),
    getN_skip (tags_ne t1 (by omega)), getN_lay (tags_ne B2 (by omega)),
    getN_skip (tags_ne t1 (by omega)), getN_skip (tags_ne t2 (by omega)), getN_lay (tags_ne B3 (by omega)),
    getN_skip (tags_ne t1 (by omega)), getN_skip (tags_ne t2 (by omega)), getN_skip (tags_ne t3 (by omega)), getN_lay (tags_ne B4 (by omega)),
    getT_skip (tags_ne t1 (by omega)), getT_skip (tags_ne t2 (by omega)), getT_skip (tags_ne t3 (by omega)), getT_skip (tags_ne t4 (by omega)), getT_lay (tags_ne B5 (by omega)),
    texts_skip (tags_ne t1 (by omega)), texts_skip (tags_ne t2 (by omega)), texts_skip (tags_ne t3 (by omega)), texts_skip (tags_ne t4 (by omega)), texts_skip (tags_ne t5 (by omega)), texts_all, List.map_map]
  have : l.map (unrS ∘ fun c => (recS c).1) = l := by
    conv => rhs; rw [← List.map_id l]
    exact List.map_congr_left fun c h => unr_rec c (hc c h) (hr c h)
  rw [this]
theorem ra_back (a : S42) (h : (ansS a).2 = 0) : raS (ansS a).1 = (a, 0) := by
  obtain ⟨h1, h2⟩ := ans_enc a h
  have hd : decS (ansS a).1 = (ansL a, 0) := (dec_enc _ _).2 h2
  unfold raS
  rw [hd]
  simp only
  rw [if_pos trivial, ansOf_ansL a (ans_ok a h) h1, if_pos ⟨h, rfl⟩]
/-- What is read is written as it was. -/
theorem ra_forth (s : ByteArray) (h : (raS s).2 = 0) : ansS (raS s).1 = (s, 0) := by
  unfold raS at h ⊢
  split at h
  · rename_i h1
    split at h
    · rename_i h2
      rw [if_pos h1, if_pos h2]
      exact Prod.ext (tl_inj h2.2) h2.1
    · simp at h
  · simp at h
theorem rr_forth (s : ByteArray) (h : (rrS s).2 = 0) : reqS (rrS s).1 = (s, 0) := by
  unfold rrS at h ⊢
  split at h
  · rename_i h1
    split at h
    · rename_i h2
      rw [if_pos h1, if_pos h2]
      exact Prod.ext (tl_inj h2.2) h2.1
    · simp at h
  · simp at h
end Go.Proofs.Ytjaneipklpgnlaa.Q

namespace Go.Proofs.Ytjaneipklpgnlaa.Q
open Go Go.RowKit Go.Proofs.YtjaneipklpgnlaaK Go.Proofs.YtjaneipklpgnlaaW.PrintWords Go.Proofs.YtjaneipklpgnlaaW.PrintLast Go.Proofs.YtjaneipklpgnlaaW.PrintMore
set_option linter.unusedVariables false
/-! ### An answer that comes in -/
def k42 : Kd S42 := Kd.iso (Kd.pair (Kd.int .i64) (Kd.pair (Kd.int .i64) (Kd.pair (Kd.int .i64) (Kd.pair (Kd.int .i64) (Kd.pair Kd.string (Kd.slice 81 k81)))))) (fun x : S42 => (x.f0, x.f1, x.f2, x.f3, x.f4, x.f5))
theorem k42_open {w : World} {x : S42} {cs : List Value} (h : k42.K w x cs) : ∃ A c, cs = [.int .i64 x.f0, .int .i64 x.f1, .int .i64 x.f2, .int .i64 x.f3, .string x.f4, .slice A x.f5.length c] ∧ x.f5.length ≤ c ∧ k81.C w A x.f5.length x.f5 := by
  obtain ⟨_, _, rfl, rfl, ⟨_, _, rfl, rfl, ⟨_, _, rfl, rfl, ⟨_, _, rfl, rfl, ⟨_, _, rfl, rfl, ⟨A, c, rfl, hl, hC⟩⟩⟩⟩⟩⟩ := h
  exact ⟨A, c, rfl, hl, hC⟩
def good81 (x : S81) : Prop := (Lit.int .i64 x.f0).wf = true ∧ x.f1.size ≤ 9223372036854775807 ∧ True ∧ (Lit.int .i64 x.f3).wf = true ∧ True
set_option maxRecDepth 100000 in
theorem opens81 : Opens Try.prog 81 k81 good81 := opens_struct Try.underlying81 (by kernel_rfl) (opensAt_cons rfl (by kernel_rfl) (opens_int Try.underlying3) (opensAt_cons rfl (by kernel_rfl) (opens_string Try.underlying9) (opensAt_cons rfl (by kernel_rfl) (opens_bool Try.underlying4) (opensAt_cons rfl (by kernel_rfl) (opens_int Try.underlying3) (opensAt_last rfl (by kernel_rfl) (opens_sum Try.underlying79 Try.underlying5 (by kernel_rfl) (by kernel_rfl))))))) (fun x : S81 => (x.f0, x.f1, x.f2, x.f3, x.f4)) (fun p => ⟨p.1, p.2.1, p.2.2.1, p.2.2.2.1, p.2.2.2.2⟩) (fun _ => rfl)
def good42 (x : S42) : Prop := (Lit.int .i64 x.f0).wf = true ∧ (Lit.int .i64 x.f1).wf = true ∧ (Lit.int .i64 x.f2).wf = true ∧ (Lit.int .i64 x.f3).wf = true ∧ x.f4.size ≤ 9223372036854775807 ∧ (x.f5.length ≤ 9223372036854775807 ∧ ∀ a ∈ x.f5, good81 a)
set_option maxRecDepth 100000 in
theorem opens42 : Opens Try.prog 42 k42 good42 := opens_struct Try.underlying42 (by kernel_rfl) (opensAt_cons rfl (by kernel_rfl) (opens_int Try.underlying3) (opensAt_cons rfl (by kernel_rfl) (opens_int Try.underlying3) (opensAt_cons rfl (by kernel_rfl) (opens_int Try.underlying3) (opensAt_cons rfl (by kernel_rfl) (opens_int Try.underlying3) (opensAt_cons rfl (by kernel_rfl) (opens_string Try.underlying9) (opensAt_last rfl (by kernel_rfl) (opens_slice (e := 81) Try.underlying40 (by kernel_rfl) opens81))))))) (fun x : S42 => (x.f0, x.f1, x.f2, x.f3, x.f4, x.f5)) (fun p => ⟨p.1, p.2.1, p.2.2.1, p.2.2.2.1, p.2.2.2.2.1, p.2.2.2.2.2⟩) (fun _ => rfl)
theorem cutA_len (a : S42) : (cutA a).f5.length ≤ 1048576 := by
  unfold cutA
  simp only [List.length_map, List.length_take]
  omega
theorem back_any (w : World) (x : S23) (a : S42) (A : Option Addr) (c : Nat) (s : ByteArray) (hC : k81.C w A a.f5.length a.f5) :
    Calls Try.prog 6 #[aggR x, ansV a A c, .string s] w fun e w' => e = .returned (.bool true) ∧ Below w.heap.size w w' :=
  back_walk w x (cutR x) (rrS (cut9 s)).1 a (cutA a) (raS (cut9 s)).1 A c s (cut9 s) (reqS (cutR x)).1 (ansS (cutA a)).1 (reqS (cutR x)).2 (ansS (cutA a)).2 (rrS (cut9 s)).2 (raS (cut9 s)).2 rfl hC
    (fun W => few_any W x) (fun W A c h => fewer_any W a A c h h.2.1) (fun W => req_any W (cutR x))
    (fun he W => by have := rr_any W (reqS (cutR x)).1; rw [rr_back _ he] at this; exact this)
    (fun W A c h => answer_any W (cutA a) A c h)
    (fun hf W => by have := ra_any W (ansS (cutA a)).1; rw [ra_back _ hf] at this; exact this)
    (fun W => rr_any W (cut9 s))
    (fun hg W => by have := req_any W (rrS (cut9 s)).1; rw [rr_forth _ hg] at this; exact this)
    (fun W => ra_any W (cut9 s)) (cutA_len a)
    (fun hh W A c h => by have := answer_any W (raS (cut9 s)).1 A c h; rw [ra_forth _ hh] at this; exact this)
end Go.Proofs.Ytjaneipklpgnlaa.Q

namespace Go.Proofs.Ytjaneipklpgnlaa.Q
open Go Go.RowKit Go.Proofs.YtjaneipklpgnlaaK Go.Proofs.YtjaneipklpgnlaaW.PrintWords Go.Proofs.YtjaneipklpgnlaaW.PrintLast Go.Proofs.YtjaneipklpgnlaaW.PrintMore
attribute [local go_sem ↓] Go.Proofs.YtjaneipklpgnlaaK.isSome_setCell
attribute [local go_sem high] eqA23
attribute [local go_sem] min2_mn min_two cell_held frozen_held
set_option linter.unusedSimpArgs false
set_option linter.unusedVariables false
/-- A new box, in a region that draws its order. -/
theorem new_step {P : Program} {ops : Array Oper} {oi : Oper} {N : Option Tmp} {a : Act} {W : World} {K : Act → World → Prop} {Q : Exit → Act → World → Prop} {v : Value} {ob : Obj} (hw : Region.wanted oi (yielded ops a.tmps) = true) (hN : oi.dst = N) (hrun : (execOp a.eval oi).run P W = .ok (.value v) (W.alloc ob))
    (h : ∀ w1, Prev w1 W .none → Holds w1 W.heap.size ob → K (a.put N v) w1) : if Region.wanted oi (yielded ops a.tmps) = true then Oper.wp P oi a W K Q else K (a.put N undef) W :=
  value_ hw hN hrun (h _ inferInstance inferInstance)
abbrev ansTwo (a b : S42) (A B : Option Addr) (c d : Nat) : Value := .agg #[.int .i64 a.f0, .int .i64 a.f1, .int .i64 a.f2, .int .i64 a.f3, .string a.f4, .slice A a.f5.length c, .int .i64 b.f0, .int .i64 b.f1, .int .i64 b.f2, .int .i64 b.f3, .string b.f4, .slice B b.f5.length d]
def once.T1 : Bool × List (List Nat × List Nat) := (true, [([], []), ([0], [0]), ([], []), ([2, 1], [2]), ([1, 3, 0, 1], [1]), ([3, 4, 0, 1, 2, 3, 4], [3])])
def once.B1 : List Nat := [0, 1, 0, 7, 15, 31]
theorem once.tab1 : rtab .any (opsOf Try.f7 1) = once.T1 := by kernel_rfl
theorem once.bits1 : waitsOk once.T1.2 once.B1 = true := by kernel_rfl
def once.T2 : Bool × List (List Nat × List Nat) := (true, [([], []), ([0], [0]), ([1], [1]), ([], []), ([3], [3]), ([4, 2], [4]), ([], []), ([], []), ([6, 2, 5, 0, 1, 2, 6, 7], [2, 6]), ([7, 5, 8, 0, 1, 2, 3, 4, 5, 6, 7, 8], [5, 7])])
def once.B2 : List Nat := [0, 1, 3, 0, 8, 31, 0, 0, 255, 511]
theorem once.tab2 : rtab .any (opsOf Try.f7 2) = once.T2 := by kernel_rfl
theorem once.bits2 : waitsOk once.T2.2 once.B2 = true := by kernel_rfl
set_option maxRecDepth 100000 in
set_option maxHeartbeats 4000000 in
theorem once_walk (w : World) (x y p q : S23) (a b a1 b1 : S42) (A B : Option Addr) (c d : Nat) (hca : k81.C w A a.f5.length a.f5) (hcb : k81.C w B b.f5.length b.f5)
    (hfx : ∀ W, Calls Try.prog 8 #[aggR x] W fun e w' => e = .returned (aggR p) ∧ Below W.heap.size W w')
    (hfa : ∀ W A c, k81.C W A a.f5.length a.f5 → Calls Try.prog 16 #[ansV a A c] W fun e w' => ∃ v, e = .returned (ansW a1 v) ∧ Kd.R k81 81 w' W.heap.size (fun _ => True) v a1.f5 ∧ Below W.heap.size W w')
    (hfb : ∀ W A c, k81.C W A b.f5.length b.f5 → Calls Try.prog 16 #[ansV b A c] W fun e w' => ∃ v, e = .returned (ansW b1 v) ∧ Kd.R k81 81 w' W.heap.size (fun _ => True) v b1.f5 ∧ Below W.heap.size W w')
    (t u t1 u1 : ByteArray) (e f e1 f1 : Int) (hqx : ∀ W, Calls Try.prog 9 #[aggR p] W fun r w' => r = .returned (.tuple #[.string t, .int .i64 e]) ∧ Below W.heap.size W w')
    (hqy : ∀ W, Calls Try.prog 9 #[aggR q] W fun r w' => r = .returned (.tuple #[.string u, .int .i64 f]) ∧ Below W.heap.size W w')
    (hpq : e = 0 → f = 0 → ((p = q ∧ t = u) ∨ (eqB p q = false ∧ (t.toList == u.toList) = false)))
    (hna : ∀ W A c, k81.C W A a1.f5.length a1.f5 → Calls Try.prog 17 #[ansV a1 A c] W fun r w' => r = .returned (.tuple #[.string t1, .int .i64 e1]) ∧ Below W.heap.size W w')
    (hnb : ∀ W A c, k81.C W A b1.f5.length b1.f5 → Calls Try.prog 17 #[ansV b1 A c] W fun r w' => r = .returned (.tuple #[.string u1, .int .i64 f1]) ∧ Below W.heap.size W w')
    (hsm : ∀ W A B c d, k81.C W A a1.f5.length a1.f5 → k81.C W B b1.f5.length b1.f5 → Calls Try.prog 23 #[ansV a1 A c, ansV b1 B d] W fun r w' => r = .returned (.bool (sameA a1 b1)) ∧ Below W.heap.size W w')
    (hab : e1 = 0 → f1 = 0 → (t1.toList == u1.toList) = sameA a1 b1)
    (z : S23) (hr0 : ∀ W, Calls Try.prog 11 #[.string ⟨#[]⟩] W fun r w' => r = .returned (.tuple #[aggR z, .int .i64 5]) ∧ Below W.heap.size W w')
    (o : S42) (ha0 : ∀ W, Calls Try.prog 19 #[.string ⟨#[]⟩] W fun r w' => ∃ v, r = .returned (.tuple #[ansW o v, .int .i64 0]) ∧ Kd.R k81 81 w' W.heap.size (fun _ => True) v o.f5 ∧ Below W.heap.size W w')
    (hs0 : ∀ W A c, k81.C W A o.f5.length o.f5 → Calls Try.prog 23 #[ansV o A c, .agg Z42] W fun r w' => r = .returned (.bool true) ∧ Below W.heap.size W w')
    (hfy : ∀ W, Calls Try.prog 8 #[aggR y] W fun e w' => e = .returned (aggR q) ∧ Below W.heap.size W w') :
    Calls Try.prog 7 #[aggR x, aggR y, ansTwo a b A B c d] w fun e w' => e = .returned (.bool true) ∧ Below w.heap.size w w' := by
  have hu23 := Try.underlying23
  have hu42 := Try.underlying42
  have HFX := Aside0.mk hfx
  have HFY := Aside0.mk hfy
  have HFA := Aside0.mk hfa
  have HFB := Aside0.mk hfb
  have HQX := Aside0.mk hqx
  have HQY := Aside0.mk hqy
  have HPQ := Aside0.mk hpq
  have HNA := Aside0.mk hna
  have HNB := Aside0.mk hnb
  have HSM := Aside0.mk hsm
  have HAB := Aside0.mk hab
  have HR0 := Aside0.mk hr0
  have HA0 := Aside0.mk ha0
  have HS0 := Aside0.mk hs0
  clear hqx hqy hpq hna hnb hsm hab hr0 ha0 hs0
  have HCA := Aside0.mk hca
  have HCB := Aside0.mk hcb
  clear hfx hfy hfa hfb hca hcb
  go_enter Try.func7, Try.ntmps7
  go_wp2_with fail
  refine start_ (n := 6) (S := fun w' => w'.heap[w.heap.size]? = some (.cells #[.int .i64 x.f0, .int .i64 x.f1, .int .i64 x.f2, .int .i64 x.f3, .int .i64 x.f4, .int .i64 x.f5, .string x.f6, .string x.f7] 23 (0, 0)) ∧ w'.heap[w.heap.size + 1]? = some (.cells #[.int .i64 y.f0, .int .i64 y.f1, .int .i64 y.f2, .int .i64 y.f3, .int .i64 y.f4, .int .i64 y.f5, .string y.f6, .string y.f7] 23 (0, 0))) (ds := [4, 5]) #[false, false, false, false, false, false] (by kernel_rfl) rfl rfl ⟨held, held⟩ (fun hHeld => ?_); refine with_tabW once.tab1 once.bits1 (fun HT_ HW_ => ?_)
  refine take_ (i := 0) (N := some 21) (v := ?_) (a' := ?_) #[true, false, false, false, false, false] rfl rfl (take_ofW HT_.out HW_.out (by kernel_rfl)) (fun _ _ _ h => h) (Or.inl ⟨by rfl, ?_⟩) hHeld ?_ ?_
  rotate_left
  · rintro w' ⟨s0, s1⟩
    have i0 : Holds w' w.heap.size (.cells #[.int .i64 x.f0, .int .i64 x.f1, .int .i64 x.f2, .int .i64 x.f3, .int .i64 x.f4, .int .i64 x.f5, .string x.f6, .string x.f7] 23) := ⟨s0⟩
    have i1 : Holds w' (w.heap.size + 1) (.cells #[.int .i64 y.f0, .int .i64 y.f1, .int .i64 y.f2, .int .i64 y.f3, .int .i64 y.f4, .int .i64 y.f5, .string y.f6, .string y.f7] 23) := ⟨s1⟩
    go_simp
    with_reducible rfl
  rotate_left
  · simp only [Act.put, List.setIfInBounds_toArray, List.set_cons_zero, List.set_cons_succ, i64_w, i32_w]
    rfl
  refine take_ (i := 2) (N := some 23) (v := ?_) (a' := ?_) #[true, false, true, false, false, false] rfl rfl (take_ofW HT_.out HW_.out (by kernel_rfl)) (fun _ _ _ h => h) (Or.inl ⟨by rfl, ?_⟩) hHeld ?_ ?_
  rotate_left
  · rintro w' ⟨s0, s1⟩
    have i0 : Holds w' w.heap.size (.cells #[.int .i64 x.f0, .int .i64 x.f1, .int .i64 x.f2, .int .i64 x.f3, .int .i64 x.f4, .int .i64 x.f5, .string x.f6, .string x.f7] 23) := ⟨s0⟩
    have i1 : Holds w' (w.heap.size + 1) (.cells #[.int .i64 y.f0, .int .i64 y.f1, .int .i64 y.f2, .int .i64 y.f3, .int .i64 y.f4, .int .i64 y.f5, .string y.f6, .string y.f7] 23) := ⟨s1⟩
    go_simp
    with_reducible rfl
  rotate_left
  · simp only [Act.put, List.setIfInBounds_toArray, List.set_cons_zero, List.set_cons_succ, i64_w, i32_w]
    rfl
  refine one_ (i := 1) (N := some 22) #[true, true, true, false, false, false] rfl rfl (one_of HT_.out (by kernel_rfl)) (by decide) (fun K hK => ?_)
  refine goes_ Try.func8 (by kernel_rfl) rfl #[aggR x] (by rfl) rfl rfl (by (try simp only [List.map_toArray, List.map_cons, List.map_nil]); first | done | rfl) ?_
  refine (HFX.out _).mono ?_
  rintro e1 w1 ⟨rfl, hb⟩
  have p1 := prev_call hb
  clear hb
  refine ⟨_, rfl, ?_⟩
  refine hK.out _ _ ⟨held, held⟩ (fun hHeld => ?_)
  clear hK K
  refine norm_ (a' := ?_) ?_ ?_
  rotate_left
  · show Act.put _ (some 22) _ = _
    simp only [Act.put, List.setIfInBounds_toArray, List.set_cons_zero, List.set_cons_succ, i64_w, i32_w]
    rfl
  refine one_ (i := 3) (N := some 24) #[true, true, true, true, false, false] rfl rfl (one_of HT_.out (by kernel_rfl)) (by decide) (fun K hK => ?_)
  refine goes_ Try.func8 (by kernel_rfl) rfl #[aggR y] (by rfl) rfl rfl (by (try simp only [List.map_toArray, List.map_cons, List.map_nil]); first | done | rfl) ?_
  refine (HFY.out _).mono ?_
  rintro e2 w2 ⟨rfl, hb⟩
  have p2 := prev_call hb
  clear hb
  refine ⟨_, rfl, ?_⟩
  refine hK.out _ _ ⟨held, held⟩ (fun hHeld => ?_)
  clear hK K
  refine norm_ (a' := ?_) ?_ ?_
  rotate_left
  · show Act.put _ (some 24) _ = _
    simp only [Act.put, List.setIfInBounds_toArray, List.set_cons_zero, List.set_cons_succ, i64_w, i32_w]
    rfl
  refine last_ (i := 4) (N := none) #[true, true, true, true, true, false] rfl rfl (one_of HT_.out (by kernel_rfl)) (by decide) (fun K hK => ?_)
  refine box_skip (by rfl) rfl 23 (.tmp 3) (.tmp 22) rfl held #[.int .i64 p.f0, .int .i64 p.f1, .int .i64 p.f2, .int .i64 p.f3, .int .i64 p.f4, .int .i64 p.f5, .string p.f6, .string p.f7] rfl rfl info23 (by rfl) (by rfl) ?_
  intro w3 hx3 hg3
  have p3 := prev_row hg3
  have h3 : Holds w3 w.heap.size (.cells #[.int .i64 p.f0, .int .i64 p.f1, .int .i64 p.f2, .int .i64 p.f3, .int .i64 p.f4, .int .i64 p.f5, .string p.f6, .string p.f7] 23) := ⟨hx3⟩
  have a3 : Apart (w.heap.size + 1) (.row w.heap.size) := apart_ne (by omega)
  have b3 : Apart (w.heap.size + 2) (.row w.heap.size) := apart_ne (by omega)
  clear hx3 hg3
  refine hK.out _ _ ?_
  clear hK K
  refine last_ (i := 5) (N := none) #[true, true, true, true, true, true] rfl rfl (one_of HT_.out (by kernel_rfl)) (by decide) (fun K hK => ?_)
  refine box_skip (by rfl) rfl 23 (.tmp 4) (.tmp 24) rfl held #[.int .i64 q.f0, .int .i64 q.f1, .int .i64 q.f2, .int .i64 q.f3, .int .i64 q.f4, .int .i64 q.f5, .string q.f6, .string q.f7] rfl rfl info23 (by rfl) (by rfl) ?_
  intro w4 hx4 hg4
  have p4 := prev_row hg4
  have h4 : Holds w4 (w.heap.size + 1) (.cells #[.int .i64 q.f0, .int .i64 q.f1, .int .i64 q.f2, .int .i64 q.f3, .int .i64 q.f4, .int .i64 q.f5, .string q.f6, .string q.f7] 23) := ⟨hx4⟩
  have a4 : Apart (w.heap.size + 2) (.row (w.heap.size + 1)) := apart_ne (by omega)
  clear hx4 hg4
  refine hK.out _ _ ?_
  clear hK K
  refine done_ (done_of HT_.out (by kernel_rfl)) ?_
  go_wp2_with fail
  refine start_ (n := 10) (S := fun w' => w'.heap[w.heap.size + 2]? = some (.cells #[.int .i64 a.f0, .int .i64 a.f1, .int .i64 a.f2, .int .i64 a.f3, .string a.f4, .slice A a.f5.length c, .int .i64 b.f0, .int .i64 b.f1, .int .i64 b.f2, .int .i64 b.f3, .string b.f4, .slice B b.f5.length d] 55 (0, 0))) (ds := [8, 9]) #[false, false, false, false, false, false, false, false, false, false] (by kernel_rfl) rfl rfl held (fun hHeld => ?_); refine with_tabW once.tab2 once.bits2 (fun HT_ HW_ => ?_)
  generalize hw5 : w4.drew = w5 at hHeld ⊢
  have p5 : Prev w5 w4 .none := hw5 ▸ inferInstance
  refine pure_ (i := 0) (N := some 25) (v := ?_) (a' := ?_) #[true, false, false, false, false, false, false, false, false, false] rfl rfl (any_of HT_.out (by kernel_rfl)) (fun _ _ _ h => h) (Or.inl ⟨by rfl, ?_⟩) ?_ ?_
  rotate_left
  · intro w'
    go_simp
    with_reducible rfl
  rotate_left
  · simp only [Act.put, List.setIfInBounds_toArray, List.set_cons_zero, List.set_cons_succ, i64_w, i32_w]
    rfl
  refine pure_ (i := 3) (N := some 28) (v := ?_) (a' := ?_) #[true, false, false, true, false, false, false, false, false, false] rfl rfl (any_of HT_.out (by kernel_rfl)) (fun _ _ _ h => h) (Or.inl ⟨by rfl, ?_⟩) ?_ ?_
  rotate_left
  · intro w'
    go_simp
    with_reducible rfl
  rotate_left
  · simp only [Act.put, List.setIfInBounds_toArray, List.set_cons_zero, List.set_cons_succ, i64_w, i32_w]
    rfl
  refine take_ (i := 1) (N := some 26) (v := ?_) (a' := ?_) #[true, true, false, true, false, false, false, false, false, false] rfl rfl (take_ofW HT_.out HW_.out (by kernel_rfl)) (fun _ _ _ h => h) (Or.inl ⟨by rfl, ?_⟩) hHeld ?_ ?_
  rotate_left
  · rintro w' s0
    have i0 : Holds w' (w.heap.size + 2) (.cells #[.int .i64 a.f0, .int .i64 a.f1, .int .i64 a.f2, .int .i64 a.f3, .string a.f4, .slice A a.f5.length c, .int .i64 b.f0, .int .i64 b.f1, .int .i64 b.f2, .int .i64 b.f3, .string b.f4, .slice B b.f5.length d] 55 (0, 0)) := ⟨s0⟩
    go_simp
    with_reducible rfl
  rotate_left
  · simp only [Act.put, List.setIfInBounds_toArray, List.set_cons_zero, List.set_cons_succ, i64_w, i32_w]
    rfl
  refine take_ (i := 4) (N := some 29) (v := ?_) (a' := ?_) #[true, true, false, true, true, false, false, false, false, false] rfl rfl (take_ofW HT_.out HW_.out (by kernel_rfl)) (fun _ _ _ h => h) (Or.inl ⟨by rfl, ?_⟩) hHeld ?_ ?_
  rotate_left
  · rintro w' s0
    have i0 : Holds w' (w.heap.size + 2) (.cells #[.int .i64 a.f0, .int .i64 a.f1, .int .i64 a.f2, .int .i64 a.f3, .string a.f4, .slice A a.f5.length c, .int .i64 b.f0, .int .i64 b.f1, .int .i64 b.f2, .int .i64 b.f3, .string b.f4, .slice B b.f5.length d] 55 (0, 0)) := ⟨s0⟩
    go_simp
    with_reducible rfl
  rotate_left
  · simp only [Act.put, List.setIfInBounds_toArray, List.set_cons_zero, List.set_cons_succ, i64_w, i32_w]
    rfl
  refine join_ (σ := Nat × Nat × Value × Value) 2 #[true, true, true, true, true, true, true, true, false, false] (fun s => [(27, ansW a1 s.2.2.1), (30, ansW b1 s.2.2.2), (7, .pointer (some ⟨s.1, 0, none⟩)), (8, .pointer (some ⟨s.2.1, 0, none⟩))]) (fun s w' => Below w4.heap.size w4 w' ∧ w4.heap.size ≤ s.1 ∧ w4.heap.size ≤ s.2.1 ∧ s.1 ≠ s.2.1 ∧ w'.heap[s.1]? = some (.cells Z42 42 (0, 0)) ∧ w'.heap[s.2.1]? = some (.cells Z42 42 (0, 0)) ∧ Kd.R k81 81 w' w4.heap.size (fun _ => True) s.2.2.1 a1.f5 ∧ Kd.R k81 81 w' w4.heap.size (fun _ => True) s.2.2.2 b1.f5) ?_ (fun hcont => ?_)
  rotate_left
  · refine three_ (i := 2) (j := 6) (k := 7) (Ni := some 27) (Nj := some 7) (Nk := some 8) #[true, true, true, true, true, false, false, false, false, false] #[true, true, false, true, true, false, true, false, false, false] #[true, true, false, true, true, false, false, true, false, false] rfl rfl rfl rfl rfl rfl (three_of HT_.out (by kernel_rfl)) (by decide) (by decide) (by decide) (fun K hK => ?_) (fun K hK => ?_) (fun K hK => ?_)
    · refine goes_ Try.func16 (by kernel_rfl) rfl #[ansV a A c] (by rfl) rfl rfl (by (try simp only [List.map_toArray, List.map_cons, List.map_nil]); first | done | rfl) ?_
      refine (HFA.out _ _ _ ?hC).mono ?_
      case hC => exact Kd.C_below HCA.out (bel _ _)
      rintro e_2 w_2 ⟨v1, rfl, hv, hb⟩
      have p_2 := prev_call hb
      have Hv1 := Aside0.mk (Kd.R_lower hv (siz w4 _))
      have s_2 := siz w4 w_2
      clear hv hb
      refine ⟨_, rfl, ?_⟩
      refine hK.out _ _ held (fun hHeld => ?_)
      clear hK K
      refine norm_ (a' := ?_) ?_ ?_
      rotate_left
      · show Act.put _ (some 27) _ = _
        simp only [Act.put, List.setIfInBounds_toArray, List.set_cons_zero, List.set_cons_succ, i64_w, i32_w]
        rfl
      refine three_ (i := 5) (j := 6) (k := 7) (Ni := some 30) (Nj := some 7) (Nk := some 8) #[true, true, true, true, true, true, false, false, false, false] #[true, true, true, true, true, false, true, false, false, false] #[true, true, true, true, true, false, false, true, false, false] rfl rfl rfl rfl rfl rfl (three_of HT_.out (by kernel_rfl)) (by decide) (by decide) (by decide) (fun K hK => ?_) (fun K hK => ?_) (fun K hK => ?_)
      · refine goes_ Try.func16 (by kernel_rfl) rfl #[ansV b B d] (by rfl) rfl rfl (by (try simp only [List.map_toArray, List.map_cons, List.map_nil]); first | done | rfl) ?_
        refine (HFB.out _ _ _ ?hC).mono ?_
        case hC => exact Kd.C_below HCB.out (bel _ _)
        rintro e_25 w_25 ⟨v2, rfl, hv, hb⟩
        have p_25 := prev_call hb
        have Hv2 := Aside0.mk (Kd.R_lower hv (siz w4 _))
        have s_25 := siz w4 w_25
        clear hv hb
        refine ⟨_, rfl, ?_⟩
        refine hK.out _ _ held (fun hHeld => ?_)
        clear hK K
        refine norm_ (a' := ?_) ?_ ?_
        rotate_left
        · show Act.put _ (some 30) _ = _
          simp only [Act.put, List.setIfInBounds_toArray, List.set_cons_zero, List.set_cons_succ, i64_w, i32_w]
          rfl
        refine two_ (i := 6) (j := 7) (Ni := some 7) (Nj := some 8) #[true, true, true, true, true, true, true, false, false, false] #[true, true, true, true, true, true, false, true, false, false] rfl rfl rfl rfl (two_of HT_.out (by kernel_rfl)) (by decide) (by decide) (fun K hK => ?_) (fun K hK => ?_)
        · refine new_step (ob := .cells Z42 42) (by rfl) rfl (by go_simp; rfl) ?_
          intro w_256 p_256 h_256
          have s_256 := held_lt (W := w_256) (g := w_25.heap.size)
          refine hK.out _ _ held (fun hHeld => ?_)
          clear hK K
          refine norm_ (a' := ?_) ?_ ?_
          rotate_left
          · show Act.put _ (some 7) _ = _
            simp only [Act.put, List.setIfInBounds_toArray, List.set_cons_zero, List.set_cons_succ, i64_w, i32_w]
            rfl
          refine one_ (i := 7) (N := some 8) #[true, true, true, true, true, true, true, true, false, false] rfl rfl (one_of HT_.out (by kernel_rfl)) (by decide) (fun K hK => ?_)
          refine new_step (ob := .cells Z42 42) (by rfl) rfl (by go_simp; rfl) ?_
          intro w_2567 p_2567 h_2567
          have s_2567 := held_lt (W := w_2567) (g := w_256.heap.size)
          refine hK.out _ _ held (fun hHeld => ?_)
          clear hK K
          refine norm_ (a' := ?_) ?_ ?_
          rotate_left
          · show Act.put _ (some 8) _ = _
            simp only [Act.put, List.setIfInBounds_toArray, List.set_cons_zero, List.set_cons_succ, i64_w, i32_w]
            rfl
          have q := siz w_256 w_256
          refine hcont (w_25.heap.size, w_256.heap.size, v1, v2) w_2567 ⟨bel w4 w_2567, siz w4 w_25, siz w4 w_256, ?_, held, held, rowB Hv1.out (bel w_2 _), rowB Hv2.out (bel w_25 _)⟩
          show w_25.heap.size ≠ w_256.heap.size
          omega
        · refine new_step (ob := .cells Z42 42) (by rfl) rfl (by go_simp; rfl) ?_
          intro w_257 p_257 h_257
          have s_257 := held_lt (W := w_257) (g := w_25.heap.size)
          refine hK.out _ _ held (fun hHeld => ?_)
          clear hK K
          refine norm_ (a' := ?_) ?_ ?_
          rotate_left
          · show Act.put _ (some 8) _ = _
            simp only [Act.put, List.setIfInBounds_toArray, List.set_cons_zero, List.set_cons_succ, i64_w, i32_w]
            rfl
          refine one_ (i := 6) (N := some 7) #[true, true, true, true, true, true, true, true, false, false] rfl rfl (one_of HT_.out (by kernel_rfl)) (by decide) (fun K hK => ?_)
          refine new_step (ob := .cells Z42 42) (by rfl) rfl (by go_simp; rfl) ?_
          intro w_2576 p_2576 h_2576
          have s_2576 := held_lt (W := w_2576) (g := w_257.heap.size)
          refine hK.out _ _ held (fun hHeld => ?_)
          clear hK K
          refine norm_ (a' := ?_) ?_ ?_
          rotate_left
          · show Act.put _ (some 7) _ = _
            simp only [Act.put, List.setIfInBounds_toArray, List.set_cons_zero, List.set_cons_succ, i64_w, i32_w]
            rfl
          have q := siz w_257 w_257
          refine hcont (w_257.heap.size, w_25.heap.size, v1, v2) w_2576 ⟨bel w4 w_2576, siz w4 w_257, siz w4 w_25, ?_, held, held, rowB Hv1.out (bel w_2 _), rowB Hv2.out (bel w_25 _)⟩
          show w_257.heap.size ≠ w_25.heap.size
          omega
      · refine new_step (ob := .cells Z42 42) (by rfl) rfl (by go_simp; rfl) ?_
        intro w_26 p_26 h_26
        have s_26 := held_lt (W := w_26) (g := w_2.heap.size)
        refine hK.out _ _ held (fun hHeld => ?_)
        clear hK K
        refine norm_ (a' := ?_) ?_ ?_
        rotate_left
        · show Act.put _ (some 7) _ = _
          simp only [Act.put, List.setIfInBounds_toArray, List.set_cons_zero, List.set_cons_succ, i64_w, i32_w]
          rfl
        refine two_ (i := 5) (j := 7) (Ni := some 30) (Nj := some 8) #[true, true, true, true, true, true, true, false, false, false] #[true, true, true, true, true, false, true, true, false, false] rfl rfl rfl rfl (two_of HT_.out (by kernel_rfl)) (by decide) (by decide) (fun K hK => ?_) (fun K hK => ?_)
        · refine goes_ Try.func16 (by kernel_rfl) rfl #[ansV b B d] (by rfl) rfl rfl (by (try simp only [List.map_toArray, List.map_cons, List.map_nil]); first | done | rfl) ?_
          refine (HFB.out _ _ _ ?hC).mono ?_
          case hC => exact Kd.C_below HCB.out (bel _ _)
          rintro e_265 w_265 ⟨v2, rfl, hv, hb⟩
          have p_265 := prev_call hb
          have Hv2 := Aside0.mk (Kd.R_lower hv (siz w4 _))
          have s_265 := siz w4 w_265
          clear hv hb
          refine ⟨_, rfl, ?_⟩
          refine hK.out _ _ held (fun hHeld => ?_)
          clear hK K
          refine norm_ (a' := ?_) ?_ ?_
          rotate_left
          · show Act.put _ (some 30) _ = _
            simp only [Act.put, List.setIfInBounds_toArray, List.set_cons_zero, List.set_cons_succ, i64_w, i32_w]
            rfl
          refine one_ (i := 7) (N := some 8) #[true, true, true, true, true, true, true, true, false, false] rfl rfl (one_of HT_.out (by kernel_rfl)) (by decide) (fun K hK => ?_)
          refine new_step (ob := .cells Z42 42) (by rfl) rfl (by go_simp; rfl) ?_
          intro w_2657 p_2657 h_2657
          have s_2657 := held_lt (W := w_2657) (g := w_265.heap.size)
          refine hK.out _ _ held (fun hHeld => ?_)
          clear hK K
          refine norm_ (a' := ?_) ?_ ?_
          rotate_left
          · show Act.put _ (some 8) _ = _
            simp only [Act.put, List.setIfInBounds_toArray, List.set_cons_zero, List.set_cons_succ, i64_w, i32_w]
            rfl
          have q := siz w_26 w_265
          refine hcont (w_2.heap.size, w_265.heap.size, v1, v2) w_2657 ⟨bel w4 w_2657, siz w4 w_2, siz w4 w_265, ?_, held, held, rowB Hv1.out (bel w_2 _), rowB Hv2.out (bel w_265 _)⟩
          show w_2.heap.size ≠ w_265.heap.size
          omega
        · refine new_step (ob := .cells Z42 42) (by rfl) rfl (by go_simp; rfl) ?_
          intro w_267 p_267 h_267
          have s_267 := held_lt (W := w_267) (g := w_26.heap.size)
          refine hK.out _ _ held (fun hHeld => ?_)
          clear hK K
          refine norm_ (a' := ?_) ?_ ?_
          rotate_left
          · show Act.put _ (some 8) _ = _
            simp only [Act.put, List.setIfInBounds_toArray, List.set_cons_zero, List.set_cons_succ, i64_w, i32_w]
            rfl
          refine one_ (i := 5) (N := some 30) #[true, true, true, true, true, true, true, true, false, false] rfl rfl (one_of HT_.out (by kernel_rfl)) (by decide) (fun K hK => ?_)
          refine goes_ Try.func16 (by kernel_rfl) rfl #[ansV b B d] (by rfl) rfl rfl (by (try simp only [List.map_toArray, List.map_cons, List.map_nil]); first | done | rfl) ?_
          refine (HFB.out _ _ _ ?hC).mono ?_
          case hC => exact Kd.C_below HCB.out (bel _ _)
          rintro e_2675 w_2675 ⟨v2, rfl, hv, hb⟩
          have p_2675 := prev_call hb
          have Hv2 := Aside0.mk (Kd.R_lower hv (siz w4 _))
          have s_2675 := siz w4 w_2675
          clear hv hb
          refine ⟨_, rfl, ?_⟩
          refine hK.out _ _ held (fun hHeld => ?_)
          clear hK K
          refine norm_ (a' := ?_) ?_ ?_
          rotate_left
          · show Act.put _ (some 30) _ = _
            simp only [Act.put, List.setIfInBounds_toArray, List.set_cons_zero, List.set_cons_succ, i64_w, i32_w]
            rfl
          have q := siz w_26 w_26
          refine hcont (w_2.heap.size, w_26.heap.size, v1, v2) w_2675 ⟨bel w4 w_2675, siz w4 w_2, siz w4 w_26, ?_, held, held, rowB Hv1.out (bel w_2 _), rowB Hv2.out (bel w_2675 _)⟩
          show w_2.heap.size ≠ w_26.heap.size
          omega
      · refine new_step (ob := .cells Z42 42) (by rfl) rfl (by go_simp; rfl) ?_
        intro w_27 p_27 h_27
        have s_27 := held_lt (W := w_27) (g := w_2.heap.size)
        refine hK.out _ _ held (fun hHeld => ?_)
        clear hK K
        refine norm_ (a' := ?_) ?_ ?_
        rotate_left
        · show Act.put _ (some 8) _ = _
          simp only [Act.put, List.setIfInBounds_toArray, List.set_cons_zero, List.set_cons_succ, i64_w, i32_w]
          rfl
        refine two_ (i := 5) (j := 6) (Ni := some 30) (Nj := some 7) #[true, true, true, true, true, true, false, true, false, false] #[true, true, true, true, true, false, true, true, false, false] rfl rfl rfl rfl (two_of HT_.out (by kernel_rfl)) (by decide) (by decide) (fun K hK => ?_) (fun K hK => ?_)
        · refine goes_ Try.func16 (by kernel_rfl) rfl #[ansV b B d] (by rfl) rfl rfl (by (try simp only [List.map_toArray, List.map_cons, List.map_nil]); first | done | rfl) ?_
          refine (HFB.out _ _ _ ?hC).mono ?_
          case hC => exact Kd.C_below HCB.out (bel _ _)
          rintro e_275 w_275 ⟨v2, rfl, hv, hb⟩
          have p_275 := prev_call hb
          have Hv2 := Aside0.mk (Kd.R_lower hv (siz w4 _))
          have s_275 := siz w4 w_275
          clear hv hb
          refine ⟨_, rfl, ?_⟩
          refine hK.out _ _ held (fun hHeld => ?_)
          clear hK K
          refine norm_ (a' := ?_) ?_ ?_
          rotate_left
          · show Act.put _ (some 30) _ = _
            simp only [Act.put, List.setIfInBounds_toArray, List.set_cons_zero, List.set_cons_succ, i64_w, i32_w]
            rfl
          refine one_ (i := 6) (N := some 7) #[true, true, true, true, true, true, true, true, false, false] rfl rfl (one_of HT_.out (by kernel_rfl)) (by decide) (fun K hK => ?_)
          refine new_step (ob := .cells Z42 42) (by rfl) rfl (by go_simp; rfl) ?_
          intro w_2756 p_2756 h_2756
          have s_2756 := held_lt (W := w_2756) (g := w_275.heap.size)
          refine hK.out _ _ held (fun hHeld => ?_)
          clear hK K
          refine norm_ (a' := ?_) ?_ ?_
          rotate_left
          · show Act.put _ (some 7) _ = _
            simp only [Act.put, List.setIfInBounds_toArray, List.set_cons_zero, List.set_cons_succ, i64_w, i32_w]
            rfl
          have q := siz w_27 w_275
          refine hcont (w_275.heap.size, w_2.heap.size, v1, v2) w_2756 ⟨bel w4 w_2756, siz w4 w_275, siz w4 w_2, ?_, held, held, rowB Hv1.out (bel w_2 _), rowB Hv2.out (bel w_275 _)⟩
          show w_275.heap.size ≠ w_2.heap.size
          omega
        · refine new_step (ob := .cells Z42 42) (by rfl) rfl (by go_simp; rfl) ?_
          intro w_276 p_276 h_276
          have s_276 := held_lt (W := w_276) (g := w_27.heap.size)
          refine hK.out _ _ held (fun hHeld => ?_)
          clear hK K
          refine norm_ (a' := ?_) ?_ ?_
          rotate_left
          · show Act.put _ (some 7) _ = _
            simp only [Act.put, List.setIfInBounds_toArray, List.set_cons_zero, List.set_cons_succ, i64_w, i32_w]
            rfl
          refine one_ (i := 5) (N := some 30) #[true, true, true, true, true, true, true, true, false, false] rfl rfl (one_of HT_.out (by kernel_rfl)) (by decide) (fun K hK => ?_)
          refine goes_ Try.func16 (by kernel_rfl) rfl #[ansV b B d] (by rfl) rfl rfl (by (try simp only [List.map_toArray, List.map_cons, List.map_nil]); first | done | rfl) ?_
          refine (HFB.out _ _ _ ?hC).mono ?_
          case hC => exact Kd.C_below HCB.out (bel _ _)
          rintro e_2765 w_2765 ⟨v2, rfl, hv, hb⟩
          have p_2765 := prev_call hb
          have Hv2 := Aside0.mk (Kd.R_lower hv (siz w4 _))
          have s_2765 := siz w4 w_2765
          clear hv hb
          refine ⟨_, rfl, ?_⟩
          refine hK.out _ _ held (fun hHeld => ?_)
          clear hK K
          refine norm_ (a' := ?_) ?_ ?_
          rotate_left
          · show Act.put _ (some 30) _ = _
            simp only [Act.put, List.setIfInBounds_toArray, List.set_cons_zero, List.set_cons_succ, i64_w, i32_w]
            rfl
          have q := siz w_27 w_27
          refine hcont (w_27.heap.size, w_2.heap.size, v1, v2) w_2765 ⟨bel w4 w_2765, siz w4 w_27, siz w4 w_2, ?_, held, held, rowB Hv1.out (bel w_2 _), rowB Hv2.out (bel w_2765 _)⟩
          show w_27.heap.size ≠ w_2.heap.size
          omega
    · refine new_step (ob := .cells Z42 42) (by rfl) rfl (by go_simp; rfl) ?_
      intro w_6 p_6 h_6
      have s_6 := held_lt (W := w_6) (g := w5.heap.size)
      refine hK.out _ _ held (fun hHeld => ?_)
      clear hK K
      refine norm_ (a' := ?_) ?_ ?_
      rotate_left
      · show Act.put _ (some 7) _ = _
        simp only [Act.put, List.setIfInBounds_toArray, List.set_cons_zero, List.set_cons_succ, i64_w, i32_w]
        rfl
      refine two_ (i := 2) (j := 7) (Ni := some 27) (Nj := some 8) #[true, true, true, true, true, false, true, false, false, false] #[true, true, false, true, true, false, true, true, false, false] rfl rfl rfl rfl (two_of HT_.out (by kernel_rfl)) (by decide) (by decide) (fun K hK => ?_) (fun K hK => ?_)
      · refine goes_ Try.func16 (by kernel_rfl) rfl #[ansV a A c] (by rfl) rfl rfl (by (try simp only [List.map_toArray, List.map_cons, List.map_nil]); first | done | rfl) ?_
        refine (HFA.out _ _ _ ?hC).mono ?_
        case hC => exact Kd.C_below HCA.out (bel _ _)
        rintro e_62 w_62 ⟨v1, rfl, hv, hb⟩
        have p_62 := prev_call hb
        have Hv1 := Aside0.mk (Kd.R_lower hv (siz w4 _))
        have s_62 := siz w4 w_62
        clear hv hb
        refine ⟨_, rfl, ?_⟩
        refine hK.out _ _ held (fun hHeld => ?_)
        clear hK K
        refine norm_ (a' := ?_) ?_ ?_
        rotate_left
        · show Act.put _ (some 27) _ = _
          simp only [Act.put, List.setIfInBounds_toArray, List.set_cons_zero, List.set_cons_succ, i64_w, i32_w]
          rfl
        refine two_ (i := 5) (j := 7) (Ni := some 30) (Nj := some 8) #[true, true, true, true, true, true, true, false, false, false] #[true, true, true, true, true, false, true, true, false, false] rfl rfl rfl rfl (two_of HT_.out (by kernel_rfl)) (by decide) (by decide) (fun K hK => ?_) (fun K hK => ?_)
        · refine goes_ Try.func16 (by kernel_rfl) rfl #[ansV b B d] (by rfl) rfl rfl (by (try simp only [List.map_toArray, List.map_cons, List.map_nil]); first | done | rfl) ?_
          refine (HFB.out _ _ _ ?hC).mono ?_
          case hC => exact Kd.C_below HCB.out (bel _ _)
          rintro e_625 w_625 ⟨v2, rfl, hv, hb⟩
          have p_625 := prev_call hb
          have Hv2 := Aside0.mk (Kd.R_lower hv (siz w4 _))
          have s_625 := siz w4 w_625
          clear hv hb
          refine ⟨_, rfl, ?_⟩
          refine hK.out _ _ held (fun hHeld => ?_)
          clear hK K
          refine norm_ (a' := ?_) ?_ ?_
          rotate_left
          · show Act.put _ (some 30) _ = _
            simp only [Act.put, List.setIfInBounds_toArray, List.set_cons_zero, List.set_cons_succ, i64_w, i32_w]
            rfl
          refine one_ (i := 7) (N := some 8) #[true, true, true, true, true, true, true, true, false, false] rfl rfl (one_of HT_.out (by kernel_rfl)) (by decide) (fun K hK => ?_)
          refine new_step (ob := .cells Z42 42) (by rfl) rfl (by go_simp; rfl) ?_
          intro w_6257 p_6257 h_6257
          have s_6257 := held_lt (W := w_6257) (g := w_625.heap.size)
          refine hK.out _ _ held (fun hHeld => ?_)
          clear hK K
          refine norm_ (a' := ?_) ?_ ?_
          rotate_left
          · show Act.put _ (some 8) _ = _
            simp only [Act.put, List.setIfInBounds_toArray, List.set_cons_zero, List.set_cons_succ, i64_w, i32_w]
            rfl
          have q := siz w_6 w_625
          refine hcont (w5.heap.size, w_625.heap.size, v1, v2) w_6257 ⟨bel w4 w_6257, siz w4 w5, siz w4 w_625, ?_, held, held, rowB Hv1.out (bel w_62 _), rowB Hv2.out (bel w_625 _)⟩
          show w5.heap.size ≠ w_625.heap.size
          omega
        · refine new_step (ob := .cells Z42 42) (by rfl) rfl (by go_simp; rfl) ?_
          intro w_627 p_627 h_627
          have s_627 := held_lt (W := w_627) (g := w_62.heap.size)
          refine hK.out _ _ held (fun hHeld => ?_)
          clear hK K
          refine norm_ (a' := ?_) ?_ ?_
          rotate_left
          · show Act.put _ (some 8) _ = _
            simp only [Act.put, List.setIfInBounds_toArray, List.set_cons_zero, List.set_cons_succ, i64_w, i32_w]
            rfl
          refine one_ (i := 5) (N := some 30) #[true, true, true, true, true, true, true, true, false, false] rfl rfl (one_of HT_.out (by kernel_rfl)) (by decide) (fun K hK => ?_)
          refine goes_ Try.func16 (by kernel_rfl) rfl #[ansV b B d] (by rfl) rfl rfl (by (try simp only [List.map_toArray, List.map_cons, List.map_nil]); first | done | rfl) ?_
          refine (HFB.out _ _ _ ?hC).mono ?_
          case hC => exact Kd.C_below HCB.out (bel _ _)
          rintro e_6275 w_6275 ⟨v2, rfl, hv, hb⟩
          have p_6275 := prev_call hb
          have Hv2 := Aside0.mk (Kd.R_lower hv (siz w4 _))
          have s_6275 := siz w4 w_6275
          clear hv hb
          refine ⟨_, rfl, ?_⟩
          refine hK.out _ _ held (fun hHeld => ?_)
          clear hK K
          refine norm_ (a' := ?_) ?_ ?_
          rotate_left
          · show Act.put _ (some 30) _ = _
            simp only [Act.put, List.setIfInBounds_toArray, List.set_cons_zero, List.set_cons_succ, i64_w, i32_w]
            rfl
          have q := siz w_6 w_62
          refine hcont (w5.heap.size, w_62.heap.size, v1, v2) w_6275 ⟨bel w4 w_6275, siz w4 w5, siz w4 w_62, ?_, held, held, rowB Hv1.out (bel w_62 _), rowB Hv2.out (bel w_6275 _)⟩
          show w5.heap.size ≠ w_62.heap.size
          omega
      · refine new_step (ob := .cells Z42 42) (by rfl) rfl (by go_simp; rfl) ?_
        intro w_67 p_67 h_67
        have s_67 := held_lt (W := w_67) (g := w_6.heap.size)
        refine hK.out _ _ held (fun hHeld => ?_)
        clear hK K
        refine norm_ (a' := ?_) ?_ ?_
        rotate_left
        · show Act.put _ (some 8) _ = _
          simp only [Act.put, List.setIfInBounds_toArray, List.set_cons_zero, List.set_cons_succ, i64_w, i32_w]
          rfl
        refine one_ (i := 2) (N := some 27) #[true, true, true, true, true, false, true, true, false, false] rfl rfl (one_of HT_.out (by kernel_rfl)) (by decide) (fun K hK => ?_)
        refine goes_ Try.func16 (by kernel_rfl) rfl #[ansV a A c] (by rfl) rfl rfl (by (try simp only [List.map_toArray, List.map_cons, List.map_nil]); first | done | rfl) ?_
        refine (HFA.out _ _ _ ?hC).mono ?_
        case hC => exact Kd.C_below HCA.out (bel _ _)
        rintro e_672 w_672 ⟨v1, rfl, hv, hb⟩
        have p_672 := prev_call hb
        have Hv1 := Aside0.mk (Kd.R_lower hv (siz w4 _))
        have s_672 := siz w4 w_672
        clear hv hb
        refine ⟨_, rfl, ?_⟩
        refine hK.out _ _ held (fun hHeld => ?_)
        clear hK K
        refine norm_ (a' := ?_) ?_ ?_
        rotate_left
        · show Act.put _ (some 27) _ = _
          simp only [Act.put, List.setIfInBounds_toArray, List.set_cons_zero, List.set_cons_succ, i64_w, i32_w]
          rfl
        refine one_ (i := 5) (N := some 30) #[true, true, true, true, true, true, true, true, false, false] rfl rfl (one_of HT_.out (by kernel_rfl)) (by decide) (fun K hK => ?_)
        refine goes_ Try.func16 (by kernel_rfl) rfl #[ansV b B d] (by rfl) rfl rfl (by (try simp only [List.map_toArray, List.map_cons, List.map_nil]); first | done | rfl) ?_
        refine (HFB.out _ _ _ ?hC).mono ?_
        case hC => exact Kd.C_below HCB.out (bel _ _)
        rintro e_6725 w_6725 ⟨v2, rfl, hv, hb⟩
        have p_6725 := prev_call hb
        have Hv2 := Aside0.mk (Kd.R_lower hv (siz w4 _))
        have s_6725 := siz w4 w_6725
        clear hv hb
        refine ⟨_, rfl, ?_⟩
        refine hK.out _ _ held (fun hHeld => ?_)
        clear hK K
        refine norm_ (a' := ?_) ?_ ?_
        rotate_left
        · show Act.put _ (some 30) _ = _
          simp only [Act.put, List.setIfInBounds_toArray, List.set_cons_zero, List.set_cons_succ, i64_w, i32_w]
          rfl
        have q := siz w_6 w_6
        refine hcont (w5.heap.size, w_6.heap.size, v1, v2) w_6725 ⟨bel w4 w_6725, siz w4 w5, siz w4 w_6, ?_, held, held, rowB Hv1.out (bel w_672 _), rowB Hv2.out (bel w_6725 _)⟩
        show w5.heap.size ≠ w_6.heap.size
        omega
    · refine new_step (ob := .cells Z42 42) (by rfl) rfl (by go_simp; rfl) ?_
      intro w_7 p_7 h_7
      have s_7 := held_lt (W := w_7) (g := w5.heap.size)
      refine hK.out _ _ held (fun hHeld => ?_)
      clear hK K
      refine norm_ (a' := ?_) ?_ ?_
      rotate_left
      · show Act.put _ (some 8) _ = _
        simp only [Act.put, List.setIfInBounds_toArray, List.set_cons_zero, List.set_cons_succ, i64_w, i32_w]
        rfl
      refine two_ (i := 2) (j := 6) (Ni := some 27) (Nj := some 7) #[true, true, true, true, true, false, false, true, false, false] #[true, true, false, true, true, false, true, true, false, false] rfl rfl rfl rfl (two_of HT_.out (by kernel_rfl)) (by decide) (by decide) (fun K hK => ?_) (fun K hK => ?_)
      · refine goes_ Try.func16 (by kernel_rfl) rfl #[ansV a A c] (by rfl) rfl rfl (by (try simp only [List.map_toArray, List.map_cons, List.map_nil]); first | done | rfl) ?_
        refine (HFA.out _ _ _ ?hC).mono ?_
        case hC => exact Kd.C_below HCA.out (bel _ _)
        rintro e_72 w_72 ⟨v1, rfl, hv, hb⟩
        have p_72 := prev_call hb
        have Hv1 := Aside0.mk (Kd.R_lower hv (siz w4 _))
        have s_72 := siz w4 w_72
        clear hv hb
        refine ⟨_, rfl, ?_⟩
        refine hK.out _ _ held (fun hHeld => ?_)
        clear hK K
        refine norm_ (a' := ?_) ?_ ?_
        rotate_left
        · show Act.put _ (some 27) _ = _
          simp only [Act.put, List.setIfInBounds_toArray, List.set_cons_zero, List.set_cons_succ, i64_w, i32_w]
          rfl
        refine two_ (i := 5) (j := 6) (Ni := some 30) (Nj := some 7) #[true, true, true, true, true, true, false, true, false, false] #[true, true, true, true, true, false, true, true, false, false] rfl rfl rfl rfl (two_of HT_.out (by kernel_rfl)) (by decide) (by decide) (fun K hK => ?_) (fun K hK => ?_)
        · refine goes_ Try.func16 (by kernel_rfl) rfl #[ansV b B d] (by rfl) rfl rfl (by (try simp only [List.map_toArray, List.map_cons, List.map_nil]); first | done | rfl) ?_
          refine (HFB.out _ _ _ ?hC).mono ?_
          case hC => exact Kd.C_below HCB.out (bel _ _)
          rintro e_725 w_725 ⟨v2, rfl, hv, hb⟩
          have p_725 := prev_call hb
          have Hv2 := Aside0.mk (Kd.R_lower hv (siz w4 _))
          have s_725 := siz w4 w_725
          clear hv hb
          refine ⟨_, rfl, ?_⟩
          refine hK.out _ _ held (fun hHeld => ?_)
          clear hK K
          refine norm_ (a' := ?_) ?_ ?_
          rotate_left
          · show Act.put _ (some 30) _ = _
            simp only [Act.put, List.setIfInBounds_toArray, List.set_cons_zero, List.set_cons_succ, i64_w, i32_w]
            rfl
          refine one_ (i := 6) (N := some 7) #[true, true, true, true, true, true, true, true, false, false] rfl rfl (one_of HT_.out (by kernel_rfl)) (by decide) (fun K hK => ?_)
          refine new_step (ob := .cells Z42 42) (by rfl) rfl (by go_simp; rfl) ?_
          intro w_7256 p_7256 h_7256
          have s_7256 := held_lt (W := w_7256) (g := w_725.heap.size)
          refine hK.out _ _ held (fun hHeld => ?_)
          clear hK K
          refine norm_ (a' := ?_) ?_ ?_
          rotate_left
          · show Act.put _ (some 7) _ = _
            simp only [Act.put, List.setIfInBounds_toArray, List.set_cons_zero, List.set_cons_succ, i64_w, i32_w]
            rfl
          have q := siz w_7 w_725
          refine hcont (w_725.heap.size, w5.heap.size, v1, v2) w_7256 ⟨bel w4 w_7256, siz w4 w_725, siz w4 w5, ?_, held, held, rowB Hv1.out (bel w_72 _), rowB Hv2.out (bel w_725 _)⟩
          show w_725.heap.size ≠ w5.heap.size
          omega
        · refine new_step (ob := .cells Z42 42) (by rfl) rfl (by go_simp; rfl) ?_
          intro w_726 p_726 h_726
          have s_726 := held_lt (W := w_726) (g := w_72.heap.size)
          refine hK.out _ _ held (fun hHeld => ?_)
          clear hK K
          refine norm_ (a' := ?_) ?_ ?_
          rotate_left
          · show Act.put _ (some 7) _ = _
            simp only [Act.put, List.setIfInBounds_toArray, List.set_cons_zero, List.set_cons_succ, i64_w, i32_w]
            rfl
          refine one_ (i := 5) (N := some 30) #[true, true, true, true, true, true, true, true, false, false] rfl rfl (one_of HT_.out (by kernel_rfl)) (by decide) (fun K hK => ?_)
          refine goes_ Try.func16 (by kernel_rfl) rfl #[ansV b B d] (by rfl) rfl rfl (by (try simp only [List.map_toArray, List.map_cons, List.map_nil]); first | done | rfl) ?_
          refine (HFB.out _ _ _ ?hC).mono ?_
          case hC => exact Kd.C_below HCB.out (bel _ _)
          rintro e_7265 w_7265 ⟨v2, rfl, hv, hb⟩
          have p_7265 := prev_call hb
          have Hv2 := Aside0.mk (Kd.R_lower hv (siz w4 _))
          have s_7265 := siz w4 w_7265
          clear hv hb
          refine ⟨_, rfl, ?_⟩
          refine hK.out _ _ held (fun hHeld => ?_)
          clear hK K
          refine norm_ (a' := ?_) ?_ ?_
          rotate_left
          · show Act.put _ (some 30) _ = _
            simp only [Act.put, List.setIfInBounds_toArray, List.set_cons_zero, List.set_cons_succ, i64_w, i32_w]
            rfl
          have q := siz w_7 w_72
          refine hcont (w_72.heap.size, w5.heap.size, v1, v2) w_7265 ⟨bel w4 w_7265, siz w4 w_72, siz w4 w5, ?_, held, held, rowB Hv1.out (bel w_72 _), rowB Hv2.out (bel w_7265 _)⟩
          show w_72.heap.size ≠ w5.heap.size
          omega
      · refine new_step (ob := .cells Z42 42) (by rfl) rfl (by go_simp; rfl) ?_
        intro w_76 p_76 h_76
        have s_76 := held_lt (W := w_76) (g := w_7.heap.size)
        refine hK.out _ _ held (fun hHeld => ?_)
        clear hK K
        refine norm_ (a' := ?_) ?_ ?_
        rotate_left
        · show Act.put _ (some 7) _ = _
          simp only [Act.put, List.setIfInBounds_toArray, List.set_cons_zero, List.set_cons_succ, i64_w, i32_w]
          rfl
        refine one_ (i := 2) (N := some 27) #[true, true, true, true, true, false, true, true, false, false] rfl rfl (one_of HT_.out (by kernel_rfl)) (by decide) (fun K hK => ?_)
        refine goes_ Try.func16 (by kernel_rfl) rfl #[ansV a A c] (by rfl) rfl rfl (by (try simp only [List.map_toArray, List.map_cons, List.map_nil]); first | done | rfl) ?_
        refine (HFA.out _ _ _ ?hC).mono ?_
        case hC => exact Kd.C_below HCA.out (bel _ _)
        rintro e_762 w_762 ⟨v1, rfl, hv, hb⟩
        have p_762 := prev_call hb
        have Hv1 := Aside0.mk (Kd.R_lower hv (siz w4 _))
        have s_762 := siz w4 w_762
        clear hv hb
        refine ⟨_, rfl, ?_⟩
        refine hK.out _ _ held (fun hHeld => ?_)
        clear hK K
        refine norm_ (a' := ?_) ?_ ?_
        rotate_left
        · show Act.put _ (some 27) _ = _
          simp only [Act.put, List.setIfInBounds_toArray, List.set_cons_zero, List.set_cons_succ, i64_w, i32_w]
          rfl
        refine one_ (i := 5) (N := some 30) #[true, true, true, true, true, true, true, true, false, false] rfl rfl (one_of HT_.out (by kernel_rfl)) (by decide) (fun K hK => ?_)
        refine goes_ Try.func16 (by kernel_rfl) rfl #[ansV b B d] (by rfl) rfl rfl (by (try simp only [List.map_toArray, List.map_cons, List.map_nil]); first | done | rfl) ?_
        refine (HFB.out _ _ _ ?hC).mono ?_
        case hC => exact Kd.C_below HCB.out (bel _ _)
        rintro e_7625 w_7625 ⟨v2, rfl, hv, hb⟩
        have p_7625 := prev_call hb
        have Hv2 := Aside0.mk (Kd.R_lower hv (siz w4 _))
        have s_7625 := siz w4 w_7625
        clear hv hb
        refine ⟨_, rfl, ?_⟩
        refine hK.out _ _ held (fun hHeld => ?_)
        clear hK K
        refine norm_ (a' := ?_) ?_ ?_
        rotate_left
        · show Act.put _ (some 30) _ = _
          simp only [Act.put, List.setIfInBounds_toArray, List.set_cons_zero, List.set_cons_succ, i64_w, i32_w]
          rfl
        have q := siz w_7 w_7
        refine hcont (w_7.heap.size, w5.heap.size, v1, v2) w_7625 ⟨bel w4 w_7625, siz w4 w_7, siz w4 w5, ?_, held, held, rowB Hv1.out (bel w_762 _), rowB Hv2.out (bel w_7625 _)⟩
        show w_7.heap.size ≠ w5.heap.size
        omega
  rintro ⟨g7, g8, v1, v2⟩ w6 ⟨hb6, k7, k8, k78, h7, h8, hv1, hv2⟩
  simp only at k7 k8 k78 h7 h8 hv1 hv2
  have p6 := prev_call hb6
  obtain ⟨A1, c1, rfl⟩ := Kd.R_slice hv1
  obtain ⟨B1, d1, rfl⟩ := Kd.R_slice hv2
  have HV1 := Aside0.mk hv1
  have HV2 := Aside0.mk hv2
  have H7 : Holds w6 g7 (.cells Z42 42) := ⟨h7⟩
  have H8 : Holds w6 g8 (.cells Z42 42) := ⟨h8⟩
  have a78 : Apart g8 (.row g7) := apart_ne (by omega)
  have s4 := held_lt (W := w4) (g := w.heap.size + 2)
  have x7 : Apart w.heap.size (.row g7) := apart_ne (by omega)
  have x8 : Apart w.heap.size (.row g8) := apart_ne (by omega)
  have y7 : Apart (w.heap.size + 1) (.row g7) := apart_ne (by omega)
  have y8 : Apart (w.heap.size + 1) (.row g8) := apart_ne (by omega)
  have o7 : OwnB w.heap.size (.row g7) := own_row (by omega)
  have o8 : OwnB w.heap.size (.row g8) := own_row (by omega)
  have b87 : Apart g7 (.row g8) := apart_ne (by omega)
  clear hb6 h7 h8 hv1 hv2
  refine norm_ (a' := ?_) ?_ ?_
  rotate_left
  · simp only [putAll, Act.put, List.setIfInBounds_toArray, List.set_cons_zero, List.set_cons_succ]
    rfl
  refine last_ (i := 8) (N := none) #[true, true, true, true, true, true, true, true, true, false] rfl rfl (one_of HT_.out (by kernel_rfl)) (by decide) (fun K hK => ?_)
  refine box_skip (by rfl) rfl 42 (.tmp 7) (.tmp 27) rfl held #[.int .i64 a1.f0, .int .i64 a1.f1, .int .i64 a1.f2, .int .i64 a1.f3, .string a1.f4, .slice A1 a1.f5.length c1] rfl rfl info42 (by rfl) (by rfl) ?_
  intro w7 hx hg
  have pw7 := prev_row hg
  have hw7 : Holds w7 g7 (.cells #[.int .i64 a1.f0, .int .i64 a1.f1, .int .i64 a1.f2, .int .i64 a1.f3, .string a1.f4, .slice A1 a1.f5.length c1] 42) := ⟨hx⟩
  clear hx hg
  refine hK.out _ _ ?_
  clear hK K
  refine last_ (i := 9) (N := none) #[true, true, true, true, true, true, true, true, true, true] rfl rfl (one_of HT_.out (by kernel_rfl)) (by decide) (fun K hK => ?_)
  refine box_skip (by rfl) rfl 42 (.tmp 8) (.tmp 30) rfl held #[.int .i64 b1.f0, .int .i64 b1.f1, .int .i64 b1.f2, .int .i64 b1.f3, .string b1.f4, .slice B1 b1.f5.length d1] rfl rfl info42 (by rfl) (by rfl) ?_
  intro w8 hx hg
  have pw8 := prev_row hg
  have hw8 : Holds w8 g8 (.cells #[.int .i64 b1.f0, .int .i64 b1.f1, .int .i64 b1.f2, .int .i64 b1.f3, .string b1.f4, .slice B1 b1.f5.length d1] 42) := ⟨hx⟩
  clear hx hg
  refine hK.out _ _ ?_
  clear hK K
  refine done_ (done_of HT_.out (by kernel_rfl)) ?_
  go_wp2_with fail
  refine (HQX.out _).mono ?_
  rintro r9 w9 ⟨rfl, hb⟩
  have p9 := prev_call hb
  clear hb
  go_wp2_with fail
  refine (HQY.out _).mono ?_
  rintro r10 w10 ⟨rfl, hb⟩
  have p10 := prev_call hb
  clear hb
  have hway : (e = 0 ∧ f = 0 ∧ p = q ∧ t = u) ∨ (e = 0 ∧ f = 0 ∧ eqB p q = false ∧ (t.toList == u.toList) = false) ∨ (e = 0 ∧ f ≠ 0) ∨ e ≠ 0 := by
    have hpq := HPQ.out
    by_cases he : e = 0
    · by_cases hf : f = 0
      · rcases hpq he hf with h | h
        · exact .inl ⟨he, hf, h⟩
        · exact .inr (.inl ⟨he, hf, h⟩)
      · exact .inr (.inr (.inl ⟨he, hf⟩))
    · exact .inr (.inr (.inr he))
  clear HPQ
  rcases hway with ⟨he, hf, hp, ht⟩ | ⟨he, hf, hp, ht⟩ | ⟨he, hf⟩ | he
  case' inl =>
    subst he hf hp ht
    go_wp2_with (first | (refine box_load rfl 23 (.tmp 3) rfl held rfl hu23 rfl info23 ?_) | (refine box_load rfl 23 (.tmp 4) rfl held rfl hu23 rfl info23 ?_))
  case' inr.inl =>
    subst he hf
    replace hp : (p.f0 == q.f0 && (p.f1 == q.f1 && (p.f2 == q.f2 && (p.f3 == q.f3 && (p.f4 == q.f4 && (p.f5 == q.f5 && (p.f6.toList == q.f6.toList && (p.f7.toList == q.f7.toList)))))))) = false := hp
    go_wp2_with (first | (refine box_load rfl 23 (.tmp 3) rfl held rfl hu23 rfl info23 ?_) | (refine box_load rfl 23 (.tmp 4) rfl held rfl hu23 rfl info23 ?_))
  case' inr.inr.inl =>
    subst he
    have hz2 : (f == 0) = false := beq_eq_false_iff_ne.mpr hf
    clear hf
    go_wp2_with (first | (refine box_load rfl 23 (.tmp 3) rfl held rfl hu23 rfl info23 ?_) | (refine box_load rfl 23 (.tmp 4) rfl held rfl hu23 rfl info23 ?_))
  case' inr.inr.inr =>
    have hz1 : (e == 0) = false := beq_eq_false_iff_ne.mpr he
    clear he
    go_wp2_with (first | (refine box_load rfl 23 (.tmp 3) rfl held rfl hu23 rfl info23 ?_) | (refine box_load rfl 23 (.tmp 4) rfl held rfl hu23 rfl info23 ?_))
  all_goals
    have i7 : NoRow (81 :: k81.E) w6 (.row g7) := noRow_row held (by decide)
    have i8 : NoRow (81 :: k81.E) w7 (.row g8) := noRow_row held (by decide)
    refine (HNA.out _ A1 c1 ?hC).mono ?_
    case hC => exact (Kd.R_reads' (rowK HV1.out)).2.2
    rintro r11 w11 ⟨rfl, hb⟩
    have p11 := prev_call hb
    clear hb
    go_wp2_with fail
    refine (HNB.out _ B1 d1 ?hC).mono ?_
    case hC => exact (Kd.R_reads' (rowK HV2.out)).2.2
    rintro r12 w12 ⟨rfl, hb⟩
    have p12 := prev_call hb
    clear hb
    have hway2 : ∃ m, m = sameA a1 b1 ∧ ((e1 = 0 ∧ f1 = 0 ∧ (t1.toList == u1.toList) = m) ∨ (e1 = 0 ∧ f1 ≠ 0) ∨ e1 ≠ 0) := by
      have hab := HAB.out
      refine ⟨_, rfl, ?_⟩
      by_cases he : e1 = 0
      · by_cases hf : f1 = 0
        · exact .inl ⟨he, hf, hab he hf⟩
        · exact .inr (.inl ⟨he, hf⟩)
      · exact .inr (.inr he)
    clear HAB
    obtain ⟨m, hm, hway⟩ := hway2
    have hsm := HSM.out
    rw [← hm] at hsm
    have HSM' := Aside0.mk hsm
    clear hm hsm HSM
    rcases hway with ⟨he1, hf1, ht1⟩ | ⟨he1, hf1⟩ | he1
    case' inl =>
      subst he1 hf1
      go_wp2_with (first | (refine box_load rfl 42 (.tmp 7) rfl held rfl hu42 rfl info42 ?_) | (refine box_load rfl 42 (.tmp 8) rfl held rfl hu42 rfl info42 ?_))
      refine (HSM'.out _ A1 B1 c1 d1 ?hC ?hD).mono ?_
      case hC => exact (Kd.R_reads' (rowK HV1.out)).2.2
      case hD => exact (Kd.R_reads' (rowK HV2.out)).2.2
      rintro r13 w13 ⟨rfl, hb⟩
      have p13 := prev_call hb
      clear hb
      have hmm : (m != m) = false := by simp
      go_wp2_with fail
    case' inr.inl =>
      subst he1
      have hy2 : (f1 == 0) = false := beq_eq_false_iff_ne.mpr hf1
      clear hf1
      go_wp2_with fail
    case' inr.inr =>
      have hy1 : (e1 == 0) = false := beq_eq_false_iff_ne.mpr he1
      clear he1
      go_wp2_with fail
  all_goals
    refine (HR0.out _).mono ?_
    rintro r14 w14 ⟨rfl, hb⟩
    have p14 := prev_call hb
    clear hb
    have o14 : OwnB w.heap.size (.row w14.heap.size) := own_row (siz w w14)
    go_wp2_with (first
      | ((with_reducible refine gate_dst (N := 17) rfl ?_); refine new_event rfl (N := 17) rfl (ob := .cells #[.int .i64 0, .int .i64 0, .int .i64 0, .int .i64 0, .int .i64 0, .int .i64 0, .string ⟨#[]⟩, .string ⟨#[]⟩] 23) (by go_simp; rfl) ?_; intro w15 p15 h15)
      | (refine box_store rfl rfl 23 (.tmp 17) (.tmp 83) rfl held #[.int .i64 z.f0, .int .i64 z.f1, .int .i64 z.f2, .int .i64 z.f3, .int .i64 z.f4, .int .i64 z.f5, .string z.f6, .string z.f7] rfl rfl info23 (by rfl) (by rfl) ?_
         intro w16 hx16 hg16
         have p16 := prev_row hg16
         clear hx16 hg16))
    refine (HA0.out _).mono ?_
    rintro r17 w17 ⟨v17, rfl, hv17, hb⟩
    have p17 := prev_call hb
    obtain ⟨Ad, cd, rfl⟩ := Kd.R_slice hv17
    have HV17 := Aside0.mk hv17
    have o17 : OwnB w.heap.size (.row w17.heap.size) := own_row (siz w w17)
    clear hb hv17
    go_wp2_with (first
      | ((with_reducible refine gate_dst (N := 19) rfl ?_); refine new_event rfl (N := 19) rfl (ob := .cells Z42 42) (by go_simp; rfl) ?_; intro w18 p18 h18)
      | (refine box_store rfl rfl 42 (.tmp 19) (.tmp 87) rfl held #[.int .i64 o.f0, .int .i64 o.f1, .int .i64 o.f2, .int .i64 o.f3, .string o.f4, .slice Ad o.f5.length cd] rfl rfl info42 (by rfl) (by rfl) ?_
         intro w19 hx19 hg19
         have p19 := prev_row hg19
         have h19 : Holds w19 w17.heap.size (.cells #[.int .i64 o.f0, .int .i64 o.f1, .int .i64 o.f2, .int .i64 o.f3, .string o.f4, .slice Ad o.f5.length cd] 42) := ⟨hx19⟩
         clear hx19 hg19)
      | (refine box_load rfl 42 (.tmp 19) rfl held rfl hu42 rfl info42 ?_))
    refine (HS0.out _ Ad cd ?hC).mono ?_
    case hC => exact (Kd.R_reads' (rowB HV17.out (bel w17 _))).2.2
    rintro r20 w20 ⟨rfl, hb⟩
    have p20 := prev_call hb
    clear hb
    go_wp2_with fail
    refine (works_any _).mono ?_
    rintro r22 w22 ⟨rfl, hb⟩
    have p22 := prev_call hb
    clear hb
    go_wp2_with fail
    go_ret
    exact ⟨rfl, bel _ _⟩
end Go.Proofs.Ytjaneipklpgnlaa.Q

namespace Go.Proofs.Ytjaneipklpgnlaa.Q
open Go Go.RowKit Go.Proofs.YtjaneipklpgnlaaK Go.Proofs.YtjaneipklpgnlaaW.PrintWords Go.Proofs.YtjaneipklpgnlaaW.PrintLast Go.Proofs.YtjaneipklpgnlaaW.PrintMore
set_option linter.unusedVariables false
/-! ### Two answers that come in as an array -/
theorem opens_two {P : Program} {t e : TypeId} {α : Type} {d : Kd α} {good : α → Prop} (ht : P.underlying t = some (.array 2 e)) (hc : P.cellsOf e = d.sz) (hs : P.cellsOf t = d.sz + d.sz) (ho : Opens P e d good) : Opens P t (Kd.pair d d) (fun p => good p.1 ∧ good p.2) := by
  intro H enc w base spare held fuel cs x h
  obtain ⟨xs, m, _, _, hl, hxl, hx⟩ := DataW.trod_array ht h
  rw [hs] at hl
  rw [hc] at hx
  have h0 := hx 0 (by omega)
  have h1 := hx 1 (by omega)
  rw [List.getElem?_eq_getElem (by omega)] at h0 h1
  rw [Nat.zero_mul, List.drop_zero] at h0
  rw [Nat.one_mul, List.take_of_length_le (by rw [List.length_drop]; omega)] at h1
  obtain ⟨a, ha, ga⟩ := ho _ _ _ _ _ _ _ _ _ h0
  obtain ⟨b, hb, gb⟩ := ho _ _ _ _ _ _ _ _ _ h1
  exact ⟨(a, b), ⟨cs.take d.sz, cs.drop d.sz, (List.take_append_drop _ _).symm, ha, hb⟩, ga, gb⟩
theorem okWide_array {P : Program} {w : World} {base : Nat} {t e : TypeId} {n : Nat} {v : Value} (ht : P.underlying t = some (.array n e)) (h : Value.okWide P w .any base t v) : ∃ cs, v = .agg cs := by
  simp only [Value.okWide, ht] at h
  obtain ⟨cs, h1, _⟩ := h
  exact ⟨cs, h1⟩
abbrev k55 : Kd (S42 × S42) := Kd.pair k42 k42
theorem opens55 : Opens Try.prog 55 k55 (fun p => good42 p.1 ∧ good42 p.2) := opens_two Try.underlying55 (by kernel_rfl) (by kernel_rfl) opens42
theorem k55_open {w : World} {p : S42 × S42} {cs : List Value} (h : k55.K w p cs) : ∃ A c B d, cs = [.int .i64 p.1.f0, .int .i64 p.1.f1, .int .i64 p.1.f2, .int .i64 p.1.f3, .string p.1.f4, .slice A p.1.f5.length c, .int .i64 p.2.f0, .int .i64 p.2.f1, .int .i64 p.2.f2, .int .i64 p.2.f3, .string p.2.f4, .slice B p.2.f5.length d] ∧ k81.C w A p.1.f5.length p.1.f5 ∧ k81.C w B p.2.f5.length p.2.f5 := by
  obtain ⟨_, _, rfl, h1, h2⟩ := h
  obtain ⟨A, c, rfl, _, hA⟩ := k42_open h1
  obtain ⟨B, d, rfl, _, hB⟩ := k42_open h2
  exact ⟨A, c, B, d, rfl, hA, hB⟩
/-! ### What no text says -/
theorem dec_none : decS ⟨#[]⟩ = ([], 0) := (dec_enc _ _).2 rfl
theorem rr_none : rrS ⟨#[]⟩ = (req0, 5) := by
  unfold rrS
  rw [dec_none]
  rfl
theorem ansL0_0 : ansL0 ans0 = [] := by simp [ansL0, ans0, layN, layT]
theorem ansOk_0 : ansOk ans0 = true := by
  simp [ansOk, ansOk0, ans0, badN, badT]
  decide
theorem ansS_0 : ansS ans0 = (⟨#[]⟩, 0) := by
  unfold ansS
  rw [if_pos ansOk_0, ansL0_0]
  rfl
theorem ra_none : raS ⟨#[]⟩ = (ans0, 0) := by
  have h := ra_back ans0 (by rw [ansS_0])
  rw [ansS_0] at h
  exact h
theorem same0 : sameA ans0 ans0 = true := (sameA_iff _ _).2 rfl
/-! ### Unlike ones have unlike bytes -/
theorem once_req (p q : S23) (he : (reqS p).2 = 0) (hf : (reqS q).2 = 0) : ((p = q ∧ (reqS p).1 = (reqS q).1) ∨ (eqB p q = false ∧ ((reqS p).1.toList == (reqS q).1.toList) = false)) := by
  by_cases h : p = q
  · exact .inl ⟨h, by rw [h]⟩
  · refine .inr ⟨?_, ?_⟩
    · cases hb : eqB p q with
      | false => rfl
      | true => exact absurd ((eqB_iff p q).1 hb) h
    · refine beq_eq_false_iff_ne.mpr (fun ht => h ?_)
      have h1 := rr_back p he
      have h2 := rr_back q hf
      rw [tl_inj ht, h2] at h1
      exact (congrArg Prod.fst h1).symm
theorem once_ans (a b : S42) (he : (ansS a).2 = 0) (hf : (ansS b).2 = 0) : ((ansS a).1.toList == (ansS b).1.toList) = sameA a b := by
  by_cases h : a = b
  · subst h
    rw [(sameA_iff a a).2 rfl]
    exact beq_self_eq_true _
  · have h2 : sameA a b = false := by
      cases hb : sameA a b with
      | false => rfl
      | true => exact absurd ((sameA_iff a b).1 hb) h
    rw [h2]
    refine beq_eq_false_iff_ne.mpr (fun ht => h ?_)
    have h3 := ra_back a he
    have h4 := ra_back b hf
    rw [tl_inj ht, h4] at h3
    exact (congrArg Prod.fst h3).symm
theorem once_any (w : World) (x y : S23) (p : S42 × S42) (A B : Option Addr) (c d : Nat) (hA : k81.C w A p.1.f5.length p.1.f5) (hB : k81.C w B p.2.f5.length p.2.f5) :
    Calls Try.prog 7 #[aggR x, aggR y, ansTwo p.1 p.2 A B c d] w fun e w' => e = .returned (.bool true) ∧ Below w.heap.size w w' :=
  once_walk w x y (cutR x) (cutR y) p.1 p.2 (cutA p.1) (cutA p.2) A B c d hA hB
    (fun W => few_any W x) (fun W A c h => fewer_any W p.1 A c h h.2.1) (fun W A c h => fewer_any W p.2 A c h h.2.1)
    (reqS (cutR x)).1 (reqS (cutR y)).1 (ansS (cutA p.1)).1 (ansS (cutA p.2)).1 (reqS (cutR x)).2 (reqS (cutR y)).2 (ansS (cutA p.1)).2 (ansS (cutA p.2)).2
    (fun W => req_any W (cutR x)) (fun W => req_any W (cutR y))
    (once_req (cutR x) (cutR y))
    (fun W A c h => answer_any W (cutA p.1) A c h) (fun W A c h => answer_any W (cutA p.2) A c h)
    (fun W A B c d h1 h2 => sameA_any W (cutA p.1) (cutA p.2) A B c d h1 h2 (cutA_len p.1) (cutA_len p.2))
    (once_ans (cutA p.1) (cutA p.2))
    req0 (fun W => by have := rr_any W ⟨#[]⟩; rw [rr_none] at this; exact this)
    ans0 (fun W => by have := ra_any W ⟨#[]⟩; rw [ra_none] at this; exact this)
    (fun W A c h => by
      have := sameA_any W ans0 ans0 A none c 0 h ⟨rfl, by decide, fun h => absurd h (by decide)⟩ (by decide) (by decide)
      rw [same0] at this
      exact this)
    (fun W => few_any W y)
end Go.Proofs.Ytjaneipklpgnlaa.Q

namespace Go.Proofs.Ytjaneipklpgnlaa.talkOnce
open Go.ChangeShapes Go.WideShapes Go.ChangeAt Go.RowKit Go.Proofs.YtjaneipklpgnlaaK Go.Proofs.YtjaneipklpgnlaaW.PrintWords Go.Proofs.Ytjaneipklpgnlaa.Q
open Go.ChangeMaps (open_string shut_string)
set_option linter.unusedVariables false
theorem own : ownKnob Try.prog.godebug = none := by kernel_rfl
theorem laidOut : laidOutB Try.prog = true := by kernel_rfl
set_option maxRecDepth 100000 in
theorem lifted (os : Os) (started : os.Started) (H : Type) (enc : TypeId × Value → H) :
    ReturnsInHanded {} Try.checked os 7 .any (Rows.talkOnceSpec.pre6 enc Try.prog Try.f7 Rows.talkOnceRow.domain false) (Rows.talkOnceSpec.post enc Try.prog Try.f7 false true false false) := by
  refine returnsInHanded_of_change_sized (C := Try.checked) own started (by kernel_rfl) Try.func7
    (ChangeSpec.witness6 (enc := enc) (C := Try.checked) false ⟨#[], #[.agg #[.int .i64 0, .int .i64 0, .int .i64 0, .int .i64 0, .int .i64 0, .int .i64 0, .string ByteArray.empty, .string ByteArray.empty], .agg #[.int .i64 0, .int .i64 0, .int .i64 0, .int .i64 0, .int .i64 0, .int .i64 0, .string ByteArray.empty, .string ByteArray.empty], .agg #[.int .i64 0, .int .i64 0, .int .i64 0, .int .i64 0, .string ByteArray.empty, .slice none 0 0, .int .i64 0, .int .i64 0, .int .i64 0, .int .i64 0, .string ByteArray.empty, .slice none 0 0]], []⟩ 8 (by kernel_rfl) (by kernel_rfl) (by kernel_rfl) (by kernel_rfl)) ?_
  intro W base args ds gs before hval0 hW hcnd hsz0 _
  have hsz : (DataW.weightsEach Try.prog (Try.f7.params.toList ++ Rows.talkOnceSpec.plain.varTypes Try.prog) (ds ++ gs)).all (· ≤ reachBytes) = true := hsz0
  have hval : ∀ (j : Nat) t v, Try.f7.params[j]? = some t → args[j]? = some v → Value.okWide Try.prog W .any base t v := hval0
  have hW' := hW
  obtain ⟨p, q, hA0, hV, rfl, hfz, hnd⟩ := hW
  have hA : DataW.TrodAll enc Try.prog W 0 (fun _ => true) true Try.f7.params.toList args.toList ds p := hA0
  rw [Try.params7] at hA hval hsz
  obtain ⟨v0, vs0, d0, ds0, p0, q0, hargs, rfl, rfl, h0, r0⟩ := trodAll_cons hA
  obtain ⟨v1, vs1, d1, ds1, p1, q1, rfl, rfl, rfl, h1, r1⟩ := trodAll_cons r0
  obtain ⟨v2, vs2, d2, ds2, p2, q2, rfl, rfl, rfl, h2, r2⟩ := trodAll_cons r1
  obtain ⟨rfl, rfl, rfl⟩ := trodAll_nil r2
  obtain rfl : args = #[v0, v1, v2] := by cases args; simp_all
  obtain ⟨rfl, rfl⟩ := trodVars_none hV
  obtain ⟨cs0, rfl, hz0⟩ := okWide_struct Try.underlying23 (hval 0 23 v0 rfl rfl)
  have k0 := h0
  have lt0 : ∀ x ∈ p0, x.block < W.heap.size := by obtain ⟨m, hm⟩ := k0; exact DataW.trod_lt m _ _ _ hm
  obtain ⟨x0, hK0, hG0⟩ : ∃ x, k23.K W x cs0.toList ∧ good23 x := by
    obtain ⟨fuel, hf⟩ := h0
    exact opens23 _ _ _ _ _ _ _ _ _ hf
  obtain rfl : cs0 = #[.int .i64 x0.f0, .int .i64 x0.f1, .int .i64 x0.f2, .int .i64 x0.f3, .int .i64 x0.f4, .int .i64 x0.f5, .string x0.f6, .string x0.f7] := by
    have e_ := k23_open hK0
    cases cs0
    exact congrArg Array.mk e_
  obtain ⟨cs1, rfl, hz1⟩ := okWide_struct Try.underlying23 (hval 1 23 v1 rfl rfl)
  have k1 := h1
  have lt1 : ∀ x ∈ p1, x.block < W.heap.size := by obtain ⟨m, hm⟩ := k1; exact DataW.trod_lt m _ _ _ hm
  obtain ⟨x1, hK1, hG1⟩ : ∃ x, k23.K W x cs1.toList ∧ good23 x := by
    obtain ⟨fuel, hf⟩ := h1
    exact opens23 _ _ _ _ _ _ _ _ _ hf
  obtain rfl : cs1 = #[.int .i64 x1.f0, .int .i64 x1.f1, .int .i64 x1.f2, .int .i64 x1.f3, .int .i64 x1.f4, .int .i64 x1.f5, .string x1.f6, .string x1.f7] := by
    have e_ := k23_open hK1
    cases cs1
    exact congrArg Array.mk e_
  obtain ⟨cs2, rfl⟩ := okWide_array Try.underlying55 (hval 2 55 v2 rfl rfl)
  have k2 := h2
  have lt2 : ∀ x ∈ p2, x.block < W.heap.size := by obtain ⟨m, hm⟩ := k2; exact DataW.trod_lt m _ _ _ hm
  obtain ⟨x2, hK2, hG2⟩ : ∃ x, k55.K W x cs2.toList ∧ (good42 x.1 ∧ good42 x.2) := by
    obtain ⟨fuel, hf⟩ := h2
    exact opens55 _ _ _ _ _ _ _ _ _ hf
  obtain ⟨A2, c2, B2, dd2, e2, hA2, hB2⟩ := k55_open hK2
  obtain rfl : cs2 = #[.int .i64 x2.1.f0, .int .i64 x2.1.f1, .int .i64 x2.1.f2, .int .i64 x2.1.f3, .string x2.1.f4, .slice A2 x2.1.f5.length c2, .int .i64 x2.2.f0, .int .i64 x2.2.f1, .int .i64 x2.2.f2, .int .i64 x2.2.f3, .string x2.2.f4, .slice B2 x2.2.f5.length dd2] := by
    cases cs2
    exact congrArg Array.mk e2
  clear hA0 hval0 hsz0 hsz
  refine (once_any W x0 x1 x2 A2 B2 c2 dd2 hA2 hB2).mono fun e W' he0 => ?_
  obtain ⟨rfl, bel0⟩ := he0
  have bel : Below W.heap.size W W' := bel0
  exact ⟨_, rfl, _, _, _, [], _, [], hW', trodAll_mk1 (shut_bool Try.underlying4 _), (trodAll_cons_mk (Below.trod laidOut (by kernel_rfl) (of_decide_eq_true (by kernel_rfl)) k0 bel lt0) (trodAll_cons_mk (Below.trod laidOut (by kernel_rfl) (of_decide_eq_true (by kernel_rfl)) k1 bel lt1) (trodAll_cons_mk (Below.trod laidOut (by kernel_rfl) (of_decide_eq_true (by kernel_rfl)) k2 bel lt2) trodAll_mk0))), rfl, bel.frame _, fun h => by cases h⟩
theorem over : Rows.talkOnceRow.holds Try.pinned (OpenSpec.ofChange Rows.talkOnceSpec) :=
  OpenClaim.holds_of_wide 7 Try.f7 rfl rfl rfl rfl rfl rfl rfl ⟨rfl, rfl, rfl, rfl, rfl⟩ rfl rfl rfl rfl rfl (by kernel_rfl) Try.func7 (by kernel_rfl)
    (of_decide_eq_true (by kernel_rfl)) (by unfold Func.isWrapper; first | (rw [if_pos (by decide +kernel)]; kernel_rfl) | (rw [if_neg (by decide +kernel)]; exact ⟨rfl, rfl⟩))
    (fun os started H enc _ => lifted os started H enc)
theorem proved : Rows.TalkOnceSaid := over
#print axioms proved
end Go.Proofs.Ytjaneipklpgnlaa.talkOnce
namespace Go.Proofs.Ytjaneipklpgnlaa
/-- The row, under a short name, for the claim. -/
theorem talkOnce_holds : Rows.TalkOnceSaid := talkOnce.proved
end Go.Proofs.Ytjaneipklpgnlaa
