/-
What is proved: aquifer/aquiferlaw06.ScopeMakes answers true for every input, and leaves its arguments as they were.
-/
import Derived.Test.YtkflalaocnghcaaDoorZM3
import Derived.Test.YtkflalaocnghcaaDoorZM1
import Derived.Test.YtkflalaocnghcaaDoorRows
import Derived.Test.YtkflalaocnghcaaDoorCards
import Derived.Test.YtkflalaocnghcaaDoorTie
import Derived.WalkKit
import Derived.ProofKit
import Derived.OpenShut
import Derived.ShutString
import Derived.ChangeOld
import Derived.Below
import Derived.SizedLaws
import Derived.LaidLaws
import Derived.LaidMore
import Derived.Lay
import Derived.SevenTiedAt
import Derived.Stop.Joined
namespace Go.Proofs.YtkflalaocnghcaaDoor.Q
open Go Go.Proofs Go.Shelf Go.RowKit Go.Lib Go.Sort Go.Proofs.YtkflalaocnghcaaDoorP Go.Proofs.YtkflalaocnghcaaDoorK Go.Proofs.YtkflalaocnghcaaDoorW.PrintWords Go.Proofs.YtkflalaocnghcaaDoorW.PrintLast Go.Proofs.YtkflalaocnghcaaDoorW.PrintMore
set_option linter.unusedSimpArgs false
set_option linter.unusedVariables false
/-! ### The document's Make, May; the law's own words -/
theorem make_ref_loop (l : List ByteArray) (hs : shortP l = true) (hln : l.length ≤ 2000) (d : Nat) : ∀ (i k : Nat), i + d = l.length → (∀ x ∈ l.take i, isD x) → (l.length + 3) * (l.length + 1) + 5000 + d < k → aquiferref06_Make.l0 k l (i : Int) = some (match (l.drop i).find? (fun p => dirS p != 0) with
  | some p => ([], dirS p)
  | none => if 16 < (reduceS l).length then ([], 7) else (reduceS l, 0)) := by
  obtain ⟨hl, hm⟩ := shortP_mem hs
  induction d with
  | zero =>
    intro i k h hd hk
    obtain ⟨k, rfl⟩ : ∃ q, k = q + 1 := ⟨k - 1, by omega⟩
    have hdl : Dirs l := by rw [List.take_of_length_le (by omega)] at hd; exact hd
    unfold aquiferref06_Make.l0
    rw [if_neg (by omega), List.drop_of_length_le (by omega), refreduce hs hdl hln k (by omega), Option.bind_some, List.find?_nil]
    dsimp only
    by_cases h16 : 16 < (reduceS l).length
    · rw [if_pos (by omega), if_pos h16]
    · rw [if_neg (by omega), if_neg h16]
  | succ d ih =>
    intro i k h hd hk
    obtain ⟨k, rfl⟩ : ∃ q, k = q + 1 := ⟨k - 1, by omega⟩
    have hi : i < l.length := by omega
    unfold aquiferref06_Make.l0
    rw [if_pos (by omega), if_pos (by omega), rdB l i hi, refdir _ (hm _ (List.getElem_mem hi)) k (by omega), Option.bind_some, List.drop_eq_getElem_cons hi, List.find?_cons, wr1 i (by omega)]
    by_cases h0 : dirS l[i] = 0
    · rw [if_pos h0, ih (i + 1) k (by omega) (fun x hx => by
        rw [List.take_succ_eq_append_getElem hi] at hx
        rcases List.mem_append.1 hx with hx | hx
        · exact hd x hx
        · rw [List.mem_singleton.1 hx]; exact (dir_iff _).1 h0) (by omega)]
      simp [h0]
    · rw [if_neg h0]
      have : (dirS l[i] != 0) = true := bne_iff_ne.mpr h0
      rw [this]
theorem refmake {l : List ByteArray} (hs : shortP l = true) (hln : l.length ≤ 2000) (k : Nat) (hk : (l.length + 3) * (l.length + 1) + 8000 ≤ k) : aquiferref06_Make.f k l = some (makeS l) := by
  have h := make_ref_loop l hs hln l.length 0 k (by omega) (by simp) (by omega)
  rw [List.drop_zero] at h
  unfold aquiferref06_Make.f makeS
  exact h
theorem same_loop (a b : List ByteArray) (hl : a.length = b.length) (hb : a.length ≤ 100000) (d : Nat) : ∀ (i k : Nat), i + d = a.length → d < k → ∃ r, aquiferref05_SameTexts.l0 k a b (i : Int) = some r ∧ (r = true ↔ a.drop i = b.drop i) := by
  induction d with
  | zero =>
    intro i k h hk
    obtain ⟨k, rfl⟩ : ∃ q, k = q + 1 := ⟨k - 1, by omega⟩
    unfold aquiferref05_SameTexts.l0
    rw [if_neg (by omega), List.drop_of_length_le (by omega), List.drop_of_length_le (by omega)]
    exact ⟨true, rfl, by simp⟩
  | succ d ih =>
    intro i k h hk
    obtain ⟨k, rfl⟩ : ∃ q, k = q + 1 := ⟨k - 1, by omega⟩
    have hi : i < a.length := by omega
    have hj : i < b.length := by omega
    unfold aquiferref05_SameTexts.l0
    rw [if_pos (by omega), if_pos (by omega), if_pos (by omega), rdB a i hi, rdB b i hj, wr1 i (by omega), List.drop_eq_getElem_cons hi, List.drop_eq_getElem_cons hj]
    by_cases he : a[i].toList = b[i].toList
    · rw [if_pos he]
      obtain ⟨r, h1, h2⟩ := ih (i + 1) k (by omega) (by omega)
      exact ⟨r, h1, h2.trans ⟨fun h => by rw [(tlB _ _).1 he, h], fun h => (List.cons.inj h).2⟩⟩
    · rw [if_neg he]
      exact ⟨false, rfl, by
        constructor
        · intro h; cases h
        · intro h; exact absurd ((tlB _ _).2 (List.cons.inj h).1) he⟩
theorem refsame (a b : List ByteArray) (hb : a.length ≤ 100000) (k : Nat) (hk : a.length < k) : ∃ r, aquiferref05_SameTexts.f k a b = some r ∧ (r = true ↔ a = b) := by
  unfold aquiferref05_SameTexts.f
  by_cases hl : a.length = b.length
  · rw [if_pos (by omega)]
    have := same_loop a b hl hb a.length 0 k (by omega) hk
    simpa using this
  · rw [if_neg (by omega)]
    exact ⟨false, rfl, by
      constructor
      · intro h; cases h
      · intro h; exact absurd (by rw [h]) hl⟩
theorem same_refl (a : List ByteArray) (hb : a.length ≤ 100000) (k : Nat) (hk : a.length < k) : aquiferref05_SameTexts.f k a a = some true := by
  obtain ⟨r, h1, h2⟩ := refsame a a hb k hk
  rw [h1, h2.2 rfl]
/-! ### May: what it says of a list -/
theorem may_chain (l : List ByteArray) : ∀ q, isD q → mayA (some q) l = true → Dirs l ∧ Chain l ∧ ∀ x ∈ l, leP q x ∧ ¬ withinS q x = true := by
  induction l with
  | nil => intro q _ _; exact ⟨fun x hx => by simp at hx, List.Pairwise.nil, fun x hx => by simp at hx⟩
  | cons p l ih =>
    intro q hq h
    simp only [mayA, Bool.and_eq_true, beq_iff_eq, decide_eq_true_eq, Bool.not_eq_true'] at h
    obtain ⟨h0, h1, h2, h3⟩ := h
    have dp := (dir_iff p).1 h0
    obtain ⟨i1, i2, i3⟩ := ih p dp h3
    have hqp : leP q p := by rw [leP_iff]; omega
    have hnp : ¬ withinS q p = true := by rw [h2]; decide
    refine ⟨fun x hx => (List.mem_cons.1 hx).elim (fun e => by rw [e]; exact dp) (i1 x), List.pairwise_cons.2 ⟨i3, i2⟩, fun x hx => ?_⟩
    rcases List.mem_cons.1 hx with e | hx
    · rw [e]; exact ⟨hqp, hnp⟩
    · exact ⟨leP_trans hqp (i3 x hx).1, fun hw => hnp (within_between hq dp.1 (i1 x hx).1 hw hqp (i3 x hx).1)⟩
theorem mayA_chain (l : List ByteArray) (h : mayA none l = true) : Dirs l ∧ Chain l := by
  cases l with
  | nil => exact ⟨fun x hx => by simp at hx, List.Pairwise.nil⟩
  | cons p l =>
    simp only [mayA, Bool.and_eq_true, beq_iff_eq] at h
    have dp := (dir_iff p).1 h.1
    obtain ⟨i1, i2, i3⟩ := may_chain l p dp h.2
    exact ⟨fun x hx => (List.mem_cons.1 hx).elim (fun e => by rw [e]; exact dp) (i1 x), List.pairwise_cons.2 ⟨i3, i2⟩⟩
theorem chain_mayA (l : List ByteArray) : ∀ q : Option ByteArray, Dirs l → Chain l → (∀ y, q = some y → ∀ x ∈ l, leP y x ∧ ¬ withinS y x = true) → mayA q l = true := by
  induction l with
  | nil => intro q _ _ _; cases q <;> rfl
  | cons p l ih =>
    intro q hd hc hq
    unfold Chain at hc
    rw [List.pairwise_cons] at hc
    have h0 := (dir_iff p).2 (hd p List.mem_cons_self)
    have hr := ih (some p) (fun x hx => hd x (List.mem_cons_of_mem _ hx)) hc.2 (fun y hy x hx => by cases hy; exact hc.1 x hx)
    cases q with
    | none => simp only [mayA, h0, hr]; rfl
    | some y =>
      have h1 := hq y rfl p List.mem_cons_self
      have h2 : pcmp y p < 0 := by
        have a := (leP_iff y p).1 h1.1
        have b : pcmp y p ≠ 0 := fun e => h1.2 (by rw [good_path.eq _ _ e]; exact within_refl _)
        omega
      simp only [mayA, h0, hr, decide_eq_true h2, Bool.eq_false_iff.2 h1.2]
      rfl
theorem may_open {l : List ByteArray} (h : mayS l = true) : Dirs l ∧ Chain l ∧ l.length ≤ 16 := by
  have hl := may_len h
  unfold mayS at h
  rw [Bool.and_eq_true] at h
  exact ⟨(mayA_chain l h.1).1, (mayA_chain l h.1).2, hl⟩
theorem may_mk {l : List ByteArray} (hd : Dirs l) (hc : Chain l) (hl : l.length ≤ 16) : mayS l = true := by
  unfold mayS
  rw [chain_mayA l none hd hc (fun y hy => by cases hy), decide_eq_true hl]
  rfl
theorem chain_cov (l : List ByteArray) : ∀ x ∈ l, cov l x = true := fun x hx => (cov_iff l x).2 ⟨x, hx, within_refl x⟩
theorem reduce_self {l : List ByteArray} (hd : Dirs l) (hc : Chain l) : reduceS l = l := reduce_one hd hc (fun _ h => h) (chain_cov l)
theorem make_dirs {l : List ByteArray} (hd : Dirs l) : makeS l = if 16 < (reduceS l).length then ([], 7) else (reduceS l, 0) := by
  unfold makeS
  rw [(find_dirs l).2 hd]
theorem make_may {l : List ByteArray} (h : mayS l = true) : makeS l = (l, 0) := by
  obtain ⟨hd, hc, hl⟩ := may_open h
  rw [make_dirs hd, reduce_self hd hc, if_neg (by omega)]
/-- What Make made. -/
theorem make_ok {l : List ByteArray} (h : (makeS l).2 = 0) : Dirs l ∧ (makeS l).1 = reduceS l ∧ mayS (reduceS l) = true := by
  have hd : Dirs l := by
    rw [← find_dirs]
    cases hf : l.find? (fun p => dirS p != 0) with
    | none => rfl
    | some p =>
      have := List.find?_some hf
      unfold makeS at h
      rw [hf] at h
      simp only [bne_iff_ne] at this
      exact absurd h this
  rw [make_dirs hd] at h ⊢
  by_cases h16 : 16 < (reduceS l).length
  · rw [if_pos h16] at h; exact absurd h (by decide)
  · rw [if_neg h16]
    obtain ⟨s1, _, s3⟩ := reduce_spec hd
    exact ⟨hd, rfl, may_mk (fun x hx => hd x (s1 x hx)) s3 (by omega)⟩
theorem makeS_len (l : List ByteArray) : (makeS l).1.length ≤ l.length := by
  unfold makeS
  have := reduceS_len l
  split
  · exact Nat.zero_le _
  · split
    · exact Nat.zero_le _
    · exact this
theorem refmay {l : List ByteArray} (hs : shortP l = true) (hln : l.length ≤ 2000) (k : Nat) (hk : (l.length + 3) * (l.length + 1) + 8000 ≤ k) : aquiferref06_May.f k l = some (mayS l) := by
  unfold aquiferref06_May.f
  rw [refmake hs hln k hk, Option.bind_some]
  obtain ⟨r, h1, h2⟩ := refsame (makeS l).1 l (by have := makeS_len l; omega) k (by have := makeS_len l; omega)
  by_cases h0 : (makeS l).2 = 0
  · rw [if_pos h0, h1, Option.bind_some]
    congr 1
    rw [Bool.eq_iff_iff, h2]
    constructor
    · intro e
      obtain ⟨_, m1, m2⟩ := make_ok h0
      rw [m1] at e
      rw [e] at m2
      exact m2
    · intro hm; rw [make_may hm]
  · rw [if_neg h0]
    congr 1
    symm
    exact Bool.eq_false_iff.2 (fun hm => h0 (by rw [make_may hm]))
/-! ### few, works -/
def fewP (l : List ByteArray) : List ByteArray := (l.take 20).map fun p => p.extract 0 (mn (p.size : Int) 150).toNat
theorem mn_150 (n : Nat) (m : Int) (hm : 0 ≤ m) : 0 ≤ mn (n : Int) m ∧ mn (n : Int) m ≤ (n : Int) ∧ mn (n : Int) m ≤ m := by unfold mn; split <;> omega
theorem cut_size (p : ByteArray) (m : Int) (hm : 0 ≤ m) : ((p.extract 0 (mn (p.size : Int) m).toNat).size : Int) ≤ m := by
  rw [ByteArray.size_extract]
  have := mn_150 p.size m hm
  omega
theorem cut_same (p : ByteArray) (h : p.size ≤ 150) : p.extract 0 (mn (p.size : Int) 150).toNat = p := by
  have h1 : mn (p.size : Int) 150 = (p.size : Int) := by unfold mn; rw [if_neg (by omega)]
  rw [h1, Int.toNat_natCast]
  apply ByteArray.ext
  simp
theorem few_loop (l : List ByteArray) (d : Nat) : ∀ (i k : Nat) (out : List ByteArray), i + d = min l.length 20 → d < k → out.length ≤ i → aquiferlaw06_few.l0 k l out (i : Int) = some (out ++ fewP (l.drop i |>.take (20 - i))) := by
  induction d with
  | zero =>
    intro i k out h hk ho
    obtain ⟨k, rfl⟩ : ∃ q, k = q + 1 := ⟨k - 1, by omega⟩
    unfold aquiferlaw06_few.l0
    by_cases hl : i < l.length
    · rw [if_pos (by omega), if_neg (by omega)]
      have : 20 - i = 0 := by omega
      rw [this, List.take_zero]
      simp [fewP]
    · rw [if_neg (by omega), List.drop_of_length_le (by omega)]
      simp [fewP]
  | succ d ih =>
    intro i k out h hk ho
    obtain ⟨k, rfl⟩ : ∃ q, k = q + 1 := ⟨k - 1, by omega⟩
    have hi : i < l.length := by omega
    have hm := mn_150 l[i].size 150 (by decide)
    unfold aquiferlaw06_few.l0
    rw [if_pos (by omega), if_pos (by omega), if_pos (by omega), rdB l i hi, if_pos hm.1, if_pos hm.2.1, if_pos (by omega), wr1 i (by omega), ih (i + 1) k _ (by omega) (by omega) (by simp; omega), List.drop_eq_getElem_cons hi, show 20 - i = (20 - (i + 1)) + 1 by omega, List.take_succ_cons]
    have e : ∀ (x : ByteArray) (m : List ByteArray), m.length < 20 → fewP (x :: m) = x.extract 0 (mn (x.size : Int) 150).toNat :: fewP m := by
      intro x m hm
      unfold fewP
      rw [List.take_of_length_le (by simp; omega), List.take_of_length_le (by omega), List.map_cons]
    rw [e _ _ (by rw [List.length_take]; omega), List.append_assoc]
    rfl
theorem few_fn (l : List ByteArray) (k : Nat) (hk : 21 ≤ k) : aquiferlaw06_few.f k l = some (fewP l) := by
  have h := few_loop l (min l.length 20) 0 k [] (by omega) (by omega) (Nat.le_refl _)
  unfold aquiferlaw06_few.f
  have e : fewP (l.take 20) = fewP l := by unfold fewP; rw [List.take_take, Nat.min_self]
  rw [List.drop_zero, List.nil_append, Nat.sub_zero, e] at h
  exact h
theorem few_len (l : List ByteArray) : (fewP l).length ≤ 20 := by
  unfold fewP
  rw [List.length_map, List.length_take]
  omega
theorem few_size (l : List ByteArray) : ∀ p ∈ fewP l, p.size ≤ 150 := by
  intro p hp
  unfold fewP at hp
  obtain ⟨x, _, rfl⟩ := List.mem_map.1 hp
  have := cut_size x 150 (by decide)
  omega
theorem few_short (l : List ByteArray) : shortP (fewP l) = true := shortP_mk (by have := few_len l; omega) (fun p hp => by have := few_size l p hp; omega)
theorem few_few (l : List ByteArray) : fewP (fewP l) = fewP l := by
  have h1 := few_len l
  have h2 := few_size l
  generalize fewP l = m at h1 h2
  unfold fewP
  rw [List.take_of_length_le h1]
  have : m.map (fun p => p.extract 0 (mn (p.size : Int) 150).toNat) = m.map id := List.map_congr_left (fun p hp => cut_same p (h2 p hp))
  rw [this, List.map_id]
theorem works_60 : aquiferlaw06_works.f 60 = some true := by decide +kernel
theorem works_fn (k : Nat) (hk : 60 ≤ k) : aquiferlaw06_works.f k = some true := at_rounds (aquiferlaw06_works.mono) hk works_60
end Go.Proofs.YtkflalaocnghcaaDoor.Q

namespace Go.Proofs.YtkflalaocnghcaaDoor.Q
open Go Go.Proofs Go.Shelf Go.RowKit Go.Lib Go.Sort Go.Proofs.YtkflalaocnghcaaDoorP Go.Proofs.YtkflalaocnghcaaDoorK Go.Proofs.YtkflalaocnghcaaDoorW.PrintWords Go.Proofs.YtkflalaocnghcaaDoorW.PrintLast Go.Proofs.YtkflalaocnghcaaDoorW.PrintMore
theorem makes_big (l0 : List ByteArray) (k : Nat) (hk : 20000 ≤ k) : aquiferlaw06_ScopeMakes.f k l0 = some true := by
  have hs := few_short l0
  have hn := few_len l0
  have hff := few_few l0
  have fa : ((fewP l0).length + 3) * ((fewP l0).length + 1) ≤ 23 * 21 := Nat.mul_le_mul (by omega) (by omega)
  unfold aquiferlaw06_ScopeMakes.f
  rw [few_fn l0 k (by omega), Option.bind_some, few_fn _ k (by omega), Option.bind_some, hff]
  generalize fewP l0 = l at hs hn fa
  have hml := makeS_len l
  rw [make_fn hs k (by omega), Option.bind_some, refmake hs (by omega) k (by omega), Option.bind_some, same_refl _ (by omega) k (by omega), Option.bind_some, if_pos rfl, if_pos rfl, may_fn hs k (by omega), Option.bind_some, refmay hs (by omega) k (by omega), Option.bind_some, if_pos (by simp), same_refl _ (by omega) k (by omega), Option.bind_some, if_pos rfl, works_fn k (by omega), Option.bind_some]
theorem ScopeMakes_pure (l0 : List ByteArray) (_h0 : l0.length * 16 ≤ 140737488351232) (_g0 : ∀ a ∈ l0, a.size ≤ 9223372036854775807) : ∃ k, aquiferlaw06_ScopeMakes.f k l0 = some true := ⟨20000, makes_big l0 20000 (Nat.le_refl _)⟩
end Go.Proofs.YtkflalaocnghcaaDoor.Q

namespace Go.Proofs.YtkflalaocnghcaaDoor.scopeMakes
open Go.ChangeShapes Go.WideShapes Go.ChangeAt Go.RowKit Go.Proofs.YtkflalaocnghcaaDoorK Go.Proofs.YtkflalaocnghcaaDoorW.PrintWords Go.Proofs.YtkflalaocnghcaaDoor.Q
open Go.ChangeMaps (open_string shut_string)
set_option linter.unusedVariables false
theorem own : ownKnob Tryd.prog.godebug = none := by kernel_rfl
theorem laidOut : laidOutB Tryd.prog = true := by kernel_rfl
set_option maxRecDepth 100000 in
theorem lifted (os : Os) (started : os.Started) (H : Type) (enc : TypeId × Value → H) :
    ReturnsInHanded {} Tryd.checked os 3 .any (fun w args => (Rows.scopeMakesSpec.pre enc Tryd.prog Tryd.f3 Rows.scopeMakesRow.domain false w args ∧ laidMetH Tryd.prog Rows.scopeMakesRow.laid w) ∧ sizedMet enc Tryd.prog Tryd.f3 (OpenSpec.ofChange Rows.scopeMakesSpec) false w args) (Rows.scopeMakesSpec.post enc Tryd.prog Tryd.f3 false true false false) := by
  refine returnsInHanded_of_change_and (C := Tryd.checked) (X := fun w _ => laidMetH Tryd.prog Rows.scopeMakesRow.laid w) (fun _ _ _ hh h => h.of_heap hh) own started (by kernel_rfl) Tryd.func3
    (ChangeSpec.witness_shaped (enc := enc) (C := Tryd.checked) (os := os) (X := fun w _ => laidMetH Tryd.prog Rows.scopeMakesRow.laid w) false (World.laidAll Tryd.prog os Rows.scopeMakesRow.laid) #[.slice none 0 0] 8 (World.laidAll_os _ _ _)
      (World.shaped_of_ZipB (by kernel_rfl) (by kernel_rfl)) (by kernel_rfl) (by kernel_rfl) (by kernel_rfl)
      (by rw [MakeChecks.laidMetH_plain _ _ _ (by kernel_rfl)]; exact laidMet_laidAll _ (by kernel_rfl) (by kernel_rfl))) ?_
  intro W base args ds gs before hval0 hW hcnd hsz0 _ _
  have hsz : (DataW.weightsEach Tryd.prog (Tryd.f3.params.toList ++ Rows.scopeMakesSpec.plain.varTypes Tryd.prog) (ds ++ gs)).all (· ≤ reachBytes) = true := hsz0
  have hval : ∀ (j : Nat) t v, Tryd.f3.params[j]? = some t → args[j]? = some v → Value.okWide Tryd.prog W .any base t v := hval0
  have hW' := hW
  obtain ⟨p, q, hA0, hV, rfl, hfz, hnd⟩ := hW
  have hA : DataW.TrodAll enc Tryd.prog W 0 (fun _ => true) true Tryd.f3.params.toList args.toList ds p := hA0
  rw [Tryd.params3] at hA hval hsz
  obtain ⟨v0, vs0, d0, ds0, p0, q0, hargs, rfl, rfl, h0, r0⟩ := trodAll_cons hA
  obtain ⟨rfl, rfl, rfl⟩ := trodAll_nil r0
  obtain rfl : args = #[v0] := by cases args; simp_all
  obtain ⟨rfl, rfl⟩ := trodVars_none hV
  obtain ⟨a0, len0, cap0, rfl⟩ := okWide_slice Tryd.underlying22 (hval 0 22 v0 rfl rfl)
  have k0 := h0
  have lt0 : ∀ x ∈ p0, x.block < W.heap.size := by obtain ⟨m, hm⟩ := k0; exact DataW.trod_lt m _ _ _ hm
  have y0 : len0 * 16 ≤ 140737488351232 := sized_row hsz (j := 0) (t := 22) rfl rfl Tryd.underlying22 (by kernel_rfl) h0
  obtain ⟨l0, ⟨A0, c0, he0, hl0, hC0⟩, _, hG0⟩ : ∃ l, (Kd.slice 9 Kd.string).K W l [.slice a0 len0 cap0] ∧ l.length ≤ 9223372036854775807 ∧ ∀ a ∈ l, a.size ≤ 9223372036854775807 := by
    obtain ⟨fuel, hf⟩ := h0
    exact (opens_slice (e := 9) Tryd.underlying22 (by kernel_rfl) (opens_string Tryd.underlying9)) _ _ _ _ _ _ _ _ _ hf
  simp only [List.cons.injEq, Value.slice.injEq, and_true] at he0
  obtain ⟨rfl, rfl, rfl⟩ := he0
  clear hA0 hval0 hsz0 hsz
  obtain ⟨k, hP⟩ := ScopeMakes_pure l0 y0 hG0
  refine (aquiferlaw06_ScopeMakes.calls k _ _ l0 true W hC0 hl0 hP).mono fun e W' he0 => ?_
  obtain ⟨rfl, bel0⟩ := he0
  have bel : Below W.heap.size W W' := bel0
  exact ⟨_, rfl, _, _, _, [], _, [], hW', trodAll_mk1 (shut_bool Tryd.underlying4 _), (trodAll_cons_mk (Below.trod laidOut (by kernel_rfl) (of_decide_eq_true (by kernel_rfl)) k0 bel lt0) trodAll_mk0), rfl, bel.frame _, fun h => by cases h⟩
theorem over : Rows.scopeMakesRow.holds Tryd.pinned (OpenSpec.ofChange Rows.scopeMakesSpec) :=
  OpenClaim.holds_of_wide 3 Tryd.f3 rfl rfl rfl rfl rfl rfl rfl ⟨rfl, rfl, rfl, rfl, rfl⟩ rfl rfl rfl rfl rfl (by kernel_rfl) Tryd.func3 (by kernel_rfl)
    (of_decide_eq_true (by kernel_rfl)) (by unfold Func.isWrapper; first | (rw [if_pos (by decide +kernel)]; kernel_rfl) | (rw [if_neg (by decide +kernel)]; exact ⟨rfl, rfl⟩))
    (fun os started H enc _ => lifted os started H enc)
theorem card : Rows.ScopeMakesCardSaid :=
  Claim7.holds_tied_plain_at .later [] [.data, .pinned] true (true, "067b717ea2883e1b3b9eac4b170a2c4c73abc7f928e7b64b41a4e1bdbf2de1a7") false over (fun _ h => by cases h) (by kernel_rfl) (fun _ h => by cases h) scopeMakes_row_tie rfl ⟨rfl, rfl⟩ (by kernel_rfl) rfl
    (fun f fn hf hfn => by
      obtain rfl : f = 3 := Option.some.inj ((show Tryd.prog.funcNamed "aquifer/aquiferlaw06.ScopeMakes" = some 3 by kernel_rfl).symm.trans hf) |>.symm
      obtain rfl : fn = Tryd.f3 := (Option.some.inj (Tryd.func3.symm.trans hfn)).symm
      exact ⟨by kernel_rfl, fun j t ht => by
        rw [Tryd.params3] at ht
        have hm : t ∈ [22] := by simpa using Array.mem_of_getElem? ht
        have hall : ([22].all fun u => !Tryd.prog.wantsStandIn u) = true := by kernel_rfl
        exact (show Tryd.prog.wantsStandIn t = false by simpa using List.all_eq_true.1 hall t hm)⟩)
    (by kernel_rfl)
theorem proved : Rows.ScopeMakesCardSaid := card
#print axioms proved
end Go.Proofs.YtkflalaocnghcaaDoor.scopeMakes
namespace Go.Proofs.YtkflalaocnghcaaDoor
/-- The card, under a short name, for the claim. -/
theorem scopeMakes_holds : Rows.ScopeMakesCardSaid := scopeMakes.proved
end Go.Proofs.YtkflalaocnghcaaDoor
