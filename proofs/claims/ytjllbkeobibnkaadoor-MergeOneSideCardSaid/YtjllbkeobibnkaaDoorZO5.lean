/- Parts of the proof: PMayM, PSide, HWo2, HHasK, HReady, HFew, HFew2, HPaths, HDo0, HAll0. -/
import Derived.Test.YtjllbkeobibnkaaDoorZO3
import Derived.Test.YtjllbkeobibnkaaDoorZO4
import Derived.Deep.RegionHeld3
import Derived.Deep.DeepCutAuto
import Derived.StillTailTactics
import Derived.BigQuiet
import Derived.Test.YtjllbkeobibnkaaDoorZO1
set_option linter.unusedVariables false
set_option linter.unusedSimpArgs false
namespace Go.Proofs.YtjllbkeobibnkaaDoor.Q
open Go Go.Proofs Go.Shelf Go.RowKit Go.Lib Go.Sort Go.Proofs.YtjllbkeobibnkaaDoorP Go.Proofs.YtjllbkeobibnkaaDoorK Go.Proofs.YtjllbkeobibnkaaDoorW.PrintWords Go.Proofs.YtjllbkeobibnkaaDoorW.PrintLast Go.Proofs.YtjllbkeobibnkaaDoorW.PrintMore
set_option linter.unusedSimpArgs false
set_option linter.unusedVariables false
theorem wr0 (i : Nat) (h : i < 1048577) (h0 : 0 < i) : wrap64 ((i : Int) - 1) = ((i - 1 : Nat) : Int) := by unfold wrap64; omega
theorem tlB (a b : ByteArray) : a.toList = b.toList ↔ a = b := by
  rw [ByteArray.toList_eq, ByteArray.toList_eq]
  exact ⟨fun h => ByteArray.ext (Array.ext' h), fun h => by rw [h]⟩
def dirS (p : ByteArray) : Int := if (kindS p).2 = 0 ∧ (kindS p).1 = 2 then 13 else (kindS p).2
theorem dir_fn {p : ByteArray} (h : p.size ≤ 65536) : scope_dir.f p = some (dirS p) := by
  unfold scope_dir.f path_Kind.f dirS
  rw [if_pos h, Option.bind_some]
  by_cases h1 : (kindS p).2 = 0
  · rw [if_pos h1]
    by_cases h2 : (kindS p).1 = 2
    · rw [if_pos h2, if_pos ⟨h1, h2⟩]
    · rw [if_neg h2, if_neg (fun h => h2 h.2)]
  · rw [if_neg h1, if_neg (fun h => h1 h.1)]
theorem within_fn {d p : ByteArray} (h : p.size ≤ 65536) : scope_within.f d p = some (withinS d p) := by
  unfold scope_within.f path_Below.f withinS
  rw [if_pos h]
  by_cases h1 : p.toList = d.toList
  · rw [if_pos h1, beq_iff_eq.mpr h1]
    rfl
  · rw [if_neg h1, beq_eq_false_iff_ne.mpr h1]
    rfl
def mayA : Option ByteArray → List ByteArray → Bool
  | _, [] => true
  | none, p :: l => dirS p == 0 && mayA (some p) l
  | some q, p :: l => dirS p == 0 && (decide (pcmp q p < 0) && (!withinS q p && mayA (some p) l))
def prevB (l : List ByteArray) (i : Nat) : Option ByteArray := if i = 0 then none else l[i - 1]?
def mayS (l : List ByteArray) : Bool := mayA none l && decide (l.length ≤ 16)
theorem may_loop (l : List ByteArray) (hs : shortP l = true) (d : Nat) : ∀ (i k : Nat), i + d = l.length → d < k → scope_May.l0 k l l (l.length : Int) (i : Int) = some (mayA (prevB l i) (l.drop i) && decide (l.length ≤ 16)) := by
  obtain ⟨hl, hm⟩ := shortP_mem hs
  induction d with
  | zero =>
    intro i k h hk
    obtain ⟨k, rfl⟩ : ∃ q, k = q + 1 := ⟨k - 1, by omega⟩
    unfold scope_May.l0
    rw [if_neg (by omega), List.drop_of_length_le (by omega)]
    have e : mayA (prevB l i) [] = true := by cases prevB l i <;> rfl
    rw [e, Bool.true_and]
    congr 1
    rw [decide_eq_decide]
    omega
  | succ d ih =>
    intro i k h hk
    obtain ⟨k, rfl⟩ : ∃ q, k = q + 1 := ⟨k - 1, by omega⟩
    have hi : i < l.length := by omega
    have hn : prevB l (i + 1) = some l[i] := by unfold prevB; rw [if_neg (by omega)]; simp [hi]
    unfold scope_May.l0
    rw [if_pos (by omega), if_pos (by omega), if_pos (by omega), rdB l i hi, dir_fn (hm _ (List.getElem_mem hi)), Option.bind_some, List.drop_eq_getElem_cons hi, wr1 i (by omega), ih (i + 1) k (by omega) (by omega), hn]
    by_cases h0 : dirS l[i] = 0
    · rw [if_pos h0]
      by_cases hi0 : i = 0
      · subst hi0
        have e : prevB l 0 = none := rfl
        rw [if_neg (by omega), e]
        simp [mayA, h0]
      · have hp : i - 1 < l.length := by omega
        have e : prevB l i = some l[i - 1] := by unfold prevB; rw [if_neg hi0]; simp [hp]
        rw [if_pos (by omega), wr0 i (by omega) (by omega), if_pos (by omega), if_pos (by omega), rdB l (i - 1) hp, e, within_fn (hm _ (List.getElem_mem hi)), Option.bind_some]
        unfold path_Compare.f
        rw [if_pos ⟨hm _ (List.getElem_mem hp), hm _ (List.getElem_mem hi)⟩, Option.bind_some]
        simp only [mayA, h0, beq_self_eq_true, Bool.true_and]
        by_cases hc : pcmp l[i - 1] l[i] < 0
        · rw [if_neg (by omega), decide_eq_true hc, Bool.true_and]
          cases withinS l[i - 1] l[i] <;> simp
        · rw [if_pos (by omega), decide_eq_false hc]
          simp
    · rw [if_neg h0]
      have e : (dirS l[i] == 0) = false := beq_eq_false_iff_ne.mpr h0
      cases prevB l i <;> simp [mayA, e]
theorem may_fn {l : List ByteArray} (hs : shortP l = true) (k : Nat) (hk : l.length < k) : scope_May.f k l = some (mayS l) := by
  have h := may_loop l hs l.length 0 k (by omega) hk
  unfold scope_May.f mayS
  simpa [prevB] using h
theorem may_any (w : World) (A : Option Addr) (c : Nat) (l : List ByteArray) (hC : Kd.C Kd.string w A l.length l) (hc : l.length ≤ c) (hs : shortP l = true) :
    Calls Tryd.prog 42 #[.slice A l.length c] w fun e w' => e = .returned (.bool (mayS l)) ∧ Below w.heap.size w w' :=
  scope_May.calls (l.length + 1) A c l _ w hC hc (may_fn hs _ (by omega))
end Go.Proofs.YtjllbkeobibnkaaDoor.Q

namespace Go.Proofs.YtjllbkeobibnkaaDoor.Q
open Go Go.Proofs Go.RowKit Go.Lib Go.Sort Go.Proofs.YtjllbkeobibnkaaDoorP Go.Proofs.YtjllbkeobibnkaaDoorK
set_option linter.unusedVariables false
def getK : List S58 → ByteArray → Option S51
  | [], _ => none
  | k :: l, p => if k.f0 = p then some k.f1 else getK l p
theorem eqP_iff (p : ByteArray) (k : S58) : eqP p k = true ↔ k.f0 = p := by
  unfold eqP
  rw [beq_iff_eq]
  exact tlB _ _
theorem find_get (l : List S58) (p : ByteArray) : findS l p = (match getK l p with | some a => (a, true) | none => (z51, false)) := by
  induction l with
  | nil => rfl
  | cons k l ih =>
    unfold findS getK
    by_cases h : k.f0 = p
    · rw [if_pos ((eqP_iff p k).2 h), if_pos h]
    · rw [if_neg (fun e => h ((eqP_iff p k).1 e)), if_neg h]
      exact ih
theorem get_mem {l : List S58} {p : ByteArray} {a : S51} (h : getK l p = some a) : (⟨p, a⟩ : S58) ∈ l := by
  induction l with
  | nil => cases h
  | cons k l ih =>
    unfold getK at h
    by_cases hk : k.f0 = p
    · rw [if_pos hk] at h
      injection h with h
      rw [← hk, ← h]
      exact List.mem_cons_self
    · rw [if_neg hk] at h
      exact List.mem_cons_of_mem _ (ih h)
theorem get_none {l : List S58} {p : ByteArray} : getK l p = none ↔ ∀ k ∈ l, k.f0 ≠ p := by
  induction l with
  | nil => simp [getK]
  | cons k l ih =>
    unfold getK
    by_cases hk : k.f0 = p
    · rw [if_pos hk]
      exact ⟨fun h => (by cases h), fun h => absurd hk (h k List.mem_cons_self)⟩
    · rw [if_neg hk, ih]
      exact ⟨fun h x hx => by rcases List.mem_cons.1 hx with e | hx; (rw [e]; exact hk); exact h x hx, fun h x hx => h x (List.mem_cons_of_mem _ hx)⟩
theorem mem_get {l : List S58} (hr : risK l) {k : S58} (h : k ∈ l) : getK l k.f0 = some k.f1 := by
  induction l with
  | nil => simp at h
  | cons x l ih =>
    have h1 := List.pairwise_cons.1 hr
    unfold getK
    rcases List.mem_cons.1 h with e | h
    · rw [e, if_pos rfl]
    · have h2 := h1.1 k h
      rw [if_neg (fun e => by rw [e, good_path.refl] at h2; omega)]
      exact ih h1.2 h
def insS (p : ByteArray) (a : S51) : List S58 → List S58
  | [] => [⟨p, a⟩]
  | k :: l => if pcmp k.f0 p < 0 then k :: insS p a l else if pcmp k.f0 p = 0 then ⟨p, a⟩ :: l else ⟨p, a⟩ :: k :: l
theorem withS_ins (p : ByteArray) (a : S51) (l : List S58) : withS l p a = insS p a l := by
  induction l with
  | nil => rfl
  | cons k l ih =>
    by_cases h : pcmp k.f0 p < 0
    · have e : ltK p k = true := decide_eq_true h
      have e1 : posK p (k :: l) = posK p l + 1 := by unfold posK; rw [List.takeWhile_cons, if_pos e]; rfl
      have e2 : hitK p (k :: l) = hitK p l := by unfold hitK; rw [e1]; rfl
      have e3 : endK p (k :: l) = endK p l + 1 := by
        unfold endK
        rw [e2, e1]
        split <;> rfl
      unfold insS
      rw [if_pos h, ← ih]
      unfold withS
      rw [e1, e3]
      rfl
    · have e : ltK p k = false := decide_eq_false h
      have e1 : posK p (k :: l) = 0 := by unfold posK; rw [List.takeWhile_cons, if_neg (by rw [e]; decide)]; rfl
      have e2 : hitK p (k :: l) = decide (pcmp k.f0 p = 0) := by unfold hitK; rw [e1]; rfl
      unfold insS
      rw [if_neg h]
      unfold withS endK
      rw [e1, e2]
      by_cases h0 : pcmp k.f0 p = 0
      · rw [if_pos h0, if_pos (decide_eq_true h0)]
        rfl
      · rw [if_neg h0, if_neg (by rw [decide_eq_false h0]; decide)]
        rfl
theorem ins_mem {p : ByteArray} {a : S51} {l : List S58} {x : S58} (h : x ∈ insS p a l) : x = ⟨p, a⟩ ∨ x ∈ l := by
  induction l with
  | nil => exact .inl (by simpa [insS] using h)
  | cons k l ih =>
    unfold insS at h
    split at h
    · rcases List.mem_cons.1 h with e | h
      · exact .inr (e ▸ List.mem_cons_self)
      · rcases ih h with e | h
        · exact .inl e
        · exact .inr (List.mem_cons_of_mem _ h)
    · split at h
      · rcases List.mem_cons.1 h with e | h
        · exact .inl e
        · exact .inr (List.mem_cons_of_mem _ h)
      · rcases List.mem_cons.1 h with e | h
        · exact .inl e
        · exact .inr h
theorem ins_len (p : ByteArray) (a : S51) (l : List S58) : (insS p a l).length ≤ l.length + 1 := by
  induction l with
  | nil => exact Nat.le_refl _
  | cons k l ih =>
    unfold insS
    split
    · simp only [List.length_cons]; omega
    · split <;> simp only [List.length_cons] <;> omega
theorem ins_ris {p : ByteArray} {a : S51} {l : List S58} (h : risK l) : risK (insS p a l) := by
  induction l with
  | nil => exact List.pairwise_singleton _ _
  | cons k l ih =>
    have h1 := List.pairwise_cons.1 h
    unfold insS
    by_cases hk : pcmp k.f0 p < 0
    · rw [if_pos hk]
      refine List.pairwise_cons.2 ⟨fun x hx => ?_, ih h1.2⟩
      rcases ins_mem hx with e | hx
      · rw [e]; exact hk
      · exact h1.1 x hx
    · rw [if_neg hk]
      by_cases h0 : pcmp k.f0 p = 0
      · rw [if_pos h0]
        have e := good_path.eq _ _ h0
        refine List.pairwise_cons.2 ⟨fun x hx => ?_, h1.2⟩
        show pcmp p x.f0 < 0
        rw [← e]
        exact h1.1 x hx
      · rw [if_neg h0]
        have hp : pcmp p k.f0 < 0 := (good_path.lt _ _).2 (by omega)
        refine List.pairwise_cons.2 ⟨fun x hx => ?_, h⟩
        show pcmp p x.f0 < 0
        rcases List.mem_cons.1 hx with e | hx
        · rw [e]; exact hp
        · exact good_path.trans _ _ _ hp (h1.1 x hx)
theorem ins_get (p : ByteArray) (a : S51) (l : List S58) (q : ByteArray) : getK (insS p a l) q = if q = p then some a else getK l q := by
  induction l with
  | nil =>
    unfold insS getK
    by_cases h : p = q
    · rw [if_pos h, if_pos h.symm]
    · rw [if_neg h, if_neg (fun e => h e.symm)]
      rfl
  | cons k l ih =>
    unfold insS
    by_cases hk : pcmp k.f0 p < 0
    · rw [if_pos hk]
      have hne : k.f0 ≠ p := fun e => by rw [e, good_path.refl] at hk; omega
      rw [getK, getK, ih]
      by_cases h1 : k.f0 = q
      · rw [if_pos h1, if_pos h1, if_neg (fun e => hne (h1.trans e))]
      · rw [if_neg h1, if_neg h1]
    · rw [if_neg hk]
      by_cases h0 : pcmp k.f0 p = 0
      · have e := good_path.eq _ _ h0
        rw [if_pos h0, getK, getK, e]
        by_cases h1 : p = q
        · rw [if_pos h1, if_pos h1.symm]
        · rw [if_neg h1, if_neg (fun e => h1 e.symm), if_neg h1]
      · rw [if_neg h0, getK]
        by_cases h1 : p = q
        · rw [if_pos h1, if_pos h1.symm]
        · rw [if_neg h1, if_neg (fun e => h1 e.symm)]
theorem wo_ris {l : List S58} (h : risK l) (p : ByteArray) : risK (woS l p) := List.Pairwise.sublist List.filter_sublist h
theorem wo_get (l : List S58) (p q : ByteArray) : getK (woS l p) q = if q = p then none else getK l q := by
  induction l with
  | nil => unfold woS getK; simp [getK]
  | cons k l ih =>
    unfold woS at ih ⊢
    rw [List.filter_cons]
    by_cases hk : k.f0 = p
    · have e : eqP p k = true := (eqP_iff p k).2 hk
      rw [if_neg (by rw [e]; decide), ih, getK]
      by_cases h1 : q = p
      · rw [if_pos h1, if_pos h1]
      · rw [if_neg h1, if_neg h1, if_neg (fun e => h1 (e.symm.trans hk))]
    · have e : eqP p k = false := by
        cases hq : eqP p k
        · rfl
        · exact absurd ((eqP_iff p k).1 hq) hk
      rw [if_pos (by rw [e]; rfl), getK, getK, ih]
      by_cases h1 : k.f0 = q
      · rw [if_pos h1, if_pos h1, if_neg (fun e => hk (h1.trans e))]
      · rw [if_neg h1, if_neg h1]
theorem wo_mem {l : List S58} {p : ByteArray} {x : S58} (h : x ∈ woS l p) : x ∈ l := (List.mem_filter.1 h).1
theorem wo_len (l : List S58) (p : ByteArray) : (woS l p).length ≤ l.length := List.length_filter_le _ _
theorem listA_some (least : Int) (l : List S58) : ∀ y, listA least (some y) l = true ↔ (∀ k ∈ l, okK least k = true) ∧ risK l ∧ ∀ k ∈ l, pcmp y k.f0 < 0 := by
  induction l with
  | nil => intro y; exact ⟨fun _ => ⟨by simp, List.Pairwise.nil, by simp⟩, fun _ => rfl⟩
  | cons k l ih =>
    intro y
    unfold listA
    simp only [Bool.and_eq_true, decide_eq_true_eq]
    rw [ih k.f0]
    constructor
    · rintro ⟨h1, h2, h3, h4, h5⟩
      refine ⟨fun x hx => ?_, List.pairwise_cons.2 ⟨h5, h4⟩, fun x hx => ?_⟩
      · rcases List.mem_cons.1 hx with e | hx
        · rw [e]; exact h1
        · exact h3 x hx
      · rcases List.mem_cons.1 hx with e | hx
        · rw [e]; exact h2
        · exact good_path.trans _ _ _ h2 (h5 x hx)
    · rintro ⟨h1, h2, h3⟩
      have h4 := List.pairwise_cons.1 h2
      exact ⟨h1 k List.mem_cons_self, h3 k List.mem_cons_self, fun x hx => h1 x (List.mem_cons_of_mem _ hx), h4.2, h4.1⟩
theorem listA_none (least : Int) (l : List S58) : listA least none l = true ↔ (∀ k ∈ l, okK least k = true) ∧ risK l := by
  cases l with
  | nil => exact ⟨fun _ => ⟨by simp, List.Pairwise.nil⟩, fun _ => rfl⟩
  | cons k l =>
    unfold listA
    simp only [Bool.and_eq_true, true_and]
    rw [listA_some]
    constructor
    · rintro ⟨h1, h3, h4, h5⟩
      refine ⟨fun x hx => ?_, List.pairwise_cons.2 ⟨h5, h4⟩⟩
      rcases List.mem_cons.1 hx with e | hx
      · rw [e]; exact h1
      · exact h3 x hx
    · rintro ⟨h1, h2⟩
      have h4 := List.pairwise_cons.1 h2
      exact ⟨h1 k List.mem_cons_self, fun x hx => h1 x (List.mem_cons_of_mem _ hx), h4.2, h4.1⟩
/-- A list may be: each entry may, and it rises. -/
structure OkL (least : Int) (l : List S58) : Prop where
  ok : ∀ k ∈ l, okK least k = true
  ris : risK l
theorem OkL.ins {least : Int} {l : List S58} (h : OkL least l) {p : ByteArray} {a : S51} (ha : okK least ⟨p, a⟩ = true) : OkL least (insS p a l) :=
  ⟨fun k hk => by rcases ins_mem hk with e | hk; (rw [e]; exact ha); exact h.ok k hk, ins_ris h.ris⟩
theorem OkL.wo {least : Int} {l : List S58} (h : OkL least l) (p : ByteArray) : OkL least (woS l p) := ⟨fun k hk => h.ok k (wo_mem hk), wo_ris h.ris p⟩
/-- Sides may be. -/
structure OkS (s : S24) : Prop where
  a : OkL 1 s.f0
  l : OkL 0 s.f1
  r : OkL 1 s.f2
  same : ∀ p a r, getK s.f0 p = some a → getK s.f2 p = some r → r.f0 = a.f0 → alikeS r a = true
theorem check_iff (s : S24) : checkS s = 0 ↔ OkS s := by
  unfold checkS listsS
  constructor
  · intro h
    split at h
    · rename_i h1
      simp only [Bool.and_eq_true] at h1
      obtain ⟨h1, h2, h3⟩ := h1
      split at h
      · cases h
      · rename_i h4
        have a1 := (listA_none _ _).1 h1
        refine ⟨⟨a1.1, a1.2⟩, ⟨((listA_none _ _).1 h2).1, ((listA_none _ _).1 h2).2⟩, ⟨((listA_none _ _).1 h3).1, ((listA_none _ _).1 h3).2⟩, fun p a r ha hr hv => ?_⟩
        have hm := get_mem ha
        have hb : badK s.f2 ⟨p, a⟩ = false := by
          cases hb : badK s.f2 ⟨p, a⟩
          · rfl
          · exact absurd (List.any_eq_true.2 ⟨_, hm, hb⟩) h4
        unfold badK at hb
        rw [find_get, hr] at hb
        simp only [Bool.true_and, beq_iff_eq.mpr hv] at hb
        simpa using hb
    · cases h
  · intro h
    rw [if_pos (by rw [(listA_none _ _).2 ⟨h.a.ok, h.a.ris⟩, (listA_none _ _).2 ⟨h.l.ok, h.l.ris⟩, (listA_none _ _).2 ⟨h.r.ok, h.r.ris⟩]; rfl)]
    rw [if_neg]
    intro hb
    obtain ⟨k, hk, hb⟩ := List.any_eq_true.1 hb
    have ha := mem_get h.a.ris hk
    unfold badK at hb
    rw [find_get] at hb
    cases hr : getK s.f2 k.f0 with
    | none => rw [hr] at hb; cases hb
    | some r =>
      rw [hr] at hb
      simp only [Bool.true_and, Bool.and_eq_true, beq_iff_eq] at hb
      have := h.same _ _ _ ha hr hb.1
      rw [this] at hb
      exact absurd hb.2 (by decide)
end Go.Proofs.YtjllbkeobibnkaaDoor.Q

namespace Go.Proofs.YtjllbkeobibnkaaDoor.Q
open Go Go.Proofs Go.Shelf Go.RowKit Go.Lib Go.Sort Go.Proofs.YtjllbkeobibnkaaDoorK Go.Proofs.YtjllbkeobibnkaaDoorW.PrintWords Go.Proofs.YtjllbkeobibnkaaDoorW.PrintLast Go.Proofs.YtjllbkeobibnkaaDoorW.PrintMore
set_option linter.unusedSimpArgs false
set_option linter.unusedVariables false
attribute [local go_sem] A51_size A51_0 A51_1 A51_g0 A51_g1 A58_size A58_0 A58_1 A58_2 A58_g0 A58_g1 A58_g2 cell_held frozen_held
attribute [local go_sem] zero51 zero58 zero65
attribute [local go_sem ↓ high] lvx_of
attribute [local go_sem] lv_sc lv24 lv33
attribute [local go_sem ↓ high] lv51 lv51s lv58 lv58a lv65 lv65a lv65l lv65r sc51 sc58 sc65 sc65a sc65l sc65r sc58a
theorem woS_none {l : List S58} {p : ByteArray} (h : ∀ x ∈ l, eqP p x = false) : woS l p = l := by
  unfold woS
  rw [List.filter_eq_self]
  intro x hx
  rw [h x hx]
  rfl
set_option maxRecDepth 100000 in
set_option maxHeartbeats 4000000 in
theorem del_any (w : World) (base : Nat) (A : Option Addr) (c b : Nat) (l : List S58) (p : ByteArray) (hR : k58.R 58 w base (fun _ => True) (.slice A l.length c) l) (hl : l.length ≤ 1048576) (hb : w.heap[b]? = some (.cells #[.string p] 9 (0, 0))) (hbase : base ≤ w.heap.size) :
    Calls Tryd.prog 63 #[.slice A l.length c, .func (.func 65) #[] #[.pointer (some ⟨b, 0, none⟩)]] w fun e w' => ∃ v, e = .returned v ∧ k58.R 58 w' base (fun _ => True) v (woS l p) ∧ Below base w w' := by
  have eg : ∀ args w, (callFunc 65 args).run Tryd.prog w = .ok (.enter 65 args) w := enters_of Tryd.func65 (by kernel_rfl) rfl
  have hbh : Go.Proofs.YtjllbkeobibnkaaDoorK.Holds w b (.cells #[.string p] 9) := ⟨hb⟩
  have HW := Aside0.mk (fun W x (h : W.heap[b]? = some (.cells #[.string p] 9 (0, 0))) => wo1_any W b p x h)
  have HI := Aside0.mk (fun W (hw : Below w.heap.size w W) => idxk_any W A c l (Kd.C_below (Kd.R_reads' hR).2.2 hw) hl 65 b eg (eqP p) (fun W' x _ hb' => wo1_any W' b p x ((hb'.block b (by have := blk_lt hb; have := hw.size; omega)).trans ((hw.block b (blk_lt hb)).trans hb))))
  have HR := Aside0.mk hR
  have sb := blk_lt hb
  have zb : Go.Proofs.YtjllbkeobibnkaaDoorK.Size base w := ⟨hbase⟩
  rcases idxK_spec (eqP p) l 0 with ⟨h1, h2⟩ | ⟨j0, hj0, h1, h2, h3⟩
  · rw [h1] at HI
    rw [woS_none h2]
    clear h1 h2 hR hb
    go_enter Tryd.func63, Tryd.ntmps63
    go_wp2_with fail
    refine (HI.out _ (bel _ _)).mono ?_
    rintro e w1 ⟨rfl, hb1⟩
    have p1 := prev_call hb1
    clear hb1
    go_wp2_with fail
    go_ret
    exact ⟨_, rfl, rowX HR.out, (inferInstance : Bel base w _).out hbase⟩
  · obtain ⟨g, rfl⟩ := row_form hR (by omega)
    rw [h1] at HI
    simp only [Nat.zero_add] at HI
    have hgb : base ≤ g := (row_open hR).2.1
    have hlc : l.length ≤ c := (row_open hR).2.2.1
    have hne : b ≠ g := by
      intro e
      obtain ⟨_, _, _, _, cur, hg, _⟩ := row_open hR
      rw [← e, hb] at hg
      injection hg with hg
      injection hg with _ hg
      exact absurd hg (by decide)
    have abg : Apart b (.row g) := apart_ne hne
    have obg : OwnB base (.row g) := own_row hgb
    have hs0 : (l.take (j0 + 1)).filter (fun k => !eqP p k) = l.take j0 := by
      rw [List.take_succ_eq_append_getElem hj0, List.filter_append, List.filter_eq_self.2 (fun x hx => by rw [h2 x hx]; rfl)]
      simp [h3]
    have hF := Aside0.mk hs0
    have hj0b : ((j0 : Int) == -1) = false := beq_eq_false_iff_ne.mpr (by omega)
    have hR2 : ∃ R, woS l p = R := ⟨_, rfl⟩
    obtain ⟨R, hWR⟩ := hR2
    rw [hWR]
    have HWR := Aside0.mk hWR
    clear h1 h2 h3 hR hb hs0 hWR
    go_enter Tryd.func63, Tryd.ntmps63
    go_wp2_with fail
    refine (HI.out _ (bel _ _)).mono ?_
    rintro e w1 ⟨rfl, hb1⟩
    have p1 := prev_call hb1
    have s1 := hb1.size
    clear hb1
    go_wp2_with fail
    go_loopw [5, 6] (fun vi vj wr => ∃ (i j : Nat) (xs : List S58), i ≤ j ∧ j ≤ l.length ∧ vi = .int .i64 (i : Int) ∧ vj = .int .i64 (j : Int) ∧ xs.length = l.length ∧ Aside0 (xs.take i = (l.take j).filter (fun k => !eqP p k)) ∧ Aside0 (xs.drop j = l.drop j) ∧ Aside0 (k58.R 58 wr base (fun _ => True) (.slice (some ⟨g, 0, none⟩) l.length c) xs) ∧ Aside0 (Go.Proofs.YtjllbkeobibnkaaDoorK.Holds wr b (.cells #[.string p] 9)) ∧ Aside0 (Below base w wr) ∧ w.heap.size ≤ wr.heap.size) (fun _ vj _ => l.length - (intOf vj).toNat)
    case atStart => exact ⟨j0, j0 + 1, l, by omega, by omega, rfl, by go_num, rfl, ⟨hF.out.symm⟩, ⟨rfl⟩, ⟨rowX HR.out⟩, ⟨inferInstance⟩, ⟨(inferInstance : Bel base w _).out hbase⟩, s1⟩
    case round =>
      obtain ⟨i, j, xs, hij, hjl, rfl, rfl, hxl, HT, HD, HX, HH, HB, hsz⟩ := hrel
      have hh := HH.out
      have bw : Bel base w wr := ⟨fun _ => HB.out⟩
      have sbr := held_lt (W := wr) (g := b)
      by_cases hlt : j < l.length
      · have hjx : j < xs.length := by omega
        obtain ⟨ad, e, x0⟩ := C58_at (by have := (Kd.R_reads' HX.out).2.2; exact this) j hjx
        obtain rfl := Option.some.inj e
        have hxj : xs[j] = l[j] := by
          have h1 := congrArg List.head? HD.out
          rw [List.head?_drop, List.head?_drop, List.getElem?_eq_getElem hjx, List.getElem?_eq_getElem hlt] at h1
          exact Option.some.inj h1
        rw [hxj, Go.Proofs.YtjllbkeobibnkaaDoorK.add_at, Nat.zero_add] at x0
        have hf : (l.take (j + 1)).filter (fun k => !eqP p k) = xs.take i ++ (if eqP p l[j] = true then [] else [l[j]]) := by
          rw [List.take_succ_eq_append_getElem hlt, List.filter_append, ← HT.out]
          cases hq : eqP p l[j] <;> simp [hq]
        have hd : xs.drop (j + 1) = l.drop (j + 1) := by
          have h1 := congrArg (List.drop 1) HD.out
          rw [List.drop_drop, List.drop_drop] at h1
          exact h1
        generalize l[j] = y at x0 hf
        have X0 := Aside0.mk x0
        have HFF := Aside0.mk hf
        have HDD := Aside0.mk hd
        have HWY := Aside0.mk (fun W h => HW.out W y h)
        clear x0 hf hd hxj e
        have a1 : Apart b (.row wr.heap.size) := apart_ne (by omega)
        have o1 : OwnB base (.row wr.heap.size) := own_row (by omega)
        cases hq : eqP p y with
        | true =>
          have hf := HFF.out
          rw [if_pos hq, List.append_nil] at hf
          have HN := Aside0.mk hf
          rw [hq] at HWY
          clear hf hq
          go_wp2_with (refine seg_load rfl 58 (.tmp 24) rfl X0.out (A58 y) rfl rfl Tryd.underlying58 rfl (by rw [L58_len]; exact info58s) ?_)
          refine (HWY.out _ held).mono ?_
          rintro e w2 ⟨rfl, hb2⟩
          have p2 := prev_call hb2
          have s2 := hb2.size
          clear hb2
          go_wp2_with fail
          go_roundw
          case rel => exact ⟨i, j + 1, xs, by omega, by omega, rfl, by go_num, hxl, ⟨HN.out.symm⟩, HDD, ⟨rowX HX.out⟩, ⟨inferInstance⟩, ⟨(inferInstance : Bel base w _).out hbase⟩, by have := siz wr w2; omega⟩
          case measure => simp [intOf]; omega
        | false =>
          have hf := HFF.out
          rw [if_neg (by rw [hq]; decide)] at hf
          have HN := Aside0.mk hf
          rw [hq] at HWY
          have hil : i < l.length := by omega
          have hix : i < xs.length := by omega
          clear hf hq
          go_wp2_with (refine seg_load rfl 58 (.tmp 24) rfl X0.out (A58 y) rfl rfl Tryd.underlying58 rfl (by rw [L58_len]; exact info58s) ?_)
          refine (HWY.out _ held).mono ?_
          rintro e w2 ⟨rfl, hb2⟩
          have p2 := prev_call hb2
          have s2 := hb2.size
          clear hb2
          go_wp2_with ((with_reducible refine gate_store (t := 58) (p := 33) rfl ?_); refine store58 rfl rfl (.tmp 33) (.tmp 32) rfl (rowX HX.out) i hil y (ad := ⟨g, 0, none⟩) rfl (by rw [Go.Proofs.YtjllbkeobibnkaaDoorK.add_at, Nat.zero_add]; rfl) rfl ?_; intro w3 hr3 hg3; have p3 := prev_row hg3; have HX3 := Aside0.mk hr3; have s3 := hg3.size; clear hr3 hg3)
          go_roundw
          case rel =>
            refine ⟨i + 1, j + 1, xs.set i y, by omega, by omega, by go_num, by go_num, by rw [List.length_set]; exact hxl, ⟨?_⟩, ⟨?_⟩, HX3, ⟨inferInstance⟩, ⟨(inferInstance : Bel base w _).out hbase⟩, by have := siz wr w2; omega⟩
            · rw [HN.out, List.take_succ_eq_append_getElem (by rw [List.length_set]; exact hix), List.take_set_of_le (Nat.le_refl _), List.getElem_set_self]
            · rw [List.drop_set_of_lt (by omega)]
              exact HDD.out
          case measure => simp [intOf]; omega
      · obtain rfl : j = l.length := by omega
        have hT := HT.out
        rw [List.take_length] at hT
        have hTW : xs.take i = R := hT.trans HWR.out
        have HTW := Aside0.mk hTW
        clear hT hTW
        by_cases hci : c = i
        · subst hci
          go_wp2_with ((with_reducible refine gate_builtin (b := .clear) (xs := #[.tmp 38]) rfl ?_); refine clear58 rfl rfl (.tmp 38) rfl HX.out c (by omega) (by rw [if_pos rfl, Nat.sub_self, show l.length - c = 0 by omega]; rfl) ?_; intro w3 hr3 hg3; have p3 := prev_row hg3; have HX3 := Aside0.mk hr3; clear hr3 hg3)
          go_ret
          exact ⟨_, rfl, by rw [← HTW.out]; exact HX3.out, (inferInstance : Bel base w _).out hbase⟩
        · have hci2 : (c = i) = False := eq_false hci
          go_wp2_with ((with_reducible refine gate_builtin (b := .clear) (xs := #[.tmp 38]) rfl ?_); refine clear58 rfl rfl (.tmp 38) rfl HX.out i (by omega) (by rw [if_neg hci, Go.Proofs.YtjllbkeobibnkaaDoorK.add_at, Nat.zero_add]; rfl) ?_; intro w3 hr3 hg3; have p3 := prev_row hg3; have HX3 := Aside0.mk hr3; clear hr3 hg3)
          go_ret
          exact ⟨_, rfl, by rw [← HTW.out]; exact HX3.out, (inferInstance : Bel base w _).out hbase⟩
set_option maxRecDepth 100000 in
set_option maxHeartbeats 1000000 in
theorem without_any (w : World) (A : Option Addr) (c : Nat) (l : List S58) (p : ByteArray) (hC : k58.C w A l.length l) (hl : l.length ≤ 1048576) :
    Calls Tryd.prog 36 #[.slice A l.length c, .string p] w fun e w' => ∃ v, e = .returned v ∧ k58.R 58 w' w.heap.size (fun _ => True) v (woS l p) ∧ Below w.heap.size w w' := by
  have HC := Aside0.mk (fun W (hb : Below w.heap.size w W) => clone_any W A c l (Kd.C_below hC hb) hl)
  have HD := Aside0.mk (fun W base A c b hR hb hbase => del_any W base A c b l p hR hl hb hbase)
  clear hC
  go_enter Tryd.func36, Tryd.ntmps36
  go_wp2_with fail
  refine (HC.out _ (bel _ _)).mono ?_
  rintro e w1 ⟨v1, rfl, hv, hb⟩
  have p1 := prev_call hb
  obtain ⟨A1, c1, rfl⟩ := Kd.R_slice hv
  have hv := Kd.R_lower hv (siz w _)
  have HV := Aside0.mk hv
  have s1 := siz w w1
  clear hb hv
  go_wp2_with fail
  refine (HD.out _ w.heap.size _ _ _ HV.out held s1).mono ?_
  rintro e w2 ⟨v2, rfl, hv, hb⟩
  have p2 := prev_above hb
  have HV2 := Aside0.mk hv
  clear hb hv
  go_wp2_with fail
  go_ret
  exact ⟨_, rfl, HV2.out, bel _ _⟩
end Go.Proofs.YtjllbkeobibnkaaDoor.Q

namespace Go.Proofs.YtjllbkeobibnkaaDoor.Q
open Go Go.Proofs Go.Shelf Go.RowKit Go.Lib Go.Sort Go.Proofs.YtjllbkeobibnkaaDoorP Go.Proofs.YtjllbkeobibnkaaDoorK Go.Proofs.YtjllbkeobibnkaaDoorW.PrintWords Go.Proofs.YtjllbkeobibnkaaDoorW.PrintLast Go.Proofs.YtjllbkeobibnkaaDoorW.PrintMore
set_option linter.unusedSimpArgs false
set_option linter.unusedVariables false
def hasK (s : S24) (p : ByteArray) : Bool := (atS s p).inA || ((atS s p).inL || (atS s p).inR)
def chgS (s : S24) (p : ByteArray) : Bool × Bool := if checkS s = 0 then ((atS s p).here, (atS s p).there) else (false, false)
theorem checkS_two (s : S24) : checkS s = 0 ∨ checkS s = 2 := by
  unfold checkS
  split
  · split
    · exact .inr rfl
    · exact .inl rfl
  · exact .inr rfl
attribute [local go_sem] A51_size A51_0 A51_1 A51_g0 A51_g1 A58_size A58_0 A58_1 A58_2 A58_g0 A58_g1 A58_g2 cell_held frozen_held
attribute [local go_sem] A65_size A65_0 A65_34 A65_68 A65_102 A65_103 A65_104 A65_105 A65_106 A65_g0 A65_g34 A65_g68 A65_g102 A65_g103 A65_g104 A65_g105 A65_g106 set_inA set_inL set_inR set_here set_there
attribute [local go_sem] zero51 zero58 zero65
attribute [local go_sem ↓ high] lvx_of
attribute [local go_sem] lv_sc lv24 lv33
attribute [local go_sem ↓ high] lv51 lv51s lv58 lv58a lv65 lv65a lv65l lv65r sc51 sc58 sc65 sc65a sc65l sc65r sc58a
set_option maxRecDepth 100000 in
set_option maxHeartbeats 4000000 in
theorem has_any (w : World) (s : S24) (v : Array Value) (p : ByteArray) (hs : SideIn w s v) (hl : shortS s = true) :
    Calls Tryd.prog 31 #[.agg v, .string p] w fun e w' => e = .returned (.bool (hasK s p)) ∧ Below w.heap.size w w' := by
  have HA := Aside0.mk (fun W (hb : Below w.heap.size w W) => at_any W s v p (hs.below hb) hl)
  obtain ⟨A, c, B, d, C, e, rfl, l1, l2, l3, h1, h2, h3⟩ := hs.out
  unfold hasK
  generalize atS s p = x at HA
  obtain ⟨a, l, r, ia, il, ir, he, th⟩ := x
  dsimp only
  clear hs hl l1 l2 l3 h1 h2 h3
  go_enter Tryd.func31, Tryd.ntmps31
  go_wp2_with fail
  refine (HA.out _ (bel _ _)).mono ?_
  rintro r1 w1 ⟨rfl, hb⟩
  have p1 := prev_call hb
  have o1 : OwnB w.heap.size (.row w1.heap.size) := own_row (siz w w1)
  clear hb
  cases ia <;> cases il <;> go_wp2_with fail
  all_goals
    go_ret
    exact ⟨rfl, bel _ _⟩
set_option maxRecDepth 100000 in
set_option maxHeartbeats 4000000 in
theorem Changed_any (w : World) (s : S24) (v : Array Value) (p : ByteArray) (hs : SideIn w s v) (ho : okS s = true) :
    Calls Tryd.prog 9 #[.agg v, .string p] w fun e w' => e = .returned (.tuple #[.bool (chgS s p).1, .bool (chgS s p).2]) ∧ Below w.heap.size w w' := by
  have HK := Aside0.mk (fun W (hb : Below w.heap.size w W) => Check_any W s v (hs.below hb) ho)
  have HA := Aside0.mk (fun W (hb : Below w.heap.size w W) => at_any W s v p (hs.below hb) (okS_short ho))
  obtain ⟨A, c, B, d, C, e, rfl, l1, l2, l3, h1, h2, h3⟩ := hs.out
  have h02 := checkS_two s
  unfold chgS
  generalize atS s p = x at HA
  generalize checkS s = k at HK h02
  clear hs ho l1 l2 l3 h1 h2 h3
  rcases h02 with rfl | rfl
  · rw [if_pos rfl]
    go_enter Tryd.func9, Tryd.ntmps9
    go_wp2_with fail
    refine (HK.out _ (bel _ _)).mono ?_
    rintro r1 w1 ⟨rfl, hb⟩
    have p1 := prev_call hb
    clear hb
    go_wp2_with fail
    refine (HA.out _ (bel _ _)).mono ?_
    rintro r2 w2 ⟨rfl, hb⟩
    have p2 := prev_call hb
    have o2 : OwnB w.heap.size (.row w2.heap.size) := own_row (siz w w2)
    clear hb
    go_wp2_with fail
    go_quiet (fail)
    go_wp2_with fail
    go_ret2
    exact ⟨rfl, bel _ _⟩
  · rw [if_neg (by decide)]
    go_enter Tryd.func9, Tryd.ntmps9
    go_wp2_with fail
    refine (HK.out _ (bel _ _)).mono ?_
    rintro r1 w1 ⟨rfl, hb⟩
    have p1 := prev_call hb
    clear hb
    go_wp2_with fail
    go_ret2
    exact ⟨rfl, bel _ _⟩
end Go.Proofs.YtjllbkeobibnkaaDoor.Q

namespace Go.Proofs.YtjllbkeobibnkaaDoor.Q
open Go Go.Proofs Go.Shelf Go.RowKit Go.Lib Go.Sort Go.Proofs.YtjllbkeobibnkaaDoorP Go.Proofs.YtjllbkeobibnkaaDoorK Go.Proofs.YtjllbkeobibnkaaDoorW.PrintWords Go.Proofs.YtjllbkeobibnkaaDoorW.PrintLast Go.Proofs.YtjllbkeobibnkaaDoorW.PrintMore
set_option linter.unusedSimpArgs false
set_option linter.unusedVariables false
def heldS (x : S33) (now : S65) : Bool := now.inR && (now.r.f0 == x.f1)
def readyS (s : S24) (x : S33) (now : S65) : Bool :=
  if x.f0 = 1 then now.inL && (heldS x now || (!now.inR && (x.f1 == 0)))
  else if x.f0 = 2 then heldS x now && !now.inL
  else if x.f0 = 3 then heldS x now
  else if x.f0 = 4 then now.inL && !now.inR
  else if x.f0 = 5 then heldS x now && now.inL
  else if x.f0 = 6 then !now.inL && !now.inR
  else if x.f0 = 7 then heldS x now && (now.inL && (decide (kindS x.f3 = (2, 0)) && !hasK s x.f3))
  else false
attribute [local go_sem] A51_size A51_0 A51_1 A51_g0 A51_g1 A58_size A58_0 A58_1 A58_2 A58_g0 A58_g1 A58_g2 cell_held frozen_held
attribute [local go_sem] A65_size A65_0 A65_34 A65_68 A65_102 A65_103 A65_104 A65_105 A65_106 A65_g0 A65_g34 A65_g68 A65_g102 A65_g103 A65_g104 A65_g105 A65_g106 set_inA set_inL set_inR set_here set_there
attribute [local go_sem] zero51 zero58 zero65 A33
attribute [local go_sem ↓ high] lvx_of
attribute [local go_sem] lv_sc lv24 lv33
attribute [local go_sem ↓ high] lv51 lv51s lv58 lv58a lv65 lv65a lv65l lv65r sc51 sc58 sc65 sc65a sc65l sc65r sc58a
set_option maxRecDepth 100000 in
set_option maxHeartbeats 4000000 in
theorem ready_any (w : World) (s : S24) (v : Array Value) (x : S33) (now : S65) (hs : SideIn w s v) (ho : okS s = true) (hx : x.f3.size ≤ 65536) :
    Calls Tryd.prog 34 #[.agg v, .agg (A33 x), .agg (A65 now)] w fun e w' => e = .returned (.bool (readyS s x now)) ∧ Below w.heap.size w w' := by
  have HH := Aside0.mk (fun W (hb : Below w.heap.size w W) => has_any W s v x.f3 (hs.below hb) (okS_short ho))
  have HK := Aside0.mk (fun W => Kind_any W x.f3 hx)
  obtain ⟨A, c, B, d, C, e, rfl, l1, l2, l3, h1, h2, h3⟩ := hs.out
  obtain ⟨k, u, p, q⟩ := x
  obtain ⟨a, l, r, ia, il, ir, he, th⟩ := now
  dsimp only at HH HK
  unfold readyS heldS
  dsimp only
  clear hs ho hx l1 l2 l3 h1 h2 h3
  generalize s.f0.length = n0 at *
  generalize s.f1.length = n1 at *
  generalize s.f2.length = n2 at *
  generalize hasK s q = hk at *
  rcases (show k = 1 ∨ k = 2 ∨ k = 3 ∨ k = 4 ∨ k = 5 ∨ k = 6 ∨ k = 7 ∨ (k ≠ 1 ∧ k ≠ 2 ∧ k ≠ 3 ∧ k ≠ 4 ∧ k ≠ 5 ∧ k ≠ 6 ∧ k ≠ 7) by omega) with h | h | h | h | h | h | h | h
  · subst h
    cases il <;> cases ir <;> cases hv : (r.f0 == u) <;> cases h0 : (u == 0)
    all_goals
      go_enter Tryd.func34, Tryd.ntmps34
      go_wp2_with fail
      go_ret
      exact ⟨rfl, bel _ _⟩
  · subst h
    cases il <;> cases ir <;> cases hv : (r.f0 == u)
    all_goals
      go_enter Tryd.func34, Tryd.ntmps34
      go_wp2_with fail
      go_ret
      exact ⟨rfl, bel _ _⟩
  · subst h
    cases ir <;> cases hv : (r.f0 == u)
    all_goals
      go_enter Tryd.func34, Tryd.ntmps34
      go_wp2_with fail
      go_ret
      exact ⟨rfl, bel _ _⟩
  · subst h
    cases il <;> cases ir <;> cases hv : (r.f0 == u)
    all_goals
      go_enter Tryd.func34, Tryd.ntmps34
      go_wp2_with fail
      go_ret
      exact ⟨rfl, bel _ _⟩
  · subst h
    cases il <;> cases ir <;> cases hv : (r.f0 == u)
    all_goals
      go_enter Tryd.func34, Tryd.ntmps34
      go_wp2_with fail
      go_ret
      exact ⟨rfl, bel _ _⟩
  · subst h
    cases il <;> cases ir <;> cases hv : (r.f0 == u)
    all_goals
      go_enter Tryd.func34, Tryd.ntmps34
      go_wp2_with fail
      go_ret
      exact ⟨rfl, bel _ _⟩
  · subst h
    generalize kindS q = kq at HK ⊢
    obtain ⟨k1, k2⟩ := kq
    dsimp only at HK
    cases il <;> cases ir <;> cases hv : (r.f0 == u)
    all_goals
      go_enter Tryd.func34, Tryd.ntmps34
      go_wp2_with fail
      refine (HK.out _).mono ?_
      rintro r1 w1 ⟨rfl, hb⟩
      have p1 := prev_call hb
      clear hb
      by_cases hk2 : k2 = 0
      · subst hk2
        by_cases hk1 : k1 = 2
        · subst hk1
          go_wp2_with fail
          all_goals first
            | (go_ret
               exact ⟨rfl, bel _ _⟩)
            | (refine (HH.out _ (bel _ _)).mono ?_
               rintro r2 w2 ⟨rfl, hb⟩
               have p2 := prev_call hb
               clear hb
               go_wp2_with fail
               go_ret
               exact ⟨by simp, bel _ _⟩)
        · have hk3 : (k1 == 2) = false := beq_eq_false_iff_ne.mpr hk1
          go_wp2_with fail
          all_goals
            go_ret
            exact ⟨by first | rfl | simp [hk1], bel _ _⟩
      · have hk3 : (k2 == 0) = false := beq_eq_false_iff_ne.mpr hk2
        go_wp2_with fail
        all_goals
          go_ret
          exact ⟨by first | rfl | simp [hk2], bel _ _⟩
  · obtain ⟨h1, h2, h3, h4, h5, h6, h7⟩ := h
    rw [if_neg h1, if_neg h2, if_neg h3, if_neg h4, if_neg h5, if_neg h6, if_neg h7]
    have b1 : (k == 1) = false := beq_eq_false_iff_ne.mpr h1
    have b2 : (k == 2) = false := beq_eq_false_iff_ne.mpr h2
    have b3 : (k == 3) = false := beq_eq_false_iff_ne.mpr h3
    have b4 : (k == 4) = false := beq_eq_false_iff_ne.mpr h4
    have b5 : (k == 5) = false := beq_eq_false_iff_ne.mpr h5
    have b6 : (k == 6) = false := beq_eq_false_iff_ne.mpr h6
    have b7 : (k == 7) = false := beq_eq_false_iff_ne.mpr h7
    clear h1 h2 h3 h4 h5 h6 h7
    cases ir <;> cases hv : (r.f0 == u)
    all_goals
      go_enter Tryd.func34, Tryd.ntmps34
      go_wp2_with fail
      go_ret
      exact ⟨rfl, bel _ _⟩
end Go.Proofs.YtjllbkeobibnkaaDoor.Q

namespace Go.Proofs.YtjllbkeobibnkaaDoor.Q
open Go Go.Proofs Go.Shelf Go.RowKit Go.Proofs.YtjllbkeobibnkaaDoorK Go.Proofs.YtjllbkeobibnkaaDoorW.PrintWords Go.Proofs.YtjllbkeobibnkaaDoorW.PrintLast Go.Proofs.YtjllbkeobibnkaaDoorW.PrintMore
set_option linter.unusedSimpArgs false
set_option linter.unusedVariables false
theorem min2_mnF (k k' : IntKind) (x y : Int) : Builtin.min2 (.int k x) (.int k' y) = pure (.int k (mn x y)) := by
  rw [min2_int]
  unfold mn
  rfl
attribute [local go_sem] min2_mnF min_two laid58
def cutB (s : ByteArray) : ByteArray := s.extract 0 (mn (s.size : Int) 110).toNat
def cutK (k : S58) : S58 := { k with f0 := cutB k.f0 }
def fewL (l : List S58) : List S58 := (l.take 20).map cutK
theorem mn_ok (s : ByteArray) : 0 ≤ mn (s.size : Int) 110 ∧ mn (s.size : Int) 110 ≤ (s.size : Int) := by unfold mn; split <;> omega
attribute [local go_sem] A51_size A51_0 A51_1 A51_g0 A51_g1 A58_size A58_0 A58_1 A58_2 A58_g0 A58_g1 A58_g2 cell_held frozen_held
attribute [local go_sem] zero51 zero58 zero65
attribute [local go_sem ↓ high] lvx_of
attribute [local go_sem] lv_sc lv24 lv33
attribute [local go_sem ↓ high] lv51 lv51s lv58 lv58a lv65 lv65a lv65l lv65r sc51 sc58 sc65 sc65a sc65l sc65r sc58a
set_option maxRecDepth 100000 in
set_option maxHeartbeats 4000000 in
theorem few1_any (w : World) (A : Option Addr) (c : Nat) (l : List S58) (hC : k58.C w A l.length l) :
    Calls Tryd.prog 24 #[.slice A l.length c] w fun e w' => ∃ v, e = .returned v ∧ k58.R 58 w' w.heap.size (fun _ => True) v (fewL l) ∧ Below w.heap.size w w' := by
  have HC := Aside0.mk hC
  have hl := hC.2.1
  clear hC
  go_enter Tryd.func24, Tryd.ntmps24
  go_wp2_with fail
  go_loopw [3, 4] (fun u i wr => ∃ j : Nat, j ≤ l.length ∧ j ≤ 20 ∧ i = .int .i64 (j : Int) ∧ Aside0 (Below w.heap.size w wr) ∧ Aside0 (k58.R 58 wr w.heap.size (fun _ => True) u ((l.take j).map cutK))) (fun _ i _ => 20 - (intOf i).toNat)
  case atStart => exact ⟨0, Nat.zero_le _, Nat.zero_le _, rfl, ⟨bel _ _⟩, ⟨Kd.R_nil _ _ _ _ _⟩⟩
  case round =>
    obtain ⟨j, hj, hj2, rfl, HB, HV⟩ := hrel
    have bw : Bel w.heap.size w wr := ⟨fun _ => HB.out⟩
    have hlv : ((l.take j).map cutK).length = j := by rw [List.length_map, List.length_take]; omega
    obtain ⟨Au, cu, hu⟩ := Kd.R_slice HV.out
    rw [hlv] at hu
    subst hu
    have ho4 : OwnB w.heap.size (.row wr.heap.size) := own_row HB.out.size
    by_cases hlt : j < l.length
    · by_cases h20 : j < 20
      · obtain ⟨ad, e, x0⟩ := C58_at HC.out j hlt
        subst e
        have ht : l.take (j + 1) = l.take j ++ [l[j]] := List.take_succ_eq_append_getElem hlt
        generalize l[j] = x at x0 ht
        have HX := Aside0.mk (At_below x0 HB.out)
        have HT := Aside0.mk ht
        obtain ⟨k1, k2⟩ := mn_ok x.f0
        clear x0 ht
        go_wp2_with (first
          | (refine seg_load rfl 58 (.tmp 18) rfl HX.out (A58 x) rfl rfl Tryd.underlying58 rfl (by rw [L58_len]; exact info58s) ?_)
          | ((with_reducible refine gate_builtin (b := .append) (xs := #[.tmp 28, .tmp 30]) rfl ?_); go_loud (at_builtin; refine app58 (w0 := w) w.heap.size rfl (.tmp 28) (.tmp 30) rfl (.slice Au j cu) ((l.take j).map cutK) (cutK x) rfl ?aX ?aO ?aB ?aS ?aL ?_; (case aX => (simp only [World.size_setCell, size_setRow, World.size_alloc]; rfl)); (case aO => exact rowB HV.out (bel wr _)); (case aB => exact bel w _); (case aS => exact siz w _); (case aL => rw [hlv]; omega); intro v1 w6 h6 hb6 hg6 hat6; have p6 := prev_above hb6; have HB6 := Aside0.mk hb6; have HV6 := Aside0.mk h6; clear hb6 h6 hg6 hat6)))
        go_roundw
        case rel => exact ⟨j + 1, by omega, by omega, by go_num, HB6, ⟨by rw [HT.out, List.map_append]; exact HV6.out⟩⟩
        case measure => simp [intOf]; omega
      · have hv := HV.out
        obtain rfl : j = 20 := by omega
        have HV' := Aside0.mk hv
        clear hv HV
        go_wp2_with fail
        go_ret
        exact ⟨_, rfl, HV'.out, bel _ _⟩
    · have hv := HV.out
      have he : fewL l = (l.take j).map cutK := by unfold fewL; rw [List.take_of_length_le (by omega), List.take_of_length_le (by omega)]
      rw [← he] at hv
      have HV' := Aside0.mk hv
      clear hv HV he
      go_wp2_with fail
      go_ret
      exact ⟨_, rfl, HV'.out, bel _ _⟩
end Go.Proofs.YtjllbkeobibnkaaDoor.Q

namespace Go.Proofs.YtjllbkeobibnkaaDoor.Q
open Go Go.Proofs Go.Shelf Go.RowKit Go.Proofs.YtjllbkeobibnkaaDoorK Go.Proofs.YtjllbkeobibnkaaDoorW.PrintWords Go.Proofs.YtjllbkeobibnkaaDoorW.PrintLast Go.Proofs.YtjllbkeobibnkaaDoorW.PrintMore
set_option linter.unusedSimpArgs false
set_option linter.unusedVariables false
def fewS (s : S24) : S24 := ⟨fewL s.f0, fewL s.f1, fewL s.f2⟩
/-- A list as it comes out. -/
theorem C_ofR {w : World} {base : Nat} {v : Value} {l : List S58} (h : k58.R 58 w base (fun _ => True) v l) : ∃ A c, v = .slice A l.length c ∧ l.length ≤ c ∧ k58.C w A l.length l := by
  obtain ⟨A, c, e⟩ := Kd.R_slice h
  subst e
  obtain ⟨_, h2, h3⟩ := Kd.R_reads' h
  exact ⟨A, c, rfl, h2, h3⟩
theorem SideIn.ofR {w : World} {b0 b1 b2 : Nat} {v0 v1 v2 : Value} {s : S24} (h0 : k58.R 58 w b0 (fun _ => True) v0 s.f0) (h1 : k58.R 58 w b1 (fun _ => True) v1 s.f1) (h2 : k58.R 58 w b2 (fun _ => True) v2 s.f2) : SideIn w s #[v0, v1, v2] := by
  obtain ⟨A, c, rfl, c1, c2⟩ := C_ofR h0
  obtain ⟨B, d, rfl, d1, d2⟩ := C_ofR h1
  obtain ⟨C, e, rfl, e1, e2⟩ := C_ofR h2
  exact ⟨⟨A, c, B, d, C, e, rfl, c1, d1, e1, c2, d2, e2⟩⟩
instance : Go.Proofs.YtjllbkeobibnkaaDoorK.NotIn 41 (58 :: k58.E) := ⟨by decide⟩
instance : Go.Proofs.YtjllbkeobibnkaaDoorK.NotIn 33 (58 :: k58.E) := ⟨by decide⟩
instance : Go.Proofs.YtjllbkeobibnkaaDoorK.NotIn 24 (58 :: k58.E) := ⟨by decide⟩
/-- Sides that a call has made. -/
structure SideR (w : World) (base : Nat) (s : S24) (v : Array Value) : Prop where
  out : ∃ v0 v1 v2, v = #[v0, v1, v2] ∧ k58.R 58 w base (fun _ => True) v0 s.f0 ∧ k58.R 58 w base (fun _ => True) v1 s.f1 ∧ k58.R 58 w base (fun _ => True) v2 s.f2
theorem SideR.side {w : World} {base : Nat} {s : S24} {v : Array Value} (h : SideR w base s v) : SideIn w s v := by
  obtain ⟨v0, v1, v2, rfl, h0, h1, h2⟩ := h.out
  exact SideIn.ofR h0 h1 h2
theorem SideR.x {w w' : World} {base : Nat} {s : S24} {v : Array Value} (h : SideR w base s v) [r : RowsX (58 :: k58.E) w w'] : SideR w' base s v := by
  obtain ⟨v0, v1, v2, rfl, h0, h1, h2⟩ := h.out
  exact ⟨⟨v0, v1, v2, rfl, rowX h0, rowX h1, rowX h2⟩⟩
attribute [local go_sem] cell_held frozen_held
attribute [local go_sem ↓ high] lvx_of
attribute [local go_sem] lv_sc lv24 lv33
theorem info24 : (Tryd.prog.info? 24).map (·.size) = some 3 := by kernel_rfl
--REGWORDS few8
def few8.T2 : Bool × List (List Nat × List Nat) := (true, [([], []), ([], []), ([1], [1]), ([0, 2], [0, 2]), ([], []), ([], []), ([5], [5]), ([4, 6, 3], [4, 6]), ([], []), ([], []), ([9], [9]), ([8, 10, 7], [8, 10]), ([3, 7, 11], [3, 7, 11]), ([12, 11, 0, 1, 2, 3, 4, 5, 6, 7, 8, 9, 10, 11, 12], [12])])
def few8.B2 : List Nat := [0, 0, 2, 7, 0, 0, 32, 127, 0, 0, 512, 2047, 4095, 8191]
theorem few8.tab2 : rtab .any (opsOf Tryd.f8 2) = few8.T2 := by kernel_rfl
theorem few8.bits2 : waitsOk few8.T2.2 few8.B2 = true := by kernel_rfl
--END
set_option maxRecDepth 100000 in
set_option maxHeartbeats 4000000 in
theorem Few_any (w : World) (s : S24) (v : Array Value) (hs : SideIn w s v) :
    Calls Tryd.prog 8 #[.agg v] w fun e w' => ∃ v', e = .returned (.agg v') ∧ SideR w' w.heap.size (fewS s) v' ∧ Below w.heap.size w w' := by
  obtain ⟨A, c, B, d, C, e, rfl, l1, l2, l3, h1, h2, h3⟩ := hs.out
  have eg : ∀ args w, (callFunc 24 args).run Tryd.prog w = .ok (.enter 24 args) w := enters_of Tryd.func24 (by kernel_rfl) rfl
  have HF0 := Aside0.mk (fun W (hb : Below w.heap.size w W) => few1_any W A c s.f0 (Kd.C_below h1 hb))
  have HF1 := Aside0.mk (fun W (hb : Below w.heap.size w W) => few1_any W B d s.f1 (Kd.C_below h2 hb))
  have HF2 := Aside0.mk (fun W (hb : Below w.heap.size w W) => few1_any W C e s.f2 (Kd.C_below h3 hb))
  clear hs l1 l2 l3 h1 h2 h3
  generalize s.f0.length = n0 at HF0 ⊢
  generalize s.f1.length = n1 at HF1 ⊢
  generalize s.f2.length = n2 at HF2 ⊢
  go_enter Tryd.func8, Tryd.ntmps8
  go_wp2_with fail
  --REG few8
  refine start_ (n := 14) (S := fun w' => w'.heap[w.heap.size]? = some (.cells #[.slice A n0 c, .slice B n1 d, .slice C n2 e] 24 (0, 0))) (ds := [13]) #[false, false, false, false, false, false, false, false, false, false, false, false, false, false] (by kernel_rfl) rfl rfl held (fun hHeld => ?_); refine with_tabW few8.tab2 few8.bits2 (fun HT_ HW_ => ?_)
  refine pure_ (i := 0) (N := some 4) (v := ?_) (a' := ?_) #[true, false, false, false, false, false, false, false, false, false, false, false, false, false] rfl rfl (any_of HT_.out (by kernel_rfl)) (fun _ _ _ h => h) (Or.inl ⟨by rfl, ?_⟩) ?_ ?_
  rotate_left
  · intro w'
    go_simp
    with_reducible rfl
  rotate_left
  · simp only [Act.put, List.setIfInBounds_toArray, List.set_cons_zero, List.set_cons_succ, i64_w, i32_w]
    rfl
  refine pure_ (i := 1) (N := some 5) (v := ?_) (a' := ?_) #[true, true, false, false, false, false, false, false, false, false, false, false, false, false] rfl rfl (any_of HT_.out (by kernel_rfl)) (fun _ _ _ h => h) (Or.inl ⟨by rfl, ?_⟩) ?_ ?_
  rotate_left
  · intro w'
    go_simp
    with_reducible rfl
  rotate_left
  · simp only [Act.put, List.setIfInBounds_toArray, List.set_cons_zero, List.set_cons_succ, i64_w, i32_w]
    rfl
  refine pure_ (i := 4) (N := some 8) (v := ?_) (a' := ?_) #[true, true, false, false, true, false, false, false, false, false, false, false, false, false] rfl rfl (any_of HT_.out (by kernel_rfl)) (fun _ _ _ h => h) (Or.inl ⟨by rfl, ?_⟩) ?_ ?_
  rotate_left
  · intro w'
    go_simp
    with_reducible rfl
  rotate_left
  · simp only [Act.put, List.setIfInBounds_toArray, List.set_cons_zero, List.set_cons_succ, i64_w, i32_w]
    rfl
  refine pure_ (i := 5) (N := some 9) (v := ?_) (a' := ?_) #[true, true, false, false, true, true, false, false, false, false, false, false, false, false] rfl rfl (any_of HT_.out (by kernel_rfl)) (fun _ _ _ h => h) (Or.inl ⟨by rfl, ?_⟩) ?_ ?_
  rotate_left
  · intro w'
    go_simp
    with_reducible rfl
  rotate_left
  · simp only [Act.put, List.setIfInBounds_toArray, List.set_cons_zero, List.set_cons_succ, i64_w, i32_w]
    rfl
  refine pure_ (i := 8) (N := some 12) (v := ?_) (a' := ?_) #[true, true, false, false, true, true, false, false, true, false, false, false, false, false] rfl rfl (any_of HT_.out (by kernel_rfl)) (fun _ _ _ h => h) (Or.inl ⟨by rfl, ?_⟩) ?_ ?_
  rotate_left
  · intro w'
    go_simp
    with_reducible rfl
  rotate_left
  · simp only [Act.put, List.setIfInBounds_toArray, List.set_cons_zero, List.set_cons_succ, i64_w, i32_w]
    rfl
  refine pure_ (i := 9) (N := some 13) (v := ?_) (a' := ?_) #[true, true, false, false, true, true, false, false, true, true, false, false, false, false] rfl rfl (any_of HT_.out (by kernel_rfl)) (fun _ _ _ h => h) (Or.inl ⟨by rfl, ?_⟩) ?_ ?_
  rotate_left
  · intro w'
    go_simp
    with_reducible rfl
  rotate_left
  · simp only [Act.put, List.setIfInBounds_toArray, List.set_cons_zero, List.set_cons_succ, i64_w, i32_w]
    rfl
  refine take_ (i := 2) (N := some 6) (v := ?_) (a' := ?_) #[true, true, true, false, true, true, false, false, true, true, false, false, false, false] rfl rfl (take_ofW HT_.out HW_.out (by kernel_rfl)) (fun _ _ _ h => h) (Or.inl ⟨by rfl, ?_⟩) hHeld ?_ ?_
  rotate_left
  · rintro w' s0
    have i0 : Go.Proofs.YtjllbkeobibnkaaDoorK.Holds w' w.heap.size (.cells #[.slice A n0 c, .slice B n1 d, .slice C n2 e] 24) := ⟨s0⟩
    go_simp
    with_reducible rfl
  rotate_left
  · simp only [Act.put, List.setIfInBounds_toArray, List.set_cons_zero, List.set_cons_succ, i64_w, i32_w]
    rfl
  refine take_ (i := 6) (N := some 10) (v := ?_) (a' := ?_) #[true, true, true, false, true, true, true, false, true, true, false, false, false, false] rfl rfl (take_ofW HT_.out HW_.out (by kernel_rfl)) (fun _ _ _ h => h) (Or.inl ⟨by rfl, ?_⟩) hHeld ?_ ?_
  rotate_left
  · rintro w' s0
    have i0 : Go.Proofs.YtjllbkeobibnkaaDoorK.Holds w' w.heap.size (.cells #[.slice A n0 c, .slice B n1 d, .slice C n2 e] 24) := ⟨s0⟩
    go_simp
    with_reducible rfl
  rotate_left
  · simp only [Act.put, List.setIfInBounds_toArray, List.set_cons_zero, List.set_cons_succ, i64_w, i32_w]
    rfl
  refine take_ (i := 10) (N := some 14) (v := ?_) (a' := ?_) #[true, true, true, false, true, true, true, false, true, true, true, false, false, false] rfl rfl (take_ofW HT_.out HW_.out (by kernel_rfl)) (fun _ _ _ h => h) (Or.inl ⟨by rfl, ?_⟩) hHeld ?_ ?_
  rotate_left
  · rintro w' s0
    have i0 : Go.Proofs.YtjllbkeobibnkaaDoorK.Holds w' w.heap.size (.cells #[.slice A n0 c, .slice B n1 d, .slice C n2 e] 24) := ⟨s0⟩
    go_simp
    with_reducible rfl
  rotate_left
  · simp only [Act.put, List.setIfInBounds_toArray, List.set_cons_zero, List.set_cons_succ, i64_w, i32_w]
    rfl
  refine one_ (i := 3) (N := some 7) #[true, true, true, true, true, true, true, false, true, true, true, false, false, false] rfl rfl (one_of HT_.out (by kernel_rfl)) (by decide) (fun K hK => ?_)
  refine call_ 24 #[.slice A n0 c] (by rfl) rfl (by go_simp) ?_
  refine (HF0.out _ (bel _ _)).mono ?_
  rintro e1 w1 ⟨v1, rfl, hv, hb⟩
  have p1 := prev_call hb
  obtain ⟨X1, k1, rfl⟩ := Kd.R_slice hv
  have HV1 := Aside0.mk hv
  clear hb hv
  refine ⟨_, rfl, ?_⟩
  refine hK.out _ _ held (fun hHeld => ?_)
  clear hK K
  refine norm_ (a' := ?_) ?_ ?_
  rotate_left
  · show Act.put _ (some 7) _ = _
    simp only [Act.put, List.setIfInBounds_toArray, List.set_cons_zero, List.set_cons_succ, i64_w, i32_w]
    rfl
  refine one_ (i := 7) (N := some 11) #[true, true, true, true, true, true, true, true, true, true, true, false, false, false] rfl rfl (one_of HT_.out (by kernel_rfl)) (by decide) (fun K hK => ?_)
  refine call_ 24 #[.slice B n1 d] (by rfl) rfl (by go_simp) ?_
  refine (HF1.out _ (bel _ _)).mono ?_
  rintro e2 w2 ⟨v2, rfl, hv, hb⟩
  have p2 := prev_call hb
  obtain ⟨X2, k2, rfl⟩ := Kd.R_slice hv
  have HV2 := Aside0.mk hv
  clear hb hv
  refine ⟨_, rfl, ?_⟩
  refine hK.out _ _ held (fun hHeld => ?_)
  clear hK K
  refine norm_ (a' := ?_) ?_ ?_
  rotate_left
  · show Act.put _ (some 11) _ = _
    simp only [Act.put, List.setIfInBounds_toArray, List.set_cons_zero, List.set_cons_succ, i64_w, i32_w]
    rfl
  refine one_ (i := 11) (N := some 15) #[true, true, true, true, true, true, true, true, true, true, true, true, false, false] rfl rfl (one_of HT_.out (by kernel_rfl)) (by decide) (fun K hK => ?_)
  refine call_ 24 #[.slice C n2 e] (by rfl) rfl (by go_simp) ?_
  refine (HF2.out _ (bel _ _)).mono ?_
  rintro e3 w3 ⟨v3, rfl, hv, hb⟩
  have p3 := prev_call hb
  obtain ⟨X3, k3, rfl⟩ := Kd.R_slice hv
  have HV3 := Aside0.mk hv
  clear hb hv
  refine ⟨_, rfl, ?_⟩
  refine hK.out _ _ held (fun hHeld => ?_)
  clear hK K
  refine norm_ (a' := ?_) ?_ ?_
  rotate_left
  · show Act.put _ (some 15) _ = _
    simp only [Act.put, List.setIfInBounds_toArray, List.set_cons_zero, List.set_cons_succ, i64_w, i32_w]
    rfl
  refine pure_ (i := 12) (N := some 16) (v := ?_) (a' := ?_) #[true, true, true, true, true, true, true, true, true, true, true, true, true, false] rfl rfl (any_of HT_.out (by kernel_rfl)) (fun _ _ _ h => h) (Or.inl ⟨by rfl, ?_⟩) ?_ ?_
  rotate_left
  · intro w'
    go_simp
    with_reducible rfl
  rotate_left
  · simp only [Act.put, List.setIfInBounds_toArray, List.set_cons_zero, List.set_cons_succ, i64_w, i32_w]
    rfl
  refine last_ (i := 13) (N := none) #[true, true, true, true, true, true, true, true, true, true, true, true, true, true] rfl rfl (one_of HT_.out (by kernel_rfl)) (by decide) (fun K hK => ?_)
  refine box_skip (by rfl) rfl 24 (.tmp 2) (.tmp 16) rfl held #[.slice X1 (fewL s.f0).length k1, .slice X2 (fewL s.f1).length k2, .slice X3 (fewL s.f2).length k3] rfl rfl info24 (by rfl) (by rfl) ?_
  intro w4 hx4 hg4
  have p4 := prev_row hg4
  have HZ := Aside0.mk hx4
  have n4 : NoRow (58 :: k58.E) w3 (.row (w.heap.size + 1)) := noRow_row held (by decide)
  clear hx4 hg4
  refine hK.out _ _ ?_
  clear hK K
  refine done_ (done_of HT_.out (by kernel_rfl)) ?_
  --END
  go_wp2_with fail
  refine bodyPost_ret (results_cell_row rfl _ _ _ _ _ _ _ rfl HZ.out Tryd.underlying24 rfl (by exact info24)) rfl ?_
  exact ⟨_, rfl, ⟨⟨_, _, _, rfl, Kd.R_lower (rowK HV1.out) (siz w _), Kd.R_lower (rowK HV2.out) (siz w _), Kd.R_lower (rowK HV3.out) (siz w _)⟩⟩, bel _ _⟩
end Go.Proofs.YtjllbkeobibnkaaDoor.Q

namespace Go.Proofs.YtjllbkeobibnkaaDoor.Q
open Go Go.Proofs Go.Shelf Go.RowKit Go.Lib Go.Sort Go.Proofs.YtjllbkeobibnkaaDoorP Go.Proofs.YtjllbkeobibnkaaDoorK Go.Proofs.YtjllbkeobibnkaaDoorW.PrintWords Go.Proofs.YtjllbkeobibnkaaDoorW.PrintLast Go.Proofs.YtjllbkeobibnkaaDoorW.PrintMore
set_option linter.unusedSimpArgs false
set_option linter.unusedVariables false
def newK (p : ByteArray) : S58 := ⟨p, z51⟩
/-- Sides of few paths. -/
def fewK (l : List S58) : Bool := decide (l.length ≤ 1000) && l.all fun k => decide (k.f0.size ≤ 32000)
theorem fewK_open {l : List S58} (h : fewK l = true) : l.length ≤ 1000 ∧ ∀ k ∈ l, k.f0.size ≤ 32000 := by
  unfold fewK at h
  simpa using h
theorem fewK_short {l : List S58} (h : fewK l = true) : shortK l = true := by
  obtain ⟨h1, h2⟩ := fewK_open h
  unfold shortK
  rw [decide_eq_true (by omega : l.length ≤ 1048576), Bool.true_and, List.all_eq_true]
  intro k hk
  have := h2 k hk
  exact decide_eq_true (by omega)
def tinyS (s : S24) : Bool := fewK s.f0 && (fewK s.f1 && fewK s.f2)
theorem tinyS_open {s : S24} (h : tinyS s = true) : fewK s.f0 = true ∧ fewK s.f1 = true ∧ fewK s.f2 = true := by
  unfold tinyS at h
  simpa using h
theorem tinyS_ok {s : S24} (h : tinyS s = true) : okS s = true := by
  obtain ⟨h1, h2, h3⟩ := tinyS_open h
  unfold okS
  rw [fewK_short h1, fewK_short h2, fewK_short h3]
  rfl
def pathsS (s : S24) : List ByteArray := mergeL (mergeL (pathsK s.f0) (pathsK s.f1)) (pathsK s.f2)
theorem mergeL_mem (x : List ByteArray) : ∀ y p, p ∈ mergeL x y → p ∈ x ∨ p ∈ y := by
  induction x with
  | nil => intro y p h; exact .inr h
  | cons a x ih =>
    intro y
    induction y with
    | nil =>
      intro p h
      rw [mergeL_end] at h
      rcases List.mem_cons.1 h with e | h
      · exact .inl (e ▸ List.mem_cons_self)
      · rcases ih [] p h with h | h
        · exact .inl (List.mem_cons_of_mem _ h)
        · exact .inr h
    | cons b y ih2 =>
      intro p h
      rw [mergeL_cons] at h
      split at h
      · rcases List.mem_cons.1 h with e | h
        · exact .inl (e ▸ List.mem_cons_self)
        · rcases ih _ p h with h | h
          · exact .inl (List.mem_cons_of_mem _ h)
          · exact .inr h
      · split at h
        · rcases List.mem_cons.1 h with e | h
          · exact .inr (e ▸ List.mem_cons_self)
          · rcases ih2 p h with h | h
            · exact .inl h
            · exact .inr (List.mem_cons_of_mem _ h)
        · rcases List.mem_cons.1 h with e | h
          · exact .inl (e ▸ List.mem_cons_self)
          · rcases ih _ p h with h | h
            · exact .inl (List.mem_cons_of_mem _ h)
            · exact .inr (List.mem_cons_of_mem _ h)
theorem pathsK_new (l : List ByteArray) : pathsK (l.map newK) = l := by
  unfold pathsK
  rw [List.map_map]
  exact List.map_id' l
theorem C_str' {w : World} {A : Option Addr} {l : List ByteArray} (h : Kd.C Kd.string w A l.length l) (j : Nat) (hj : j < l.length) : ∃ ad, A = some ad ∧ w.cell? (ad.add j) = some (.string l[j]) := by
  obtain ⟨ad, e, hc⟩ := h.2.2 (by omega)
  obtain ⟨c, h1, h2, h3⟩ := hc j l[j] (List.getElem?_eq_getElem hj)
  refine ⟨ad, e, ?_⟩
  have h2' : c = [Value.string l[j]] := h2
  have h4 := h3 0 (Value.string l[j]) (by rw [h2']; rfl)
  have h5 : j * (Kd.string).sz + 0 = j := by show j * 1 + 0 = j; omega
  rwa [h5] at h4
attribute [local go_sem] A51_size A51_0 A51_1 A51_g0 A51_g1 A58_size A58_0 A58_1 A58_2 A58_g0 A58_g1 A58_g2 cell_held frozen_held
attribute [local go_sem] zero51 zero58 zero65 set58 laid58
attribute [local go_sem ↓ high] lvx_of
attribute [local go_sem] lv_sc lv24 lv33
attribute [local go_sem ↓ high] lv51 lv51s lv58 lv58a lv65 lv65a lv65l lv65r sc51 sc58 sc65 sc65a sc65l sc65r sc58a
set_option maxRecDepth 100000 in
set_option maxHeartbeats 4000000 in
theorem paths_any (w : World) (s : S24) (v : Array Value) (hs : SideIn w s v) (ht : tinyS s = true) :
    Calls Tryd.prog 43 #[.agg v] w fun e w' => ∃ v, e = .returned v ∧ Kd.string.R 9 w' w.heap.size (fun _ => True) v (pathsS s) ∧ Below w.heap.size w w' := by
  obtain ⟨A, c, B, d, C, e, rfl, l1, l2, l3, h1, h2, h3⟩ := hs.out
  obtain ⟨t1, t2, t3⟩ := tinyS_open ht
  have HM1 := Aside0.mk (fun W (hb : Below w.heap.size w W) => merge_any W A c s.f0 B d s.f1 (Kd.C_below h1 hb) (fewK_short t1) l1 (Kd.C_below h2 hb) (fewK_short t2) l2)
  have hl1 : (mergeL (pathsK s.f0) (pathsK s.f1)).length ≤ 2000 := by
    have := mergeL_len (pathsK s.f0) (pathsK s.f1)
    have a1 := (fewK_open t1).1
    have a2 := (fewK_open t2).1
    unfold pathsK at this ⊢
    rw [List.length_map, List.length_map] at this
    omega
  have hm1 : ∀ p ∈ mergeL (pathsK s.f0) (pathsK s.f1), p.size ≤ 32000 := fun p hp => by
    rcases mergeL_mem _ _ p hp with h | h
    · obtain ⟨k, hk, rfl⟩ := List.mem_map.1 h
      exact (fewK_open t1).2 k hk
    · obtain ⟨k, hk, rfl⟩ := List.mem_map.1 h
      exact (fewK_open t2).2 k hk
  obtain ⟨R, hR⟩ : ∃ R, pathsS s = R := ⟨_, rfl⟩
  rw [hR]
  unfold pathsS at hR
  generalize mergeL (pathsK s.f0) (pathsK s.f1) = l at HM1 hl1 hm1 hR
  have hsh : shortK (l.map newK) = true := by
    unfold shortK
    rw [List.length_map, decide_eq_true (by omega : l.length ≤ 1048576), Bool.true_and, List.all_eq_true]
    intro k hk
    obtain ⟨p, hp, rfl⟩ := List.mem_map.1 hk
    have := hm1 p hp
    exact decide_eq_true (by show p.size ≤ 65536; omega)
  have HM2 := Aside0.mk (fun W (hb : Below w.heap.size w W) A' c' n (hn : n = (l.map newK).length) (hA : k58.C W A' n (l.map newK)) (hc' : n ≤ c') => by
    have := merge_any W A' c' (l.map newK) C e s.f2 (hn ▸ hA) hsh (hn ▸ hc') (Kd.C_below h3 hb) (fewK_short t3) l3
    rw [← hn] at this
    exact this)
  rw [pathsK_new, hR] at HM2
  clear hs ht l1 l2 l3 h1 h2 h3 t1 t2 t3 hm1 hR hsh
  generalize s.f0.length = n0 at HM1 ⊢
  generalize s.f1.length = n1 at HM1 ⊢
  generalize s.f2.length = n2 at HM2 ⊢
  go_enter Tryd.func43, Tryd.ntmps43
  go_wp2_with fail
  refine (HM1.out _ (bel _ _)).mono ?_
  rintro r1 w1 ⟨v1, rfl, hv, hb⟩
  have p1 := prev_call hb
  obtain ⟨A1, c1, rfl⟩ := Kd.R_slice hv
  have HV1 := Aside0.mk hv
  clear hb hv
  go_wp2_with fail
  have hbox : Go.Proofs.YtjllbkeobibnkaaDoorK.Holds w1 w.heap.size (.cells #[.slice A n0 c, .slice B n1 d, .slice C n2 e] 24) := inferInstance
  go_loopw [3, 12] (fun u i wr => ∃ j : Nat, j ≤ l.length ∧ i = .int .i64 (j : Int) ∧ Aside0 (Below w1.heap.size w1 wr) ∧ Aside0 (k58.R 58 wr w1.heap.size (fun _ => True) u ((l.take j).map newK))) (fun _ i _ => l.length - (intOf i).toNat)
  case atStart => exact ⟨0, Nat.zero_le _, rfl, ⟨Below.refl _ _⟩, ⟨Kd.R_nil _ _ _ _ _⟩⟩
  case round =>
    obtain ⟨j, hj, rfl, HB, HO⟩ := hrel
    have pr := prev_call HB.out
    have hlv : ((l.take j).map newK).length = j := by rw [List.length_map, List.length_take]; omega
    obtain ⟨Ao, co, ho⟩ := Kd.R_slice HO.out
    rw [hlv] at ho
    subst ho
    by_cases hlt : j < l.length
    · obtain ⟨ad, e0, x0⟩ := C_str' (Kd.C_below (Kd.R_reads' HV1.out).2.2 HB.out) j hlt
      subst e0
      have ht : l.take (j + 1) = l.take j ++ [l[j]] := List.take_succ_eq_append_getElem hlt
      generalize l[j] = p at x0 ht
      have HT := Aside0.mk ht
      clear ht
      go_wp2_with ((with_reducible refine gate_builtin (b := .append) (xs := #[.tmp 16, .tmp 19]) rfl ?_); at_builtin; refine app58 (w0 := w1) w1.heap.size rfl (.tmp 16) (.tmp 19) rfl (.slice Ao j co) ((l.take j).map newK) (newK p) rfl ?aX ?aO ?aB ?aS ?aL ?_; (case aX => first | rfl | (simp only [World.size_setCell, size_setRow, World.size_alloc]; rfl)); (case aO => exact rowB HO.out (bel wr _)); (case aB => exact (inferInstance : Bel w1.heap.size w1 _).out (by first | exact Nat.le_refl _ | omega)); (case aS => first | exact siz w1 _ | (have := siz w1 _; omega)); (case aL => rw [List.length_map, List.length_take]; omega); intro v6 w6 h6 hb6 hg6 hat6; have p6 := prev_above hb6; have HB6 := Aside0.mk hb6; have HV6 := Aside0.mk h6; clear hb6 h6 hg6 hat6)
      go_roundw
      case rel => exact ⟨j + 1, by omega, by go_num, HB6, ⟨by rw [HT.out, List.map_append]; exact HV6.out⟩⟩
      case measure => simp [intOf]; omega
    · have hv := HO.out
      rw [List.take_of_length_le (by omega)] at hv
      have hjl : j = l.length := by omega
      obtain ⟨_, hc2, hc3⟩ := Kd.R_reads' hv
      rw [List.length_map] at hc3
      rw [hjl] at hc2
      clear hjl
      have HC2 := Aside0.mk hc2
      have HC3 := Aside0.mk hc3
      clear hv hc2 hc3 HO
      go_wp2_with fail
      refine (HM2.out _ ?hb _ _ _ ?hn ?hA HC2.out).mono ?_
      case hn => rw [List.length_map]
      case hb => exact bel _ _
      case hA => exact Kd.C_below HC3.out (bel wr _)
      rintro r1 w2 ⟨v2, rfl, hv, hb⟩
      have p2 := prev_call hb
      have HV2 := Aside0.mk (Kd.R_lower hv (siz w wr))
      clear hb hv
      go_wp2_with fail
      go_ret
      exact ⟨_, rfl, HV2.out, bel _ _⟩
end Go.Proofs.YtjllbkeobibnkaaDoor.Q

namespace Go.Proofs.YtjllbkeobibnkaaDoor.Q
open Go Go.Proofs Go.Shelf Go.RowKit Go.Lib Go.Sort Go.Proofs.YtjllbkeobibnkaaDoorP Go.Proofs.YtjllbkeobibnkaaDoorK Go.Proofs.YtjllbkeobibnkaaDoorW.PrintWords Go.Proofs.YtjllbkeobibnkaaDoorW.PrintLast Go.Proofs.YtjllbkeobibnkaaDoorW.PrintMore
set_option linter.unusedVariables false
def z24 : S24 := ⟨[], [], []⟩
def doG (s : S24) (x : S33) (ver : Int) (y : S65) : S24 :=
  if x.f0 = 1 then ⟨withS s.f0 x.f2 { y.l with f0 := ver }, withS s.f1 x.f2 { y.l with f0 := ver }, withS s.f2 x.f2 { y.l with f0 := ver }⟩
  else if x.f0 = 2 then ⟨woS s.f0 x.f2, s.f1, woS s.f2 x.f2⟩
  else if x.f0 = 3 then ⟨withS s.f0 x.f2 y.r, withS s.f1 x.f2 y.r, s.f2⟩
  else if x.f0 = 4 then ⟨woS s.f0 x.f2, woS s.f1 x.f2, s.f2⟩
  else if x.f0 = 5 then ⟨withS s.f0 x.f2 y.r, withS s.f1 x.f2 { y.l with f0 := y.r.f0 }, s.f2⟩
  else if x.f0 = 7 then ⟨withS s.f0 x.f2 y.r, withS (withS s.f1 x.f3 y.l) x.f2 y.r, s.f2⟩
  else ⟨woS s.f0 x.f2, s.f1, s.f2⟩
def doT (s : S24) (x : S33) (ver : Int) (y : S65) (rd : Bool) : S24 × Int :=
  if rd = true then (if x.f0 = 1 ∧ (ver < 1 ∨ 1099511627776 < ver) then (z24, 2) else (doG s x ver y, 0)) else (z24, 9)
def doS (s : S24) (x : S33) (ver : Int) : S24 × Int :=
  if checkS s = 0 then doT s x ver (atS s x.f2) (readyS s x (atS s x.f2)) else (z24, 2)
theorem ready_kind {s : S24} {x : S33} {y : S65} (h : readyS s x y = true) : x.f0 = 1 ∨ x.f0 = 2 ∨ x.f0 = 3 ∨ x.f0 = 4 ∨ x.f0 = 5 ∨ x.f0 = 6 ∨ x.f0 = 7 := by
  apply Classical.byContradiction
  intro hn
  unfold readyS at h
  rw [if_neg (by omega), if_neg (by omega), if_neg (by omega), if_neg (by omega), if_neg (by omega), if_neg (by omega), if_neg (by omega)] at h
  cases h
theorem Row.ofR {w : World} {base : Nat} {v : Value} {l : List S58} (h : k58.R 58 w base (fun _ => True) v l) : Row w v l := ⟨C_ofR h⟩
theorem Row.ofC {w : World} {A : Option Addr} {c : Nat} {l : List S58} (h : k58.C w A l.length l) (hc : l.length ≤ c) : Row w (.slice A l.length c) l := ⟨⟨A, c, rfl, hc, h⟩⟩
theorem Row.nil (w : World) : Row w (.slice none 0 0) [] := ⟨⟨none, 0, rfl, Nat.le_refl _, Kd.C_nil k58 w⟩⟩
theorem SideIn.ofRow {w : World} {v0 v1 v2 : Value} {s : S24} (h0 : Row w v0 s.f0) (h1 : Row w v1 s.f1) (h2 : Row w v2 s.f2) : SideIn w s #[v0, v1, v2] := by
  obtain ⟨A, c, rfl, c1, c2⟩ := h0.out
  obtain ⟨B, d, rfl, d1, d2⟩ := h1.out
  obtain ⟨C, e, rfl, e1, e2⟩ := h2.out
  exact ⟨⟨A, c, B, d, C, e, rfl, c1, d1, e1, c2, d2, e2⟩⟩
theorem withS_short {l : List S58} (h : fewK l = true) {p : ByteArray} (hp : p.size ≤ 32000) (a : S51) : shortK (withS l p a) = true ∧ (withS l p a).length ≤ 100000 := by
  obtain ⟨h1, h2⟩ := fewK_open h
  rw [withS_ins]
  have h3 := ins_len p a l
  refine ⟨?_, by omega⟩
  unfold shortK
  rw [decide_eq_true (by omega : (insS p a l).length ≤ 1048576), Bool.true_and, List.all_eq_true]
  intro k hk
  rcases ins_mem hk with e | hk
  · rw [e]; exact decide_eq_true (by show p.size ≤ 65536; omega)
  · have := h2 k hk
    exact decide_eq_true (by omega)
theorem withS_ris {l : List S58} (h : risK l) (p : ByteArray) (a : S51) : risK (withS l p a) := by rw [withS_ins]; exact ins_ris h
end Go.Proofs.YtjllbkeobibnkaaDoor.Q

namespace Go.Proofs.YtjllbkeobibnkaaDoor.Q
open Go Go.Proofs Go.Shelf Go.RowKit Go.Lib Go.Sort Go.Proofs.YtjllbkeobibnkaaDoorP Go.Proofs.YtjllbkeobibnkaaDoorK Go.Proofs.YtjllbkeobibnkaaDoorW.PrintWords Go.Proofs.YtjllbkeobibnkaaDoorW.PrintLast Go.Proofs.YtjllbkeobibnkaaDoorW.PrintMore
set_option linter.unusedSimpArgs false
set_option linter.unusedVariables false
def mxS (a : Int) (k : S58) : Int := if a < k.f1.f0 then k.f1.f0 else a
def topS (s : S24) : Int := s.f2.foldl mxS (s.f1.foldl mxS (s.f0.foldl mxS 1))
def verS (top : Int) (i : Nat) : Int := if 1099511627776 < top + 1 + i then 1099511627776 else top + 1 + i
/-- What is left of the sides when the steps from the i-th on are done: the sides, whether one was stuck, whether all could be done. -/
def allS (top : Int) : Nat → List S33 → S24 → Bool → S24 × Bool × Bool
  | _, [], s, st => (s, st, true)
  | i, x :: l, s, st =>
    if x.f0 = 8 then allS top (i + 1) l s true
    else if (doS s x (verS top i)).2 = 0 then allS top (i + 1) l (doS s x (verS top i)).1 st
    else ((doS s x (verS top i)).1, st, false)
def roomK (m : Nat) (l : List S58) : Prop := l.length + m ≤ 1000 ∧ ∀ k ∈ l, k.f0.size ≤ 32000
theorem roomK_few {m : Nat} {l : List S58} (h : roomK m l) : fewK l = true := by
  unfold fewK
  rw [decide_eq_true (by have := h.1; omega : l.length ≤ 1000), Bool.true_and, List.all_eq_true]
  exact fun k hk => decide_eq_true (h.2 k hk)
theorem roomK.le {m n : Nat} {l : List S58} (h : roomK m l) (hn : n ≤ m) : roomK n l := ⟨by have := h.1; omega, h.2⟩
theorem roomK.with {m : Nat} {l : List S58} (h : roomK (m + 1) l) {p : ByteArray} (hp : p.size ≤ 32000) (a : S51) : roomK m (withS l p a) := by
  rw [withS_ins]
  refine ⟨by have := ins_len p a l; have := h.1; omega, fun k hk => ?_⟩
  rcases ins_mem hk with e | hk
  · rw [e]; exact hp
  · exact h.2 k hk
theorem roomK.wo {m : Nat} {l : List S58} (h : roomK m l) (p : ByteArray) : roomK m (woS l p) := ⟨by have := wo_len l p; have := h.1; omega, fun k hk => h.2 k (wo_mem hk)⟩
structure Room (m : Nat) (s : S24) : Prop where
  a : roomK m s.f0
  l : roomK m s.f1
  r : roomK m s.f2
theorem Room.tiny {m : Nat} {s : S24} (h : Room m s) : tinyS s = true := by
  unfold tinyS
  rw [roomK_few h.a, roomK_few h.l, roomK_few h.r]
  rfl
theorem Room.le {m n : Nat} {s : S24} (h : Room m s) (hn : n ≤ m) : Room n s := ⟨h.a.le hn, h.l.le hn, h.r.le hn⟩
theorem room_zero {m : Nat} (hm : m ≤ 1000) : Room m z24 := by
  have : roomK m [] := ⟨by simpa using hm, fun k hk => by cases hk⟩
  exact ⟨this, this, this⟩
theorem doG_room {m : Nat} {s : S24} (h : Room (m + 2) s) {x : S33} (hp : x.f2.size ≤ 32000) (hq : x.f3.size ≤ 32000) (ver : Int) (y : S65) : Room m (doG s x ver y) := by
  have w0 := fun a => (h.a.with hp a).le (by omega : m ≤ m + 1)
  have w1 := fun a => (h.l.with hp a).le (by omega : m ≤ m + 1)
  have w2 := fun a => (h.r.with hp a).le (by omega : m ≤ m + 1)
  have w3 := fun a b => (h.l.with hq a).with hp b
  have o0 := (h.a.wo x.f2).le (by omega : m ≤ m + 2)
  have o1 := (h.l.wo x.f2).le (by omega : m ≤ m + 2)
  have o2 := (h.r.wo x.f2).le (by omega : m ≤ m + 2)
  have k0 := h.a.le (by omega : m ≤ m + 2)
  have k1 := h.l.le (by omega : m ≤ m + 2)
  have k2 := h.r.le (by omega : m ≤ m + 2)
  unfold doG
  split
  · exact ⟨w0 _, w1 _, w2 _⟩
  · split
    · exact ⟨o0, k1, o2⟩
    · split
      · exact ⟨w0 _, w1 _, k2⟩
      · split
        · exact ⟨o0, o1, k2⟩
        · split
          · exact ⟨w0 _, w1 _, k2⟩
          · split
            · exact ⟨w0 _, w3 _ _, k2⟩
            · exact ⟨o0, k1, k2⟩
theorem doS_room {m : Nat} {s : S24} (h : Room (m + 2) s) {x : S33} (hp : x.f2.size ≤ 32000) (hq : x.f3.size ≤ 32000) (ver : Int) : Room m (doS s x ver).1 := by
  have hm : m ≤ 1000 := by have := h.a.1; omega
  unfold doS doT
  split
  · split
    · split
      · exact room_zero hm
      · exact doG_room h hp hq ver _
    · exact room_zero hm
  · exact room_zero hm
/-- Versions that Check takes: the top is one, too. -/
theorem mxS_le {l : List S58} {a b : Int} (ha : a ≤ b) (h : ∀ k ∈ l, k.f1.f0 ≤ b) : a ≤ l.foldl mxS a ∧ l.foldl mxS a ≤ b := by
  induction l generalizing a with
  | nil => exact ⟨Int.le_refl _, ha⟩
  | cons k l ih =>
    have hk := h k (List.mem_cons_self ..)
    have := @ih (mxS a k) (by unfold mxS; split <;> omega) (fun x hx => h x (List.mem_cons_of_mem _ hx))
    have h2 : a ≤ mxS a k := by unfold mxS; split <;> omega
    exact ⟨by simp only [List.foldl_cons]; omega, by simp only [List.foldl_cons]; omega⟩
end Go.Proofs.YtjllbkeobibnkaaDoor.Q
