import Derived.Test.YtinibpncbhmchaaPD
import Derived.Test.YtinibpncbhmchaaQ13
namespace Go.Proofs.Ytinibpncbhmchaa.Q
open Go Go.RowKit Go.Proofs.YtinibpncbhmchaaW.PrintWords Go.Proofs.YtinibpncbhmchaaW.PrintLast Go.Proofs.YtinibpncbhmchaaW.PrintMore
set_option linter.unusedSimpArgs false
set_option linter.unusedVariables false
theorem same_refl_loop (L : List S39) (hL : L.length ≤ 140737488351232) (d : Nat) : ∀ (i k : Nat), i + d = L.length → d < k → aquiferref04_Same.l0 k L L (i : Int) = some true := by
  induction d with
  | zero =>
    intro i k hi hk
    obtain ⟨k, rfl⟩ : ∃ m, k = m + 1 := ⟨k - 1, by omega⟩
    simp only [aquiferref04_Same.l0]
    rw [if_neg (by omega)]
  | succ d ih =>
    intro i k hi hk
    obtain ⟨k, rfl⟩ : ∃ m, k = m + 1 := ⟨k - 1, by omega⟩
    simp only [aquiferref04_Same.l0]
    rw [if_pos (by omega), if_pos (by omega), if_pos (by omega), if_neg (by simp), wrap_succ i (by omega)]
    exact ih (i + 1) k (by omega) (by omega)
theorem same_refl (L : List S39) (hL : L.length ≤ 140737488351232) (k : Nat) (hk : L.length < k) : aquiferref04_Same.f k L L = some true := by
  unfold aquiferref04_Same.f
  rw [if_pos rfl]
  exact same_refl_loop L hL L.length 0 k (by omega) hk
/-! ### Records are told apart by their bytes -/
def wf (f : S39) : Prop := ¬ bad f ∧ (f.f3.size : Int) ≤ 4096
theorem valid_wf {L : List S39} : ∀ {a : Int}, valid L a → ∀ f ∈ L, wf f := by
  induction L with
  | nil => intro a _ f hf; cases hf
  | cons g l ih =>
    intro a hv f hf
    rcases List.mem_cons.1 hf with rfl | hf
    · exact ⟨(fault_ok hv.1).1, (fault_ok hv.1).2.1⟩
    · exact ih hv.2 f hf
theorem flat_cons (f : S39) (l : List S39) : flat (f :: l) = fldU f ++ flat l := rfl
theorem flat_append (a b : List S39) : flat (a ++ b) = flat a ++ flat b := by unfold flat; rw [List.flatMap_append]
theorem flat_ge (L : List S39) : L.length ≤ (flat L).length := by
  induction L with
  | nil => exact Nat.le_refl _
  | cons f l ih =>
    obtain ⟨c, t, h⟩ := fldU_ne f
    rw [flat_cons, h]
    simp
    omega
theorem fldU_inj {f g : S39} {s t : List UInt8} (hf : wf f) (hg : wf g) (h : fldU f ++ s = fldU g ++ t) : f = g ∧ s = t := by
  have h1 := fldR_fldU f s hf.1 hf.2
  have h2 := fldR_fldU g t hg.1 hg.2
  rw [h, h2] at h1
  injection h1 with h3 h4
  injection h3 with h3 _
  exact ⟨h3.symm, h4.symm⟩
/-- Two records of one begin: what is behind it. -/
theorem flat_split (A : List S39) : ∀ (M : List S39) (p : List UInt8), (∀ f ∈ A, wf f) → (∀ f ∈ M, wf f) → p ≠ [] ∨ True → flat M = flat A ++ p → (∃ M', M = A ++ M' ∧ flat M' = p) := by
  induction A with
  | nil => intro M p _ _ _ h; exact ⟨M, rfl, h⟩
  | cons f A ih =>
    intro M p hA hM hp h
    cases M with
    | nil =>
      obtain ⟨c, t, hc⟩ := fldU_ne f
      rw [flat_cons, hc] at h
      cases h
    | cons g M =>
      rw [flat_cons, flat_cons, List.append_assoc] at h
      obtain ⟨rfl, h2⟩ := fldU_inj (hM g List.mem_cons_self) (hA f List.mem_cons_self) h
      obtain ⟨M', rfl, h3⟩ := ih M p (fun x hx => hA x (List.mem_cons_of_mem _ hx)) (fun x hx => hM x (List.mem_cons_of_mem _ hx)) (.inr trivial) h2
      exact ⟨M', rfl, h3⟩
theorem flat_inj {A M : List S39} (hA : ∀ f ∈ A, wf f) (hM : ∀ f ∈ M, wf f) (h : flat M = flat A) : M = A := by
  obtain ⟨M', rfl, h2⟩ := flat_split A M [] hA hM (.inr trivial) (by rw [h, List.append_nil])
  cases M' with
  | nil => exact List.append_nil _
  | cons f l =>
    obtain ⟨c, t, hc⟩ := fldU_ne f
    rw [flat_cons, hc] at h2
    cases h2
/-- A record's bytes, cut within its last field, are none. -/
theorem cut_none (A : List S39) (f : S39) (p q : List UInt8) (hA : ∀ x ∈ A, wf x) (hf : wf f) (hp : p ≠ []) (hq : q ≠ []) (h : fldU f = p ++ q) : decS (mkS (flat A ++ p)) = ([], 5) := by
  rcases decS_total (mkS (flat A ++ p)) with h0 | h0
  · obtain ⟨M, e, hd⟩ : ∃ M e, decS (mkS (flat A ++ p)) = (M, e) := ⟨_, _, rfl⟩
    rw [hd] at h0
    simp only at h0
    subst h0
    obtain ⟨hv, _, hm⟩ := (decS_iff _ _).1 hd
    have hfl : flat M = flat A ++ p := by
      have := congrArg (fun s => s.data.toList) hm
      simp only [data_mkS] at this
      exact this.symm
    obtain ⟨M', rfl, h2⟩ := flat_split A M p hA (valid_wf hv) (.inr trivial) hfl
    cases M' with
    | nil => exact absurd h2.symm hp
    | cons g M' =>
      have hg : wf g := valid_wf hv g (by simp)
      rw [flat_cons] at h2
      have h3 : fldU f ++ [] = fldU g ++ (flat M' ++ q) := by rw [List.append_nil, h, ← h2, List.append_assoc]
      obtain ⟨_, h4⟩ := fldU_inj hf hg h3
      exact absurd (List.append_eq_nil_iff.1 h4.symm).2 hq
  · exact h0
theorem valid_append (A B : List S39) : ∀ (a : Int), valid (A ++ B) a ↔ valid A a ∧ valid B ((A.getLast?.map (·.f0)).getD a) := by
  induction A with
  | nil => intro a; simp [valid]
  | cons f l ih =>
    intro a
    rw [List.cons_append]
    show (fault f a = 0 ∧ valid (l ++ B) f.f0) ↔ ((fault f a = 0 ∧ valid l f.f0) ∧ _)
    rw [ih f.f0]
    cases l with
    | nil => simp [and_assoc]
    | cons g l => simp [and_assoc, List.getLast?_cons_cons, List.getLast?_cons]
theorem fault_more (f : S39) (a b : Int) (h : fault f a = 0) : fault f b = 0 ↔ b ≤ f.f0 := by
  obtain ⟨h1, h2, _⟩ := fault_ok h
  unfold fault
  rw [if_neg h1, if_neg (by omega)]
  by_cases h3 : f.f0 < b
  · rw [if_pos h3]
    constructor
    · intro h; cases h
    · intro h; omega
  · rw [if_neg h3]
    constructor
    · intro _; omega
    · intro _; rfl
/-- Two records' bytes, one behind the other. -/
theorem two_recs (A B : List S39) (f g : S39) (hA : valid (A ++ [f]) 0) (hB : valid (g :: B) 0) (hl : (flat (A ++ [f])).length + (flat (g :: B)).length ≤ 65536) :
    ((decS (mkS (flat (A ++ [f]) ++ flat (g :: B)))).2 = 0 ↔ f.f0 ≤ g.f0) := by
  have key : valid ((A ++ [f]) ++ g :: B) 0 ↔ f.f0 ≤ g.f0 := by
    rw [valid_append]
    have : ((A ++ [f]).getLast?.map (·.f0)).getD 0 = f.f0 := by simp
    rw [this]
    constructor
    · rintro ⟨_, h⟩
      exact (fault_more g 0 f.f0 hB.1).1 h.1
    · intro h
      exact ⟨hA, (fault_more g 0 f.f0 hB.1).2 h, hB.2⟩
  rw [← flat_append, ← key]
  have hwf : ∀ x ∈ (A ++ [f]) ++ g :: B, wf x := by
    intro x hx
    rcases List.mem_append.1 hx with hx | hx
    · exact valid_wf hA x hx
    · exact valid_wf hB x hx
  constructor
  · intro h0
    obtain ⟨M, e, hd⟩ : ∃ M e, decS (mkS (flat (A ++ [f] ++ g :: B))) = (M, e) := ⟨_, _, rfl⟩
    rw [hd] at h0
    simp only at h0
    subst h0
    obtain ⟨hv, _, hm⟩ := (decS_iff _ _).1 hd
    have hfl : flat M = flat (A ++ [f] ++ g :: B) := by
      have := congrArg (fun s => s.data.toList) hm
      simp only [data_mkS] at this
      exact this.symm
    rw [← flat_inj hwf (valid_wf hv) hfl]
    exact hv
  · intro hv
    rw [(decS_iff _ (A ++ [f] ++ g :: B)).2 ⟨hv, by rw [flat_append, List.length_append]; exact hl, rfl⟩]
end Go.Proofs.Ytinibpncbhmchaa.Q
