import Derived.Test.YtinibpncbhmchaaPS
import Derived.Test.YtinibpncbhmchaaQ15
namespace Go.Proofs.Ytinibpncbhmchaa.Q
open Go Go.RowKit Go.Proofs.YtinibpncbhmchaaW.PrintWords
theorem back_j0 (k : Nat) (hk : 8000 ≤ k) (s : ByteArray) (hs : s.size ≤ 6000) : aquiferlaw04_FieldBack.j0 k s = some true := by
  obtain ⟨k, rfl⟩ : ∃ m, k = m + 1 := ⟨k - 1, by omega⟩
  simp only [aquiferlaw04_FieldBack.j0]
  rw [dec_fn, Option.bind_some]
  rcases decS_total s with h0 | h0
  · obtain ⟨M, e, hd⟩ : ∃ M e, decS s = (M, e) := ⟨_, _, rfl⟩
    rw [hd] at h0 ⊢
    simp only at h0
    subst h0
    obtain ⟨_, hl, hm⟩ := (decS_iff s M).1 hd
    have hge := flat_ge M
    have hsz : s.size = (flat M).length := by rw [hm, size_mkS]
    rw [if_pos rfl, enc_fn M (by omega) k (by omega), Option.bind_some, (dec_enc M s).1 hd, if_pos rfl, if_pos rfl, works_fn k (by omega), Option.bind_some]
  · rw [h0, if_neg (by decide), works_fn k (by omega), Option.bind_some]
theorem FieldBack_pure (l0 : List S39) (a1 : ByteArray) (h : l0.length * 40 ≤ 140737488351232) (_hG : ∀ a ∈ l0, good39 a) (_h1 : a1.size ≤ 140737488351232) : ∃ k, aquiferlaw04_FieldBack.f k l0 a1 = some true := by
  refine ⟨8000, ?_⟩
  have hl := few_len l0
  have hm : 0 ≤ mn (a1.size : Int) 6000 ∧ mn (a1.size : Int) 6000 ≤ (a1.size : Int) ∧ mn (a1.size : Int) 6000 ≤ 6000 := by unfold mn; split <;> omega
  have hsz : (a1.extract 0 (mn (a1.size : Int) 6000).toNat).size ≤ 6000 := by rw [ByteArray.size_extract]; omega
  unfold aquiferlaw04_FieldBack.f
  rw [few_fn l0 (by omega) 8000 (by omega), Option.bind_some, if_pos hm.1, if_pos hm.2.1, enc_fn (fewL l0) (by omega) 8000 (by omega), Option.bind_some]
  obtain ⟨s, e, he⟩ : ∃ s e, encGo (fewL l0) 0 [] = (s, e) := ⟨_, _, rfl⟩
  rw [he]
  by_cases h0 : e = 0
  · subst h0
    rw [if_pos rfl, dec_fn, Option.bind_some, (dec_enc _ _).2 he, if_pos rfl, same_refl _ (by omega) 8000 (by omega), Option.bind_some, if_pos rfl]
    exact back_j0 8000 (by omega) _ hsz
  · rw [if_neg h0]
    exact back_j0 8000 (by omega) _ hsz
end Go.Proofs.Ytinibpncbhmchaa.Q
