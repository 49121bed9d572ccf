import Derived.Test.YtinibpncbhmchaaPT
import Derived.Test.YtinibpncbhmchaaQ27
namespace Go.Proofs.Ytinibpncbhmchaa.Q
open Go Go.RowKit Go.Proofs.YtinibpncbhmchaaW.PrintWords
theorem FieldTells_pure (l0 : List S39) (x : S39) (a2 : Int) (h : l0.length * 40 ≤ 140737488351232) (_hG : ∀ a ∈ l0, good39 a) (_hx : good39 x) (_h2 : (Lit.int .i64 a2).wf = true) : ∃ k, aquiferlaw04_FieldTells.f k l0 x.f0 x.f1 x.f2 x.f3 a2 = some true := by
  suffices hh : ∀ k, 300 ≤ k → aquiferlaw04_FieldTells.f k l0 x.f0 x.f1 x.f2 x.f3 a2 = some true from ⟨300, hh 300 (Nat.le_refl _)⟩
  intro k hk
  have hl := few_len l0
  unfold aquiferlaw04_FieldTells.f
  rw [few_fn l0 (by omega) k (by omega), Option.bind_some, few_fn (fewL l0) (by omega) k (by omega), Option.bind_some, few_few]
  generalize fewL l0 = X at hl
  have ht := texts_len X a2
  have hp := put_len X x
  rw [num_fn2 X (by omega), Option.bind_some, refNum_fn X (by omega) _ k (by omega), Option.bind_some, text_fn2 X (by omega), Option.bind_some, refText_fn X (by omega) _ k (by omega), Option.bind_some, if_pos rfl, if_pos (by simp), if_pos rfl, if_pos (by simp),
    texts_fn2 X (by omega), Option.bind_some, refTexts_fn X (by omega) _ k (by omega), Option.bind_some, sameT_refl _ (by omega) k (by omega), Option.bind_some, if_pos rfl, put_fn2 X (by omega), Option.bind_some, refPut_fn X (by omega) x k (by omega), Option.bind_some, same_refl _ (by omega) k (by omega), Option.bind_some, if_pos rfl,
    same_refl _ (by omega) k (by omega), Option.bind_some, if_pos rfl, works_fn k (by omega), Option.bind_some]
end Go.Proofs.Ytinibpncbhmchaa.Q
