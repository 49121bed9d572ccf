import Derived.Test.YtinibpncbhmchaaPE
import Derived.Test.YtinibpncbhmchaaQ11
namespace Go.Proofs.Ytinibpncbhmchaa.Q
open Go Go.RowKit Go.Proofs.YtinibpncbhmchaaW.PrintWords
theorem FieldCodes_pure (l0 : List S39) (h : l0.length * 40 ≤ 140737488351232) (_hG : ∀ a ∈ l0, good39 a) : ∃ k, aquiferlaw04_FieldCodes.f k l0 = some true := by
  refine ⟨100, ?_⟩
  have hl := few_len l0
  unfold aquiferlaw04_FieldCodes.f
  rw [few_fn l0 (by omega) 100 (by omega), Option.bind_some, enc_fn (fewL l0) (by omega) 100 (by omega), Option.bind_some, ref_fn (fewL l0) (by omega) 100 (by omega), Option.bind_some, if_pos rfl, if_pos rfl, works_fn 100 (by omega), Option.bind_some]
end Go.Proofs.Ytinibpncbhmchaa.Q
