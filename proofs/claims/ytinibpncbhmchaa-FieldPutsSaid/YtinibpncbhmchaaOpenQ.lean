import Derived.Test.YtinibpncbhmchaaK2
import Derived.Test.YtinibpncbhmchaaQ0
namespace Go.Proofs.Ytinibpncbhmchaa.Q
open Go Go.RowKit Go.Proofs.YtinibpncbhmchaaK Go.Proofs.YtinibpncbhmchaaW.PrintWords Go.Proofs.YtinibpncbhmchaaW.PrintLast Go.Proofs.YtinibpncbhmchaaW.PrintMore
def good39 (x : S39) : Prop := (Lit.int .i64 x.f0).wf = true ∧ (Lit.int .i64 x.f1).wf = true ∧ (Lit.int .i64 x.f2).wf = true ∧ x.f3.size ≤ 9223372036854775807
theorem opens39 : Opens Try.prog 39 k39 good39 := opens_struct Try.underlying39 (by kernel_rfl) (opensAt_cons rfl (by kernel_rfl) (opens_int Try.underlying3) (opensAt_cons rfl (by kernel_rfl) (opens_int Try.underlying3) (opensAt_cons rfl (by kernel_rfl) (opens_int Try.underlying3) (opensAt_last rfl (by kernel_rfl) (opens_string Try.underlying9))))) (fun x : S39 => (x.f0, x.f1, x.f2, x.f3)) (fun p => ⟨p.1, p.2.1, p.2.2.1, p.2.2.2⟩) (fun _ => rfl)
end Go.Proofs.Ytinibpncbhmchaa.Q
