/- The data that the law FnAges takes, opened; its pure statement. No condition. -/
import Derived.Test.YtgkliacflbenfaaQFnAgesx21
import Derived.Test.YtgkliacflbenfaaRd
namespace Go.Proofs.Ytgkliacflbenfaa.DFnAges
open Go.ChangeShapes Go.WideShapes Go.RowKit Go.Proofs.YtgkliacflbenfaaW.PrintWords Go.Proofs.Ytgkliacflbenfaa.Rd Go.Proofs.Ytgkliacflbenfaa.QFnAges
set_option maxRecDepth 100000
set_option linter.unusedVariables false
theorem o5 : Opens Try.prog 5 (Kd.int .u8) (fun x : Int => (Lit.int .u8 x).wf = true) := opens_int Try.underlying5 (by kernel_rfl)
theorem o22 : Opens Try.prog 22 (Kd.slice 5 (Kd.int .u8)) (fun x : (List Int) => (x.length ≤ maxLen ∧ ∀ y ∈ x, (Lit.int .u8 y).wf = true)) := opens_slice Try.underlying22 (by kernel_rfl) o5
def Pure : Prop := ∀ (l0 : (List Int)), (l0.length ≤ maxLen ∧ ∀ y ∈ l0, (Lit.int .u8 y).wf = true) → ∃ k, laws_FnAges.f k l0 = some true
end Go.Proofs.Ytgkliacflbenfaa.DFnAges
