/- The data that the law FnCurve takes, opened; its pure statement. No condition. -/
import Derived.Test.YtmebfingnfhmlaaQFnCurvex4
import Derived.Test.YtmebfingnfhmlaaRd
namespace Go.Proofs.Ytmebfingnfhmlaa.DFnCurve
open Go.ChangeShapes Go.WideShapes Go.RowKit Go.Proofs.YtmebfingnfhmlaaW.PrintWords Go.Proofs.Ytmebfingnfhmlaa.Rd Go.Proofs.Ytmebfingnfhmlaa.QFnCurve
set_option maxRecDepth 100000
set_option linter.unusedVariables false
theorem o5 : Opens Try.prog 5 (Kd.int .u8) (fun x : Int => (Lit.int .u8 x).wf = true) := opens_int Try.underlying5 (by kernel_rfl)
theorem o59 : Opens Try.prog 59 (Kd.slice 5 (Kd.int .u8)) (fun x : (List Int) => (x.length ≤ maxLen ∧ ∀ y ∈ x, (Lit.int .u8 y).wf = true)) := opens_slice Try.underlying59 (by kernel_rfl) o5
def Pure : Prop := ∀ (l0 : (List Int)), (l0.length ≤ maxLen ∧ ∀ y ∈ l0, (Lit.int .u8 y).wf = true) → ∃ k, laws_FnCurve.f k l0 = some true
end Go.Proofs.Ytmebfingnfhmlaa.DFnCurve
