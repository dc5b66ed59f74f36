/- The data that the law FnSpare takes, opened; its pure statement. No condition. -/
import Derived.Test.YtfjhkediaholmaaQFnSparex19
import Derived.Test.YtfjhkediaholmaaRd
namespace Go.Proofs.Ytfjhkediaholmaa.DFnSpare
open Go.ChangeShapes Go.WideShapes Go.RowKit Go.Proofs.YtfjhkediaholmaaW.PrintWords Go.Proofs.Ytfjhkediaholmaa.Rd Go.Proofs.Ytfjhkediaholmaa.QFnSpare
set_option maxRecDepth 100000
set_option linter.unusedVariables false
theorem o5 : Opens Try.prog 5 (Kd.int .u8) (fun x : Int => (Lit.int .u8 x).wf = true) := opens_int Try.underlying5 (by kernel_rfl)
theorem o62 : Opens Try.prog 62 (Kd.slice 5 (Kd.int .u8)) (fun x : (List Int) => (x.length ≤ maxLen ∧ ∀ y ∈ x, (Lit.int .u8 y).wf = true)) := opens_slice Try.underlying62 (by kernel_rfl) o5
def Pure : Prop := ∀ (l0 : (List Int)), (l0.length ≤ maxLen ∧ ∀ y ∈ l0, (Lit.int .u8 y).wf = true) → ∃ k, laws_FnSpare.f k l0 = some true
end Go.Proofs.Ytfjhkediaholmaa.DFnSpare
