/- The data that the law FnExactAsksText takes, opened; its pure statement. No condition. -/
import Derived.Test.YtmebfingnfhmlaaPFnExactAsksTextx2
import Derived.Test.YtmebfingnfhmlaaRd
namespace Go.Proofs.Ytmebfingnfhmlaa.DFnExactAsksText
open Go.ChangeShapes Go.WideShapes Go.RowKit Go.Proofs.YtmebfingnfhmlaaW.PrintWords Go.Proofs.Ytmebfingnfhmlaa.Rd Go.Proofs.Ytmebfingnfhmlaa.PFnExactAsksText
set_option maxRecDepth 100000
set_option linter.unusedVariables false
theorem o9 : Opens Try.prog 9 Kd.string (fun x : ByteArray => x.size ≤ maxLen) := opens_string Try.underlying9 (by kernel_rfl)
theorem o22 : Opens Try.prog 22 (Kd.slice 9 Kd.string) (fun x : (List ByteArray) => (x.length ≤ maxLen ∧ ∀ y ∈ x, y.size ≤ maxLen)) := opens_slice Try.underlying22 (by kernel_rfl) o9
def Pure : Prop := ∀ (l0 : (List ByteArray)), (l0.length ≤ maxLen ∧ ∀ y ∈ l0, y.size ≤ maxLen) → ∃ k, laws_FnExactAsksText.f k l0 = some true
end Go.Proofs.Ytmebfingnfhmlaa.DFnExactAsksText
