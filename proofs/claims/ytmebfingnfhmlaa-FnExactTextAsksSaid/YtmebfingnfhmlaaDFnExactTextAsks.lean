/- The data that the law FnExactTextAsks takes, opened; its pure statement. No condition. -/
import Derived.Test.YtmebfingnfhmlaaPFnExactTextAsksx3
import Derived.Test.YtmebfingnfhmlaaRd
namespace Go.Proofs.Ytmebfingnfhmlaa.DFnExactTextAsks
open Go.ChangeShapes Go.WideShapes Go.RowKit Go.Proofs.YtmebfingnfhmlaaW.PrintWords Go.Proofs.Ytmebfingnfhmlaa.Rd Go.Proofs.Ytmebfingnfhmlaa.PFnExactTextAsks
set_option maxRecDepth 100000
set_option linter.unusedVariables false
theorem o9 : Opens Try.prog 9 Kd.string (fun x : ByteArray => x.size ≤ maxLen) := opens_string Try.underlying9 (by kernel_rfl)
def Pure : Prop := ∀ (a0 : ByteArray), a0.size ≤ maxLen → ∃ k, laws_FnExactTextAsks.f k a0 = some true
end Go.Proofs.Ytmebfingnfhmlaa.DFnExactTextAsks
