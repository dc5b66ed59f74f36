/- The data that the law FnExactReplyText takes, opened; its pure statement. No condition. -/
import Derived.Test.YtellflhmnbgikaaQFnExactReplyTextx1
import Derived.Test.YtellflhmnbgikaaRd
namespace Go.Proofs.Ytellflhmnbgikaa.DFnExactReplyText
open Go.ChangeShapes Go.WideShapes Go.RowKit Go.Proofs.YtellflhmnbgikaaW.PrintWords Go.Proofs.Ytellflhmnbgikaa.Rd Go.Proofs.Ytellflhmnbgikaa.QFnExactReplyText
set_option maxRecDepth 100000
set_option linter.unusedVariables false
theorem o4 : Opens Try.prog 4 Kd.bool (fun x : Bool => True) := opens_bool Try.underlying4 (by kernel_rfl)
theorem o9 : Opens Try.prog 9 Kd.string (fun x : ByteArray => x.size ≤ maxLen) := opens_string Try.underlying9 (by kernel_rfl)
def Pure : Prop := ∀ (a0_0 : Bool) (a0_1 : ByteArray) (a0_2 : ByteArray), a0_1.size ≤ maxLen → a0_2.size ≤ maxLen → ∃ k, laws_FnExactReplyText.f k a0_0 a0_1 a0_2 = some true
end Go.Proofs.Ytellflhmnbgikaa.DFnExactReplyText
