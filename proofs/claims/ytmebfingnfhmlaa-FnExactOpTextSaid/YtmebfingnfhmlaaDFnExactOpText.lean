/- The data that the law FnExactOpText takes, opened; its pure statement. No condition. -/
import Derived.Test.YtmebfingnfhmlaaQFnExactOpTextx2
import Derived.Test.YtmebfingnfhmlaaRd
namespace Go.Proofs.Ytmebfingnfhmlaa.DFnExactOpText
open Go.ChangeShapes Go.WideShapes Go.RowKit Go.Proofs.YtmebfingnfhmlaaW.PrintWords Go.Proofs.Ytmebfingnfhmlaa.Rd Go.Proofs.Ytmebfingnfhmlaa.QFnExactOpText
set_option maxRecDepth 100000
set_option linter.unusedVariables false
theorem o3 : Opens Try.prog 3 (Kd.int .i64) (fun x : Int => (Lit.int .i64 x).wf = true) := opens_int Try.underlying3 (by kernel_rfl)
theorem o9 : Opens Try.prog 9 Kd.string (fun x : ByteArray => x.size ≤ maxLen) := opens_string Try.underlying9 (by kernel_rfl)
def Pure : Prop := ∀ (a0_0 : Int) (a0_1 : ByteArray) (a0_2 : ByteArray), (Lit.int .i64 a0_0).wf = true → a0_1.size ≤ maxLen → a0_2.size ≤ maxLen → ∃ k, laws_FnExactOpText.f k a0_0 a0_1 a0_2 = some true
end Go.Proofs.Ytmebfingnfhmlaa.DFnExactOpText
