/- The data that the law FnExactItemOk takes, opened; its pure statement. No condition. -/
import Derived.Test.YtellflhmnbgikaaPFnExactItemOkx1
import Derived.Test.YtellflhmnbgikaaRd
namespace Go.Proofs.Ytellflhmnbgikaa.DFnExactItemOk
open Go.ChangeShapes Go.WideShapes Go.RowKit Go.Proofs.YtellflhmnbgikaaW.PrintWords Go.Proofs.Ytellflhmnbgikaa.Rd Go.Proofs.Ytellflhmnbgikaa.PFnExactItemOk
set_option maxRecDepth 100000
theorem o9 : Opens Try.prog 9 Kd.string (fun x : ByteArray => x.size ≤ maxLen) := opens_string Try.underlying9 (by kernel_rfl)
theorem o3 : Opens Try.prog 3 (Kd.int .i64) (fun x : Int => (Lit.int .i64 x).wf = true) := opens_int Try.underlying3 (by kernel_rfl)
def Pure : Prop := ∀ (a0_0 : ByteArray) (a0_1 : ByteArray) (a0_2 : Int), a0_0.size ≤ maxLen → a0_1.size ≤ maxLen → (Lit.int .i64 a0_2).wf = true → ∃ k, laws_FnExactItemOk.f k a0_0 a0_1 a0_2 = some true
end Go.Proofs.Ytellflhmnbgikaa.DFnExactItemOk
