/- The data that the law FnExactMissesAt takes, opened; its pure statement. No condition. -/
import Derived.Test.YtellflhmnbgikaaPFnExactMissesAtx1
import Derived.Test.YtellflhmnbgikaaRd
namespace Go.Proofs.Ytellflhmnbgikaa.DFnExactMissesAt
open Go.ChangeShapes Go.WideShapes Go.RowKit Go.Proofs.YtellflhmnbgikaaW.PrintWords Go.Proofs.Ytellflhmnbgikaa.Rd Go.Proofs.Ytellflhmnbgikaa.PFnExactMissesAt
set_option maxRecDepth 100000
set_option linter.unusedVariables false
theorem o3 : Opens Try.prog 3 (Kd.int .i64) (fun x : Int => (Lit.int .i64 x).wf = true) := opens_int Try.underlying3 (by kernel_rfl)
theorem o30 : Opens Try.prog 30 (Kd.slice 3 (Kd.int .i64)) (fun x : (List Int) => (x.length ≤ maxLen ∧ ∀ y ∈ x, (Lit.int .i64 y).wf = true)) := opens_slice Try.underlying30 (by kernel_rfl) o3
def Pure : Prop := ∀ (l0 : (List Int)) (a1 : Int), (l0.length ≤ maxLen ∧ ∀ y ∈ l0, (Lit.int .i64 y).wf = true) → (Lit.int .i64 a1).wf = true → ∃ k, laws_FnExactMissesAt.f k l0 a1 = some true
end Go.Proofs.Ytellflhmnbgikaa.DFnExactMissesAt
