/- The data that the law FnExactBins takes, opened; its pure statement. No condition. -/
import Derived.Test.YtmebfingnfhmlaaPFnExactBinsx3
import Derived.Test.YtmebfingnfhmlaaRd
namespace Go.Proofs.Ytmebfingnfhmlaa.DFnExactBins
open Go.ChangeShapes Go.WideShapes Go.RowKit Go.Proofs.YtmebfingnfhmlaaW.PrintWords Go.Proofs.Ytmebfingnfhmlaa.Rd Go.Proofs.Ytmebfingnfhmlaa.PFnExactBins
set_option maxRecDepth 100000
set_option linter.unusedVariables false
theorem o3 : Opens Try.prog 3 (Kd.int .i64) (fun x : Int => (Lit.int .i64 x).wf = true) := opens_int Try.underlying3 (by kernel_rfl)
theorem o37 : Opens Try.prog 37 (Kd.slice 3 (Kd.int .i64)) (fun x : (List Int) => (x.length ≤ maxLen ∧ ∀ y ∈ x, (Lit.int .i64 y).wf = true)) := opens_slice Try.underlying37 (by kernel_rfl) o3
def Pure : Prop := ∀ (l0 : (List Int)) (l1 : (List Int)), (l0.length ≤ maxLen ∧ ∀ y ∈ l0, (Lit.int .i64 y).wf = true) → (l1.length ≤ maxLen ∧ ∀ y ∈ l1, (Lit.int .i64 y).wf = true) → ∃ k, laws_FnExactBins.f k l0 l1 = some true
end Go.Proofs.Ytmebfingnfhmlaa.DFnExactBins
