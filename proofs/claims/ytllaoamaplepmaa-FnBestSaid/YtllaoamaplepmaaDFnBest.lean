/- The data that the law FnBest takes, opened; its pure statement. No condition. -/
import Derived.Test.YtllaoamaplepmaaQFnBestx4
import Derived.Test.YtllaoamaplepmaaRd
namespace Go.Proofs.Ytllaoamaplepmaa.DFnBest
open Go.ChangeShapes Go.WideShapes Go.RowKit Go.Proofs.YtllaoamaplepmaaW.PrintWords Go.Proofs.Ytllaoamaplepmaa.Rd Go.Proofs.Ytllaoamaplepmaa.QFnBest
set_option maxRecDepth 100000
set_option linter.unusedVariables false
theorem o5 : Opens Try.prog 5 (Kd.int .u8) (fun x : Int => (Lit.int .u8 x).wf = true) := opens_int Try.underlying5 (by kernel_rfl)
theorem o37 : Opens Try.prog 37 (Kd.slice 5 (Kd.int .u8)) (fun x : (List Int) => (x.length ≤ maxLen ∧ ∀ y ∈ x, (Lit.int .u8 y).wf = true)) := opens_slice Try.underlying37 (by kernel_rfl) o5
def Pure : Prop := ∀ (l0 : (List Int)), (l0.length ≤ maxLen ∧ ∀ y ∈ l0, (Lit.int .u8 y).wf = true) → ∃ k, laws_FnBest.f k l0 = some true
end Go.Proofs.Ytllaoamaplepmaa.DFnBest
