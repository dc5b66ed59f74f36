/- The data that the law FnExactDepthsOf takes, opened; its pure statement. No condition. -/
import Derived.Test.YtllaoamaplepmaaQFnExactDepthsOfx3
import Derived.Test.YtllaoamaplepmaaRd
namespace Go.Proofs.Ytllaoamaplepmaa.DFnExactDepthsOf
open Go.ChangeShapes Go.WideShapes Go.RowKit Go.Proofs.YtllaoamaplepmaaW.PrintWords Go.Proofs.Ytllaoamaplepmaa.Rd Go.Proofs.Ytllaoamaplepmaa.QFnExactDepthsOf
set_option maxRecDepth 100000
set_option linter.unusedVariables false
theorem o9 : Opens Try.prog 9 Kd.string (fun x : ByteArray => x.size ≤ maxLen) := opens_string Try.underlying9 (by kernel_rfl)
theorem o22 : Opens Try.prog 22 (Kd.slice 9 Kd.string) (fun x : (List ByteArray) => (x.length ≤ maxLen ∧ ∀ y ∈ x, y.size ≤ maxLen)) := opens_slice Try.underlying22 (by kernel_rfl) o9
def Pure : Prop := ∀ (l0 : (List ByteArray)), (l0.length ≤ maxLen ∧ ∀ y ∈ l0, y.size ≤ maxLen) → ∃ k, laws_FnExactDepthsOf.f k l0 = some true
end Go.Proofs.Ytllaoamaplepmaa.DFnExactDepthsOf
