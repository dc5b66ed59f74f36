/- The data that the law FnExactBestMisses takes, opened; its pure statement. No condition. -/
import Derived.Test.YtllaoamaplepmaaQFnExactBestMissesx5
import Derived.Test.YtllaoamaplepmaaRd
namespace Go.Proofs.Ytllaoamaplepmaa.DFnExactBestMisses
open Go.ChangeShapes Go.WideShapes Go.RowKit Go.Proofs.YtllaoamaplepmaaW.PrintWords Go.Proofs.Ytllaoamaplepmaa.Rd Go.Proofs.Ytllaoamaplepmaa.QFnExactBestMisses
set_option maxRecDepth 100000
set_option linter.unusedVariables false
theorem o9 : Opens Try.prog 9 Kd.string (fun x : ByteArray => x.size ≤ maxLen) := opens_string Try.underlying9 (by kernel_rfl)
theorem o22 : Opens Try.prog 22 (Kd.slice 9 Kd.string) (fun x : (List ByteArray) => (x.length ≤ maxLen ∧ ∀ y ∈ x, y.size ≤ maxLen)) := opens_slice Try.underlying22 (by kernel_rfl) o9
theorem o3 : Opens Try.prog 3 (Kd.int .i64) (fun x : Int => (Lit.int .i64 x).wf = true) := opens_int Try.underlying3 (by kernel_rfl)
def Pure : Prop := ∀ (l0 : (List ByteArray)) (a1 : Int), (l0.length ≤ maxLen ∧ ∀ y ∈ l0, y.size ≤ maxLen) → (Lit.int .i64 a1).wf = true → ∃ k, laws_FnExactBestMisses.f k l0 a1 = some true
end Go.Proofs.Ytllaoamaplepmaa.DFnExactBestMisses
