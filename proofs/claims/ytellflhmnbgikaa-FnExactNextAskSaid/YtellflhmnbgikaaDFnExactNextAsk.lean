/- The data that the law FnExactNextAsk takes, opened; its pure statement. No condition. -/
import Derived.Test.YtellflhmnbgikaaPFnExactNextAskx1
import Derived.Test.YtellflhmnbgikaaRd
namespace Go.Proofs.Ytellflhmnbgikaa.DFnExactNextAsk
open Go.ChangeShapes Go.WideShapes Go.RowKit Go.Proofs.YtellflhmnbgikaaW.PrintWords Go.Proofs.Ytellflhmnbgikaa.Rd Go.Proofs.Ytellflhmnbgikaa.PFnExactNextAsk
set_option maxRecDepth 100000
theorem o9 : Opens Try.prog 9 Kd.string (fun x : ByteArray => x.size ≤ maxLen) := opens_string Try.underlying9 (by kernel_rfl)
theorem o49 : Opens Try.prog 49 (Kd.slice 9 Kd.string) (fun x : (List ByteArray) => (x.length ≤ maxLen ∧ ∀ y ∈ x, y.size ≤ maxLen)) := opens_slice Try.underlying49 (by kernel_rfl) o9
theorem o3 : Opens Try.prog 3 (Kd.int .i64) (fun x : Int => (Lit.int .i64 x).wf = true) := opens_int Try.underlying3 (by kernel_rfl)
def Pure : Prop := ∀ (l0 : (List ByteArray)) (a1 : ByteArray) (a2 : Int), (l0.length ≤ maxLen ∧ ∀ y ∈ l0, y.size ≤ maxLen) → a1.size ≤ maxLen → (Lit.int .i64 a2).wf = true → ∃ k, laws_FnExactNextAsk.f k l0 a1 a2 = some true
end Go.Proofs.Ytellflhmnbgikaa.DFnExactNextAsk
