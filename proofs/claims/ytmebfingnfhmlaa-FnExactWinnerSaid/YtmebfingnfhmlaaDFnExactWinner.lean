/- The data that the law FnExactWinner takes, opened; its pure statement. No condition. -/
import Derived.Test.YtmebfingnfhmlaaQFnExactWinnerx2
import Derived.Test.YtmebfingnfhmlaaRd
namespace Go.Proofs.Ytmebfingnfhmlaa.DFnExactWinner
open Go.ChangeShapes Go.WideShapes Go.RowKit Go.Proofs.YtmebfingnfhmlaaW.PrintWords Go.Proofs.Ytmebfingnfhmlaa.Rd Go.Proofs.Ytmebfingnfhmlaa.QFnExactWinner
set_option maxRecDepth 100000
set_option linter.unusedVariables false
theorem o3 : Opens Try.prog 3 (Kd.int .i64) (fun x : Int => (Lit.int .i64 x).wf = true) := opens_int Try.underlying3 (by kernel_rfl)
def g76 (x : S76) : Prop := (Lit.int .i64 x.f0).wf = true ∧ (Lit.int .i64 x.f1).wf = true ∧ (Lit.int .i64 x.f2).wf = true
theorem o76 : Opens Try.prog 76 k76 (fun x : S76 => g76 x) := opens_iso (d := (Kd.pair (Kd.int .i64) (Kd.pair (Kd.int .i64) (Kd.int .i64)))) _ (opens_struct Try.underlying76 (by kernel_rfl) (opensF_cons rfl o3 (opensF_cons rfl o3 (opensF_one rfl o3)))) (fun ⟨a0, a1, a2⟩ ⟨h0, h1, h2⟩ => ⟨⟨a0, a1, a2⟩, rfl, ⟨h0, h1, h2⟩⟩)
def g78 (x : S78) : Prop := g76 x.f0 ∧ (Lit.int .i64 x.f1).wf = true ∧ (Lit.int .i64 x.f2).wf = true
theorem o78 : Opens Try.prog 78 k78 (fun x : S78 => g78 x) := opens_iso (d := (Kd.pair k76 (Kd.pair (Kd.int .i64) (Kd.int .i64)))) _ (opens_struct Try.underlying78 (by kernel_rfl) (opensF_cons rfl o76 (opensF_cons rfl o3 (opensF_one rfl o3)))) (fun ⟨a0, a1, a2⟩ ⟨h0, h1, h2⟩ => ⟨⟨a0, a1, a2⟩, rfl, ⟨h0, h1, h2⟩⟩)
theorem o43 : Opens Try.prog 43 (Kd.slice 78 k78) (fun x : (List S78) => (x.length ≤ maxLen ∧ ∀ y ∈ x, g78 y)) := opens_slice Try.underlying43 (by kernel_rfl) o78
def Pure : Prop := ∀ (l0 : (List S78)), (l0.length ≤ maxLen ∧ ∀ y ∈ l0, g78 y) → ∃ k, laws_FnExactWinner.f k l0 = some true
end Go.Proofs.Ytmebfingnfhmlaa.DFnExactWinner
