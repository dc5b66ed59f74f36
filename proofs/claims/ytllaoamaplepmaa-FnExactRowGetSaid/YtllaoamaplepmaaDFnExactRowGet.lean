/- The data that the law FnExactRowGet takes, opened; its pure statement. No condition. -/
import Derived.Test.YtllaoamaplepmaaQFnExactRowGetx9
import Derived.Test.YtllaoamaplepmaaRd
namespace Go.Proofs.Ytllaoamaplepmaa.DFnExactRowGet
open Go.ChangeShapes Go.WideShapes Go.RowKit Go.Proofs.YtllaoamaplepmaaW.PrintWords Go.Proofs.Ytllaoamaplepmaa.Rd Go.Proofs.Ytllaoamaplepmaa.QFnExactRowGet
set_option maxRecDepth 100000
set_option linter.unusedVariables false
theorem o3 : Opens Try.prog 3 (Kd.int .i64) (fun x : Int => (Lit.int .i64 x).wf = true) := opens_int Try.underlying3 (by kernel_rfl)
theorem o9 : Opens Try.prog 9 Kd.string (fun x : ByteArray => x.size ≤ maxLen) := opens_string Try.underlying9 (by kernel_rfl)
def g100 (x : S100) : Prop := x.f0.size ≤ maxLen ∧ x.f1.size ≤ maxLen ∧ (Lit.int .i64 x.f2).wf = true
theorem o100 : Opens Try.prog 100 k100 (fun x : S100 => g100 x) := opens_iso (d := (Kd.pair Kd.string (Kd.pair Kd.string (Kd.int .i64)))) _ (opens_struct Try.underlying100 (by kernel_rfl) (opensF_cons rfl o9 (opensF_cons rfl o9 (opensF_one rfl o3)))) (fun ⟨a0, a1, a2⟩ ⟨h0, h1, h2⟩ => ⟨⟨a0, a1, a2⟩, rfl, ⟨h0, h1, h2⟩⟩)
theorem o46 : Opens Try.prog 46 (Kd.slice 100 k100) (fun x : (List S100) => (x.length ≤ maxLen ∧ ∀ y ∈ x, g100 y)) := opens_slice Try.underlying46 (by kernel_rfl) o100
def Pure : Prop := ∀ (a0_0 : Int) (a0_1 : Int) (l0_2 : (List S100)) (a1 : ByteArray), (Lit.int .i64 a0_0).wf = true → (Lit.int .i64 a0_1).wf = true → (l0_2.length ≤ maxLen ∧ ∀ y ∈ l0_2, g100 y) → a1.size ≤ maxLen → ∃ k, laws_FnExactRowGet.f k a0_0 a0_1 l0_2 a1 = some true
end Go.Proofs.Ytllaoamaplepmaa.DFnExactRowGet
