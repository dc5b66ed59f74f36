/- The data that the law FnExactRowPut takes, opened; its pure statement. No condition. -/
import Derived.Test.YtmmphfonbeddeaaQFnExactRowPutx13
import Derived.Test.YtmmphfonbeddeaaRd
namespace Go.Proofs.Ytmmphfonbeddeaa.DFnExactRowPut
open Go.ChangeShapes Go.WideShapes Go.RowKit Go.Proofs.YtmmphfonbeddeaaW.PrintWords Go.Proofs.Ytmmphfonbeddeaa.Rd Go.Proofs.Ytmmphfonbeddeaa.QFnExactRowPut
set_option maxRecDepth 100000
set_option linter.unusedVariables false
theorem o3 : Opens Try.prog 3 (Kd.int .i64) (fun x : Int => (Lit.int .i64 x).wf = true) := opens_int Try.underlying3 (by kernel_rfl)
theorem o9 : Opens Try.prog 9 Kd.string (fun x : ByteArray => x.size ≤ maxLen) := opens_string Try.underlying9 (by kernel_rfl)
def g52 (x : S52) : Prop := x.f0.size ≤ maxLen ∧ x.f1.size ≤ maxLen ∧ (Lit.int .i64 x.f2).wf = true
theorem o52 : Opens Try.prog 52 k52 (fun x : S52 => g52 x) := opens_iso (d := (Kd.pair Kd.string (Kd.pair Kd.string (Kd.int .i64)))) _ (opens_struct Try.underlying52 (by kernel_rfl) (opensF_cons rfl o9 (opensF_cons rfl o9 (opensF_one rfl o3)))) (fun ⟨a0, a1, a2⟩ ⟨h0, h1, h2⟩ => ⟨⟨a0, a1, a2⟩, rfl, ⟨h0, h1, h2⟩⟩)
theorem o22 : Opens Try.prog 22 (Kd.slice 52 k52) (fun x : (List S52) => (x.length ≤ maxLen ∧ ∀ y ∈ x, g52 y)) := opens_slice Try.underlying22 (by kernel_rfl) o52
def Pure : Prop := ∀ (a0_0 : Int) (a0_1 : Int) (l0_2 : (List S52)) (a1 : ByteArray) (a2 : ByteArray), (Lit.int .i64 a0_0).wf = true → (Lit.int .i64 a0_1).wf = true → (l0_2.length ≤ maxLen ∧ ∀ y ∈ l0_2, g52 y) → a1.size ≤ maxLen → a2.size ≤ maxLen → ∃ k, laws_FnExactRowPut.f k a0_0 a0_1 l0_2 a1 a2 = some true
end Go.Proofs.Ytmmphfonbeddeaa.DFnExactRowPut
