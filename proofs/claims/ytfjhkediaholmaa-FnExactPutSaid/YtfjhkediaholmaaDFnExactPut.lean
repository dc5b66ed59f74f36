/- The data that the law FnExactPut takes, opened; its pure statement. No condition. -/
import Derived.Test.YtfjhkediaholmaaQFnExactPutx20
import Derived.Test.YtfjhkediaholmaaRd
namespace Go.Proofs.Ytfjhkediaholmaa.DFnExactPut
open Go.ChangeShapes Go.WideShapes Go.RowKit Go.Proofs.YtfjhkediaholmaaW.PrintWords Go.Proofs.Ytfjhkediaholmaa.Rd Go.Proofs.Ytfjhkediaholmaa.QFnExactPut
set_option maxRecDepth 100000
set_option linter.unusedVariables false
theorem o3 : Opens Try.prog 3 (Kd.int .i64) (fun x : Int => (Lit.int .i64 x).wf = true) := opens_int Try.underlying3 (by kernel_rfl)
theorem o9 : Opens Try.prog 9 Kd.string (fun x : ByteArray => x.size ≤ maxLen) := opens_string Try.underlying9 (by kernel_rfl)
def g125 (x : S125) : Prop := x.f0.size ≤ maxLen ∧ x.f1.size ≤ maxLen ∧ (Lit.int .i64 x.f2).wf = true
theorem o125 : Opens Try.prog 125 k125 (fun x : S125 => g125 x) := opens_iso (d := (Kd.pair Kd.string (Kd.pair Kd.string (Kd.int .i64)))) _ (opens_struct Try.underlying125 (by kernel_rfl) (opensF_cons rfl o9 (opensF_cons rfl o9 (opensF_one rfl o3)))) (fun ⟨a0, a1, a2⟩ ⟨h0, h1, h2⟩ => ⟨⟨a0, a1, a2⟩, rfl, ⟨h0, h1, h2⟩⟩)
theorem o22 : Opens Try.prog 22 (Kd.slice 125 k125) (fun x : (List S125) => (x.length ≤ maxLen ∧ ∀ y ∈ x, g125 y)) := opens_slice Try.underlying22 (by kernel_rfl) o125
theorem o23 : Opens Try.prog 23 (Kd.slice 3 (Kd.int .i64)) (fun x : (List Int) => (x.length ≤ maxLen ∧ ∀ y ∈ x, (Lit.int .i64 y).wf = true)) := opens_slice Try.underlying23 (by kernel_rfl) o3
def Pure : Prop := ∀ (a0_0 : Int) (a0_1 : Int) (l0_2 : (List S125)) (l0_3 : (List S125)) (l0_4 : (List Int)) (a1 : ByteArray) (a2 : ByteArray), (Lit.int .i64 a0_0).wf = true → (Lit.int .i64 a0_1).wf = true → (l0_2.length ≤ maxLen ∧ ∀ y ∈ l0_2, g125 y) → (l0_3.length ≤ maxLen ∧ ∀ y ∈ l0_3, g125 y) → (l0_4.length ≤ maxLen ∧ ∀ y ∈ l0_4, (Lit.int .i64 y).wf = true) → a1.size ≤ maxLen → a2.size ≤ maxLen → ∃ k, laws_FnExactPut.f k a0_0 a0_1 l0_2 l0_3 l0_4 a1 a2 = some true
end Go.Proofs.Ytfjhkediaholmaa.DFnExactPut
