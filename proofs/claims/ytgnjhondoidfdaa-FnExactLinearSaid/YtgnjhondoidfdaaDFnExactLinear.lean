/- The data that the law FnExactLinear takes, opened; its pure statement. No condition. -/
import Derived.Test.YtgnjhondoidfdaaQFnExactLinearx11
import Derived.Test.YtgnjhondoidfdaaRd
namespace Go.Proofs.Ytgnjhondoidfdaa.DFnExactLinear
open Go.ChangeShapes Go.WideShapes Go.RowKit Go.Proofs.YtgnjhondoidfdaaW.PrintWords Go.Proofs.Ytgnjhondoidfdaa.Rd Go.Proofs.Ytgnjhondoidfdaa.QFnExactLinear
set_option maxRecDepth 100000
set_option linter.unusedVariables false
theorem o3 : Opens Try.prog 3 (Kd.int .i64) (fun x : Int => (Lit.int .i64 x).wf = true) := opens_int Try.underlying3 (by kernel_rfl)
theorem o22 : Opens Try.prog 22 (Kd.slice 3 (Kd.int .i64)) (fun x : (List Int) => (x.length ≤ maxLen ∧ ∀ y ∈ x, (Lit.int .i64 y).wf = true)) := opens_slice Try.underlying22 (by kernel_rfl) o3
def g40 (x : S40) : Prop := (Lit.int .i64 x.f0).wf = true ∧ (Lit.int .i64 x.f1).wf = true ∧ (Lit.int .i64 x.f2).wf = true ∧ (Lit.int .i64 x.f3).wf = true ∧ (Lit.int .i64 x.f4).wf = true ∧ (Lit.int .i64 x.f5).wf = true ∧ (Lit.int .i64 x.f6).wf = true ∧ (Lit.int .i64 x.f7).wf = true
theorem o40 : Opens Try.prog 40 k40 (fun x : S40 => g40 x) := opens_iso (d := (Kd.pair (Kd.int .i64) (Kd.pair (Kd.int .i64) (Kd.pair (Kd.int .i64) (Kd.pair (Kd.int .i64) (Kd.pair (Kd.int .i64) (Kd.pair (Kd.int .i64) (Kd.pair (Kd.int .i64) (Kd.int .i64))))))))) _ (opens_struct Try.underlying40 (by kernel_rfl) (opensF_cons rfl o3 (opensF_cons rfl o3 (opensF_cons rfl o3 (opensF_cons rfl o3 (opensF_cons rfl o3 (opensF_cons rfl o3 (opensF_cons rfl o3 (opensF_one rfl o3))))))))) (fun ⟨a0, a1, a2, a3, a4, a5, a6, a7⟩ ⟨h0, h1, h2, h3, h4, h5, h6, h7⟩ => ⟨⟨a0, a1, a2, a3, a4, a5, a6, a7⟩, rfl, ⟨h0, h1, h2, h3, h4, h5, h6, h7⟩⟩)
theorem o23 : Opens Try.prog 23 (Kd.slice 40 k40) (fun x : (List S40) => (x.length ≤ maxLen ∧ ∀ y ∈ x, g40 y)) := opens_slice Try.underlying23 (by kernel_rfl) o40
def Pure : Prop := ∀ (a0 : Int) (l1 : (List Int)) (l2 : (List S40)), (Lit.int .i64 a0).wf = true → (l1.length ≤ maxLen ∧ ∀ y ∈ l1, (Lit.int .i64 y).wf = true) → (l2.length ≤ maxLen ∧ ∀ y ∈ l2, g40 y) → ∃ k, laws_FnExactLinear.f k a0 l1 l2 = some true
end Go.Proofs.Ytgnjhondoidfdaa.DFnExactLinear
