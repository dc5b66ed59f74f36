/- The data that the law FnExactAlloc takes, opened; its pure statement. No condition. -/
import Derived.Test.YtdgpidhlbpaolaaQFnExactAllocx12
import Derived.Test.YtdgpidhlbpaolaaRd
namespace Go.Proofs.Ytdgpidhlbpaolaa.DFnExactAlloc
open Go.ChangeShapes Go.WideShapes Go.RowKit Go.Proofs.YtdgpidhlbpaolaaW.PrintWords Go.Proofs.Ytdgpidhlbpaolaa.Rd Go.Proofs.Ytdgpidhlbpaolaa.QFnExactAlloc
set_option maxRecDepth 100000
set_option linter.unusedVariables false
theorem o3 : Opens Try.prog 3 (Kd.int .i64) (fun x : Int => (Lit.int .i64 x).wf = true) := opens_int Try.underlying3 (by kernel_rfl)
theorem o22 : Opens Try.prog 22 (Kd.slice 3 (Kd.int .i64)) (fun x : (List Int) => (x.length ≤ maxLen ∧ ∀ y ∈ x, (Lit.int .i64 y).wf = true)) := opens_slice Try.underlying22 (by kernel_rfl) o3
def g106 (x : S106) : Prop := (Lit.int .i64 x.f0).wf = true ∧ (Lit.int .i64 x.f1).wf = true
theorem o106 : Opens Try.prog 106 k106 (fun x : S106 => g106 x) := opens_iso (d := (Kd.pair (Kd.int .i64) (Kd.int .i64))) _ (opens_struct Try.underlying106 (by kernel_rfl) (opensF_cons rfl o3 (opensF_one rfl o3))) (fun ⟨a0, a1⟩ ⟨h0, h1⟩ => ⟨⟨a0, a1⟩, rfl, ⟨h0, h1⟩⟩)
theorem o33 : Opens Try.prog 33 (Kd.slice 106 k106) (fun x : (List S106) => (x.length ≤ maxLen ∧ ∀ y ∈ x, g106 y)) := opens_slice Try.underlying33 (by kernel_rfl) o106
def Pure : Prop := ∀ (l0_0 : (List Int)) (a0_1_0 : Int) (l0_1_1 : (List Int)) (l0_1_2 : (List S106)) (l0_2 : (List Int)), (l0_0.length ≤ maxLen ∧ ∀ y ∈ l0_0, (Lit.int .i64 y).wf = true) → (Lit.int .i64 a0_1_0).wf = true → (l0_1_1.length ≤ maxLen ∧ ∀ y ∈ l0_1_1, (Lit.int .i64 y).wf = true) → (l0_1_2.length ≤ maxLen ∧ ∀ y ∈ l0_1_2, g106 y) → (l0_2.length ≤ maxLen ∧ ∀ y ∈ l0_2, (Lit.int .i64 y).wf = true) → ∃ k, laws_FnExactAlloc.f k l0_0 a0_1_0 l0_1_1 l0_1_2 l0_2 = some true
end Go.Proofs.Ytdgpidhlbpaolaa.DFnExactAlloc
