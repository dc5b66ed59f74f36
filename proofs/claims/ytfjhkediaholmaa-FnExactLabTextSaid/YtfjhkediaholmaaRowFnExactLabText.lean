/- The law FnExactLabText, whatever the input: it returns true and leaves its arguments as they were. No condition. -/
import Derived.Test.YtfjhkediaholmaaRows
import Derived.Test.YtfjhkediaholmaaPureFnExactLabText
import Derived.WalkKit
import Derived.ProofKit
import Derived.OpenShut
import Derived.ShutString
import Derived.ChangeOld
import Derived.Below
import Derived.SizedLaws
namespace Go.Proofs.Ytfjhkediaholmaa.fnExactLabText
open Go.ChangeShapes Go.WideShapes Go.ChangeAt Go.RowKit Go.Proofs.YtfjhkediaholmaaW.PrintWords Go.Proofs.Ytfjhkediaholmaa.Rd Go.Proofs.Ytfjhkediaholmaa.DFnExactLabText Go.Proofs.Ytfjhkediaholmaa.QFnExactLabText
open Go.ChangeMaps (open_string shut_string)
set_option linter.unusedVariables false
theorem own : ownKnob Try.prog.godebug = none := by kernel_rfl
theorem laidOut : laidOutB Try.prog = true := by kernel_rfl
set_option maxRecDepth 100000 in
theorem lifted (os : Os) (started : os.Started) (H : Type) (enc : TypeId × Value → H) :
    ReturnsInHanded {} Try.checked os 6 .any (Rows.fnExactLabTextSpec.pre6 enc Try.prog Try.f6 Rows.fnExactLabTextRow.domain false) (Rows.fnExactLabTextSpec.post enc Try.prog Try.f6 false true false false) := by
  refine returnsInHanded_of_change_sized (C := Try.checked) own started (by kernel_rfl) Try.func6
    (ChangeSpec.witness6 (enc := enc) (C := Try.checked) false ⟨#[], #[.agg #[.int .i64 0, .int .i64 0, .int .i64 0, .int .i64 0, .int .i64 0]], []⟩ 8 (by kernel_rfl) (by kernel_rfl) (by kernel_rfl) (by kernel_rfl)) ?_
  intro W base args ds gs before hval0 hW hcnd hsz0 _
  have hval : ∀ (j : Nat) t v, Try.f6.params[j]? = some t → args[j]? = some v → Value.okWide Try.prog W .any base t v := hval0
  have hW' := hW
  obtain ⟨p, q, hA0, hV, rfl, hfz, hnd⟩ := hW
  have hA : DataW.TrodAll enc Try.prog W 0 (fun _ => true) true Try.f6.params.toList args.toList ds p := hA0
  rw [Try.params6] at hA hval
  obtain ⟨v0, vs0, d0, ds0, p0, q0, hargs, rfl, rfl, h0, r0⟩ := trodAll_cons hA
  obtain ⟨rfl, rfl, rfl⟩ := trodAll_nil r0
  obtain rfl : args = #[v0] := by cases args; simp_all
  obtain ⟨rfl, rfl⟩ := trodVars_none hV
  have k0 := h0
  have lt0 : ∀ x ∈ p0, x.block < W.heap.size := by obtain ⟨m, hm⟩ := k0; exact DataW.trod_lt m _ _ _ hm
  obtain ⟨cs0, ⟨⟨a0_0_0, a0_0_1, a0_0_2⟩, a0_1, a0_2⟩, rfl, hK0, ⟨⟨w0_0_0, w0_0_1, w0_0_2⟩, w0_1, w0_2⟩⟩ := agg_of Try.underlying45 (hval 0 45 v0 rfl rfl) (opens_struct (d := (Kd.pair (Kd.pair (Kd.int .i64) (Kd.pair (Kd.int .i64) (Kd.int .i64))) (Kd.pair (Kd.int .i64) (Kd.int .i64)))) Try.underlying45 (by kernel_rfl) (opensF_cons rfl (opens_struct (d := (Kd.pair (Kd.int .i64) (Kd.pair (Kd.int .i64) (Kd.int .i64)))) Try.underlying39 (by kernel_rfl) (opensF_cons rfl o3 (opensF_cons rfl o3 (opensF_one rfl o3)))) (opensF_cons rfl o3 (opensF_one rfl o3)))) h0
  obtain ⟨_, _, rfl, ⟨_, _, rfl, rfl, ⟨_, _, rfl, rfl, rfl⟩⟩, ⟨_, _, rfl, rfl, rfl⟩⟩ := hK0
  clear hA0 hval0 hsz0
  obtain ⟨k, hP⟩ := Pure.FnExactLabText a0_0_0 a0_0_1 a0_0_2 a0_1 a0_2 w0_0_0 w0_0_1 w0_0_2 w0_1 w0_2
  refine (QFnExactLabText.laws_FnExactLabText.calls k a0_0_0 a0_0_1 a0_0_2 a0_1 a0_2 true W hP ⟨rfl⟩).mono fun e W' ⟨he, bel⟩ => ?_
  subst he
  exact ⟨_, rfl, _, _, _, [], _, [], hW', trodAll_mk1 (shut_bool Try.underlying4 _), (trodAll_cons_mk (Below.trod laidOut (by kernel_rfl) (of_decide_eq_true (by kernel_rfl)) k0 bel lt0) trodAll_mk0), rfl, bel.frame _, fun h => by cases h⟩
theorem over : Rows.fnExactLabTextRow.holds Try.pinned (OpenSpec.ofChange Rows.fnExactLabTextSpec) :=
  OpenClaim.holds_of_wide 6 Try.f6 rfl rfl rfl rfl rfl rfl rfl ⟨rfl, rfl, rfl, rfl, rfl⟩ rfl rfl rfl rfl rfl (by kernel_rfl) Try.func6 (by kernel_rfl)
    (of_decide_eq_true (by kernel_rfl)) (by unfold Func.isWrapper; first | (rw [if_pos (by decide +kernel)]; kernel_rfl) | (rw [if_neg (by decide +kernel)]; exact ⟨rfl, rfl⟩))
    (fun os started H enc _ => lifted os started H enc)
theorem proved : Rows.FnExactLabTextSaid := over
#print axioms proved
end Go.Proofs.Ytfjhkediaholmaa.fnExactLabText
namespace Go.Proofs.Ytfjhkediaholmaa
/-- The row, under a short name, for the claim. -/
theorem fnExactLabText_holds : Rows.FnExactLabTextSaid := fnExactLabText.proved
end Go.Proofs.Ytfjhkediaholmaa
