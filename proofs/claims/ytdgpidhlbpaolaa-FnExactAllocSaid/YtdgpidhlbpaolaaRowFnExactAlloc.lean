/- The law FnExactAlloc, whatever the input: it returns true and leaves its arguments as they were. No condition. -/
import Derived.Test.YtdgpidhlbpaolaaRows
import Derived.Test.YtdgpidhlbpaolaaPureFnExactAlloc
import Derived.WalkKit
import Derived.ProofKit
import Derived.OpenShut
import Derived.ShutString
import Derived.ChangeOld
import Derived.Below
import Derived.SizedLaws
namespace Go.Proofs.Ytdgpidhlbpaolaa.fnExactAlloc
open Go.ChangeShapes Go.WideShapes Go.ChangeAt Go.RowKit Go.Proofs.YtdgpidhlbpaolaaW.PrintWords Go.Proofs.Ytdgpidhlbpaolaa.Rd Go.Proofs.Ytdgpidhlbpaolaa.DFnExactAlloc Go.Proofs.Ytdgpidhlbpaolaa.QFnExactAlloc
open Go.ChangeMaps (open_string shut_string)
set_option linter.unusedVariables false
theorem own : ownKnob Try.prog.godebug = none := by kernel_rfl
theorem laidOut : laidOutB Try.prog = true := by kernel_rfl
set_option maxRecDepth 100000 in
theorem lifted (os : Os) (started : os.Started) (H : Type) (enc : TypeId × Value → H) :
    ReturnsInHanded {} Try.checked os 6 .any (Rows.fnExactAllocSpec.pre6 enc Try.prog Try.f6 Rows.fnExactAllocRow.domain false) (Rows.fnExactAllocSpec.post enc Try.prog Try.f6 false true false false) := by
  refine returnsInHanded_of_change_sized (C := Try.checked) own started (by kernel_rfl) Try.func6
    (ChangeSpec.witness6 (enc := enc) (C := Try.checked) false ⟨#[], #[.agg #[.slice none 0 0, .int .i64 0, .slice none 0 0, .slice none 0 0, .slice none 0 0]], []⟩ 8 (by kernel_rfl) (by kernel_rfl) (by kernel_rfl) (by kernel_rfl)) ?_
  intro W base args ds gs before hval0 hW hcnd hsz0 _
  have hval : ∀ (j : Nat) t v, Try.f6.params[j]? = some t → args[j]? = some v → Value.okWide Try.prog W .any base t v := hval0
  have hW' := hW
  obtain ⟨p, q, hA0, hV, rfl, hfz, hnd⟩ := hW
  have hA : DataW.TrodAll enc Try.prog W 0 (fun _ => true) true Try.f6.params.toList args.toList ds p := hA0
  rw [Try.params6] at hA hval
  obtain ⟨v0, vs0, d0, ds0, p0, q0, hargs, rfl, rfl, h0, r0⟩ := trodAll_cons hA
  obtain ⟨rfl, rfl, rfl⟩ := trodAll_nil r0
  obtain rfl : args = #[v0] := by cases args; simp_all
  obtain ⟨rfl, rfl⟩ := trodVars_none hV
  have k0 := h0
  have lt0 : ∀ x ∈ p0, x.block < W.heap.size := by obtain ⟨m, hm⟩ := k0; exact DataW.trod_lt m _ _ _ hm
  obtain ⟨cs0, ⟨l0_0, ⟨a0_1_0, l0_1_1, l0_1_2⟩, l0_2⟩, rfl, hK0, ⟨w0_0, ⟨w0_1_0, w0_1_1, w0_1_2⟩, w0_2⟩⟩ := agg_of Try.underlying37 (hval 0 37 v0 rfl rfl) (opens_struct (d := (Kd.pair (Kd.slice 3 (Kd.int .i64)) (Kd.pair (Kd.pair (Kd.int .i64) (Kd.pair (Kd.slice 3 (Kd.int .i64)) (Kd.slice 106 k106))) (Kd.slice 3 (Kd.int .i64))))) Try.underlying37 (by kernel_rfl) (opensF_cons rfl o22 (opensF_cons rfl (opens_struct (d := (Kd.pair (Kd.int .i64) (Kd.pair (Kd.slice 3 (Kd.int .i64)) (Kd.slice 106 k106)))) Try.underlying35 (by kernel_rfl) (opensF_cons rfl o3 (opensF_cons rfl o22 (opensF_one rfl o33)))) (opensF_one rfl o22)))) h0
  obtain ⟨_, _, rfl, ⟨A0_0, c0_0, rfl, hc0_0, hr0_0⟩, ⟨_, _, rfl, ⟨_, _, rfl, rfl, ⟨_, _, rfl, ⟨A0_1_1, c0_1_1, rfl, hc0_1_1, hr0_1_1⟩, ⟨A0_1_2, c0_1_2, rfl, hc0_1_2, hr0_1_2⟩⟩⟩, ⟨A0_2, c0_2, rfl, hc0_2, hr0_2⟩⟩⟩ := hK0
  clear hA0 hval0 hsz0
  obtain ⟨k, hP⟩ := Pure.FnExactAlloc l0_0 a0_1_0 l0_1_1 l0_1_2 l0_2 w0_0 w0_1_0 w0_1_1 w0_1_2 w0_2
  refine (QFnExactAlloc.laws_FnExactAlloc.calls k _ _ l0_0 a0_1_0 _ _ l0_1_1 _ _ l0_1_2 _ _ l0_2 true W hr0_0 hc0_0 hr0_1_1 hc0_1_1 hr0_1_2 hc0_1_2 hr0_2 hc0_2 hP ⟨rfl⟩).mono fun e W' ⟨he, bel⟩ => ?_
  subst he
  exact ⟨_, rfl, _, _, _, [], _, [], hW', trodAll_mk1 (shut_bool Try.underlying4 _), (trodAll_cons_mk (Below.trod laidOut (by kernel_rfl) (of_decide_eq_true (by kernel_rfl)) k0 bel lt0) trodAll_mk0), rfl, bel.frame _, fun h => by cases h⟩
theorem over : Rows.fnExactAllocRow.holds Try.pinned (OpenSpec.ofChange Rows.fnExactAllocSpec) :=
  OpenClaim.holds_of_wide 6 Try.f6 rfl rfl rfl rfl rfl rfl rfl ⟨rfl, rfl, rfl, rfl, rfl⟩ rfl rfl rfl rfl rfl (by kernel_rfl) Try.func6 (by kernel_rfl)
    (of_decide_eq_true (by kernel_rfl)) (by unfold Func.isWrapper; first | (rw [if_pos (by decide +kernel)]; kernel_rfl) | (rw [if_neg (by decide +kernel)]; exact ⟨rfl, rfl⟩))
    (fun os started H enc _ => lifted os started H enc)
theorem proved : Rows.FnExactAllocSaid := over
#print axioms proved
end Go.Proofs.Ytdgpidhlbpaolaa.fnExactAlloc
namespace Go.Proofs.Ytdgpidhlbpaolaa
/-- The row, under a short name, for the claim. -/
theorem fnExactAlloc_holds : Rows.FnExactAllocSaid := fnExactAlloc.proved
end Go.Proofs.Ytdgpidhlbpaolaa
