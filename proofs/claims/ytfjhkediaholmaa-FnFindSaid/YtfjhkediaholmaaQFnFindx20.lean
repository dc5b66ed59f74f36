-- made by a program of this session (myprint.py)
import Derived.Test.YtfjhkediaholmaaQFnFindx0
import Derived.Test.YtfjhkediaholmaaQFnFindx1
namespace Go.Proofs.Ytfjhkediaholmaa.QFnFind
open Go.RowKit Go.Proofs.YtfjhkediaholmaaW.PrintWords Go.Proofs.YtfjhkediaholmaaW.PrintLast Go.Proofs.YtfjhkediaholmaaW.PrintMore
attribute [local go_sem] max2_int min2_int max_two min_two max_three min_three max_four min_four   -- for this text's walks alone
set_option linter.unusedVariables false
set_option linter.unusedSimpArgs false

/-! ### impl_OpOk: function 106 -/
def F6.f (k : Nat) (aa : Int) (ae : ByteArray) (ad : ByteArray) : Option (Bool) := (F21.f aa 1 3).bind fun af => (if af = true then ((F4.f k ae ad 0).bind fun ag => (if ag = true then (if aa = 2 then (some true) else (some (ad.toList == ([] : List UInt8)))) else (some false))) else (some false))
theorem F6.mono : ∀ a0 a1 a2 k, LeO (F6.f k a0 a1 a2) (F6.f (k + 1) a0 a1 a2) := by
 intro a0 a1 a2 k; unfold F6.f
 repeat' first | (with_reducible first | apply F4.mono | apply lr | apply ln | apply li | refine lb ?_ fun _ => ?_) | apply ln | apply li | refine lb ?_ fun _ => ?_
set_option maxHeartbeats 8000000 in
set_option maxRecDepth 100000 in
theorem F6.calls (k : Nat) (aa : Int) (ae : ByteArray) (ad : ByteArray) (r : Bool) (w : World) (h : F6.f k aa ae ad = some r) :
  Calls Try.prog 106 #[.agg #[.int .i64 aa, .string ae, .string ad]] w fun e w' => e = .returned (.bool r) ∧ Below w.heap.size w w' := by
 have hu75 := Try.underlying75; have hu68 := Try.underlying68; have HB := am (Below.refl w.heap.size w); have H : ((F21.f aa 1 3).bind fun af => (if af = true then ((F4.f k ae ad 0).bind fun ag => (if ag = true then (if aa = 2 then (some true) else (some (ad.toList == ([] : List UInt8)))) else (some false))) else (some false))) = some r := h; clear h; obtain ⟨af, A2, H⟩ := ob H
 try dsimp only at H
 by_cases c3 : af = true
 ·subst c3; rw [if_pos rfl] at H; obtain ⟨ag, A4, H⟩ := ob H
  try dsimp only at H
  by_cases c5 : ag = true
  ·subst c5; rw [if_pos rfl] at H
   by_cases c6 : aa = 2
   ·rw [if_pos c6] at H; have ap : (aa == 2) = true := beq_iff_eq.mpr c6; have aq : (aa != 2) = false := bne_eq_false_iff_eq.mpr c6; clear c6; obtain rfl := Option.some.inj H
    go_enter Try.func106, Try.ntmps106
    go_wp2_with (first | ((with_reducible refine gate_dst (N := 1) rfl ?_); refine bx 1 #[.int .i64 aa, .string ae, .string ad] 75 ?_; intro ah hg w7 hbox hb; have ab := am hbox; have ai := gs0 hg HB; have ac := gs0 hg HB; replace HB := s0 HB hb; clear hb hbox hg; have ar := bz3 ab) | ((with_reducible refine gate_callee (f := 64) rfl ?_); refine gl 5 Try.func64 #[.int .i64 aa, .int .i64 1, .int .i64 3] ?_; (with_reducible refine (F21.calls aa 1 3 true _ A2.out).mono ?_); rintro e w' ⟨rfl, ⟨nd, rfl⟩⟩; refine ⟨_, rfl, ?_⟩) | (go_at_call 97; (with_reducible refine (F4.calls k ae ad 0 true _ A4.out).mono ?_); rintro e w9 ⟨rfl, hb⟩; replace ab := bb ab hb; replace HB := s1 HB ac hb; (try clear hb); have aj := bz3 ab))
    go_ret
    exact ⟨er, be1 HB ac⟩
   rw [if_neg c6] at H; have ap : (aa == 2) = false := beq_eq_false_iff_ne.mpr c6; have aq : (aa != 2) = true := bne_iff_ne.mpr c6; obtain rfl := Option.some.inj H
   go_enter Try.func106, Try.ntmps106
   go_wp2_with (first | ((with_reducible refine gate_dst (N := 1) rfl ?_); refine bx 1 #[.int .i64 aa, .string ae, .string ad] 75 ?_; intro ah hg aw hbox hb; have ab := am hbox; have ai := gs0 hg HB; have ac := gs0 hg HB; replace HB := s0 HB hb; clear hb hbox hg; have ak := bz3 ab) | ((with_reducible refine gate_callee (f := 64) rfl ?_); refine gl 5 Try.func64 #[.int .i64 aa, .int .i64 1, .int .i64 3] ?_; (with_reducible refine (F21.calls aa 1 3 true _ A2.out).mono ?_); rintro e w' ⟨rfl, ⟨nd, rfl⟩⟩; refine ⟨_, rfl, ?_⟩) | (go_at_call 97; (with_reducible refine (F4.calls k ae ad 0 true _ A4.out).mono ?_); rintro e ax ⟨rfl, hb⟩; replace ab := bb ab hb; replace HB := s1 HB ac hb; (try clear hb); have al := bz3 ab))
   go_ret
   exact ⟨er, be1 HB ac⟩
  replace c5 := Bool.eq_false_iff.mpr c5; subst c5; rw [if_neg nf] at H; obtain rfl := Option.some.inj H
  go_enter Try.func106, Try.ntmps106
  go_wp2_with (first | ((with_reducible refine gate_dst (N := 1) rfl ?_); refine bx 1 #[.int .i64 aa, .string ae, .string ad] 75 ?_; intro ah hg ay hbox hb; have ab := am hbox; have ai := gs0 hg HB; have ac := gs0 hg HB; replace HB := s0 HB hb; clear hb hbox hg; have an := bz3 ab) | ((with_reducible refine gate_callee (f := 64) rfl ?_); refine gl 5 Try.func64 #[.int .i64 aa, .int .i64 1, .int .i64 3] ?_; (with_reducible refine (F21.calls aa 1 3 true _ A2.out).mono ?_); rintro e w' ⟨rfl, ⟨nd, rfl⟩⟩; refine ⟨_, rfl, ?_⟩) | (go_at_call 97; (with_reducible refine (F4.calls k ae ad 0 false _ A4.out).mono ?_); rintro e az ⟨rfl, hb⟩; replace ab := bb ab hb; replace HB := s1 HB ac hb; (try clear hb)))
  go_ret
  exact ⟨er, be1 HB ac⟩
 replace c3 := Bool.eq_false_iff.mpr c3; subst c3; rw [if_neg nf] at H; obtain rfl := Option.some.inj H
 go_enter Try.func106, Try.ntmps106
 go_wp2_with (first | ((with_reducible refine gate_dst (N := 1) rfl ?_); refine bx 1 #[.int .i64 aa, .string ae, .string ad] 75 ?_; intro ah hg aA hbox hb; have ab := am hbox; have ai := gs0 hg HB; have ac := gs0 hg HB; replace HB := s0 HB hb; clear hb hbox hg; have ao := bz3 ab) | ((with_reducible refine gate_callee (f := 64) rfl ?_); refine gl 5 Try.func64 #[.int .i64 aa, .int .i64 1, .int .i64 3] ?_; (with_reducible refine (F21.calls aa 1 3 false _ A2.out).mono ?_); rintro e w' ⟨rfl, ⟨nd, rfl⟩⟩; refine ⟨_, rfl, ?_⟩))
 go_ret
 exact ⟨er, be1 HB ac⟩

end Go.Proofs.Ytfjhkediaholmaa.QFnFind
