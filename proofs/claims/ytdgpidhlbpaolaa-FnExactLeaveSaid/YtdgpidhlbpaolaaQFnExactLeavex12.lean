-- made by a program of this session (myprint.py)
import Derived.Test.YtdgpidhlbpaolaaQFnExactLeavex0
import Derived.Test.YtdgpidhlbpaolaaQFnExactLeavex1
import Derived.Test.YtdgpidhlbpaolaaQFnExactLeavex2
import Derived.Test.YtdgpidhlbpaolaaQFnExactLeavex3
import Derived.Test.YtdgpidhlbpaolaaQFnExactLeavex8
import Derived.Test.YtdgpidhlbpaolaaQFnExactLeavex11
namespace Go.Proofs.Ytdgpidhlbpaolaa.QFnExactLeave
open Go.RowKit Go.Proofs.YtdgpidhlbpaolaaW.PrintWords Go.Proofs.YtdgpidhlbpaolaaW.PrintLast Go.Proofs.YtdgpidhlbpaolaaW.PrintMore
attribute [local go_sem] max2_int min2_int max_two min_two max_three min_three max_four min_four   -- for this text's walks alone
set_option linter.unusedVariables false
set_option linter.unusedSimpArgs false

/-! ### laws_FnExactLeave: function 8 -/
mutual
def laws_FnExactLeave.j0 : Nat → Int → Bool → Bool → Bool → List Int → Int → List Int → List (S106) → List Int → List Int → Int → List Int → List (S70) → List Int → List Int → Int → List Int → List (S70) → List Int → List Int → Int → List Int → List (S70) → List Int → Option (Bool)
 | 0, _, _, _, _, _, _, _, _, _, _, _, _, _, _, _, _, _, _, _, _, _, _, _, _ => none
 | k + 1, x1, x7, x10, x44, x463000, x463001, x463002, x463003, x463004, x492000, x492001, x492002, x492003, x492004, x506000, x506001, x506002, x506003, x506004, x521000, x521001, x521002, x521003, x521004 => if x44 = true then (some false) else ((laws_toPool.f k x463000 x463001 x463002 x463003 x463004).bind fun bt522 => ((laws_eqPool.f k x506000 x506001 x506002 x506003 x506004 bt522.1 bt522.2.1 bt522.2.2.1 bt522.2.2.2.1 bt522.2.2.2.2).bind fun t535 => (if t535 = true then ((laws_markPool.f k x506000 x506001 x506002 x506003 x506004 1).bind fun bt536 => (if bt536.1 < 0 then (laws_FnExactLeave.j1 k x1 x7 true x463000 x463001 x463002 x463003 x463004 x492000 x492001 x492002 x492003 x492004 x521000 x521001 x521002 x521003 x521004) else ((laws_eqPool.f k x521000 x521001 x521002 x521003 x521004 x492000 x492001 x492002 x492003 x492004).bind fun t541 => (if t541 = true then (laws_FnExactLeave.j1 k x1 x7 (x10 != x7) x463000 x463001 x463002 x463003 x463004 x492000 x492001 x492002 x492003 x492004 x521000 x521001 x521002 x521003 x521004) else (laws_FnExactLeave.j1 k x1 x7 true x463000 x463001 x463002 x463003 x463004 x492000 x492001 x492002 x492003 x492004 x521000 x521001 x521002 x521003 x521004))))) else (some false))))
def laws_FnExactLeave.j1 : Nat → Int → Bool → Bool → List Int → Int → List Int → List (S106) → List Int → List Int → Int → List Int → List (S70) → List Int → List Int → Int → List Int → List (S70) → List Int → Option (Bool)
 | 0, _, _, _, _, _, _, _, _, _, _, _, _, _, _, _, _, _, _ => none
 | k + 1, x1, x7, x65, x463000, x463001, x463002, x463003, x463004, x492000, x492001, x492002, x492003, x492004, x521000, x521001, x521002, x521003, x521004 => if x65 = true then (some false) else ((laws_markPool.f k x521000 x521001 x521002 x521003 x521004 1).bind fun bt542 => ((laws_heldPool.f k bt542.2.1 x521001 bt542.2.2.1 bt542.2.2.2.1 bt542.2.2.2.2 1).bind fun t547 => (if t547 < 0 then (some false) else (if t547 = bt542.1 then ((laws_toPool.f k x463000 x463001 x463002 x463003 x463004).bind fun bt548 => ((impl_Leave.f k bt548.1 bt548.2.1 bt548.2.2.1 bt548.2.2.2.1 bt548.2.2.2.2 x1).bind fun bt561 => ((laws_eqPool.f k bt561.1 bt561.2.1 bt561.2.2.1 bt561.2.2.2.1 bt561.2.2.2.2.1 x492000 x492001 x492002 x492003 x492004).bind fun t576 => (if t576 = true then (laws_FnExactLeave.j2 k bt542.1 (bt561.2.2.2.2.2 != x7) bt542.2.1 x521001 bt542.2.2.1 bt542.2.2.2.1 bt542.2.2.2.2) else (laws_FnExactLeave.j2 k bt542.1 true bt542.2.1 x521001 bt542.2.2.1 bt542.2.2.2.1 bt542.2.2.2.2))))) else (some false)))))
def laws_FnExactLeave.j2 : Nat → Int → Bool → List Int → Int → List Int → List (S70) → List Int → Option (Bool)
 | 0, _, _, _, _, _, _, _ => none
 | k + 1, x12, x92, x521000, x521001, x521002, x521003, x521004 => if x92 = true then (some false) else ((laws_heldPool.f k x521000 x521001 x521002 x521003 x521004 1).bind fun t577 => (if t577 < 0 then (some false) else (if t577 = x12 then (some true) else (some false))))
end
def laws_FnExactLeave.f (k : Nat) (l0_0 : List Int) (a0_1 : Int) (l0_2 : List Int) (l0_3 : List (S106)) (l0_4 : List Int) (a1 : Int) : Option (Bool) := (laws_szPool.f l0_0 a0_1 l0_2 l0_3 l0_4 1048576).bind fun t463 => (if t463 < 0 then (some true) else ((laws_toPool.f k l0_0 a0_1 l0_2 l0_3 l0_4).bind fun bt464 => ((spec_Leave.f k bt464.1 bt464.2.1 bt464.2.2.1 bt464.2.2.2.1 bt464.2.2.2.2 a1).bind fun bt477 => ((laws_toPool.f k l0_0 a0_1 l0_2 l0_3 l0_4).bind fun bt492 => ((impl_Leave.f k bt492.1 bt492.2.1 bt492.2.2.1 bt492.2.2.2.1 bt492.2.2.2.2 a1).bind fun bt506 => ((laws_eqPool.f k bt506.1 bt506.2.1 bt506.2.2.1 bt506.2.2.2.1 bt506.2.2.2.2.1 bt477.1 bt477.2.1 bt477.2.2.1 bt477.2.2.2.1 bt477.2.2.2.2.1).bind fun t521 => (if t521 = true then (laws_FnExactLeave.j0 k a1 bt477.2.2.2.2.2 bt506.2.2.2.2.2 (bt506.2.2.2.2.2 != bt477.2.2.2.2.2) l0_0 a0_1 l0_2 l0_3 l0_4 bt477.1 bt477.2.1 bt477.2.2.1 bt477.2.2.2.1 bt477.2.2.2.2.1 bt492.1 bt492.2.1 bt492.2.2.1 bt492.2.2.2.1 bt492.2.2.2.2 bt506.1 bt506.2.1 bt506.2.2.1 bt506.2.2.2.1 bt506.2.2.2.2.1) else (laws_FnExactLeave.j0 k a1 bt477.2.2.2.2.2 bt506.2.2.2.2.2 true l0_0 a0_1 l0_2 l0_3 l0_4 bt477.1 bt477.2.1 bt477.2.2.1 bt477.2.2.2.1 bt477.2.2.2.2.1 bt492.1 bt492.2.1 bt492.2.2.1 bt492.2.2.2.1 bt492.2.2.2.2 bt506.1 bt506.2.1 bt506.2.2.1 bt506.2.2.2.1 bt506.2.2.2.2.1))))))))
theorem laws_FnExactLeave.mono_l : ∀ k, (∀ y0 y1 y2 y3 y4 y5 y6 y7 y8 y9 y10 y11 y12 y13 y14 y15 y16 y17 y18 y19 y20 y21 y22 y23, LeO (laws_FnExactLeave.j0 k y0 y1 y2 y3 y4 y5 y6 y7 y8 y9 y10 y11 y12 y13 y14 y15 y16 y17 y18 y19 y20 y21 y22 y23) (laws_FnExactLeave.j0 (k + 1) y0 y1 y2 y3 y4 y5 y6 y7 y8 y9 y10 y11 y12 y13 y14 y15 y16 y17 y18 y19 y20 y21 y22 y23)) ∧ (∀ y0 y1 y2 y3 y4 y5 y6 y7 y8 y9 y10 y11 y12 y13 y14 y15 y16 y17, LeO (laws_FnExactLeave.j1 k y0 y1 y2 y3 y4 y5 y6 y7 y8 y9 y10 y11 y12 y13 y14 y15 y16 y17) (laws_FnExactLeave.j1 (k + 1) y0 y1 y2 y3 y4 y5 y6 y7 y8 y9 y10 y11 y12 y13 y14 y15 y16 y17)) ∧ (∀ y0 y1 y2 y3 y4 y5 y6, LeO (laws_FnExactLeave.j2 k y0 y1 y2 y3 y4 y5 y6) (laws_FnExactLeave.j2 (k + 1) y0 y1 y2 y3 y4 y5 y6))
 | 0 => ⟨fun _ _ _ _ _ _ _ _ _ _ _ _ _ _ _ _ _ _ _ _ _ _ _ _ r h => by simp [laws_FnExactLeave.j0] at h, fun _ _ _ _ _ _ _ _ _ _ _ _ _ _ _ _ _ _ r h => by simp [laws_FnExactLeave.j1] at h, fun _ _ _ _ _ _ _ r h => by simp [laws_FnExactLeave.j2] at h⟩
 | k + 1 => by
  obtain ⟨ih0, ih1, ih2⟩ := laws_FnExactLeave.mono_l k
  refine ⟨?_, ?_, ?_⟩
  ·intro y0 y1 y2 y3 y4 y5 y6 y7 y8 y9 y10 y11 y12 y13 y14 y15 y16 y17 y18 y19 y20 y21 y22 y23
   unfold laws_FnExactLeave.j0
   repeat' first
   | (with_reducible exact ih0 _ _ _ _ _ _ _ _ _ _ _ _ _ _ _ _ _ _ _ _ _ _ _ _)
   | (with_reducible exact ih1 _ _ _ _ _ _ _ _ _ _ _ _ _ _ _ _ _ _)
   | (with_reducible exact ih2 _ _ _ _ _ _ _)
   | (with_reducible exact impl_Leave.mono _ _ _ _ _ _ _)
   | (with_reducible exact laws_eqPool.mono _ _ _ _ _ _ _ _ _ _ _)
   | (with_reducible exact laws_heldPool.mono _ _ _ _ _ _ _)
   | (with_reducible exact laws_markPool.mono _ _ _ _ _ _ _)
   | (with_reducible exact laws_toPool.mono _ _ _ _ _ _)
   | (with_reducible exact spec_Leave.mono _ _ _ _ _ _ _)
   | (with_reducible exact LeO.refl _)
   | (with_reducible exact LeO.none _)
   | (with_reducible refine LeO.ite ?_ ?_)
   | (with_reducible refine LeO.bind ?_ (fun _ => ?_))
   | exact ih0 _ _ _ _ _ _ _ _ _ _ _ _ _ _ _ _ _ _ _ _ _ _ _ _
   | exact ih1 _ _ _ _ _ _ _ _ _ _ _ _ _ _ _ _ _ _
   | exact ih2 _ _ _ _ _ _ _
   | exact impl_Leave.mono _ _ _ _ _ _ _
   | exact laws_eqPool.mono _ _ _ _ _ _ _ _ _ _ _
   | exact laws_heldPool.mono _ _ _ _ _ _ _
   | exact laws_markPool.mono _ _ _ _ _ _ _
   | exact laws_toPool.mono _ _ _ _ _ _
   | exact spec_Leave.mono _ _ _ _ _ _ _
   | exact LeO.none _
   | refine LeO.ite ?_ ?_
   | refine LeO.bind ?_ (fun _ => ?_)
  ·intro y0 y1 y2 y3 y4 y5 y6 y7 y8 y9 y10 y11 y12 y13 y14 y15 y16 y17
   unfold laws_FnExactLeave.j1
   repeat' first
   | (with_reducible exact ih0 _ _ _ _ _ _ _ _ _ _ _ _ _ _ _ _ _ _ _ _ _ _ _ _)
   | (with_reducible exact ih1 _ _ _ _ _ _ _ _ _ _ _ _ _ _ _ _ _ _)
   | (with_reducible exact ih2 _ _ _ _ _ _ _)
   | (with_reducible exact impl_Leave.mono _ _ _ _ _ _ _)
   | (with_reducible exact laws_eqPool.mono _ _ _ _ _ _ _ _ _ _ _)
   | (with_reducible exact laws_heldPool.mono _ _ _ _ _ _ _)
   | (with_reducible exact laws_markPool.mono _ _ _ _ _ _ _)
   | (with_reducible exact laws_toPool.mono _ _ _ _ _ _)
   | (with_reducible exact spec_Leave.mono _ _ _ _ _ _ _)
   | (with_reducible exact LeO.refl _)
   | (with_reducible exact LeO.none _)
   | (with_reducible refine LeO.ite ?_ ?_)
   | (with_reducible refine LeO.bind ?_ (fun _ => ?_))
   | exact ih0 _ _ _ _ _ _ _ _ _ _ _ _ _ _ _ _ _ _ _ _ _ _ _ _
   | exact ih1 _ _ _ _ _ _ _ _ _ _ _ _ _ _ _ _ _ _
   | exact ih2 _ _ _ _ _ _ _
   | exact impl_Leave.mono _ _ _ _ _ _ _
   | exact laws_eqPool.mono _ _ _ _ _ _ _ _ _ _ _
   | exact laws_heldPool.mono _ _ _ _ _ _ _
   | exact laws_markPool.mono _ _ _ _ _ _ _
   | exact laws_toPool.mono _ _ _ _ _ _
   | exact spec_Leave.mono _ _ _ _ _ _ _
   | exact LeO.none _
   | refine LeO.ite ?_ ?_
   | refine LeO.bind ?_ (fun _ => ?_)
  intro y0 y1 y2 y3 y4 y5 y6
  unfold laws_FnExactLeave.j2
  repeat' first
  | (with_reducible exact ih0 _ _ _ _ _ _ _ _ _ _ _ _ _ _ _ _ _ _ _ _ _ _ _ _)
  | (with_reducible exact ih1 _ _ _ _ _ _ _ _ _ _ _ _ _ _ _ _ _ _)
  | (with_reducible exact ih2 _ _ _ _ _ _ _)
  | (with_reducible exact impl_Leave.mono _ _ _ _ _ _ _)
  | (with_reducible exact laws_eqPool.mono _ _ _ _ _ _ _ _ _ _ _)
  | (with_reducible exact laws_heldPool.mono _ _ _ _ _ _ _)
  | (with_reducible exact laws_markPool.mono _ _ _ _ _ _ _)
  | (with_reducible exact laws_toPool.mono _ _ _ _ _ _)
  | (with_reducible exact spec_Leave.mono _ _ _ _ _ _ _)
  | (with_reducible exact LeO.refl _)
  | (with_reducible exact LeO.none _)
  | (with_reducible refine LeO.ite ?_ ?_)
  | (with_reducible refine LeO.bind ?_ (fun _ => ?_))
  | exact ih0 _ _ _ _ _ _ _ _ _ _ _ _ _ _ _ _ _ _ _ _ _ _ _ _
  | exact ih1 _ _ _ _ _ _ _ _ _ _ _ _ _ _ _ _ _ _
  | exact ih2 _ _ _ _ _ _ _
  | exact impl_Leave.mono _ _ _ _ _ _ _
  | exact laws_eqPool.mono _ _ _ _ _ _ _ _ _ _ _
  | exact laws_heldPool.mono _ _ _ _ _ _ _
  | exact laws_markPool.mono _ _ _ _ _ _ _
  | exact laws_toPool.mono _ _ _ _ _ _
  | exact spec_Leave.mono _ _ _ _ _ _ _
  | exact LeO.none _
  | refine LeO.ite ?_ ?_
  | refine LeO.bind ?_ (fun _ => ?_)
theorem laws_FnExactLeave.mono : ∀ a0 a1 a2 a3 a4 a5 k, LeO (laws_FnExactLeave.f k a0 a1 a2 a3 a4 a5) (laws_FnExactLeave.f (k + 1) a0 a1 a2 a3 a4 a5) := by
 intro a0 a1 a2 a3 a4 a5 k
 obtain ⟨ih0, ih1, ih2⟩ := laws_FnExactLeave.mono_l k
 unfold laws_FnExactLeave.f
 repeat' first
   | (with_reducible exact ih0 _ _ _ _ _ _ _ _ _ _ _ _ _ _ _ _ _ _ _ _ _ _ _ _)
   | (with_reducible exact ih1 _ _ _ _ _ _ _ _ _ _ _ _ _ _ _ _ _ _)
   | (with_reducible exact ih2 _ _ _ _ _ _ _)
   | (with_reducible exact impl_Leave.mono _ _ _ _ _ _ _)
   | (with_reducible exact laws_eqPool.mono _ _ _ _ _ _ _ _ _ _ _)
   | (with_reducible exact laws_heldPool.mono _ _ _ _ _ _ _)
   | (with_reducible exact laws_markPool.mono _ _ _ _ _ _ _)
   | (with_reducible exact laws_toPool.mono _ _ _ _ _ _)
   | (with_reducible exact spec_Leave.mono _ _ _ _ _ _ _)
   | (with_reducible exact LeO.refl _)
   | (with_reducible exact LeO.none _)
   | (with_reducible refine LeO.ite ?_ ?_)
   | (with_reducible refine LeO.bind ?_ (fun _ => ?_))
   | exact ih0 _ _ _ _ _ _ _ _ _ _ _ _ _ _ _ _ _ _ _ _ _ _ _ _
   | exact ih1 _ _ _ _ _ _ _ _ _ _ _ _ _ _ _ _ _ _
   | exact ih2 _ _ _ _ _ _ _
   | exact impl_Leave.mono _ _ _ _ _ _ _
   | exact laws_eqPool.mono _ _ _ _ _ _ _ _ _ _ _
   | exact laws_heldPool.mono _ _ _ _ _ _ _
   | exact laws_markPool.mono _ _ _ _ _ _ _
   | exact laws_toPool.mono _ _ _ _ _ _
   | exact spec_Leave.mono _ _ _ _ _ _ _
   | exact LeO.none _
   | refine LeO.ite ?_ ?_
   | refine LeO.bind ?_ (fun _ => ?_)
set_option maxHeartbeats 8000000 in
set_option maxRecDepth 100000 in
theorem laws_FnExactLeave.calls (k : Nat) (A0_0 : Option Addr) (c0_0 : Nat) (l0_0 : List Int) (a0_1 : Int) (A0_2 : Option Addr) (c0_2 : Nat) (l0_2 : List Int) (A0_3 : Option Addr) (c0_3 : Nat) (l0_3 : List (S106)) (A0_4 : Option Addr) (c0_4 : Nat) (l0_4 : List Int) (a1 : Int) (r : Bool) (w : World) (hr0_0 : Kd.C (Kd.int .i64) w A0_0 l0_0.length l0_0) (hc0_0 : l0_0.length ≤ c0_0) (hr0_2 : Kd.C (Kd.int .i64) w A0_2 l0_2.length l0_2) (hc0_2 : l0_2.length ≤ c0_2) (hr0_3 : Kd.C k106 w A0_3 l0_3.length l0_3) (hc0_3 : l0_3.length ≤ c0_3) (hr0_4 : Kd.C (Kd.int .i64) w A0_4 l0_4.length l0_4) (hc0_4 : l0_4.length ≤ c0_4) (h : laws_FnExactLeave.f k l0_0 a0_1 l0_2 l0_3 l0_4 a1 = some r) (hrt_ : Aside0 (r = true)) :
  Calls Try.prog 8 #[.agg #[.slice A0_0 l0_0.length c0_0, .int .i64 a0_1, .slice A0_2 l0_2.length c0_2, .slice A0_3 l0_3.length c0_3, .slice A0_4 l0_4.length c0_4], .int .i64 a1] w fun e w' => e = .returned (.bool r) ∧ Below w.heap.size w w' := by
 have hu37 := Try.underlying37
 have hu27 := Try.underlying27
 have HR0_0 := Aside0.mk hr0_0
 have HC0_0 := Aside0.mk hc0_0
 clear hr0_0 hc0_0
 have HR0_2 := Aside0.mk hr0_2
 have HC0_2 := Aside0.mk hc0_2
 clear hr0_2 hc0_2
 have HR0_3 := Aside0.mk hr0_3
 have HC0_3 := Aside0.mk hc0_3
 clear hr0_3 hc0_3
 have HR0_4 := Aside0.mk hr0_4
 have HC0_4 := Aside0.mk hc0_4
 clear hr0_4 hc0_4
 have HB := Aside0.mk (Below.refl w.heap.size w)
 have H : ((laws_szPool.f l0_0 a0_1 l0_2 l0_3 l0_4 1048576).bind fun t463 => (if t463 < 0 then (some true) else ((laws_toPool.f k l0_0 a0_1 l0_2 l0_3 l0_4).bind fun bt464 => ((spec_Leave.f k bt464.1 bt464.2.1 bt464.2.2.1 bt464.2.2.2.1 bt464.2.2.2.2 a1).bind fun bt477 => ((laws_toPool.f k l0_0 a0_1 l0_2 l0_3 l0_4).bind fun bt492 => ((impl_Leave.f k bt492.1 bt492.2.1 bt492.2.2.1 bt492.2.2.2.1 bt492.2.2.2.2 a1).bind fun bt506 => ((laws_eqPool.f k bt506.1 bt506.2.1 bt506.2.2.1 bt506.2.2.2.1 bt506.2.2.2.2.1 bt477.1 bt477.2.1 bt477.2.2.1 bt477.2.2.2.1 bt477.2.2.2.2.1).bind fun t521 => (if t521 = true then (laws_FnExactLeave.j0 k a1 bt477.2.2.2.2.2 bt506.2.2.2.2.2 (bt506.2.2.2.2.2 != bt477.2.2.2.2.2) l0_0 a0_1 l0_2 l0_3 l0_4 bt477.1 bt477.2.1 bt477.2.2.1 bt477.2.2.2.1 bt477.2.2.2.2.1 bt492.1 bt492.2.1 bt492.2.2.1 bt492.2.2.2.1 bt492.2.2.2.2 bt506.1 bt506.2.1 bt506.2.2.1 bt506.2.2.2.1 bt506.2.2.2.2.1) else (laws_FnExactLeave.j0 k a1 bt477.2.2.2.2.2 bt506.2.2.2.2.2 true l0_0 a0_1 l0_2 l0_3 l0_4 bt477.1 bt477.2.1 bt477.2.2.1 bt477.2.2.2.1 bt477.2.2.2.2.1 bt492.1 bt492.2.1 bt492.2.2.1 bt492.2.2.2.1 bt492.2.2.2.2 bt506.1 bt506.2.1 bt506.2.2.1 bt506.2.2.2.1 bt506.2.2.2.2.1))))))))) = some r := h
 clear h
 replace H := Option.bind_eq_some_iff.mp H
 obtain ⟨t463, A30, H⟩ := H
 try dsimp only at H
 have A3 := Aside0.mk A30
 clear A30
 by_cases c4 : t463 < 0
 ·rw [if_pos c4] at H
  have c4b0 : decide (t463 < 0) = true := decide_eq_true c4
  clear c4
  obtain rfl := Option.some.inj H
  go_enter Try.func8, Try.ntmps8
  go_wp2_with (first | ((with_reducible refine gate_dst (N := 2) rfl ?_); refine bx 2 #[.slice A0_0 l0_0.length c0_0, .int .i64 a0_1, .slice A0_2 l0_2.length c0_2, .slice A0_3 l0_3.length c0_3, .slice A0_4 l0_4.length c0_4] 37 ?_; intro gb462 hg w5 hbox hb; have BK462 := am hbox; have GW462 := gs0 hg HB; have GE462 := gs0 hg HB; replace HB := s0 HB hb; clear hb hbox hg; have hcz6_0 := bz5 BK462) | ((with_reducible refine gate_callee (f := 19) rfl ?_); refine gl 18 Try.func19 #[.agg #[.slice A0_0 l0_0.length c0_0, .int .i64 a0_1, .slice A0_2 l0_2.length c0_2, .slice A0_3 l0_3.length c0_3, .slice A0_4 l0_4.length c0_4], .int .i64 1048576] ?_; (with_reducible refine (laws_szPool.calls _ _ l0_0 a0_1 _ _ l0_2 _ _ l0_3 _ _ l0_4 1048576 t463 _ (cb HR0_0 HB) HC0_0.out (cb HR0_2 HB) HC0_2.out (cb HR0_3 HB) HC0_3.out (cb HR0_4 HB) HC0_4.out A3.out).mono ?_); rintro e w7 ⟨rfl, hb⟩; refine ⟨_, rfl, ?_⟩; replace BK462 := bb BK462 hb; replace HB := Aside0.mk (below_step (be1 HB GE462) hb); (try clear hb)))
  go_ret
  exact ⟨er, be1 HB GE462⟩
 rw [if_neg c4] at H
 have c4b0 : decide (t463 < 0) = false := decide_eq_false c4
 clear c4
 replace H := Option.bind_eq_some_iff.mp H
 obtain ⟨⟨t464, t467, t468, t471, t474⟩, A80, H⟩ := H
 try dsimp only at H
 have A8 := Aside0.mk A80
 clear A80
 replace H := Option.bind_eq_some_iff.mp H
 obtain ⟨⟨t477, t480, t481, t484, t487, t490⟩, A90, H⟩ := H
 try dsimp only at H
 have A9 := Aside0.mk A90
 clear A90
 replace H := Option.bind_eq_some_iff.mp H
 obtain ⟨⟨t492, t495, t496, t499, t502⟩, A100, H⟩ := H
 try dsimp only at H
 have A10 := Aside0.mk A100
 clear A100
 replace H := Option.bind_eq_some_iff.mp H
 obtain ⟨⟨t506, t509, t510, t513, t516, t519⟩, A110, H⟩ := H
 try dsimp only at H
 have A11 := Aside0.mk A110
 clear A110
 have HC12 := Aside0.mk H
 clear H
 go_enter Try.func8, Try.ntmps8
 go_upto_region 8 with (first | ((with_reducible refine gate_dst (N := 2) rfl ?_); refine bx 2 #[.slice A0_0 l0_0.length c0_0, .int .i64 a0_1, .slice A0_2 l0_2.length c0_2, .slice A0_3 l0_3.length c0_3, .slice A0_4 l0_4.length c0_4] 37 ?_; intro gb462 hg w13 hbox hb; have BK462 := am hbox; have GW462 := gs0 hg HB; have GE462 := gs0 hg HB; replace HB := s0 HB hb; clear hb hbox hg; have hcz14_0 := bz5 BK462) | ((with_reducible refine gate_callee (f := 19) rfl ?_); refine gl 18 Try.func19 #[.agg #[.slice A0_0 l0_0.length c0_0, .int .i64 a0_1, .slice A0_2 l0_2.length c0_2, .slice A0_3 l0_3.length c0_3, .slice A0_4 l0_4.length c0_4], .int .i64 1048576] ?_; (with_reducible refine (laws_szPool.calls _ _ l0_0 a0_1 _ _ l0_2 _ _ l0_3 _ _ l0_4 1048576 t463 _ (cb HR0_0 HB) HC0_0.out (cb HR0_2 HB) HC0_2.out (cb HR0_3 HB) HC0_3.out (cb HR0_4 HB) HC0_4.out A3.out).mono ?_); rintro e w15 ⟨rfl, hb⟩; refine ⟨_, rfl, ?_⟩; replace BK462 := bb BK462 hb; replace HB := Aside0.mk (below_step (be1 HB GE462) hb); (try clear hb); have hcz16_0 := bz5 BK462) | ((with_reducible refine gate_callee (f := 21) rfl ?_); refine gl 23 Try.func21 #[.agg #[.slice A0_0 l0_0.length c0_0, .int .i64 a0_1, .slice A0_2 l0_2.length c0_2, .slice A0_3 l0_3.length c0_3, .slice A0_4 l0_4.length c0_4]] ?_; (with_reducible refine (laws_toPool.calls k _ _ l0_0 a0_1 _ _ l0_2 _ _ l0_3 _ _ l0_4 t464 t467 t468 t471 t474 _ (cb HR0_0 HB) HC0_0.out (cb HR0_2 HB) HC0_2.out (cb HR0_3 HB) HC0_3.out (cb HR0_4 HB) HC0_4.out A8.out).mono ?_); rintro e w17 ⟨v465, v469, v472, v475, rfl, ho0, ho1, ho2, ho3, hb⟩; refine ⟨_, rfl, ?_⟩; have HO466 := Aside0.mk (Kd.R_lower ho0 (below_size (be1 HB GE462))); have HO470 := Aside0.mk (Kd.R_lower ho1 (below_size (be1 HB GE462))); have HO473 := Aside0.mk (Kd.R_lower ho2 (below_size (be1 HB GE462))); have HO476 := Aside0.mk (Kd.R_lower ho3 (below_size (be1 HB GE462))); replace BK462 := bb BK462 hb; replace HB := Aside0.mk (below_step (be1 HB GE462) hb); (try clear hb); (try clear ho0); (try clear ho1); (try clear ho2); (try clear ho3); obtain ⟨Ao18, co18, eo18⟩ := Kd.R_slice HO466.out; subst eo18; obtain ⟨Ao19, co19, eo19⟩ := Kd.R_slice HO470.out; subst eo19; obtain ⟨Ao20, co20, eo20⟩ := Kd.R_slice HO473.out; subst eo20; obtain ⟨Ao21, co21, eo21⟩ := Kd.R_slice HO476.out; subst eo21) | ((with_reducible refine gate_callee (f := 29) rfl ?_); refine gl 25 Try.func29 #[.agg #[.slice Ao18 t464.length co18, .int .i64 t467, .slice Ao19 t468.length co19, .slice Ao20 t471.length co20, .slice Ao21 t474.length co21], .int .i64 a1] ?_; (with_reducible refine (spec_Leave.calls k _ _ t464 t467 _ _ t468 _ _ t471 _ _ t474 a1 t477 t480 t481 t484 t487 t490 _ (cr HO466) ((Kd.R_reads' HO466.out).2.1) (cr HO470) ((Kd.R_reads' HO470.out).2.1) (cr HO473) ((Kd.R_reads' HO473.out).2.1) (cr HO476) ((Kd.R_reads' HO476.out).2.1) A9.out).mono ?_); rintro e w22 ⟨v478, v482, v485, v488, rfl, ho0, ho1, ho2, ho3, hb⟩; refine ⟨_, rfl, ?_⟩; have HO479 := Aside0.mk (Kd.R_lower (nw (nw (nw ho0 HO466) HO470) HO476) (below_size (be1 HB GE462))); have HO483 := Aside0.mk (Kd.R_lower (nw (nw (nw ho1 HO466) HO470) HO476) (below_size (be1 HB GE462))); have HO486 := Aside0.mk (Kd.R_lower (nw ho2 HO473) (below_size (be1 HB GE462))); replace HO473 := Aside0.mk (Kd.R_elder' (ro HO473) (Kd.R_base ho2) hb); have HO489 := Aside0.mk (Kd.R_lower (nw (nw (nw ho3 HO466) HO470) HO476) (below_size (be1 HB GE462))); replace HO466 := td3 (ro HO466) hb ho0 ho1 ho3; replace HO470 := td3 (ro HO470) hb ho0 ho1 ho3; replace HO476 := td3 (ro HO476) hb ho0 ho1 ho3; replace BK462 := bb BK462 hb; replace HB := Aside0.mk (below_step (be1 HB GE462) hb); (try clear hb); (try clear ho0); (try clear ho1); (try clear ho2); (try clear ho3)) | ((with_reducible refine gate_dst (N := 6) rfl ?_); refine bx 6 #[.slice none 0 0, .int .i64 0, .slice none 0 0, .slice none 0 0, .slice none 0 0] 27 ?_; intro gb491 hg w23 hbox hb; replace HO466 := rb HO466 hb; replace HO470 := rb HO470 hb; replace HO473 := rb HO473 hb; replace HO476 := rb HO476 hb; replace HO479 := rb HO479 hb; replace HO483 := rb HO483 hb; replace HO486 := rb HO486 hb; replace HO489 := rb HO489 hb; have BK491 := am hbox; have GW491 := gs1 hg HB GE462; have GE491 := gs1 hg HB GE462; replace HB := Aside0.mk (below_step (be1 HB GE462) hb); have NB462_491 := Aside0.mk ((by rw [hg]; exact Nat.ne_of_lt (bl BK462) : gb462 ≠ gb491)); have NB491_462 := Aside0.mk ((by rw [hg]; exact Nat.ne_of_gt (bl BK462) : gb491 ≠ gb462)); replace BK462 := bb BK462 hb; clear hb hbox hg; obtain ⟨Ao24, co24, eo24⟩ := Kd.R_slice HO479.out; subst eo24; have hnb25 := NB491_462.out; have hnc25 := NB462_491.out; have hcz26_0 := bz5 BK491; obtain ⟨Ao27, co27, eo27⟩ := Kd.R_slice HO483.out; subst eo27; obtain ⟨Ao28, co28, eo28⟩ := Kd.R_slice HO486.out; subst eo28; obtain ⟨Ao29, co29, eo29⟩ := Kd.R_slice HO489.out; subst eo29; have hcz30_0 := bz5 BK462) | ((with_reducible refine gate_callee (f := 21) rfl ?_); refine gl 29 Try.func21 #[.agg #[.slice A0_0 l0_0.length c0_0, .int .i64 a0_1, .slice A0_2 l0_2.length c0_2, .slice A0_3 l0_3.length c0_3, .slice A0_4 l0_4.length c0_4]] ?_; (with_reducible refine (laws_toPool.calls k _ _ l0_0 a0_1 _ _ l0_2 _ _ l0_3 _ _ l0_4 t492 t495 t496 t499 t502 _ ?side1 HC0_0.out ?side3 HC0_2.out ?side5 HC0_3.out ?side7 HC0_4.out A10.out).mono ?_); (case side1 => exact Kd.C_below HR0_0.out (be2 HB GE462 GE491)); (case side3 => exact Kd.C_below HR0_2.out (be2 HB GE462 GE491)); (case side5 => exact Kd.C_below HR0_3.out (be2 HB GE462 GE491)); (case side7 => exact Kd.C_below HR0_4.out (be2 HB GE462 GE491)); rintro e w31 ⟨v493, v497, v500, v503, rfl, ho0, ho1, ho2, ho3, hb⟩; refine ⟨_, rfl, ?_⟩; have HO494 := Aside0.mk (Kd.R_lower (Kd.R_new' (Kd.R_new' (Kd.R_new' (Kd.R_new' (Kd.R_new' (Kd.R_new' ho0 (Kd.R_lt (rf HO466 BK491))) (Kd.R_lt (rf HO470 BK491))) (Kd.R_lt (rf HO476 BK491))) (Kd.R_lt (rf HO479 BK491))) (Kd.R_lt (rf HO483 BK491))) (Kd.R_lt (rf HO489 BK491))) (below_size (be2 HB GE462 GE491))); have HO498 := Aside0.mk (Kd.R_lower (Kd.R_new' (Kd.R_new' (Kd.R_new' (Kd.R_new' (Kd.R_new' (Kd.R_new' ho1 (Kd.R_lt (rf HO466 BK491))) (Kd.R_lt (rf HO470 BK491))) (Kd.R_lt (rf HO476 BK491))) (Kd.R_lt (rf HO479 BK491))) (Kd.R_lt (rf HO483 BK491))) (Kd.R_lt (rf HO489 BK491))) (below_size (be2 HB GE462 GE491))); have HO501 := Aside0.mk (Kd.R_lower (Kd.R_new' (Kd.R_new' ho2 (Kd.R_lt (rf HO473 BK491))) (Kd.R_lt (rf HO486 BK491))) (below_size (be2 HB GE462 GE491))); replace HO473 := Aside0.mk (Kd.R_elder' (rf HO473 BK491) (Kd.R_base ho2) hb); replace HO486 := Aside0.mk (Kd.R_elder' (rf HO486 BK491) (Kd.R_base ho2) hb); have HO504 := Aside0.mk (Kd.R_lower (Kd.R_new' (Kd.R_new' (Kd.R_new' (Kd.R_new' (Kd.R_new' (Kd.R_new' ho3 (Kd.R_lt (rf HO466 BK491))) (Kd.R_lt (rf HO470 BK491))) (Kd.R_lt (rf HO476 BK491))) (Kd.R_lt (rf HO479 BK491))) (Kd.R_lt (rf HO483 BK491))) (Kd.R_lt (rf HO489 BK491))) (below_size (be2 HB GE462 GE491))); replace HO466 := td3 (rf HO466 BK491) hb ho0 ho1 ho3; replace HO470 := td3 (rf HO470 BK491) hb ho0 ho1 ho3; replace HO476 := td3 (rf HO476 BK491) hb ho0 ho1 ho3; replace HO479 := td3 (rf HO479 BK491) hb ho0 ho1 ho3; replace HO483 := td3 (rf HO483 BK491) hb ho0 ho1 ho3; replace HO489 := td3 (rf HO489 BK491) hb ho0 ho1 ho3; replace BK462 := Aside0.mk (blk_below (g := gb462) (o := .cells #[.slice A0_0 l0_0.length c0_0, .int .i64 a0_1, .slice A0_2 l0_2.length c0_2, .slice A0_3 l0_3.length c0_3, .slice A0_4 l0_4.length c0_4] 37 (0, 0)) (bf1 BK462 NB462_491) hb); replace BK491 := Aside0.mk (blk_below (g := gb491) (o := .cells #[.slice Ao24 t477.length co24, .int .i64 t480, .slice Ao27 t481.length co27, .slice Ao28 t484.length co28, .slice Ao29 t487.length co29] 27 (0, 0)) (by (with_reducible repeat (first | refine blk_drewN ?_ _ | refine blk_drew ?_ | refine blk_alloc ?_ _)); refine blk_put (cs := #[.slice Ao24 t477.length co24, .int .i64 t480, .slice Ao27 t481.length co27, .slice Ao28 t484.length co28, .slice none 0 0]) ?_ 4 _ rfl; (with_reducible repeat (first | refine blk_drewN ?_ _ | refine blk_drew ?_ | refine blk_alloc ?_ _)); refine blk_put (cs := #[.slice Ao24 t477.length co24, .int .i64 t480, .slice Ao27 t481.length co27, .slice none 0 0, .slice none 0 0]) ?_ 3 _ rfl; (with_reducible repeat (first | refine blk_drewN ?_ _ | refine blk_drew ?_ | refine blk_alloc ?_ _)); refine blk_put (cs := #[.slice Ao24 t477.length co24, .int .i64 t480, .slice none 0 0, .slice none 0 0, .slice none 0 0]) ?_ 2 _ rfl; (with_reducible repeat (first | refine blk_drewN ?_ _ | refine blk_drew ?_ | refine blk_alloc ?_ _)); refine blk_put (cs := #[.slice Ao24 t477.length co24, .int .i64 0, .slice none 0 0, .slice none 0 0, .slice none 0 0]) ?_ 1 _ rfl; (with_reducible repeat (first | refine blk_drewN ?_ _ | refine blk_drew ?_ | refine blk_alloc ?_ _)); refine blk_put (cs := #[.slice none 0 0, .int .i64 0, .slice none 0 0, .slice none 0 0, .slice none 0 0]) ?_ 0 _ rfl; (with_reducible repeat (first | refine blk_drewN ?_ _ | refine blk_drew ?_ | refine blk_alloc ?_ _)); exact BK491.out) hb); replace HB := Aside0.mk (below_step (be2 HB GE462 GE491) hb); (try clear hb); (try clear ho0); (try clear ho1); (try clear ho2); (try clear ho3)) | ((with_reducible refine gate_dst (N := 8) rfl ?_); refine bx 8 #[.slice none 0 0, .int .i64 0, .slice none 0 0, .slice none 0 0, .slice none 0 0] 27 ?_; intro gb505 hg w32 hbox hb; replace HO466 := rb HO466 hb; replace HO470 := rb HO470 hb; replace HO473 := rb HO473 hb; replace HO476 := rb HO476 hb; replace HO479 := rb HO479 hb; replace HO483 := rb HO483 hb; replace HO486 := rb HO486 hb; replace HO489 := rb HO489 hb; replace HO494 := rb HO494 hb; replace HO498 := rb HO498 hb; replace HO501 := rb HO501 hb; replace HO504 := rb HO504 hb; have BK505 := am hbox; have GW505 := gs2 hg HB GE462 GE491; have GE505 := gs2 hg HB GE462 GE491; replace HB := Aside0.mk (below_step (be2 HB GE462 GE491) hb); have NB462_505 := Aside0.mk ((by rw [hg]; exact Nat.ne_of_lt (bl BK462) : gb462 ≠ gb505)); have NB505_462 := Aside0.mk ((by rw [hg]; exact Nat.ne_of_gt (bl BK462) : gb505 ≠ gb462)); replace BK462 := bb BK462 hb; have NB491_505 := Aside0.mk ((by rw [hg]; exact Nat.ne_of_lt (bl BK491) : gb491 ≠ gb505)); have NB505_491 := Aside0.mk ((by rw [hg]; exact Nat.ne_of_gt (bl BK491) : gb505 ≠ gb491)); replace BK491 := bb BK491 hb; clear hb hbox hg; obtain ⟨Ao33, co33, eo33⟩ := Kd.R_slice HO494.out; subst eo33; have hnb34 := NB505_462.out; have hnc34 := NB462_505.out; have hnb35 := NB505_491.out; have hnc35 := NB491_505.out; have hcz36_0 := bz5 BK505; obtain ⟨Ao37, co37, eo37⟩ := Kd.R_slice HO498.out; subst eo37; obtain ⟨Ao38, co38, eo38⟩ := Kd.R_slice HO501.out; subst eo38; obtain ⟨Ao39, co39, eo39⟩ := Kd.R_slice HO504.out; subst eo39) | ((with_reducible refine gate_callee (f := 30) rfl ?_); refine gl 33 Try.func30 #[.agg #[.slice Ao33 t492.length co33, .int .i64 t495, .slice Ao37 t496.length co37, .slice Ao38 t499.length co38, .slice Ao39 t502.length co39], .int .i64 a1] ?_; (with_reducible refine (impl_Leave.calls k _ _ t492 t495 _ _ t496 _ _ t499 _ _ t502 a1 t506 t509 t510 t513 t516 t519 _ ?side1 ((Kd.R_reads' HO494.out).2.1) ?side3 ((Kd.R_reads' HO498.out).2.1) ?side5 ((Kd.R_reads' HO501.out).2.1) ?side7 ((Kd.R_reads' HO504.out).2.1) A11.out).mono ?_); (case side1 => exact rfr _ HO494 BK505); (case side3 => exact rfr _ HO498 BK505); (case side5 => exact rfr _ HO501 BK505); (case side7 => exact rfr _ HO504 BK505); rintro e w40 ⟨v507, v511, v514, v517, rfl, ho0, ho1, ho2, ho3, hb⟩; refine ⟨_, rfl, ?_⟩; have HO508 := Aside0.mk (Kd.R_lower (Kd.R_new' (Kd.R_new' (Kd.R_new' (Kd.R_new' (Kd.R_new' (Kd.R_new' (Kd.R_new' (Kd.R_new' (Kd.R_new' ho0 (Kd.R_lt (rf HO466 BK505))) (Kd.R_lt (rf HO470 BK505))) (Kd.R_lt (rf HO476 BK505))) (Kd.R_lt (rf HO479 BK505))) (Kd.R_lt (rf HO483 BK505))) (Kd.R_lt (rf HO489 BK505))) (Kd.R_lt (rf HO494 BK505))) (Kd.R_lt (rf HO498 BK505))) (Kd.R_lt (rf HO504 BK505))) (below_size (be3 HB GE462 GE491 GE505))); have HO512 := Aside0.mk (Kd.R_lower (Kd.R_new' (Kd.R_new' (Kd.R_new' (Kd.R_new' (Kd.R_new' (Kd.R_new' (Kd.R_new' (Kd.R_new' (Kd.R_new' ho1 (Kd.R_lt (rf HO466 BK505))) (Kd.R_lt (rf HO470 BK505))) (Kd.R_lt (rf HO476 BK505))) (Kd.R_lt (rf HO479 BK505))) (Kd.R_lt (rf HO483 BK505))) (Kd.R_lt (rf HO489 BK505))) (Kd.R_lt (rf HO494 BK505))) (Kd.R_lt (rf HO498 BK505))) (Kd.R_lt (rf HO504 BK505))) (below_size (be3 HB GE462 GE491 GE505))); have HO515 := Aside0.mk (Kd.R_lower (Kd.R_new' (Kd.R_new' (Kd.R_new' ho2 (Kd.R_lt (rf HO473 BK505))) (Kd.R_lt (rf HO486 BK505))) (Kd.R_lt (rf HO501 BK505))) (below_size (be3 HB GE462 GE491 GE505))); replace HO473 := Aside0.mk (Kd.R_elder' (rf HO473 BK505) (Kd.R_base ho2) hb); replace HO486 := Aside0.mk (Kd.R_elder' (rf HO486 BK505) (Kd.R_base ho2) hb); replace HO501 := Aside0.mk (Kd.R_elder' (rf HO501 BK505) (Kd.R_base ho2) hb); have HO518 := Aside0.mk (Kd.R_lower (Kd.R_new' (Kd.R_new' (Kd.R_new' (Kd.R_new' (Kd.R_new' (Kd.R_new' (Kd.R_new' (Kd.R_new' (Kd.R_new' ho3 (Kd.R_lt (rf HO466 BK505))) (Kd.R_lt (rf HO470 BK505))) (Kd.R_lt (rf HO476 BK505))) (Kd.R_lt (rf HO479 BK505))) (Kd.R_lt (rf HO483 BK505))) (Kd.R_lt (rf HO489 BK505))) (Kd.R_lt (rf HO494 BK505))) (Kd.R_lt (rf HO498 BK505))) (Kd.R_lt (rf HO504 BK505))) (below_size (be3 HB GE462 GE491 GE505))); replace HO466 := td3 (rf HO466 BK505) hb ho0 ho1 ho3; replace HO470 := td3 (rf HO470 BK505) hb ho0 ho1 ho3; replace HO476 := td3 (rf HO476 BK505) hb ho0 ho1 ho3; replace HO479 := td3 (rf HO479 BK505) hb ho0 ho1 ho3; replace HO483 := td3 (rf HO483 BK505) hb ho0 ho1 ho3; replace HO489 := td3 (rf HO489 BK505) hb ho0 ho1 ho3; replace HO494 := td3 (rf HO494 BK505) hb ho0 ho1 ho3; replace HO498 := td3 (rf HO498 BK505) hb ho0 ho1 ho3; replace HO504 := td3 (rf HO504 BK505) hb ho0 ho1 ho3; replace BK462 := Aside0.mk (blk_below (g := gb462) (o := .cells #[.slice A0_0 l0_0.length c0_0, .int .i64 a0_1, .slice A0_2 l0_2.length c0_2, .slice A0_3 l0_3.length c0_3, .slice A0_4 l0_4.length c0_4] 37 (0, 0)) (bf1 BK462 NB462_505) hb); replace BK491 := Aside0.mk (blk_below (g := gb491) (o := .cells #[.slice Ao24 t477.length co24, .int .i64 t480, .slice Ao27 t481.length co27, .slice Ao28 t484.length co28, .slice Ao29 t487.length co29] 27 (0, 0)) (bf1 BK491 NB491_505) hb); replace BK505 := Aside0.mk (blk_below (g := gb505) (o := .cells #[.slice Ao33 t492.length co33, .int .i64 t495, .slice Ao37 t496.length co37, .slice Ao38 t499.length co38, .slice Ao39 t502.length co39] 27 (0, 0)) (by (with_reducible repeat (first | refine blk_drewN ?_ _ | refine blk_drew ?_ | refine blk_alloc ?_ _)); refine blk_put (cs := #[.slice Ao33 t492.length co33, .int .i64 t495, .slice Ao37 t496.length co37, .slice Ao38 t499.length co38, .slice none 0 0]) ?_ 4 _ rfl; (with_reducible repeat (first | refine blk_drewN ?_ _ | refine blk_drew ?_ | refine blk_alloc ?_ _)); refine blk_put (cs := #[.slice Ao33 t492.length co33, .int .i64 t495, .slice Ao37 t496.length co37, .slice none 0 0, .slice none 0 0]) ?_ 3 _ rfl; (with_reducible repeat (first | refine blk_drewN ?_ _ | refine blk_drew ?_ | refine blk_alloc ?_ _)); refine blk_put (cs := #[.slice Ao33 t492.length co33, .int .i64 t495, .slice none 0 0, .slice none 0 0, .slice none 0 0]) ?_ 2 _ rfl; (with_reducible repeat (first | refine blk_drewN ?_ _ | refine blk_drew ?_ | refine blk_alloc ?_ _)); refine blk_put (cs := #[.slice Ao33 t492.length co33, .int .i64 0, .slice none 0 0, .slice none 0 0, .slice none 0 0]) ?_ 1 _ rfl; (with_reducible repeat (first | refine blk_drewN ?_ _ | refine blk_drew ?_ | refine blk_alloc ?_ _)); refine blk_put (cs := #[.slice none 0 0, .int .i64 0, .slice none 0 0, .slice none 0 0, .slice none 0 0]) ?_ 0 _ rfl; (with_reducible repeat (first | refine blk_drewN ?_ _ | refine blk_drew ?_ | refine blk_alloc ?_ _)); exact BK505.out) hb); replace HB := Aside0.mk (below_step (be3 HB GE462 GE491 GE505) hb); (try clear hb); (try clear ho0); (try clear ho1); (try clear ho2); (try clear ho3)) | ((with_reducible refine gate_dst (N := 9) rfl ?_); refine bx 9 #[.slice none 0 0, .int .i64 0, .slice none 0 0, .slice none 0 0, .slice none 0 0] 27 ?_; intro gb520 hg w41 hbox hb; replace HO466 := rb HO466 hb; replace HO470 := rb HO470 hb; replace HO473 := rb HO473 hb; replace HO476 := rb HO476 hb; replace HO479 := rb HO479 hb; replace HO483 := rb HO483 hb; replace HO486 := rb HO486 hb; replace HO489 := rb HO489 hb; replace HO494 := rb HO494 hb; replace HO498 := rb HO498 hb; replace HO501 := rb HO501 hb; replace HO504 := rb HO504 hb; replace HO508 := rb HO508 hb; replace HO512 := rb HO512 hb; replace HO515 := rb HO515 hb; replace HO518 := rb HO518 hb; have BK520 := am hbox; have GW520 := Aside0.mk ((by rw [hg]; exact (below_size (be3 HB GE462 GE491 GE505)) : w.heap.size ≤ gb520)); have GE520 := Aside0.mk ((by rw [hg]; exact (below_size (be3 HB GE462 GE491 GE505)) : w.heap.size ≤ gb520)); replace HB := Aside0.mk (below_step (be3 HB GE462 GE491 GE505) hb); have NB462_520 := Aside0.mk ((by rw [hg]; exact Nat.ne_of_lt (bl BK462) : gb462 ≠ gb520)); have NB520_462 := Aside0.mk ((by rw [hg]; exact Nat.ne_of_gt (bl BK462) : gb520 ≠ gb462)); replace BK462 := bb BK462 hb; have NB491_520 := Aside0.mk ((by rw [hg]; exact Nat.ne_of_lt (bl BK491) : gb491 ≠ gb520)); have NB520_491 := Aside0.mk ((by rw [hg]; exact Nat.ne_of_gt (bl BK491) : gb520 ≠ gb491)); replace BK491 := bb BK491 hb; have NB505_520 := Aside0.mk ((by rw [hg]; exact Nat.ne_of_lt (bl BK505) : gb505 ≠ gb520)); have NB520_505 := Aside0.mk ((by rw [hg]; exact Nat.ne_of_gt (bl BK505) : gb520 ≠ gb505)); replace BK505 := bb BK505 hb; clear hb hbox hg; obtain ⟨Ao42, co42, eo42⟩ := Kd.R_slice HO508.out; subst eo42; have hnb43 := NB520_462.out; have hnc43 := NB462_520.out; have hnb44 := NB520_491.out; have hnc44 := NB491_520.out; have hnb45 := NB520_505.out; have hnc45 := NB505_520.out; have hcz46_0 := bz5 BK520; obtain ⟨Ao47, co47, eo47⟩ := Kd.R_slice HO512.out; subst eo47; obtain ⟨Ao48, co48, eo48⟩ := Kd.R_slice HO515.out; subst eo48; obtain ⟨Ao49, co49, eo49⟩ := Kd.R_slice HO518.out; subst eo49))
 (try simp only [Act.put, List.setIfInBounds_toArray, List.set_cons_zero, List.set_cons_succ])
 go_cut [44] (fun v44 wc => ∃ (kq : Nat) (x44_11 : Bool), v44 = .bool x44_11 ∧ Aside0 (laws_FnExactLeave.j0 kq a1 t490 t519 x44_11 l0_0 a0_1 l0_2 l0_3 l0_4 t477 t480 t481 t484 t487 t492 t495 t496 t499 t502 t506 t509 t510 t513 t516 = some r) ∧ Aside0 (kq ≤ k) ∧ Aside0 (Kd.R (Kd.int .i64) 3 wc w.heap.size (fun k_ => nb k_ Ao27 t481.length co27 ∧ nb k_ Ao29 t487.length co29 ∧ nb k_ Ao33 t492.length co33 ∧ nb k_ Ao37 t496.length co37 ∧ nb k_ Ao39 t502.length co39 ∧ nb k_ Ao42 t506.length co42 ∧ nb k_ Ao47 t510.length co47 ∧ nb k_ Ao49 t516.length co49) (.slice Ao24 t477.length co24) t477) ∧ Aside0 (Kd.R (Kd.int .i64) 3 wc w.heap.size (fun k_ => nb k_ Ao24 t477.length co24 ∧ nb k_ Ao29 t487.length co29 ∧ nb k_ Ao33 t492.length co33 ∧ nb k_ Ao37 t496.length co37 ∧ nb k_ Ao39 t502.length co39 ∧ nb k_ Ao42 t506.length co42 ∧ nb k_ Ao47 t510.length co47 ∧ nb k_ Ao49 t516.length co49) (.slice Ao27 t481.length co27) t481) ∧ Aside0 (Kd.R k70 70 wc w.heap.size (fun k_ => nb k_ Ao38 t499.length co38 ∧ nb k_ Ao48 t513.length co48) (.slice Ao28 t484.length co28) t484) ∧ Aside0 (Kd.R (Kd.int .i64) 3 wc w.heap.size (fun k_ => nb k_ Ao24 t477.length co24 ∧ nb k_ Ao27 t481.length co27 ∧ nb k_ Ao33 t492.length co33 ∧ nb k_ Ao37 t496.length co37 ∧ nb k_ Ao39 t502.length co39 ∧ nb k_ Ao42 t506.length co42 ∧ nb k_ Ao47 t510.length co47 ∧ nb k_ Ao49 t516.length co49) (.slice Ao29 t487.length co29) t487) ∧ Aside0 (Kd.R (Kd.int .i64) 3 wc w.heap.size (fun k_ => nb k_ Ao24 t477.length co24 ∧ nb k_ Ao27 t481.length co27 ∧ nb k_ Ao29 t487.length co29 ∧ nb k_ Ao37 t496.length co37 ∧ nb k_ Ao39 t502.length co39 ∧ nb k_ Ao42 t506.length co42 ∧ nb k_ Ao47 t510.length co47 ∧ nb k_ Ao49 t516.length co49) (.slice Ao33 t492.length co33) t492) ∧ Aside0 (Kd.R (Kd.int .i64) 3 wc w.heap.size (fun k_ => nb k_ Ao24 t477.length co24 ∧ nb k_ Ao27 t481.length co27 ∧ nb k_ Ao29 t487.length co29 ∧ nb k_ Ao33 t492.length co33 ∧ nb k_ Ao39 t502.length co39 ∧ nb k_ Ao42 t506.length co42 ∧ nb k_ Ao47 t510.length co47 ∧ nb k_ Ao49 t516.length co49) (.slice Ao37 t496.length co37) t496) ∧ Aside0 (Kd.R k70 70 wc w.heap.size (fun k_ => nb k_ Ao28 t484.length co28 ∧ nb k_ Ao48 t513.length co48) (.slice Ao38 t499.length co38) t499) ∧ Aside0 (Kd.R (Kd.int .i64) 3 wc w.heap.size (fun k_ => nb k_ Ao24 t477.length co24 ∧ nb k_ Ao27 t481.length co27 ∧ nb k_ Ao29 t487.length co29 ∧ nb k_ Ao33 t492.length co33 ∧ nb k_ Ao37 t496.length co37 ∧ nb k_ Ao42 t506.length co42 ∧ nb k_ Ao47 t510.length co47 ∧ nb k_ Ao49 t516.length co49) (.slice Ao39 t502.length co39) t502) ∧ Aside0 (Kd.R (Kd.int .i64) 3 wc w.heap.size (fun k_ => nb k_ Ao24 t477.length co24 ∧ nb k_ Ao27 t481.length co27 ∧ nb k_ Ao29 t487.length co29 ∧ nb k_ Ao33 t492.length co33 ∧ nb k_ Ao37 t496.length co37 ∧ nb k_ Ao39 t502.length co39 ∧ nb k_ Ao47 t510.length co47 ∧ nb k_ Ao49 t516.length co49) (.slice Ao42 t506.length co42) t506) ∧ Aside0 (Kd.R (Kd.int .i64) 3 wc w.heap.size (fun k_ => nb k_ Ao24 t477.length co24 ∧ nb k_ Ao27 t481.length co27 ∧ nb k_ Ao29 t487.length co29 ∧ nb k_ Ao33 t492.length co33 ∧ nb k_ Ao37 t496.length co37 ∧ nb k_ Ao39 t502.length co39 ∧ nb k_ Ao42 t506.length co42 ∧ nb k_ Ao49 t516.length co49) (.slice Ao47 t510.length co47) t510) ∧ Aside0 (Kd.R k70 70 wc w.heap.size (fun k_ => nb k_ Ao28 t484.length co28 ∧ nb k_ Ao38 t499.length co38) (.slice Ao48 t513.length co48) t513) ∧ Aside0 (Kd.R (Kd.int .i64) 3 wc w.heap.size (fun k_ => nb k_ Ao24 t477.length co24 ∧ nb k_ Ao27 t481.length co27 ∧ nb k_ Ao29 t487.length co29 ∧ nb k_ Ao33 t492.length co33 ∧ nb k_ Ao37 t496.length co37 ∧ nb k_ Ao39 t502.length co39 ∧ nb k_ Ao42 t506.length co42 ∧ nb k_ Ao47 t510.length co47) (.slice Ao49 t516.length co49) t516) ∧ Aside0 (wc.heap[gb462]? = some (.cells #[(.slice A0_0 l0_0.length c0_0), .int .i64 a0_1, (.slice A0_2 l0_2.length c0_2), (.slice A0_3 l0_3.length c0_3), (.slice A0_4 l0_4.length c0_4)] 37 (0, 0))) ∧ Aside0 (wc.heap[gb491]? = some (.cells #[(.slice Ao24 t477.length co24), .int .i64 t480, (.slice Ao27 t481.length co27), (.slice Ao28 t484.length co28), (.slice Ao29 t487.length co29)] 27 (0, 0))) ∧ Aside0 (wc.heap[gb505]? = some (.cells #[(.slice Ao33 t492.length co33), .int .i64 t495, (.slice Ao37 t496.length co37), (.slice Ao38 t499.length co38), (.slice Ao39 t502.length co39)] 27 (0, 0))) ∧ Aside0 (wc.heap[gb520]? = some (.cells #[(.slice Ao42 t506.length co42), .int .i64 t509, (.slice Ao47 t510.length co47), (.slice Ao48 t513.length co48), (.slice Ao49 t516.length co49)] 27 (0, 0))) ∧ Aside0 (Below w.heap.size w wc))
 case first =>
  have H := HC12.out
  clear HC12
  replace H := Option.bind_eq_some_iff.mp H
  obtain ⟨t521, A500, H⟩ := H
  try dsimp only at H
  have A50 := Aside0.mk A500
  clear A500
  by_cases c51 : t521 = true
  ·subst c51
   rw [if_pos rfl] at H
   have H' := Aside0.mk H
   clear H
   have hnb52 := NB520_462.out
   have hnc52 := NB462_520.out
   have hnb53 := NB520_491.out
   have hnc53 := NB491_520.out
   have hnb54 := NB520_505.out
   have hnc54 := NB505_520.out
   have hcz55_0 := bz5 BK520
   have hnb56 := NB491_462.out
   have hnc56 := NB462_491.out
   have hnb57 := NB491_505.out
   have hnc57 := NB505_491.out
   have hcz58_0 := bz5 BK491
   go_wp2_with (first | ((with_reducible refine gate_callee (f := 16) rfl ?_); refine gl 38 Try.func16 #[.agg #[.slice Ao42 t506.length co42, .int .i64 t509, .slice Ao47 t510.length co47, .slice Ao48 t513.length co48, .slice Ao49 t516.length co49], .agg #[.slice Ao24 t477.length co24, .int .i64 t480, .slice Ao27 t481.length co27, .slice Ao28 t484.length co28, .slice Ao29 t487.length co29]] ?_; (with_reducible refine (laws_eqPool.calls k _ _ t506 t509 _ _ t510 _ _ t513 _ _ t516 _ _ t477 t480 _ _ t481 _ _ t484 _ _ t487 true _ ?side1 ((Kd.R_reads' HO508.out).2.1) ?side3 ((Kd.R_reads' HO512.out).2.1) ?side5 ((Kd.R_reads' HO515.out).2.1) ?side7 ((Kd.R_reads' HO518.out).2.1) ?side9 ((Kd.R_reads' HO479.out).2.1) ?side11 ((Kd.R_reads' HO483.out).2.1) ?side13 ((Kd.R_reads' HO486.out).2.1) ?side15 ((Kd.R_reads' HO489.out).2.1) A50.out).mono ?_); (case side1 => exact rfr _ HO508 BK520); (case side3 => exact rfr _ HO512 BK520); (case side5 => exact rfr _ HO515 BK520); (case side7 => exact rfr _ HO518 BK520); (case side9 => exact rfr _ HO479 BK520); (case side11 => exact rfr _ HO483 BK520); (case side13 => exact rfr _ HO486 BK520); (case side15 => exact rfr _ HO489 BK520); rintro e w59 ⟨rfl, hb⟩; refine ⟨_, rfl, ?_⟩; replace HO466 := Aside0.mk (Kd.R_below (rf HO466 BK520) hb); replace HO470 := Aside0.mk (Kd.R_below (rf HO470 BK520) hb); replace HO473 := Aside0.mk (Kd.R_below (rf HO473 BK520) hb); replace HO476 := Aside0.mk (Kd.R_below (rf HO476 BK520) hb); replace HO479 := Aside0.mk (Kd.R_below (rf HO479 BK520) hb); replace HO483 := Aside0.mk (Kd.R_below (rf HO483 BK520) hb); replace HO486 := Aside0.mk (Kd.R_below (rf HO486 BK520) hb); replace HO489 := Aside0.mk (Kd.R_below (rf HO489 BK520) hb); replace HO494 := Aside0.mk (Kd.R_below (rf HO494 BK520) hb); replace HO498 := Aside0.mk (Kd.R_below (rf HO498 BK520) hb); replace HO501 := Aside0.mk (Kd.R_below (rf HO501 BK520) hb); replace HO504 := Aside0.mk (Kd.R_below (rf HO504 BK520) hb); replace HO508 := Aside0.mk (Kd.R_below (rf HO508 BK520) hb); replace HO512 := Aside0.mk (Kd.R_below (rf HO512 BK520) hb); replace HO515 := Aside0.mk (Kd.R_below (rf HO515 BK520) hb); replace HO518 := Aside0.mk (Kd.R_below (rf HO518 BK520) hb); replace BK462 := Aside0.mk (blk_below (g := gb462) (o := .cells #[.slice A0_0 l0_0.length c0_0, .int .i64 a0_1, .slice A0_2 l0_2.length c0_2, .slice A0_3 l0_3.length c0_3, .slice A0_4 l0_4.length c0_4] 37 (0, 0)) (bf1 BK462 NB462_520) hb); replace BK491 := Aside0.mk (blk_below (g := gb491) (o := .cells #[.slice Ao24 t477.length co24, .int .i64 t480, .slice Ao27 t481.length co27, .slice Ao28 t484.length co28, .slice Ao29 t487.length co29] 27 (0, 0)) (bf1 BK491 NB491_520) hb); replace BK505 := Aside0.mk (blk_below (g := gb505) (o := .cells #[.slice Ao33 t492.length co33, .int .i64 t495, .slice Ao37 t496.length co37, .slice Ao38 t499.length co38, .slice Ao39 t502.length co39] 27 (0, 0)) (bf1 BK505 NB505_520) hb); replace BK520 := Aside0.mk (blk_below (g := gb520) (o := .cells #[.slice Ao42 t506.length co42, .int .i64 t509, .slice Ao47 t510.length co47, .slice Ao48 t513.length co48, .slice Ao49 t516.length co49] 27 (0, 0)) (by (with_reducible repeat (first | refine blk_drewN ?_ _ | refine blk_drew ?_ | refine blk_alloc ?_ _)); refine blk_put (cs := #[.slice Ao42 t506.length co42, .int .i64 t509, .slice Ao47 t510.length co47, .slice Ao48 t513.length co48, .slice none 0 0]) ?_ 4 _ rfl; (with_reducible repeat (first | refine blk_drewN ?_ _ | refine blk_drew ?_ | refine blk_alloc ?_ _)); refine blk_put (cs := #[.slice Ao42 t506.length co42, .int .i64 t509, .slice Ao47 t510.length co47, .slice none 0 0, .slice none 0 0]) ?_ 3 _ rfl; (with_reducible repeat (first | refine blk_drewN ?_ _ | refine blk_drew ?_ | refine blk_alloc ?_ _)); refine blk_put (cs := #[.slice Ao42 t506.length co42, .int .i64 t509, .slice none 0 0, .slice none 0 0, .slice none 0 0]) ?_ 2 _ rfl; (with_reducible repeat (first | refine blk_drewN ?_ _ | refine blk_drew ?_ | refine blk_alloc ?_ _)); refine blk_put (cs := #[.slice Ao42 t506.length co42, .int .i64 0, .slice none 0 0, .slice none 0 0, .slice none 0 0]) ?_ 1 _ rfl; (with_reducible repeat (first | refine blk_drewN ?_ _ | refine blk_drew ?_ | refine blk_alloc ?_ _)); refine blk_put (cs := #[.slice none 0 0, .int .i64 0, .slice none 0 0, .slice none 0 0, .slice none 0 0]) ?_ 0 _ rfl; (with_reducible repeat (first | refine blk_drewN ?_ _ | refine blk_drew ?_ | refine blk_alloc ?_ _)); exact BK520.out) hb); replace HB := Aside0.mk (below_step (be4 HB GE462 GE491 GE505 GE520) hb); (try clear hb)))
   go_meet
   case rel => exact ⟨_, ((t519 != t490)), rs, H', ⟨by first | omega | exact Nat.le_refl _⟩, ⟨rom HO479⟩, ⟨rom HO483⟩, ⟨rom HO486⟩, ⟨rom HO489⟩, ⟨rom HO494⟩, ⟨rom HO498⟩, ⟨rom HO501⟩, ⟨rom HO504⟩, ⟨rom HO508⟩, ⟨rom HO512⟩, ⟨rom HO515⟩, ⟨rom HO518⟩, ⟨bk BK462⟩, ⟨bk BK491⟩, ⟨bk BK505⟩, ⟨bk BK520⟩, ⟨be4 HB GE462 GE491 GE505 GE520⟩⟩
  replace c51 := Bool.eq_false_iff.mpr c51
  subst c51
  rw [if_neg (show ¬ (false = true) by decide)] at H
  have H' := Aside0.mk H
  clear H
  have hnb60 := NB520_462.out
  have hnc60 := NB462_520.out
  have hnb61 := NB520_491.out
  have hnc61 := NB491_520.out
  have hnb62 := NB520_505.out
  have hnc62 := NB505_520.out
  have hcz63_0 := bz5 BK520
  have hnb64 := NB491_462.out
  have hnc64 := NB462_491.out
  have hnb65 := NB491_505.out
  have hnc65 := NB505_491.out
  have hcz66_0 := bz5 BK491
  go_wp2_with (first | ((with_reducible refine gate_callee (f := 16) rfl ?_); refine gl 38 Try.func16 #[.agg #[.slice Ao42 t506.length co42, .int .i64 t509, .slice Ao47 t510.length co47, .slice Ao48 t513.length co48, .slice Ao49 t516.length co49], .agg #[.slice Ao24 t477.length co24, .int .i64 t480, .slice Ao27 t481.length co27, .slice Ao28 t484.length co28, .slice Ao29 t487.length co29]] ?_; (with_reducible refine (laws_eqPool.calls k _ _ t506 t509 _ _ t510 _ _ t513 _ _ t516 _ _ t477 t480 _ _ t481 _ _ t484 _ _ t487 false _ ?side1 ((Kd.R_reads' HO508.out).2.1) ?side3 ((Kd.R_reads' HO512.out).2.1) ?side5 ((Kd.R_reads' HO515.out).2.1) ?side7 ((Kd.R_reads' HO518.out).2.1) ?side9 ((Kd.R_reads' HO479.out).2.1) ?side11 ((Kd.R_reads' HO483.out).2.1) ?side13 ((Kd.R_reads' HO486.out).2.1) ?side15 ((Kd.R_reads' HO489.out).2.1) A50.out).mono ?_); (case side1 => exact rfr _ HO508 BK520); (case side3 => exact rfr _ HO512 BK520); (case side5 => exact rfr _ HO515 BK520); (case side7 => exact rfr _ HO518 BK520); (case side9 => exact rfr _ HO479 BK520); (case side11 => exact rfr _ HO483 BK520); (case side13 => exact rfr _ HO486 BK520); (case side15 => exact rfr _ HO489 BK520); rintro e w67 ⟨rfl, hb⟩; refine ⟨_, rfl, ?_⟩; replace HO466 := Aside0.mk (Kd.R_below (rf HO466 BK520) hb); replace HO470 := Aside0.mk (Kd.R_below (rf HO470 BK520) hb); replace HO473 := Aside0.mk (Kd.R_below (rf HO473 BK520) hb); replace HO476 := Aside0.mk (Kd.R_below (rf HO476 BK520) hb); replace HO479 := Aside0.mk (Kd.R_below (rf HO479 BK520) hb); replace HO483 := Aside0.mk (Kd.R_below (rf HO483 BK520) hb); replace HO486 := Aside0.mk (Kd.R_below (rf HO486 BK520) hb); replace HO489 := Aside0.mk (Kd.R_below (rf HO489 BK520) hb); replace HO494 := Aside0.mk (Kd.R_below (rf HO494 BK520) hb); replace HO498 := Aside0.mk (Kd.R_below (rf HO498 BK520) hb); replace HO501 := Aside0.mk (Kd.R_below (rf HO501 BK520) hb); replace HO504 := Aside0.mk (Kd.R_below (rf HO504 BK520) hb); replace HO508 := Aside0.mk (Kd.R_below (rf HO508 BK520) hb); replace HO512 := Aside0.mk (Kd.R_below (rf HO512 BK520) hb); replace HO515 := Aside0.mk (Kd.R_below (rf HO515 BK520) hb); replace HO518 := Aside0.mk (Kd.R_below (rf HO518 BK520) hb); replace BK462 := Aside0.mk (blk_below (g := gb462) (o := .cells #[.slice A0_0 l0_0.length c0_0, .int .i64 a0_1, .slice A0_2 l0_2.length c0_2, .slice A0_3 l0_3.length c0_3, .slice A0_4 l0_4.length c0_4] 37 (0, 0)) (bf1 BK462 NB462_520) hb); replace BK491 := Aside0.mk (blk_below (g := gb491) (o := .cells #[.slice Ao24 t477.length co24, .int .i64 t480, .slice Ao27 t481.length co27, .slice Ao28 t484.length co28, .slice Ao29 t487.length co29] 27 (0, 0)) (bf1 BK491 NB491_520) hb); replace BK505 := Aside0.mk (blk_below (g := gb505) (o := .cells #[.slice Ao33 t492.length co33, .int .i64 t495, .slice Ao37 t496.length co37, .slice Ao38 t499.length co38, .slice Ao39 t502.length co39] 27 (0, 0)) (bf1 BK505 NB505_520) hb); replace BK520 := Aside0.mk (blk_below (g := gb520) (o := .cells #[.slice Ao42 t506.length co42, .int .i64 t509, .slice Ao47 t510.length co47, .slice Ao48 t513.length co48, .slice Ao49 t516.length co49] 27 (0, 0)) (by (with_reducible repeat (first | refine blk_drewN ?_ _ | refine blk_drew ?_ | refine blk_alloc ?_ _)); refine blk_put (cs := #[.slice Ao42 t506.length co42, .int .i64 t509, .slice Ao47 t510.length co47, .slice Ao48 t513.length co48, .slice none 0 0]) ?_ 4 _ rfl; (with_reducible repeat (first | refine blk_drewN ?_ _ | refine blk_drew ?_ | refine blk_alloc ?_ _)); refine blk_put (cs := #[.slice Ao42 t506.length co42, .int .i64 t509, .slice Ao47 t510.length co47, .slice none 0 0, .slice none 0 0]) ?_ 3 _ rfl; (with_reducible repeat (first | refine blk_drewN ?_ _ | refine blk_drew ?_ | refine blk_alloc ?_ _)); refine blk_put (cs := #[.slice Ao42 t506.length co42, .int .i64 t509, .slice none 0 0, .slice none 0 0, .slice none 0 0]) ?_ 2 _ rfl; (with_reducible repeat (first | refine blk_drewN ?_ _ | refine blk_drew ?_ | refine blk_alloc ?_ _)); refine blk_put (cs := #[.slice Ao42 t506.length co42, .int .i64 0, .slice none 0 0, .slice none 0 0, .slice none 0 0]) ?_ 1 _ rfl; (with_reducible repeat (first | refine blk_drewN ?_ _ | refine blk_drew ?_ | refine blk_alloc ?_ _)); refine blk_put (cs := #[.slice none 0 0, .int .i64 0, .slice none 0 0, .slice none 0 0, .slice none 0 0]) ?_ 0 _ rfl; (with_reducible repeat (first | refine blk_drewN ?_ _ | refine blk_drew ?_ | refine blk_alloc ?_ _)); exact BK520.out) hb); replace HB := Aside0.mk (below_step (be4 HB GE462 GE491 GE505 GE520) hb); (try clear hb)))
  go_meet
  case rel => exact ⟨_, (true), rs, H', ⟨by first | omega | exact Nat.le_refl _⟩, ⟨rom HO479⟩, ⟨rom HO483⟩, ⟨rom HO486⟩, ⟨rom HO489⟩, ⟨rom HO494⟩, ⟨rom HO498⟩, ⟨rom HO501⟩, ⟨rom HO504⟩, ⟨rom HO508⟩, ⟨rom HO512⟩, ⟨rom HO515⟩, ⟨rom HO518⟩, ⟨bk BK462⟩, ⟨bk BK491⟩, ⟨bk BK505⟩, ⟨bk BK520⟩, ⟨be4 HB GE462 GE491 GE505 GE520⟩⟩
 case rest =>
  clear HC12
  try clear c1; try clear c2; try clear p2; try clear c3; try clear c4; try clear c4b0; try clear c5; try clear c6; try clear c8; try clear c16; try clear c19; try clear c21; try clear c25; try clear c29; try clear c30; try clear c34; try clear c35; try clear c43; try clear c44; try clear c45; try clear c51; try clear c52; try clear c53; try clear c54; try clear c56; try clear c57; try clear c60; try clear c61; try clear c62; try clear c64; try clear c65; try clear hcz14_0; try clear hcz16_0; try clear hcz26_0; try clear hcz30_0; try clear hcz36_0; try clear hcz46_0; try clear hcz55_0; try clear hcz58_0; try clear hcz63_0; try clear hcz66_0; try clear hcz6_0
  obtain ⟨kq, x44_11, rfl, HA, HJ11, HO_492000, HO_492002, HO_492003, HO_492004, HO_506000, HO_506002, HO_506003, HO_506004, HO_521000, HO_521002, HO_521003, HO_521004, BK462, BK491, BK505, BK520, HB⟩ := hcut
  cases kq with
  | zero => exact absurd HA.out (by simp [laws_FnExactLeave.j0])
  | succ kj11 =>
   have H := HA.out
   clear HA
   simp only [laws_FnExactLeave.j0] at H
   by_cases c68 : x44_11 = true
   ·subst c68
    rw [if_pos rfl] at H
    exact absurd ((Option.some.inj H).trans hrt_.out) (by decide)
   replace c68 := Bool.eq_false_iff.mpr c68
   subst c68
   rw [if_neg (show ¬ (false = true) by decide)] at H
   replace H := Option.bind_eq_some_iff.mp H
   obtain ⟨⟨t522, t525, t526, t529, t532⟩, A690, H⟩ := H
   try dsimp only at H
   have A69 := Aside0.mk A690
   clear A690
   replace H := Option.bind_eq_some_iff.mp H
   obtain ⟨t535, A700, H⟩ := H
   try dsimp only at H
   have A70 := Aside0.mk A700
   clear A700
   by_cases c71 : t535 = true
   ·subst c71
    rw [if_pos rfl] at H
    replace H := Option.bind_eq_some_iff.mp H
    obtain ⟨⟨t536, t537, t538, t539, t540⟩, A720, H⟩ := H
    try dsimp only at H
    have A72 := Aside0.mk A720
    clear A720
    have HC73 := Aside0.mk H
    clear H
    try go_wp2
    have n0_ := Aside0.mk (Kd.R_drew HO_492000.out)
    have n1_ := Aside0.mk (Kd.R_drew HO_492002.out)
    have n2_ := Aside0.mk (Kd.R_drew HO_492003.out)
    have n3_ := Aside0.mk (Kd.R_drew HO_492004.out)
    have n4_ := Aside0.mk (Kd.R_drew HO_506000.out)
    have n5_ := Aside0.mk (Kd.R_drew HO_506002.out)
    have n6_ := Aside0.mk (Kd.R_drew HO_506003.out)
    have n7_ := Aside0.mk (Kd.R_drew HO_506004.out)
    have n8_ := Aside0.mk (Kd.R_drew HO_521000.out)
    have n9_ := Aside0.mk (Kd.R_drew HO_521002.out)
    have n10_ := Aside0.mk (Kd.R_drew HO_521003.out)
    have n11_ := Aside0.mk (Kd.R_drew HO_521004.out)
    have n12_ := Aside0.mk (blk_drew BK462.out)
    have n13_ := Aside0.mk (blk_drew BK491.out)
    have n14_ := Aside0.mk (blk_drew BK505.out)
    have n15_ := Aside0.mk (blk_drew BK520.out)
    have n16_ := Aside0.mk (below_drew1 HB.out)
    clear HO_492000
    clear HO_492002
    clear HO_492003
    clear HO_492004
    clear HO_506000
    clear HO_506002
    clear HO_506003
    clear HO_506004
    clear HO_521000
    clear HO_521002
    clear HO_521003
    clear HO_521004
    clear BK462
    clear BK491
    clear BK505
    clear BK520
    clear HB
    have HO_492000 := n0_
    have HO_492002 := n1_
    have HO_492003 := n2_
    have HO_492004 := n3_
    have HO_506000 := n4_
    have HO_506002 := n5_
    have HO_506003 := n6_
    have HO_506004 := n7_
    have HO_521000 := n8_
    have HO_521002 := n9_
    have HO_521003 := n10_
    have HO_521004 := n11_
    have BK462 := n12_
    have BK491 := n13_
    have BK505 := n14_
    have BK520 := n15_
    have HB := n16_
    clear n0_ n1_ n2_ n3_ n4_ n5_ n6_ n7_ n8_ n9_ n10_ n11_ n12_ n13_ n14_ n15_ n16_
    refine start_ (n := 5) (S := fun w' => w'.cell? ⟨gb505, 0, none⟩ = some (.slice Ao33 t492.length co33) ∧ w'.cell? ⟨gb505, 1, none⟩ = some (.int .i64 t495) ∧ w'.cell? ⟨gb505, 2, none⟩ = some (.slice Ao37 t496.length co37) ∧ w'.cell? ⟨gb505, 3, none⟩ = some (.slice Ao38 t499.length co38) ∧ w'.cell? ⟨gb505, 4, none⟩ = some (.slice Ao39 t502.length co39) ∧ w'.cell? ⟨gb462, 0, none⟩ = some (.slice A0_0 l0_0.length c0_0) ∧ w'.cell? ⟨gb462, 1, none⟩ = some (.int .i64 a0_1) ∧ w'.cell? ⟨gb462, 2, none⟩ = some (.slice A0_2 l0_2.length c0_2) ∧ w'.cell? ⟨gb462, 3, none⟩ = some (.slice A0_3 l0_3.length c0_3) ∧ w'.cell? ⟨gb462, 4, none⟩ = some (.slice A0_4 l0_4.length c0_4)) (ds := []) (bv 5 0x0) (by kernel_rfl) rfl rfl ⟨bc0 BK505, bc1 BK505, bc2 BK505, bc3 BK505, bc4 BK505, bc0 BK462, bc1 BK462, bc2 BK462, bc3 BK462, bc4 BK462⟩ (fun hHeld => ?_)
    generalize wc.drew = w74 at HO_492000 HO_492002 HO_492003 HO_492004 HO_506000 HO_506002 HO_506003 HO_506004 HO_521000 HO_521002 HO_521003 HO_521004 BK462 BK491 BK505 BK520 HB hHeld ⊢
    refine take_ (i := 0) (N := some 45) (v := ?_) (a' := ?_) (bv 5 0x1) rfl rfl (by kernel_rfl) (fun _ _ _ h => h) (Or.inl ⟨by rfl, ?_⟩) hHeld ?_ ?_
    rotate_left
    ·rintro w' ⟨s0, s1, s2, s3, s4, s5, s6, s7, s8, s9⟩
     go_simp
     with_reducible rfl
    rotate_left
    ·simp only [aP]
     rfl
    refine take_ (i := 1) (N := some 46) (v := ?_) (a' := ?_) (bv 5 0x3) rfl rfl (by kernel_rfl) (fun _ _ _ h => h) (Or.inl ⟨by rfl, ?_⟩) hHeld ?_ ?_
    rotate_left
    ·rintro w' ⟨s0, s1, s2, s3, s4, s5, s6, s7, s8, s9⟩
     go_simp
     with_reducible rfl
    rotate_left
    ·simp only [aP]
     rfl
    refine one_ (i := 2) (N := some 47) (bv 5 0x7) rfl rfl (by kernel_rfl) (by decide) (fun K hK => ?_)
    refine goes_ Try.func21 (by kernel_rfl) rfl #[.agg #[.slice A0_0 l0_0.length c0_0, .int .i64 a0_1, .slice A0_2 l0_2.length c0_2, .slice A0_3 l0_3.length c0_3, .slice A0_4 l0_4.length c0_4]] (by rfl) rfl rfl ml ?_
    with_reducible refine (laws_toPool.calls kj11 _ _ l0_0 a0_1 _ _ l0_2 _ _ l0_3 _ _ l0_4 t522 t525 t526 t529 t532 _ ?side1 ?side2 ?side3 ?side4 ?side5 ?side6 ?side7 ?side8 A69.out).mono ?_
    (case side1 => exact cb HR0_0 HB)
    (case side2 => exact HC0_0.out)
    (case side3 => exact cb HR0_2 HB)
    (case side4 => exact HC0_2.out)
    (case side5 => exact cb HR0_3 HB)
    (case side6 => exact HC0_3.out)
    (case side7 => exact cb HR0_4 HB)
    (case side8 => exact HC0_4.out)
    rintro e w75 ⟨v523, v527, v530, v533, rfl, ho0, ho1, ho2, ho3, hb⟩
    refine ⟨_, rfl, ?_⟩
    have n0_ := td3 (ro HO_492000) hb ho0 ho1 ho3
    have n1_ := td3 (ro HO_492002) hb ho0 ho1 ho3
    have n2_ := Aside0.mk (Kd.R_elder' (ro HO_492003) (Kd.R_base ho2) hb)
    have n3_ := td3 (ro HO_492004) hb ho0 ho1 ho3
    have n4_ := td3 (ro HO_506000) hb ho0 ho1 ho3
    have n5_ := td3 (ro HO_506002) hb ho0 ho1 ho3
    have n6_ := Aside0.mk (Kd.R_elder' (ro HO_506003) (Kd.R_base ho2) hb)
    have n7_ := td3 (ro HO_506004) hb ho0 ho1 ho3
    have n8_ := td3 (ro HO_521000) hb ho0 ho1 ho3
    have n9_ := td3 (ro HO_521002) hb ho0 ho1 ho3
    have n10_ := Aside0.mk (Kd.R_elder' (ro HO_521003) (Kd.R_base ho2) hb)
    have n11_ := td3 (ro HO_521004) hb ho0 ho1 ho3
    have n12_ := Aside0.mk (Kd.R_lower (nw (nw (nw (nw (nw (nw (nw (nw (nw ho0 HO_492000) HO_492002) HO_492004) HO_506000) HO_506002) HO_506004) HO_521000) HO_521002) HO_521004) (below_size (be4 HB GE462 GE491 GE505 GE520)))
    have n13_ := Aside0.mk (Kd.R_lower (nw (nw (nw (nw (nw (nw (nw (nw (nw ho1 HO_492000) HO_492002) HO_492004) HO_506000) HO_506002) HO_506004) HO_521000) HO_521002) HO_521004) (below_size (be4 HB GE462 GE491 GE505 GE520)))
    have n14_ := Aside0.mk (Kd.R_lower (nw (nw (nw ho2 HO_492003) HO_506003) HO_521003) (below_size (be4 HB GE462 GE491 GE505 GE520)))
    have n15_ := Aside0.mk (Kd.R_lower (nw (nw (nw (nw (nw (nw (nw (nw (nw ho3 HO_492000) HO_492002) HO_492004) HO_506000) HO_506002) HO_506004) HO_521000) HO_521002) HO_521004) (below_size (be4 HB GE462 GE491 GE505 GE520)))
    have n16_ := bb BK462 hb
    have n17_ := bb BK491 hb
    have n18_ := bb BK505 hb
    have n19_ := bb BK520 hb
    have n20_ := Aside0.mk (below_step (be4 HB GE462 GE491 GE505 GE520) hb)
    clear HO_492000
    clear HO_492002
    clear HO_492003
    clear HO_492004
    clear HO_506000
    clear HO_506002
    clear HO_506003
    clear HO_506004
    clear HO_521000
    clear HO_521002
    clear HO_521003
    clear HO_521004
    clear BK462
    clear BK491
    clear BK505
    clear BK520
    clear HB
    have HO_492000 := n0_
    have HO_492002 := n1_
    have HO_492003 := n2_
    have HO_492004 := n3_
    have HO_506000 := n4_
    have HO_506002 := n5_
    have HO_506003 := n6_
    have HO_506004 := n7_
    have HO_521000 := n8_
    have HO_521002 := n9_
    have HO_521003 := n10_
    have HO_521004 := n11_
    have HO524 := n12_
    have HO528 := n13_
    have HO531 := n14_
    have HO534 := n15_
    have BK462 := n16_
    have BK491 := n17_
    have BK505 := n18_
    have BK520 := n19_
    have HB := n20_
    clear n0_ n1_ n2_ n3_ n4_ n5_ n6_ n7_ n8_ n9_ n10_ n11_ n12_ n13_ n14_ n15_ n16_ n17_ n18_ n19_ n20_
    (try clear hb)
    (try clear hb2)
    (try clear hk)
    (try clear hi)
    (try clear ho0)
    (try clear ho1)
    (try clear ho2)
    (try clear ho3)
    obtain ⟨Ao76, co76, eo76⟩ := Kd.R_slice HO524.out
    (first | subst eo76 | (injection eo76 with f1_ f2_ f3_; have f4_ := f1_.symm; have f5_ := f3_.symm; clear f1_ f2_ f3_; subst f4_; subst f5_))
    obtain ⟨Ao77, co77, eo77⟩ := Kd.R_slice HO528.out
    (first | subst eo77 | (injection eo77 with f1_ f2_ f3_; have f4_ := f1_.symm; have f5_ := f3_.symm; clear f1_ f2_ f3_; subst f4_; subst f5_))
    obtain ⟨Ao78, co78, eo78⟩ := Kd.R_slice HO531.out
    (first | subst eo78 | (injection eo78 with f1_ f2_ f3_; have f4_ := f1_.symm; have f5_ := f3_.symm; clear f1_ f2_ f3_; subst f4_; subst f5_))
    obtain ⟨Ao79, co79, eo79⟩ := Kd.R_slice HO534.out
    (first | subst eo79 | (injection eo79 with f1_ f2_ f3_; have f4_ := f1_.symm; have f5_ := f3_.symm; clear f1_ f2_ f3_; subst f4_; subst f5_))
    refine hK.out _ _ ⟨bc0 BK505, bc1 BK505, bc2 BK505, bc3 BK505, bc4 BK505, bc0 BK462, bc1 BK462, bc2 BK462, bc3 BK462, bc4 BK462⟩ (fun hHeld => ?_)
    clear hK K
    refine norm_ (a' := ?_) ?_ ?_
    rotate_left
    ·show Act.put _ (some 47) _ = _
     simp only [aP]
     rfl
    refine one_ (i := 3) (N := some 48) (bv 5 0xf) rfl rfl (by kernel_rfl) (by decide) (fun K hK => ?_)
    refine goes_ Try.func16 (by kernel_rfl) rfl #[.agg #[.slice Ao33 t492.length co33, .int .i64 t495, .slice Ao37 t496.length co37, .slice Ao38 t499.length co38, .slice Ao39 t502.length co39], .agg #[.slice Ao76 t522.length co76, .int .i64 t525, .slice Ao77 t526.length co77, .slice Ao78 t529.length co78, .slice Ao79 t532.length co79]] (by rfl) rfl rfl ml ?_
    with_reducible refine (laws_eqPool.calls kj11 _ _ t492 t495 _ _ t496 _ _ t499 _ _ t502 _ _ t522 t525 _ _ t526 _ _ t529 _ _ t532 true _ ?side1 ?side2 ?side3 ?side4 ?side5 ?side6 ?side7 ?side8 ?side9 ?side10 ?side11 ?side12 ?side13 ?side14 ?side15 ?side16 A70.out).mono ?_
    (case side1 => exact cr HO_506000)
    (case side2 => exact (Kd.R_reads' HO_506000.out).2.1)
    (case side3 => exact cr HO_506002)
    (case side4 => exact (Kd.R_reads' HO_506002.out).2.1)
    (case side5 => exact cr HO_506003)
    (case side6 => exact (Kd.R_reads' HO_506003.out).2.1)
    (case side7 => exact cr HO_506004)
    (case side8 => exact (Kd.R_reads' HO_506004.out).2.1)
    (case side9 => exact cr HO524)
    (case side10 => exact (Kd.R_reads' HO524.out).2.1)
    (case side11 => exact cr HO528)
    (case side12 => exact (Kd.R_reads' HO528.out).2.1)
    (case side13 => exact cr HO531)
    (case side14 => exact (Kd.R_reads' HO531.out).2.1)
    (case side15 => exact cr HO534)
    (case side16 => exact (Kd.R_reads' HO534.out).2.1)
    rintro e w80 ⟨rfl, hb⟩
    refine ⟨_, rfl, ?_⟩
    have n0_ := rb HO_492000 hb
    have n1_ := rb HO_492002 hb
    have n2_ := rb HO_492003 hb
    have n3_ := rb HO_492004 hb
    have n4_ := rb HO_506000 hb
    have n5_ := rb HO_506002 hb
    have n6_ := rb HO_506003 hb
    have n7_ := rb HO_506004 hb
    have n8_ := rb HO_521000 hb
    have n9_ := rb HO_521002 hb
    have n10_ := rb HO_521003 hb
    have n11_ := rb HO_521004 hb
    have n12_ := rb HO524 hb
    have n13_ := rb HO528 hb
    have n14_ := rb HO531 hb
    have n15_ := rb HO534 hb
    have n16_ := bb BK462 hb
    have n17_ := bb BK491 hb
    have n18_ := bb BK505 hb
    have n19_ := bb BK520 hb
    have n20_ := Aside0.mk (below_step (be4 HB GE462 GE491 GE505 GE520) hb)
    clear HO_492000
    clear HO_492002
    clear HO_492003
    clear HO_492004
    clear HO_506000
    clear HO_506002
    clear HO_506003
    clear HO_506004
    clear HO_521000
    clear HO_521002
    clear HO_521003
    clear HO_521004
    clear HO524
    clear HO528
    clear HO531
    clear HO534
    clear BK462
    clear BK491
    clear BK505
    clear BK520
    clear HB
    have HO_492000 := n0_
    have HO_492002 := n1_
    have HO_492003 := n2_
    have HO_492004 := n3_
    have HO_506000 := n4_
    have HO_506002 := n5_
    have HO_506003 := n6_
    have HO_506004 := n7_
    have HO_521000 := n8_
    have HO_521002 := n9_
    have HO_521003 := n10_
    have HO_521004 := n11_
    have HO524 := n12_
    have HO528 := n13_
    have HO531 := n14_
    have HO534 := n15_
    have BK462 := n16_
    have BK491 := n17_
    have BK505 := n18_
    have BK520 := n19_
    have HB := n20_
    clear n0_ n1_ n2_ n3_ n4_ n5_ n6_ n7_ n8_ n9_ n10_ n11_ n12_ n13_ n14_ n15_ n16_ n17_ n18_ n19_ n20_
    (try clear hb)
    (try clear hb2)
    (try clear hk)
    (try clear hi)
    refine hK.out _ _ ⟨bc0 BK505, bc1 BK505, bc2 BK505, bc3 BK505, bc4 BK505, bc0 BK462, bc1 BK462, bc2 BK462, bc3 BK462, bc4 BK462⟩ (fun hHeld => ?_)
    clear hK K
    refine norm_ (a' := ?_) ?_ ?_
    rotate_left
    ·show Act.put _ (some 48) _ = _
     simp only [aP]
     rfl
    refine pure_ (i := 4) (N := some 49) (v := ?_) (a' := ?_) (bv 5 0x1f) rfl rfl (by kernel_rfl) (fun _ _ _ h => h) (Or.inl ⟨by rfl, ?_⟩) ?_ ?_
    rotate_left
    ·intro w'
     go_simp
     with_reducible rfl
    rotate_left
    ·simp only [aP]
     rfl
    refine done_ (by kernel_rfl) ?_
    have hnb81 := NB505_462.out
    have hnc81 := NB462_505.out
    have hnb82 := NB505_491.out
    have hnc82 := NB491_505.out
    have hnb83 := NB505_520.out
    have hnc83 := NB520_505.out
    have hcz84_0 := bz5 BK505
    go_upto_region 14 with (first | ((with_reducible refine gate_callee (f := 17) rfl ?_); refine gl 52 Try.func17 #[.agg #[.slice Ao33 t492.length co33, .int .i64 t495, .slice Ao37 t496.length co37, .slice Ao38 t499.length co38, .slice Ao39 t502.length co39], .int .i64 1] ?_; (with_reducible refine (laws_markPool.calls kj11 (fun k_ => some k_ = (.slice Ao33 t492.length co33 : Value).ownBlock) (.slice Ao33 t492.length co33) t492 t495 (fun k_ => some k_ = (.slice Ao37 t496.length co37 : Value).ownBlock) (.slice Ao37 t496.length co37) t496 (fun k_ => some k_ = (.slice Ao38 t499.length co38 : Value).ownBlock) (.slice Ao38 t499.length co38) t499 (fun k_ => some k_ = (.slice Ao39 t502.length co39 : Value).ownBlock) (.slice Ao39 t502.length co39) t502 1 t536 t537 t538 t539 t540 w _ ?side1 ?side2 ?side3 ?side4 ?side5 ?side6 ?side7 ?side8 ?side9 ?side10 ?side11 A72.out).mono ?_); (case side1 => repeat (first | (with_reducible first | exact HB.out | apply below_alloc | apply pw_below_drewN | apply below_drew1 | refine below_set ?_ GE462.out | refine below_set ?_ GE491.out | refine below_set ?_ GE505.out | refine below_set ?_ GE520.out) | exact HB.out)); (case side2 => exact Kd.R_tight rfl HO_506000.out); (case side3 => exact fun k_ e_ => (HO_506000.out.1 k_ e_.symm).1.1.1.2.2.2.1); (case side4 => exact fun k_ e_ => (HO_506000.out.1 k_ e_.symm).1.1.1.2.2.2.2.1); (case side5 => exact Kd.R_tight rfl HO_506002.out); (case side6 => exact fun k_ e_ => (HO_506002.out.1 k_ e_.symm).1.1.1.2.2.2.1); (case side7 => exact fun k_ e_ => (HO_506002.out.1 k_ e_.symm).1.1.1.2.2.2.2.1); (case side8 => exact Kd.R_tight rfl HO_506003.out); (case side9 => exact Kd.R_tight rfl HO_506004.out); (case side10 => exact fun k_ e_ => (HO_506004.out.1 k_ e_.symm).1.1.1.2.2.2.1); (case side11 => exact fun k_ e_ => (HO_506004.out.1 k_ e_.symm).1.1.1.2.2.2.2.1); rintro e w85 ⟨rfl, hy0, hy1, hy2, hy3, hb, hkp⟩; refine ⟨_, rfl, ?_⟩; replace HO_492000 := Aside0.mk (Kd.R_mono (ok' := fun k_ => nb k_ Ao27 t481.length co27 ∧ nb k_ Ao29 t487.length co29 ∧ nb k_ Ao33 t492.length co33 ∧ nb k_ Ao37 t496.length co37 ∧ nb k_ Ao39 t502.length co39 ∧ nb k_ Ao42 t506.length co42 ∧ nb k_ Ao47 t510.length co47 ∧ nb k_ Ao49 t516.length co49 ∧ nb k_ Ao76 t522.length co76 ∧ nb k_ Ao77 t526.length co77 ∧ nb k_ Ao79 t532.length co79) (Kd.R_keptB ((Kd.R_apart' HO_492000.out (Kd.R_typed HO_506003.out) (by decide))) hkp (fun k_ hk_ hs_ => Or.elim hs_ (fun e_ => (hk_.1.1.1.1.2.2.1) e_) (fun e_ => Or.elim e_ (fun e_ => (hk_.1.1.1.1.2.2.2.1) e_) (fun e_ => Or.elim e_ (fun e_ => (hk_.2) e_) (fun e_ => (hk_.1.1.1.1.2.2.2.2.1) e_))))) cj); replace HO_492002 := Aside0.mk (Kd.R_mono (ok' := fun k_ => nb k_ Ao24 t477.length co24 ∧ nb k_ Ao29 t487.length co29 ∧ nb k_ Ao33 t492.length co33 ∧ nb k_ Ao37 t496.length co37 ∧ nb k_ Ao39 t502.length co39 ∧ nb k_ Ao42 t506.length co42 ∧ nb k_ Ao47 t510.length co47 ∧ nb k_ Ao49 t516.length co49 ∧ nb k_ Ao76 t522.length co76 ∧ nb k_ Ao77 t526.length co77 ∧ nb k_ Ao79 t532.length co79) (Kd.R_keptB ((Kd.R_apart' HO_492002.out (Kd.R_typed HO_506003.out) (by decide))) hkp (fun k_ hk_ hs_ => Or.elim hs_ (fun e_ => (hk_.1.1.1.1.2.2.1) e_) (fun e_ => Or.elim e_ (fun e_ => (hk_.1.1.1.1.2.2.2.1) e_) (fun e_ => Or.elim e_ (fun e_ => (hk_.2) e_) (fun e_ => (hk_.1.1.1.1.2.2.2.2.1) e_))))) cj); replace HO_492003 := Aside0.mk (Kd.R_mono (ok' := fun k_ => nb k_ Ao38 t499.length co38 ∧ nb k_ Ao48 t513.length co48 ∧ nb k_ Ao78 t529.length co78) (Kd.R_keptB ((Kd.R_apart' (Kd.R_apart' (Kd.R_apart' HO_492003.out (Kd.R_typed HO_506000.out) (by decide)) (Kd.R_typed HO_506002.out) (by decide)) (Kd.R_typed HO_506004.out) (by decide))) hkp (fun k_ hk_ hs_ => Or.elim hs_ (fun e_ => (hk_.1.1.2) e_) (fun e_ => Or.elim e_ (fun e_ => (hk_.1.2) e_) (fun e_ => Or.elim e_ (fun e_ => (hk_.1.1.1.1.1) e_) (fun e_ => (hk_.2) e_))))) cj); replace HO_492004 := Aside0.mk (Kd.R_mono (ok' := fun k_ => nb k_ Ao24 t477.length co24 ∧ nb k_ Ao27 t481.length co27 ∧ nb k_ Ao33 t492.length co33 ∧ nb k_ Ao37 t496.length co37 ∧ nb k_ Ao39 t502.length co39 ∧ nb k_ Ao42 t506.length co42 ∧ nb k_ Ao47 t510.length co47 ∧ nb k_ Ao49 t516.length co49 ∧ nb k_ Ao76 t522.length co76 ∧ nb k_ Ao77 t526.length co77 ∧ nb k_ Ao79 t532.length co79) (Kd.R_keptB ((Kd.R_apart' HO_492004.out (Kd.R_typed HO_506003.out) (by decide))) hkp (fun k_ hk_ hs_ => Or.elim hs_ (fun e_ => (hk_.1.1.1.1.2.2.1) e_) (fun e_ => Or.elim e_ (fun e_ => (hk_.1.1.1.1.2.2.2.1) e_) (fun e_ => Or.elim e_ (fun e_ => (hk_.2) e_) (fun e_ => (hk_.1.1.1.1.2.2.2.2.1) e_))))) cj); replace HO_521000 := Aside0.mk (Kd.R_mono (ok' := fun k_ => nb k_ Ao24 t477.length co24 ∧ nb k_ Ao27 t481.length co27 ∧ nb k_ Ao29 t487.length co29 ∧ nb k_ Ao33 t492.length co33 ∧ nb k_ Ao37 t496.length co37 ∧ nb k_ Ao39 t502.length co39 ∧ nb k_ Ao47 t510.length co47 ∧ nb k_ Ao49 t516.length co49 ∧ nb k_ Ao76 t522.length co76 ∧ nb k_ Ao77 t526.length co77 ∧ nb k_ Ao79 t532.length co79) (Kd.R_keptB ((Kd.R_apart' HO_521000.out (Kd.R_typed HO_506003.out) (by decide))) hkp (fun k_ hk_ hs_ => Or.elim hs_ (fun e_ => (hk_.1.1.1.1.2.2.2.1) e_) (fun e_ => Or.elim e_ (fun e_ => (hk_.1.1.1.1.2.2.2.2.1) e_) (fun e_ => Or.elim e_ (fun e_ => (hk_.2) e_) (fun e_ => (hk_.1.1.1.1.2.2.2.2.2.1) e_))))) cj); replace HO_521002 := Aside0.mk (Kd.R_mono (ok' := fun k_ => nb k_ Ao24 t477.length co24 ∧ nb k_ Ao27 t481.length co27 ∧ nb k_ Ao29 t487.length co29 ∧ nb k_ Ao33 t492.length co33 ∧ nb k_ Ao37 t496.length co37 ∧ nb k_ Ao39 t502.length co39 ∧ nb k_ Ao42 t506.length co42 ∧ nb k_ Ao49 t516.length co49 ∧ nb k_ Ao76 t522.length co76 ∧ nb k_ Ao77 t526.length co77 ∧ nb k_ Ao79 t532.length co79) (Kd.R_keptB ((Kd.R_apart' HO_521002.out (Kd.R_typed HO_506003.out) (by decide))) hkp (fun k_ hk_ hs_ => Or.elim hs_ (fun e_ => (hk_.1.1.1.1.2.2.2.1) e_) (fun e_ => Or.elim e_ (fun e_ => (hk_.1.1.1.1.2.2.2.2.1) e_) (fun e_ => Or.elim e_ (fun e_ => (hk_.2) e_) (fun e_ => (hk_.1.1.1.1.2.2.2.2.2.1) e_))))) cj); replace HO_521003 := Aside0.mk (Kd.R_mono (ok' := fun k_ => nb k_ Ao28 t484.length co28 ∧ nb k_ Ao38 t499.length co38 ∧ nb k_ Ao78 t529.length co78) (Kd.R_keptB ((Kd.R_apart' (Kd.R_apart' (Kd.R_apart' HO_521003.out (Kd.R_typed HO_506000.out) (by decide)) (Kd.R_typed HO_506002.out) (by decide)) (Kd.R_typed HO_506004.out) (by decide))) hkp (fun k_ hk_ hs_ => Or.elim hs_ (fun e_ => (hk_.1.1.2) e_) (fun e_ => Or.elim e_ (fun e_ => (hk_.1.2) e_) (fun e_ => Or.elim e_ (fun e_ => (hk_.1.1.1.1.2) e_) (fun e_ => (hk_.2) e_))))) cj); replace HO_521004 := Aside0.mk (Kd.R_mono (ok' := fun k_ => nb k_ Ao24 t477.length co24 ∧ nb k_ Ao27 t481.length co27 ∧ nb k_ Ao29 t487.length co29 ∧ nb k_ Ao33 t492.length co33 ∧ nb k_ Ao37 t496.length co37 ∧ nb k_ Ao39 t502.length co39 ∧ nb k_ Ao42 t506.length co42 ∧ nb k_ Ao47 t510.length co47 ∧ nb k_ Ao76 t522.length co76 ∧ nb k_ Ao77 t526.length co77 ∧ nb k_ Ao79 t532.length co79) (Kd.R_keptB ((Kd.R_apart' HO_521004.out (Kd.R_typed HO_506003.out) (by decide))) hkp (fun k_ hk_ hs_ => Or.elim hs_ (fun e_ => (hk_.1.1.1.1.2.2.2.1) e_) (fun e_ => Or.elim e_ (fun e_ => (hk_.1.1.1.1.2.2.2.2.1) e_) (fun e_ => Or.elim e_ (fun e_ => (hk_.2) e_) (fun e_ => (hk_.1.1.1.1.2.2.2.2.2.1) e_))))) cj); replace BK462 := Aside0.mk (blk_kept (bk BK462) hkp (fun hs_ => Or.elim hs_ (fun e_ => (fun e_ => (Kd.R_ne HO_506000.out BK462.out (by decide)) e_) e_) (fun e_ => Or.elim e_ (fun e_ => (fun e_ => (Kd.R_ne HO_506002.out BK462.out (by decide)) e_) e_) (fun e_ => Or.elim e_ (fun e_ => (fun e_ => (Kd.R_ne HO_506003.out BK462.out (by decide)) e_) e_) (fun e_ => (fun e_ => (Kd.R_ne HO_506004.out BK462.out (by decide)) e_) e_))))); replace BK491 := Aside0.mk (blk_kept (bk BK491) hkp (fun hs_ => Or.elim hs_ (fun e_ => (fun e_ => (Kd.R_ne HO_506000.out BK491.out (by decide)) e_) e_) (fun e_ => Or.elim e_ (fun e_ => (fun e_ => (Kd.R_ne HO_506002.out BK491.out (by decide)) e_) e_) (fun e_ => Or.elim e_ (fun e_ => (fun e_ => (Kd.R_ne HO_506003.out BK491.out (by decide)) e_) e_) (fun e_ => (fun e_ => (Kd.R_ne HO_506004.out BK491.out (by decide)) e_) e_))))); replace BK505 := Aside0.mk (blk_kept (bk BK505) hkp (fun hs_ => Or.elim hs_ (fun e_ => (fun e_ => (Kd.R_ne HO_506000.out BK505.out (by decide)) e_) e_) (fun e_ => Or.elim e_ (fun e_ => (fun e_ => (Kd.R_ne HO_506002.out BK505.out (by decide)) e_) e_) (fun e_ => Or.elim e_ (fun e_ => (fun e_ => (Kd.R_ne HO_506003.out BK505.out (by decide)) e_) e_) (fun e_ => (fun e_ => (Kd.R_ne HO_506004.out BK505.out (by decide)) e_) e_))))); replace BK520 := Aside0.mk (blk_kept (bk BK520) hkp (fun hs_ => Or.elim hs_ (fun e_ => (fun e_ => (Kd.R_ne HO_506000.out BK520.out (by decide)) e_) e_) (fun e_ => Or.elim e_ (fun e_ => (fun e_ => (Kd.R_ne HO_506002.out BK520.out (by decide)) e_) e_) (fun e_ => Or.elim e_ (fun e_ => (fun e_ => (Kd.R_ne HO_506003.out BK520.out (by decide)) e_) e_) (fun e_ => (fun e_ => (Kd.R_ne HO_506004.out BK520.out (by decide)) e_) e_))))); replace HO524 := Aside0.mk (Kd.R_mono (ok' := fun k_ => nb k_ Ao24 t477.length co24 ∧ nb k_ Ao27 t481.length co27 ∧ nb k_ Ao29 t487.length co29 ∧ nb k_ Ao33 t492.length co33 ∧ nb k_ Ao37 t496.length co37 ∧ nb k_ Ao39 t502.length co39 ∧ nb k_ Ao42 t506.length co42 ∧ nb k_ Ao47 t510.length co47 ∧ nb k_ Ao49 t516.length co49 ∧ nb k_ Ao77 t526.length co77 ∧ nb k_ Ao79 t532.length co79) (Kd.R_keptB ((Kd.R_apart' HO524.out (Kd.R_typed HO_506003.out) (by decide))) hkp (fun k_ hk_ hs_ => Or.elim hs_ (fun e_ => (hk_.1.1.1.1.1.1.2) e_) (fun e_ => Or.elim e_ (fun e_ => (hk_.1.1.1.1.1.2) e_) (fun e_ => Or.elim e_ (fun e_ => (hk_.2) e_) (fun e_ => (hk_.1.1.1.1.2) e_))))) cj); replace HO528 := Aside0.mk (Kd.R_mono (ok' := fun k_ => nb k_ Ao24 t477.length co24 ∧ nb k_ Ao27 t481.length co27 ∧ nb k_ Ao29 t487.length co29 ∧ nb k_ Ao33 t492.length co33 ∧ nb k_ Ao37 t496.length co37 ∧ nb k_ Ao39 t502.length co39 ∧ nb k_ Ao42 t506.length co42 ∧ nb k_ Ao47 t510.length co47 ∧ nb k_ Ao49 t516.length co49 ∧ nb k_ Ao76 t522.length co76 ∧ nb k_ Ao79 t532.length co79) (Kd.R_keptB ((Kd.R_apart' HO528.out (Kd.R_typed HO_506003.out) (by decide))) hkp (fun k_ hk_ hs_ => Or.elim hs_ (fun e_ => (hk_.1.1.1.1.1.1.2) e_) (fun e_ => Or.elim e_ (fun e_ => (hk_.1.1.1.1.1.2) e_) (fun e_ => Or.elim e_ (fun e_ => (hk_.2) e_) (fun e_ => (hk_.1.1.1.1.2) e_))))) cj); replace HO531 := Aside0.mk (Kd.R_mono (ok' := fun k_ => nb k_ Ao28 t484.length co28 ∧ nb k_ Ao38 t499.length co38 ∧ nb k_ Ao48 t513.length co48) (Kd.R_keptB ((Kd.R_apart' (Kd.R_apart' (Kd.R_apart' HO531.out (Kd.R_typed HO_506000.out) (by decide)) (Kd.R_typed HO_506002.out) (by decide)) (Kd.R_typed HO_506004.out) (by decide))) hkp (fun k_ hk_ hs_ => Or.elim hs_ (fun e_ => (hk_.1.1.2) e_) (fun e_ => Or.elim e_ (fun e_ => (hk_.1.2) e_) (fun e_ => Or.elim e_ (fun e_ => (hk_.1.1.1.1.2) e_) (fun e_ => (hk_.2) e_))))) cj); replace HO_506000 := Aside0.mk (Kd.R_reok rfl hy0 (fun k_ e_ => HO_506000.out.1 k_ e_)); replace HO_506002 := Aside0.mk (Kd.R_reok rfl hy1 (fun k_ e_ => HO_506002.out.1 k_ e_)); replace HO_506004 := Aside0.mk (Kd.R_reok rfl hy3 (fun k_ e_ => HO_506004.out.1 k_ e_)); replace HO534 := Aside0.mk (Kd.R_mono (ok' := fun k_ => nb k_ Ao24 t477.length co24 ∧ nb k_ Ao27 t481.length co27 ∧ nb k_ Ao29 t487.length co29 ∧ nb k_ Ao33 t492.length co33 ∧ nb k_ Ao37 t496.length co37 ∧ nb k_ Ao39 t502.length co39 ∧ nb k_ Ao42 t506.length co42 ∧ nb k_ Ao47 t510.length co47 ∧ nb k_ Ao49 t516.length co49 ∧ nb k_ Ao76 t522.length co76 ∧ nb k_ Ao77 t526.length co77) (Kd.R_keptB ((Kd.R_apart' HO534.out (Kd.R_typed HO_506003.out) (by decide))) hkp (fun k_ hk_ hs_ => Or.elim hs_ (fun e_ => (hk_.1.1.1.1.1.1.2) e_) (fun e_ => Or.elim e_ (fun e_ => (hk_.1.1.1.1.1.2) e_) (fun e_ => Or.elim e_ (fun e_ => (hk_.2) e_) (fun e_ => (hk_.1.1.1.1.2) e_))))) cj); replace HO_506003 := Aside0.mk (Kd.R_reok rfl hy2 (fun k_ e_ => HO_506003.out.1 k_ e_)); replace HB := Aside0.mk (hb); (try clear hb); (try clear hkp); (try clear hy0); (try clear hy1); (try clear hy2); (try clear hy3)))
    (try simp only [Act.put, List.setIfInBounds_toArray, List.set_cons_zero, List.set_cons_succ])
    go_cut [65] (fun v65 wc => ∃ (kq : Nat) (x65_72 : Bool), v65 = .bool x65_72 ∧ Aside0 (laws_FnExactLeave.j1 kq a1 t490 x65_72 l0_0 a0_1 l0_2 l0_3 l0_4 t477 t480 t481 t484 t487 t506 t509 t510 t513 t516 = some r) ∧ Aside0 (kq ≤ kj11) ∧ Aside0 (Kd.R (Kd.int .i64) 3 wc w.heap.size (fun k_ => nb k_ Ao27 t481.length co27 ∧ nb k_ Ao29 t487.length co29 ∧ nb k_ Ao33 t492.length co33 ∧ nb k_ Ao37 t496.length co37 ∧ nb k_ Ao39 t502.length co39 ∧ nb k_ Ao42 t506.length co42 ∧ nb k_ Ao47 t510.length co47 ∧ nb k_ Ao49 t516.length co49) (.slice Ao24 t477.length co24) t477) ∧ Aside0 (Kd.R (Kd.int .i64) 3 wc w.heap.size (fun k_ => nb k_ Ao24 t477.length co24 ∧ nb k_ Ao29 t487.length co29 ∧ nb k_ Ao33 t492.length co33 ∧ nb k_ Ao37 t496.length co37 ∧ nb k_ Ao39 t502.length co39 ∧ nb k_ Ao42 t506.length co42 ∧ nb k_ Ao47 t510.length co47 ∧ nb k_ Ao49 t516.length co49) (.slice Ao27 t481.length co27) t481) ∧ Aside0 (Kd.R k70 70 wc w.heap.size (fun k_ => nb k_ Ao38 t499.length co38 ∧ nb k_ Ao48 t513.length co48) (.slice Ao28 t484.length co28) t484) ∧ Aside0 (Kd.R (Kd.int .i64) 3 wc w.heap.size (fun k_ => nb k_ Ao24 t477.length co24 ∧ nb k_ Ao27 t481.length co27 ∧ nb k_ Ao33 t492.length co33 ∧ nb k_ Ao37 t496.length co37 ∧ nb k_ Ao39 t502.length co39 ∧ nb k_ Ao42 t506.length co42 ∧ nb k_ Ao47 t510.length co47 ∧ nb k_ Ao49 t516.length co49) (.slice Ao29 t487.length co29) t487) ∧ Aside0 (Kd.R (Kd.int .i64) 3 wc w.heap.size (fun k_ => nb k_ Ao24 t477.length co24 ∧ nb k_ Ao27 t481.length co27 ∧ nb k_ Ao29 t487.length co29 ∧ nb k_ Ao37 t496.length co37 ∧ nb k_ Ao39 t502.length co39 ∧ nb k_ Ao42 t506.length co42 ∧ nb k_ Ao47 t510.length co47 ∧ nb k_ Ao49 t516.length co49) (.slice Ao33 t492.length co33) t537) ∧ Aside0 (Kd.R (Kd.int .i64) 3 wc w.heap.size (fun k_ => nb k_ Ao24 t477.length co24 ∧ nb k_ Ao27 t481.length co27 ∧ nb k_ Ao29 t487.length co29 ∧ nb k_ Ao33 t492.length co33 ∧ nb k_ Ao39 t502.length co39 ∧ nb k_ Ao42 t506.length co42 ∧ nb k_ Ao47 t510.length co47 ∧ nb k_ Ao49 t516.length co49) (.slice Ao37 t496.length co37) t538) ∧ Aside0 (Kd.R k70 70 wc w.heap.size (fun k_ => nb k_ Ao28 t484.length co28 ∧ nb k_ Ao48 t513.length co48) (.slice Ao38 t499.length co38) t539) ∧ Aside0 (Kd.R (Kd.int .i64) 3 wc w.heap.size (fun k_ => nb k_ Ao24 t477.length co24 ∧ nb k_ Ao27 t481.length co27 ∧ nb k_ Ao29 t487.length co29 ∧ nb k_ Ao33 t492.length co33 ∧ nb k_ Ao37 t496.length co37 ∧ nb k_ Ao42 t506.length co42 ∧ nb k_ Ao47 t510.length co47 ∧ nb k_ Ao49 t516.length co49) (.slice Ao39 t502.length co39) t540) ∧ Aside0 (Kd.R (Kd.int .i64) 3 wc w.heap.size (fun k_ => nb k_ Ao24 t477.length co24 ∧ nb k_ Ao27 t481.length co27 ∧ nb k_ Ao29 t487.length co29 ∧ nb k_ Ao33 t492.length co33 ∧ nb k_ Ao37 t496.length co37 ∧ nb k_ Ao39 t502.length co39 ∧ nb k_ Ao47 t510.length co47 ∧ nb k_ Ao49 t516.length co49) (.slice Ao42 t506.length co42) t506) ∧ Aside0 (Kd.R (Kd.int .i64) 3 wc w.heap.size (fun k_ => nb k_ Ao24 t477.length co24 ∧ nb k_ Ao27 t481.length co27 ∧ nb k_ Ao29 t487.length co29 ∧ nb k_ Ao33 t492.length co33 ∧ nb k_ Ao37 t496.length co37 ∧ nb k_ Ao39 t502.length co39 ∧ nb k_ Ao42 t506.length co42 ∧ nb k_ Ao49 t516.length co49) (.slice Ao47 t510.length co47) t510) ∧ Aside0 (Kd.R k70 70 wc w.heap.size (fun k_ => nb k_ Ao28 t484.length co28 ∧ nb k_ Ao38 t499.length co38) (.slice Ao48 t513.length co48) t513) ∧ Aside0 (Kd.R (Kd.int .i64) 3 wc w.heap.size (fun k_ => nb k_ Ao24 t477.length co24 ∧ nb k_ Ao27 t481.length co27 ∧ nb k_ Ao29 t487.length co29 ∧ nb k_ Ao33 t492.length co33 ∧ nb k_ Ao37 t496.length co37 ∧ nb k_ Ao39 t502.length co39 ∧ nb k_ Ao42 t506.length co42 ∧ nb k_ Ao47 t510.length co47) (.slice Ao49 t516.length co49) t516) ∧ Aside0 (wc.heap[gb462]? = some (.cells #[(.slice A0_0 l0_0.length c0_0), .int .i64 a0_1, (.slice A0_2 l0_2.length c0_2), (.slice A0_3 l0_3.length c0_3), (.slice A0_4 l0_4.length c0_4)] 37 (0, 0))) ∧ Aside0 (wc.heap[gb491]? = some (.cells #[(.slice Ao24 t477.length co24), .int .i64 t480, (.slice Ao27 t481.length co27), (.slice Ao28 t484.length co28), (.slice Ao29 t487.length co29)] 27 (0, 0))) ∧ Aside0 (wc.heap[gb505]? = some (.cells #[(.slice Ao33 t492.length co33), .int .i64 t495, (.slice Ao37 t496.length co37), (.slice Ao38 t499.length co38), (.slice Ao39 t502.length co39)] 27 (0, 0))) ∧ Aside0 (wc.heap[gb520]? = some (.cells #[(.slice Ao42 t506.length co42), .int .i64 t509, (.slice Ao47 t510.length co47), (.slice Ao48 t513.length co48), (.slice Ao49 t516.length co49)] 27 (0, 0))) ∧ Aside0 (Below w.heap.size w wc))
    case first =>
     have H := HC73.out
     clear HC73
     by_cases c86 : t536 < 0
     ·rw [if_pos c86] at H
      have c86b0 : decide (t536 < 0) = true := decide_eq_true c86
      clear c86
      (first | rw [c86b0] | (simp only [i64_w, i32_w]; rw [c86b0]) | skip)
      have H' := Aside0.mk H
      clear H
      go_wp2
      go_meet
      case rel => exact ⟨_, (true), rs, H', ⟨by have := HJ11.out; first | omega | exact Nat.le_refl _⟩, ⟨rom HO_492000⟩, ⟨rom HO_492002⟩, ⟨rom HO_492003⟩, ⟨rom HO_492004⟩, ⟨rom HO_506000⟩, ⟨rom HO_506002⟩, ⟨rom HO_506003⟩, ⟨rom HO_506004⟩, ⟨rom HO_521000⟩, ⟨rom HO_521002⟩, ⟨rom HO_521003⟩, ⟨rom HO_521004⟩, ⟨bk BK462⟩, ⟨bk BK491⟩, ⟨bk BK505⟩, ⟨bk BK520⟩, ⟨be4 HB GE462 GE491 GE505 GE520⟩⟩
     rw [if_neg c86] at H
     have c86b0 : decide (t536 < 0) = false := decide_eq_false c86
     clear c86
     (first | rw [c86b0] | (simp only [i64_w, i32_w]; rw [c86b0]) | skip)
     replace H := Option.bind_eq_some_iff.mp H
     obtain ⟨t541, A870, H⟩ := H
     try dsimp only at H
     have A87 := Aside0.mk A870
     clear A870
     by_cases c88 : t541 = true
     ·subst c88
      rw [if_pos rfl] at H
      have H' := Aside0.mk H
      clear H
      have hnb89 := NB520_462.out
      have hnc89 := NB462_520.out
      have hnb90 := NB520_491.out
      have hnc90 := NB491_520.out
      have hnb91 := NB520_505.out
      have hnc91 := NB505_520.out
      have hcz92_0 := bz5 BK520
      have hnb93 := NB491_462.out
      have hnc93 := NB462_491.out
      have hnb94 := NB491_505.out
      have hnc94 := NB505_491.out
      have hcz95_0 := bz5 BK491
      go_wp2_with (first | (go_at_call 16; (with_reducible refine (laws_eqPool.calls kj11 _ _ t506 t509 _ _ t510 _ _ t513 _ _ t516 _ _ t477 t480 _ _ t481 _ _ t484 _ _ t487 true _ (cr HO_521000) ((Kd.R_reads' HO_521000.out).2.1) (cr HO_521002) ((Kd.R_reads' HO_521002.out).2.1) (cr HO_521003) ((Kd.R_reads' HO_521003.out).2.1) (cr HO_521004) ((Kd.R_reads' HO_521004.out).2.1) (cr HO_492000) ((Kd.R_reads' HO_492000.out).2.1) (cr HO_492002) ((Kd.R_reads' HO_492002.out).2.1) (cr HO_492003) ((Kd.R_reads' HO_492003.out).2.1) (cr HO_492004) ((Kd.R_reads' HO_492004.out).2.1) A87.out).mono ?_); rintro e w96 ⟨rfl, hb⟩; replace HO_492000 := rb HO_492000 hb; replace HO_492002 := rb HO_492002 hb; replace HO_492003 := rb HO_492003 hb; replace HO_492004 := rb HO_492004 hb; replace HO_506000 := rb HO_506000 hb; replace HO_506002 := rb HO_506002 hb; replace HO_506003 := rb HO_506003 hb; replace HO_506004 := rb HO_506004 hb; replace HO_521000 := rb HO_521000 hb; replace HO_521002 := rb HO_521002 hb; replace HO_521003 := rb HO_521003 hb; replace HO_521004 := rb HO_521004 hb; replace HO524 := rb HO524 hb; replace HO528 := rb HO528 hb; replace HO531 := rb HO531 hb; replace HO534 := rb HO534 hb; replace BK462 := bb BK462 hb; replace BK491 := bb BK491 hb; replace BK505 := bb BK505 hb; replace BK520 := bb BK520 hb; replace HB := Aside0.mk (below_step (be4 HB GE462 GE491 GE505 GE520) hb); (try clear hb)))
      go_meet
      case rel => exact ⟨_, ((t519 != t490)), rs, H', ⟨by have := HJ11.out; first | omega | exact Nat.le_refl _⟩, ⟨rom HO_492000⟩, ⟨rom HO_492002⟩, ⟨rom HO_492003⟩, ⟨rom HO_492004⟩, ⟨rom HO_506000⟩, ⟨rom HO_506002⟩, ⟨rom HO_506003⟩, ⟨rom HO_506004⟩, ⟨rom HO_521000⟩, ⟨rom HO_521002⟩, ⟨rom HO_521003⟩, ⟨rom HO_521004⟩, ⟨bk BK462⟩, ⟨bk BK491⟩, ⟨bk BK505⟩, ⟨bk BK520⟩, ⟨be4 HB GE462 GE491 GE505 GE520⟩⟩
     replace c88 := Bool.eq_false_iff.mpr c88
     subst c88
     rw [if_neg (show ¬ (false = true) by decide)] at H
     have H' := Aside0.mk H
     clear H
     have hnb97 := NB520_462.out
     have hnc97 := NB462_520.out
     have hnb98 := NB520_491.out
     have hnc98 := NB491_520.out
     have hnb99 := NB520_505.out
     have hnc99 := NB505_520.out
     have hcz100_0 := bz5 BK520
     have hnb101 := NB491_462.out
     have hnc101 := NB462_491.out
     have hnb102 := NB491_505.out
     have hnc102 := NB505_491.out
     have hcz103_0 := bz5 BK491
     go_wp2_with (first | (go_at_call 16; (with_reducible refine (laws_eqPool.calls kj11 _ _ t506 t509 _ _ t510 _ _ t513 _ _ t516 _ _ t477 t480 _ _ t481 _ _ t484 _ _ t487 false _ (cr HO_521000) ((Kd.R_reads' HO_521000.out).2.1) (cr HO_521002) ((Kd.R_reads' HO_521002.out).2.1) (cr HO_521003) ((Kd.R_reads' HO_521003.out).2.1) (cr HO_521004) ((Kd.R_reads' HO_521004.out).2.1) (cr HO_492000) ((Kd.R_reads' HO_492000.out).2.1) (cr HO_492002) ((Kd.R_reads' HO_492002.out).2.1) (cr HO_492003) ((Kd.R_reads' HO_492003.out).2.1) (cr HO_492004) ((Kd.R_reads' HO_492004.out).2.1) A87.out).mono ?_); rintro e w104 ⟨rfl, hb⟩; replace HO_492000 := rb HO_492000 hb; replace HO_492002 := rb HO_492002 hb; replace HO_492003 := rb HO_492003 hb; replace HO_492004 := rb HO_492004 hb; replace HO_506000 := rb HO_506000 hb; replace HO_506002 := rb HO_506002 hb; replace HO_506003 := rb HO_506003 hb; replace HO_506004 := rb HO_506004 hb; replace HO_521000 := rb HO_521000 hb; replace HO_521002 := rb HO_521002 hb; replace HO_521003 := rb HO_521003 hb; replace HO_521004 := rb HO_521004 hb; replace HO524 := rb HO524 hb; replace HO528 := rb HO528 hb; replace HO531 := rb HO531 hb; replace HO534 := rb HO534 hb; replace BK462 := bb BK462 hb; replace BK491 := bb BK491 hb; replace BK505 := bb BK505 hb; replace BK520 := bb BK520 hb; replace HB := Aside0.mk (below_step (be4 HB GE462 GE491 GE505 GE520) hb); (try clear hb)))
     go_meet
     case rel => exact ⟨_, (true), rs, H', ⟨by have := HJ11.out; first | omega | exact Nat.le_refl _⟩, ⟨rom HO_492000⟩, ⟨rom HO_492002⟩, ⟨rom HO_492003⟩, ⟨rom HO_492004⟩, ⟨rom HO_506000⟩, ⟨rom HO_506002⟩, ⟨rom HO_506003⟩, ⟨rom HO_506004⟩, ⟨rom HO_521000⟩, ⟨rom HO_521002⟩, ⟨rom HO_521003⟩, ⟨rom HO_521004⟩, ⟨bk BK462⟩, ⟨bk BK491⟩, ⟨bk BK505⟩, ⟨bk BK520⟩, ⟨be4 HB GE462 GE491 GE505 GE520⟩⟩
    case rest =>
     clear HC73
     try clear c1; try clear c2; try clear p2; try clear c3; try clear c4; try clear c4b0; try clear c5; try clear c6; try clear c7; try clear c8; try clear c9; try clear c10; try clear c16; try clear c17; try clear c19; try clear c21; try clear c25; try clear c29; try clear c30; try clear c34; try clear c35; try clear c43; try clear c44; try clear c45; try clear c51; try clear c52; try clear c53; try clear c54; try clear c56; try clear c57; try clear c60; try clear c61; try clear c62; try clear c64; try clear c65; try clear c68; try clear c71; try clear c81; try clear c82; try clear c83; try clear c86; try clear c86b0; try clear c88; try clear c89; try clear c90; try clear c91; try clear c93; try clear c94; try clear c97; try clear c98; try clear c99; try clear c101; try clear c102; try clear hcz100_0; try clear hcz103_0; try clear hcz14_0; try clear hcz16_0; try clear hcz26_0; try clear hcz30_0; try clear hcz36_0; try clear hcz46_0; try clear hcz55_0; try clear hcz58_0; try clear hcz63_0; try clear hcz66_0; try clear hcz6_0; try clear hcz84_0; try clear hcz92_0; try clear hcz95_0; try clear p2
     obtain ⟨kq, x65_72, rfl, HA, HJ72, HO_492000, HO_492002, HO_492003, HO_492004, HO_506000, HO_506002, HO_506003, HO_506004, HO_521000, HO_521002, HO_521003, HO_521004, BK462, BK491, BK505, BK520, HB⟩ := hcut
     have hl506000_72 := (Kd.R_reads' HO_506000.out).1
     rw [hl506000_72] at HO_506000
     (try simp only [hl506000_72])
     (try simp only [hl506000_72] at BK462)
     (try simp only [hl506000_72] at BK491)
     (try simp only [hl506000_72] at BK505)
     (try simp only [hl506000_72] at BK520)
     (try simp only [hl506000_72] at HO_492000)
     (try simp only [hl506000_72] at HO_492002)
     (try simp only [hl506000_72] at HO_492003)
     (try simp only [hl506000_72] at HO_492004)
     (try simp only [hl506000_72] at HO_506002)
     (try simp only [hl506000_72] at HO_506003)
     (try simp only [hl506000_72] at HO_506004)
     (try simp only [hl506000_72] at HO_521000)
     (try simp only [hl506000_72] at HO_521002)
     (try simp only [hl506000_72] at HO_521003)
     (try simp only [hl506000_72] at HO_521004)
     have hl506002_72 := (Kd.R_reads' HO_506002.out).1
     rw [hl506002_72] at HO_506002
     (try simp only [hl506002_72])
     (try simp only [hl506002_72] at BK462)
     (try simp only [hl506002_72] at BK491)
     (try simp only [hl506002_72] at BK505)
     (try simp only [hl506002_72] at BK520)
     (try simp only [hl506002_72] at HO_492000)
     (try simp only [hl506002_72] at HO_492002)
     (try simp only [hl506002_72] at HO_492003)
     (try simp only [hl506002_72] at HO_492004)
     (try simp only [hl506002_72] at HO_506000)
     (try simp only [hl506002_72] at HO_506003)
     (try simp only [hl506002_72] at HO_506004)
     (try simp only [hl506002_72] at HO_521000)
     (try simp only [hl506002_72] at HO_521002)
     (try simp only [hl506002_72] at HO_521003)
     (try simp only [hl506002_72] at HO_521004)
     have hl506003_72 := (Kd.R_reads' HO_506003.out).1
     rw [hl506003_72] at HO_506003
     (try simp only [hl506003_72])
     (try simp only [hl506003_72] at BK462)
     (try simp only [hl506003_72] at BK491)
     (try simp only [hl506003_72] at BK505)
     (try simp only [hl506003_72] at BK520)
     (try simp only [hl506003_72] at HO_492000)
     (try simp only [hl506003_72] at HO_492002)
     (try simp only [hl506003_72] at HO_492003)
     (try simp only [hl506003_72] at HO_492004)
     (try simp only [hl506003_72] at HO_506000)
     (try simp only [hl506003_72] at HO_506002)
     (try simp only [hl506003_72] at HO_506004)
     (try simp only [hl506003_72] at HO_521000)
     (try simp only [hl506003_72] at HO_521002)
     (try simp only [hl506003_72] at HO_521003)
     (try simp only [hl506003_72] at HO_521004)
     have hl506004_72 := (Kd.R_reads' HO_506004.out).1
     rw [hl506004_72] at HO_506004
     (try simp only [hl506004_72])
     (try simp only [hl506004_72] at BK462)
     (try simp only [hl506004_72] at BK491)
     (try simp only [hl506004_72] at BK505)
     (try simp only [hl506004_72] at BK520)
     (try simp only [hl506004_72] at HO_492000)
     (try simp only [hl506004_72] at HO_492002)
     (try simp only [hl506004_72] at HO_492003)
     (try simp only [hl506004_72] at HO_492004)
     (try simp only [hl506004_72] at HO_506000)
     (try simp only [hl506004_72] at HO_506002)
     (try simp only [hl506004_72] at HO_506003)
     (try simp only [hl506004_72] at HO_521000)
     (try simp only [hl506004_72] at HO_521002)
     (try simp only [hl506004_72] at HO_521003)
     (try simp only [hl506004_72] at HO_521004)
     cases kq with
     | zero => exact absurd HA.out (by simp [laws_FnExactLeave.j1])
     | succ kj72 =>
      have H := HA.out
      clear HA
      simp only [laws_FnExactLeave.j1] at H
      by_cases c105 : x65_72 = true
      ·subst c105
       rw [if_pos rfl] at H
       exact absurd ((Option.some.inj H).trans hrt_.out) (by decide)
      replace c105 := Bool.eq_false_iff.mpr c105
      subst c105
      rw [if_neg (show ¬ (false = true) by decide)] at H
      replace H := Option.bind_eq_some_iff.mp H
      obtain ⟨⟨t542, t543, t544, t545, t546⟩, A1060, H⟩ := H
      try dsimp only at H
      have A106 := Aside0.mk A1060
      clear A1060
      replace H := Option.bind_eq_some_iff.mp H
      obtain ⟨t547, A1070, H⟩ := H
      try dsimp only at H
      have A107 := Aside0.mk A1070
      clear A1070
      by_cases c108 : t547 < 0
      ·rw [if_pos c108] at H
       have c108b0 : decide (t547 < 0) = true := decide_eq_true c108
       clear c108
       exact absurd ((Option.some.inj H).trans hrt_.out) (by decide)
      rw [if_neg c108] at H
      have c108b0 : decide (t547 < 0) = false := decide_eq_false c108
      clear c108
      by_cases c109 : t547 = t542
      ·rw [if_pos c109] at H
       have c109b0 : (t547 == t542) = true := beq_iff_eq.mpr c109
       have c109b1 : (t547 != t542) = false := bne_eq_false_iff_eq.mpr c109
       clear c109
       replace H := Option.bind_eq_some_iff.mp H
       obtain ⟨⟨t548, t551, t552, t555, t558⟩, A1100, H⟩ := H
       try dsimp only at H
       have A110 := Aside0.mk A1100
       clear A1100
       replace H := Option.bind_eq_some_iff.mp H
       obtain ⟨⟨t561, t564, t565, t568, t571, t574⟩, A1110, H⟩ := H
       try dsimp only at H
       have A111 := Aside0.mk A1110
       clear A1110
       have HC112 := Aside0.mk H
       clear H
       have hnb113 := NB520_462.out
       have hnc113 := NB462_520.out
       have hnb114 := NB520_491.out
       have hnc114 := NB491_520.out
       have hnb115 := NB520_505.out
       have hnc115 := NB505_520.out
       have hcz116_0 := bz5 BK520
       go_upto_region 25 with (first | ((with_reducible refine gate_callee (f := 17) rfl ?_); refine gl 68 Try.func17 #[.agg #[.slice Ao42 t506.length co42, .int .i64 t509, .slice Ao47 t510.length co47, .slice Ao48 t513.length co48, .slice Ao49 t516.length co49], .int .i64 1] ?_; (with_reducible refine (laws_markPool.calls kj72 (fun k_ => some k_ = (.slice Ao42 t506.length co42 : Value).ownBlock) (.slice Ao42 t506.length co42) t506 t509 (fun k_ => some k_ = (.slice Ao47 t510.length co47 : Value).ownBlock) (.slice Ao47 t510.length co47) t510 (fun k_ => some k_ = (.slice Ao48 t513.length co48 : Value).ownBlock) (.slice Ao48 t513.length co48) t513 (fun k_ => some k_ = (.slice Ao49 t516.length co49 : Value).ownBlock) (.slice Ao49 t516.length co49) t516 1 t542 t543 t544 t545 t546 w _ ?side1 ?side2 ?side3 ?side4 ?side5 ?side6 ?side7 ?side8 ?side9 ?side10 ?side11 A106.out).mono ?_); (case side1 => repeat (first | (with_reducible first | exact HB.out | apply below_alloc | apply pw_below_drewN | apply below_drew1 | refine below_set ?_ GE462.out | refine below_set ?_ GE491.out | refine below_set ?_ GE505.out | refine below_set ?_ GE520.out) | exact HB.out)); (case side2 => exact Kd.R_tight rfl HO_521000.out); (case side3 => exact fun k_ e_ => (HO_521000.out.1 k_ e_.symm).2.2.2.2.2.2.1); (case side4 => exact fun k_ e_ => (HO_521000.out.1 k_ e_.symm).2.2.2.2.2.2.2); (case side5 => exact Kd.R_tight rfl HO_521002.out); (case side6 => exact fun k_ e_ => (HO_521002.out.1 k_ e_.symm).2.2.2.2.2.2.1); (case side7 => exact fun k_ e_ => (HO_521002.out.1 k_ e_.symm).2.2.2.2.2.2.2); (case side8 => exact Kd.R_tight rfl HO_521003.out); (case side9 => exact Kd.R_tight rfl HO_521004.out); (case side10 => exact fun k_ e_ => (HO_521004.out.1 k_ e_.symm).2.2.2.2.2.2.1); (case side11 => exact fun k_ e_ => (HO_521004.out.1 k_ e_.symm).2.2.2.2.2.2.2); rintro e w117 ⟨rfl, hy0, hy1, hy2, hy3, hb, hkp⟩; refine ⟨_, rfl, ?_⟩; replace HO_492000 := Aside0.mk (Kd.R_mono (ok' := fun k_ => nb k_ Ao27 t481.length co27 ∧ nb k_ Ao29 t487.length co29 ∧ nb k_ Ao33 t537.length co33 ∧ nb k_ Ao37 t538.length co37 ∧ nb k_ Ao39 t540.length co39 ∧ nb k_ Ao42 t506.length co42 ∧ nb k_ Ao47 t510.length co47 ∧ nb k_ Ao49 t516.length co49) (Kd.R_keptB ((Kd.R_apart' HO_492000.out (Kd.R_typed HO_521003.out) (by decide))) hkp (fun k_ hk_ hs_ => Or.elim hs_ (fun e_ => (hk_.1.2.2.2.2.2.1) e_) (fun e_ => Or.elim e_ (fun e_ => (hk_.1.2.2.2.2.2.2.1) e_) (fun e_ => Or.elim e_ (fun e_ => (hk_.2) e_) (fun e_ => (hk_.1.2.2.2.2.2.2.2) e_))))) cj); replace HO_492002 := Aside0.mk (Kd.R_mono (ok' := fun k_ => nb k_ Ao24 t477.length co24 ∧ nb k_ Ao29 t487.length co29 ∧ nb k_ Ao33 t537.length co33 ∧ nb k_ Ao37 t538.length co37 ∧ nb k_ Ao39 t540.length co39 ∧ nb k_ Ao42 t506.length co42 ∧ nb k_ Ao47 t510.length co47 ∧ nb k_ Ao49 t516.length co49) (Kd.R_keptB ((Kd.R_apart' HO_492002.out (Kd.R_typed HO_521003.out) (by decide))) hkp (fun k_ hk_ hs_ => Or.elim hs_ (fun e_ => (hk_.1.2.2.2.2.2.1) e_) (fun e_ => Or.elim e_ (fun e_ => (hk_.1.2.2.2.2.2.2.1) e_) (fun e_ => Or.elim e_ (fun e_ => (hk_.2) e_) (fun e_ => (hk_.1.2.2.2.2.2.2.2) e_))))) cj); replace HO_492003 := Aside0.mk (Kd.R_mono (ok' := fun k_ => nb k_ Ao38 t539.length co38 ∧ nb k_ Ao48 t513.length co48) (Kd.R_keptB ((Kd.R_apart' (Kd.R_apart' (Kd.R_apart' HO_492003.out (Kd.R_typed HO_521000.out) (by decide)) (Kd.R_typed HO_521002.out) (by decide)) (Kd.R_typed HO_521004.out) (by decide))) hkp (fun k_ hk_ hs_ => Or.elim hs_ (fun e_ => (hk_.1.1.2) e_) (fun e_ => Or.elim e_ (fun e_ => (hk_.1.2) e_) (fun e_ => Or.elim e_ (fun e_ => (hk_.1.1.1.2) e_) (fun e_ => (hk_.2) e_))))) cj); replace HO_492004 := Aside0.mk (Kd.R_mono (ok' := fun k_ => nb k_ Ao24 t477.length co24 ∧ nb k_ Ao27 t481.length co27 ∧ nb k_ Ao33 t537.length co33 ∧ nb k_ Ao37 t538.length co37 ∧ nb k_ Ao39 t540.length co39 ∧ nb k_ Ao42 t506.length co42 ∧ nb k_ Ao47 t510.length co47 ∧ nb k_ Ao49 t516.length co49) (Kd.R_keptB ((Kd.R_apart' HO_492004.out (Kd.R_typed HO_521003.out) (by decide))) hkp (fun k_ hk_ hs_ => Or.elim hs_ (fun e_ => (hk_.1.2.2.2.2.2.1) e_) (fun e_ => Or.elim e_ (fun e_ => (hk_.1.2.2.2.2.2.2.1) e_) (fun e_ => Or.elim e_ (fun e_ => (hk_.2) e_) (fun e_ => (hk_.1.2.2.2.2.2.2.2) e_))))) cj); replace HO_506000 := Aside0.mk (Kd.R_mono (ok' := fun k_ => nb k_ Ao24 t477.length co24 ∧ nb k_ Ao27 t481.length co27 ∧ nb k_ Ao29 t487.length co29 ∧ nb k_ Ao37 t538.length co37 ∧ nb k_ Ao39 t540.length co39 ∧ nb k_ Ao42 t506.length co42 ∧ nb k_ Ao47 t510.length co47 ∧ nb k_ Ao49 t516.length co49) (Kd.R_keptB ((Kd.R_apart' HO_506000.out (Kd.R_typed HO_521003.out) (by decide))) hkp (fun k_ hk_ hs_ => Or.elim hs_ (fun e_ => (hk_.1.2.2.2.2.2.1) e_) (fun e_ => Or.elim e_ (fun e_ => (hk_.1.2.2.2.2.2.2.1) e_) (fun e_ => Or.elim e_ (fun e_ => (hk_.2) e_) (fun e_ => (hk_.1.2.2.2.2.2.2.2) e_))))) cj); replace HO_506002 := Aside0.mk (Kd.R_mono (ok' := fun k_ => nb k_ Ao24 t477.length co24 ∧ nb k_ Ao27 t481.length co27 ∧ nb k_ Ao29 t487.length co29 ∧ nb k_ Ao33 t537.length co33 ∧ nb k_ Ao39 t540.length co39 ∧ nb k_ Ao42 t506.length co42 ∧ nb k_ Ao47 t510.length co47 ∧ nb k_ Ao49 t516.length co49) (Kd.R_keptB ((Kd.R_apart' HO_506002.out (Kd.R_typed HO_521003.out) (by decide))) hkp (fun k_ hk_ hs_ => Or.elim hs_ (fun e_ => (hk_.1.2.2.2.2.2.1) e_) (fun e_ => Or.elim e_ (fun e_ => (hk_.1.2.2.2.2.2.2.1) e_) (fun e_ => Or.elim e_ (fun e_ => (hk_.2) e_) (fun e_ => (hk_.1.2.2.2.2.2.2.2) e_))))) cj); replace HO_506003 := Aside0.mk (Kd.R_mono (ok' := fun k_ => nb k_ Ao28 t484.length co28 ∧ nb k_ Ao48 t513.length co48) (Kd.R_keptB ((Kd.R_apart' (Kd.R_apart' (Kd.R_apart' HO_506003.out (Kd.R_typed HO_521000.out) (by decide)) (Kd.R_typed HO_521002.out) (by decide)) (Kd.R_typed HO_521004.out) (by decide))) hkp (fun k_ hk_ hs_ => Or.elim hs_ (fun e_ => (hk_.1.1.2) e_) (fun e_ => Or.elim e_ (fun e_ => (hk_.1.2) e_) (fun e_ => Or.elim e_ (fun e_ => (hk_.1.1.1.2) e_) (fun e_ => (hk_.2) e_))))) cj); replace HO_506004 := Aside0.mk (Kd.R_mono (ok' := fun k_ => nb k_ Ao24 t477.length co24 ∧ nb k_ Ao27 t481.length co27 ∧ nb k_ Ao29 t487.length co29 ∧ nb k_ Ao33 t537.length co33 ∧ nb k_ Ao37 t538.length co37 ∧ nb k_ Ao42 t506.length co42 ∧ nb k_ Ao47 t510.length co47 ∧ nb k_ Ao49 t516.length co49) (Kd.R_keptB ((Kd.R_apart' HO_506004.out (Kd.R_typed HO_521003.out) (by decide))) hkp (fun k_ hk_ hs_ => Or.elim hs_ (fun e_ => (hk_.1.2.2.2.2.2.1) e_) (fun e_ => Or.elim e_ (fun e_ => (hk_.1.2.2.2.2.2.2.1) e_) (fun e_ => Or.elim e_ (fun e_ => (hk_.2) e_) (fun e_ => (hk_.1.2.2.2.2.2.2.2) e_))))) cj); replace BK462 := Aside0.mk (blk_kept (bk BK462) hkp (fun hs_ => Or.elim hs_ (fun e_ => (fun e_ => (Kd.R_ne HO_521000.out BK462.out (by decide)) e_) e_) (fun e_ => Or.elim e_ (fun e_ => (fun e_ => (Kd.R_ne HO_521002.out BK462.out (by decide)) e_) e_) (fun e_ => Or.elim e_ (fun e_ => (fun e_ => (Kd.R_ne HO_521003.out BK462.out (by decide)) e_) e_) (fun e_ => (fun e_ => (Kd.R_ne HO_521004.out BK462.out (by decide)) e_) e_))))); replace BK491 := Aside0.mk (blk_kept (bk BK491) hkp (fun hs_ => Or.elim hs_ (fun e_ => (fun e_ => (Kd.R_ne HO_521000.out BK491.out (by decide)) e_) e_) (fun e_ => Or.elim e_ (fun e_ => (fun e_ => (Kd.R_ne HO_521002.out BK491.out (by decide)) e_) e_) (fun e_ => Or.elim e_ (fun e_ => (fun e_ => (Kd.R_ne HO_521003.out BK491.out (by decide)) e_) e_) (fun e_ => (fun e_ => (Kd.R_ne HO_521004.out BK491.out (by decide)) e_) e_))))); replace BK505 := Aside0.mk (blk_kept (bk BK505) hkp (fun hs_ => Or.elim hs_ (fun e_ => (fun e_ => (Kd.R_ne HO_521000.out BK505.out (by decide)) e_) e_) (fun e_ => Or.elim e_ (fun e_ => (fun e_ => (Kd.R_ne HO_521002.out BK505.out (by decide)) e_) e_) (fun e_ => Or.elim e_ (fun e_ => (fun e_ => (Kd.R_ne HO_521003.out BK505.out (by decide)) e_) e_) (fun e_ => (fun e_ => (Kd.R_ne HO_521004.out BK505.out (by decide)) e_) e_))))); replace BK520 := Aside0.mk (blk_kept (bk BK520) hkp (fun hs_ => Or.elim hs_ (fun e_ => (fun e_ => (Kd.R_ne HO_521000.out BK520.out (by decide)) e_) e_) (fun e_ => Or.elim e_ (fun e_ => (fun e_ => (Kd.R_ne HO_521002.out BK520.out (by decide)) e_) e_) (fun e_ => Or.elim e_ (fun e_ => (fun e_ => (Kd.R_ne HO_521003.out BK520.out (by decide)) e_) e_) (fun e_ => (fun e_ => (Kd.R_ne HO_521004.out BK520.out (by decide)) e_) e_))))); replace HO_521000 := Aside0.mk (Kd.R_reok rfl hy0 (fun k_ e_ => HO_521000.out.1 k_ e_)); replace HO_521002 := Aside0.mk (Kd.R_reok rfl hy1 (fun k_ e_ => HO_521002.out.1 k_ e_)); replace HO_521003 := Aside0.mk (Kd.R_reok rfl hy2 (fun k_ e_ => HO_521003.out.1 k_ e_)); replace HO_521004 := Aside0.mk (Kd.R_reok rfl hy3 (fun k_ e_ => HO_521004.out.1 k_ e_)); replace HB := Aside0.mk (hb); (try clear hb); (try clear hkp); (try clear hy0); (try clear hy1); (try clear hy2); (try clear hy3); have hcz118_0 := bz5 BK520) | ((with_reducible refine gate_callee (f := 18) rfl ?_); refine goesL_ (some 71) rfl rfl Try.func18 (by kernel_rfl) rfl #[.agg #[.slice Ao42 t543.length co42, .int .i64 t509, .slice Ao47 t544.length co47, .slice Ao48 t545.length co48, .slice Ao49 t546.length co49], .int .i64 1] rfl (by (try simp only [List.map_toArray, List.map_cons, List.map_nil]); first | done | (rw [show t543.length = t506.length from (Kd.R_reads' HO_521000.out).1.symm, show t544.length = t510.length from (Kd.R_reads' HO_521002.out).1.symm, show t545.length = t513.length from (Kd.R_reads' HO_521003.out).1.symm, show t546.length = t516.length from (Kd.R_reads' HO_521004.out).1.symm] <;> rfl) | rfl | (simp only [List.length_drop, List.length_take]; rfl)) ?_; (with_reducible refine (laws_heldPool.calls kj72 _ _ t543 t509 _ _ t544 _ _ t545 _ _ t546 1 t547 _ (cr HO_521000) ?side2 (cr HO_521002) ?side4 (cr HO_521003) ?side6 (cr HO_521004) ?side8 A107.out).mono ?_); (case side2 => rw [show t543.length = t506.length from (Kd.R_reads' HO_521000.out).1.symm]; exact (Kd.R_reads' HO_521000.out).2.1); (case side4 => rw [show t544.length = t510.length from (Kd.R_reads' HO_521002.out).1.symm]; exact (Kd.R_reads' HO_521002.out).2.1); (case side6 => rw [show t545.length = t513.length from (Kd.R_reads' HO_521003.out).1.symm]; exact (Kd.R_reads' HO_521003.out).2.1); (case side8 => rw [show t546.length = t516.length from (Kd.R_reads' HO_521004.out).1.symm]; exact (Kd.R_reads' HO_521004.out).2.1); rintro e w119 ⟨rfl, hb⟩; refine ⟨_, rfl, ?_⟩; replace HO_492000 := rb HO_492000 hb; replace HO_492002 := rb HO_492002 hb; replace HO_492003 := rb HO_492003 hb; replace HO_492004 := rb HO_492004 hb; replace HO_506000 := rb HO_506000 hb; replace HO_506002 := rb HO_506002 hb; replace HO_506003 := rb HO_506003 hb; replace HO_506004 := rb HO_506004 hb; replace HO_521000 := rb HO_521000 hb; replace HO_521002 := rb HO_521002 hb; replace HO_521003 := rb HO_521003 hb; replace HO_521004 := rb HO_521004 hb; replace BK462 := bb BK462 hb; replace BK491 := bb BK491 hb; replace BK505 := bb BK505 hb; replace BK520 := bb BK520 hb; replace HB := Aside0.mk (below_step (be4 HB GE462 GE491 GE505 GE520) hb); (try clear hb); have hnb120 := NB462_491.out; have hnc120 := NB491_462.out; have hnb121 := NB462_505.out; have hnc121 := NB505_462.out; have hcz122_0 := bz5 BK462) | ((with_reducible refine gate_callee (f := 21) rfl ?_); refine gl 79 Try.func21 #[.agg #[.slice A0_0 l0_0.length c0_0, .int .i64 a0_1, .slice A0_2 l0_2.length c0_2, .slice A0_3 l0_3.length c0_3, .slice A0_4 l0_4.length c0_4]] ?_; (with_reducible refine (laws_toPool.calls kj72 _ _ l0_0 a0_1 _ _ l0_2 _ _ l0_3 _ _ l0_4 t548 t551 t552 t555 t558 _ (cb HR0_0 HB) HC0_0.out (cb HR0_2 HB) HC0_2.out (cb HR0_3 HB) HC0_3.out (cb HR0_4 HB) HC0_4.out A110.out).mono ?_); rintro e w123 ⟨v549, v553, v556, v559, rfl, ho0, ho1, ho2, ho3, hb⟩; refine ⟨_, rfl, ?_⟩; have HO550 := Aside0.mk (Kd.R_lower (nw (nw (nw (nw (nw (nw (nw (nw (nw ho0 HO_492000) HO_492002) HO_492004) HO_506000) HO_506002) HO_506004) HO_521000) HO_521002) HO_521004) (below_size (be4 HB GE462 GE491 GE505 GE520))); have HO554 := Aside0.mk (Kd.R_lower (nw (nw (nw (nw (nw (nw (nw (nw (nw ho1 HO_492000) HO_492002) HO_492004) HO_506000) HO_506002) HO_506004) HO_521000) HO_521002) HO_521004) (below_size (be4 HB GE462 GE491 GE505 GE520))); have HO557 := Aside0.mk (Kd.R_lower (nw (nw (nw ho2 HO_492003) HO_506003) HO_521003) (below_size (be4 HB GE462 GE491 GE505 GE520))); replace HO_492003 := Aside0.mk (Kd.R_elder' (ro HO_492003) (Kd.R_base ho2) hb); replace HO_506003 := Aside0.mk (Kd.R_elder' (ro HO_506003) (Kd.R_base ho2) hb); replace HO_521003 := Aside0.mk (Kd.R_elder' (ro HO_521003) (Kd.R_base ho2) hb); have HO560 := Aside0.mk (Kd.R_lower (nw (nw (nw (nw (nw (nw (nw (nw (nw ho3 HO_492000) HO_492002) HO_492004) HO_506000) HO_506002) HO_506004) HO_521000) HO_521002) HO_521004) (below_size (be4 HB GE462 GE491 GE505 GE520))); replace HO_492000 := td3 (ro HO_492000) hb ho0 ho1 ho3; replace HO_492002 := td3 (ro HO_492002) hb ho0 ho1 ho3; replace HO_492004 := td3 (ro HO_492004) hb ho0 ho1 ho3; replace HO_506000 := td3 (ro HO_506000) hb ho0 ho1 ho3; replace HO_506002 := td3 (ro HO_506002) hb ho0 ho1 ho3; replace HO_506004 := td3 (ro HO_506004) hb ho0 ho1 ho3; replace HO_521000 := td3 (ro HO_521000) hb ho0 ho1 ho3; replace HO_521002 := td3 (ro HO_521002) hb ho0 ho1 ho3; replace HO_521004 := td3 (ro HO_521004) hb ho0 ho1 ho3; replace BK462 := bb BK462 hb; replace BK491 := bb BK491 hb; replace BK505 := bb BK505 hb; replace BK520 := bb BK520 hb; replace HB := Aside0.mk (below_step (be4 HB GE462 GE491 GE505 GE520) hb); (try clear hb); (try clear ho0); (try clear ho1); (try clear ho2); (try clear ho3); obtain ⟨Ao124, co124, eo124⟩ := Kd.R_slice HO550.out; subst eo124; obtain ⟨Ao125, co125, eo125⟩ := Kd.R_slice HO554.out; subst eo125; obtain ⟨Ao126, co126, eo126⟩ := Kd.R_slice HO557.out; subst eo126; obtain ⟨Ao127, co127, eo127⟩ := Kd.R_slice HO560.out; subst eo127) | ((with_reducible refine gate_callee (f := 30) rfl ?_); refine gl 81 Try.func30 #[.agg #[.slice Ao124 t548.length co124, .int .i64 t551, .slice Ao125 t552.length co125, .slice Ao126 t555.length co126, .slice Ao127 t558.length co127], .int .i64 a1] ?_; (with_reducible refine (impl_Leave.calls kj72 _ _ t548 t551 _ _ t552 _ _ t555 _ _ t558 a1 t561 t564 t565 t568 t571 t574 _ (cr HO550) ((Kd.R_reads' HO550.out).2.1) (cr HO554) ((Kd.R_reads' HO554.out).2.1) (cr HO557) ((Kd.R_reads' HO557.out).2.1) (cr HO560) ((Kd.R_reads' HO560.out).2.1) A111.out).mono ?_); rintro e w128 ⟨v562, v566, v569, v572, rfl, ho0, ho1, ho2, ho3, hb⟩; refine ⟨_, rfl, ?_⟩; have HO563 := Aside0.mk (Kd.R_lower (nw (nw (nw (nw (nw (nw (nw (nw (nw (nw (nw (nw ho0 HO_492000) HO_492002) HO_492004) HO_506000) HO_506002) HO_506004) HO_521000) HO_521002) HO_521004) HO550) HO554) HO560) (below_size (be4 HB GE462 GE491 GE505 GE520))); have HO567 := Aside0.mk (Kd.R_lower (nw (nw (nw (nw (nw (nw (nw (nw (nw (nw (nw (nw ho1 HO_492000) HO_492002) HO_492004) HO_506000) HO_506002) HO_506004) HO_521000) HO_521002) HO_521004) HO550) HO554) HO560) (below_size (be4 HB GE462 GE491 GE505 GE520))); have HO570 := Aside0.mk (Kd.R_lower (nw (nw (nw (nw ho2 HO_492003) HO_506003) HO_521003) HO557) (below_size (be4 HB GE462 GE491 GE505 GE520))); replace HO_492003 := Aside0.mk (Kd.R_elder' (ro HO_492003) (Kd.R_base ho2) hb); replace HO_506003 := Aside0.mk (Kd.R_elder' (ro HO_506003) (Kd.R_base ho2) hb); replace HO_521003 := Aside0.mk (Kd.R_elder' (ro HO_521003) (Kd.R_base ho2) hb); replace HO557 := Aside0.mk (Kd.R_elder' (ro HO557) (Kd.R_base ho2) hb); have HO573 := Aside0.mk (Kd.R_lower (nw (nw (nw (nw (nw (nw (nw (nw (nw (nw (nw (nw ho3 HO_492000) HO_492002) HO_492004) HO_506000) HO_506002) HO_506004) HO_521000) HO_521002) HO_521004) HO550) HO554) HO560) (below_size (be4 HB GE462 GE491 GE505 GE520))); replace HO_492000 := td3 (ro HO_492000) hb ho0 ho1 ho3; replace HO_492002 := td3 (ro HO_492002) hb ho0 ho1 ho3; replace HO_492004 := td3 (ro HO_492004) hb ho0 ho1 ho3; replace HO_506000 := td3 (ro HO_506000) hb ho0 ho1 ho3; replace HO_506002 := td3 (ro HO_506002) hb ho0 ho1 ho3; replace HO_506004 := td3 (ro HO_506004) hb ho0 ho1 ho3; replace HO_521000 := td3 (ro HO_521000) hb ho0 ho1 ho3; replace HO_521002 := td3 (ro HO_521002) hb ho0 ho1 ho3; replace HO_521004 := td3 (ro HO_521004) hb ho0 ho1 ho3; replace HO550 := td3 (ro HO550) hb ho0 ho1 ho3; replace HO554 := td3 (ro HO554) hb ho0 ho1 ho3; replace HO560 := td3 (ro HO560) hb ho0 ho1 ho3; replace BK462 := bb BK462 hb; replace BK491 := bb BK491 hb; replace BK505 := bb BK505 hb; replace BK520 := bb BK520 hb; replace HB := Aside0.mk (below_step (be4 HB GE462 GE491 GE505 GE520) hb); (try clear hb); (try clear ho0); (try clear ho1); (try clear ho2); (try clear ho3)) | ((with_reducible refine gate_dst (N := 14) rfl ?_); refine bx 14 #[.slice none 0 0, .int .i64 0, .slice none 0 0, .slice none 0 0, .slice none 0 0] 27 ?_; intro gb575 hg w129 hbox hb; replace HO_492000 := rb HO_492000 hb; replace HO_492002 := rb HO_492002 hb; replace HO_492003 := rb HO_492003 hb; replace HO_492004 := rb HO_492004 hb; replace HO_506000 := rb HO_506000 hb; replace HO_506002 := rb HO_506002 hb; replace HO_506003 := rb HO_506003 hb; replace HO_506004 := rb HO_506004 hb; replace HO_521000 := rb HO_521000 hb; replace HO_521002 := rb HO_521002 hb; replace HO_521003 := rb HO_521003 hb; replace HO_521004 := rb HO_521004 hb; replace HO550 := rb HO550 hb; replace HO554 := rb HO554 hb; replace HO557 := rb HO557 hb; replace HO560 := rb HO560 hb; replace HO563 := rb HO563 hb; replace HO567 := rb HO567 hb; replace HO570 := rb HO570 hb; replace HO573 := rb HO573 hb; have BK575 := am hbox; have GW575 := Aside0.mk ((by rw [hg]; exact (below_size (be4 HB GE462 GE491 GE505 GE520)) : w.heap.size ≤ gb575)); have GE575 := Aside0.mk ((by rw [hg]; exact (below_size (be4 HB GE462 GE491 GE505 GE520)) : w.heap.size ≤ gb575)); replace HB := Aside0.mk (below_step (be4 HB GE462 GE491 GE505 GE520) hb); have NB462_575 := Aside0.mk ((by rw [hg]; exact Nat.ne_of_lt (bl BK462) : gb462 ≠ gb575)); have NB575_462 := Aside0.mk ((by rw [hg]; exact Nat.ne_of_gt (bl BK462) : gb575 ≠ gb462)); replace BK462 := bb BK462 hb; have NB491_575 := Aside0.mk ((by rw [hg]; exact Nat.ne_of_lt (bl BK491) : gb491 ≠ gb575)); have NB575_491 := Aside0.mk ((by rw [hg]; exact Nat.ne_of_gt (bl BK491) : gb575 ≠ gb491)); replace BK491 := bb BK491 hb; have NB505_575 := Aside0.mk ((by rw [hg]; exact Nat.ne_of_lt (bl BK505) : gb505 ≠ gb575)); have NB575_505 := Aside0.mk ((by rw [hg]; exact Nat.ne_of_gt (bl BK505) : gb575 ≠ gb505)); replace BK505 := bb BK505 hb; have NB520_575 := Aside0.mk ((by rw [hg]; exact Nat.ne_of_lt (bl BK520) : gb520 ≠ gb575)); have NB575_520 := Aside0.mk ((by rw [hg]; exact Nat.ne_of_gt (bl BK520) : gb575 ≠ gb520)); replace BK520 := bb BK520 hb; clear hb hbox hg; obtain ⟨Ao130, co130, eo130⟩ := Kd.R_slice HO563.out; subst eo130; have hnb131 := NB575_462.out; have hnc131 := NB462_575.out; have hnb132 := NB575_491.out; have hnc132 := NB491_575.out; have hnb133 := NB575_505.out; have hnc133 := NB505_575.out; have hnb134 := NB575_520.out; have hnc134 := NB520_575.out; have hcz135_0 := bz5 BK575; obtain ⟨Ao136, co136, eo136⟩ := Kd.R_slice HO567.out; subst eo136; obtain ⟨Ao137, co137, eo137⟩ := Kd.R_slice HO570.out; subst eo137; obtain ⟨Ao138, co138, eo138⟩ := Kd.R_slice HO573.out; subst eo138))
       (try simp only [Act.put, List.setIfInBounds_toArray, List.set_cons_zero, List.set_cons_succ])
       go_cut [92] (fun v92 wc => ∃ (kq : Nat) (x92_111 : Bool), v92 = .bool x92_111 ∧ Aside0 (laws_FnExactLeave.j2 kq t542 x92_111 t543 t509 t544 t545 t546 = some r) ∧ Aside0 (kq ≤ kj72) ∧ Aside0 (Kd.R (Kd.int .i64) 3 wc w.heap.size (fun k_ => nb k_ Ao27 t481.length co27 ∧ nb k_ Ao29 t487.length co29 ∧ nb k_ Ao33 t537.length co33 ∧ nb k_ Ao37 t538.length co37 ∧ nb k_ Ao39 t540.length co39 ∧ nb k_ Ao42 t506.length co42 ∧ nb k_ Ao47 t510.length co47 ∧ nb k_ Ao49 t516.length co49 ∧ nb k_ Ao130 t561.length co130 ∧ nb k_ Ao136 t565.length co136 ∧ nb k_ Ao138 t571.length co138) (.slice Ao24 t477.length co24) t477) ∧ Aside0 (Kd.R (Kd.int .i64) 3 wc w.heap.size (fun k_ => nb k_ Ao24 t477.length co24 ∧ nb k_ Ao29 t487.length co29 ∧ nb k_ Ao33 t537.length co33 ∧ nb k_ Ao37 t538.length co37 ∧ nb k_ Ao39 t540.length co39 ∧ nb k_ Ao42 t506.length co42 ∧ nb k_ Ao47 t510.length co47 ∧ nb k_ Ao49 t516.length co49 ∧ nb k_ Ao130 t561.length co130 ∧ nb k_ Ao136 t565.length co136 ∧ nb k_ Ao138 t571.length co138) (.slice Ao27 t481.length co27) t481) ∧ Aside0 (Kd.R k70 70 wc w.heap.size (fun k_ => nb k_ Ao38 t539.length co38 ∧ nb k_ Ao48 t513.length co48 ∧ nb k_ Ao137 t568.length co137) (.slice Ao28 t484.length co28) t484) ∧ Aside0 (Kd.R (Kd.int .i64) 3 wc w.heap.size (fun k_ => nb k_ Ao24 t477.length co24 ∧ nb k_ Ao27 t481.length co27 ∧ nb k_ Ao33 t537.length co33 ∧ nb k_ Ao37 t538.length co37 ∧ nb k_ Ao39 t540.length co39 ∧ nb k_ Ao42 t506.length co42 ∧ nb k_ Ao47 t510.length co47 ∧ nb k_ Ao49 t516.length co49 ∧ nb k_ Ao130 t561.length co130 ∧ nb k_ Ao136 t565.length co136 ∧ nb k_ Ao138 t571.length co138) (.slice Ao29 t487.length co29) t487) ∧ Aside0 (Kd.R (Kd.int .i64) 3 wc w.heap.size (fun k_ => nb k_ Ao24 t477.length co24 ∧ nb k_ Ao27 t481.length co27 ∧ nb k_ Ao29 t487.length co29 ∧ nb k_ Ao37 t538.length co37 ∧ nb k_ Ao39 t540.length co39 ∧ nb k_ Ao42 t506.length co42 ∧ nb k_ Ao47 t510.length co47 ∧ nb k_ Ao49 t516.length co49 ∧ nb k_ Ao130 t561.length co130 ∧ nb k_ Ao136 t565.length co136 ∧ nb k_ Ao138 t571.length co138) (.slice Ao33 t537.length co33) t537) ∧ Aside0 (Kd.R (Kd.int .i64) 3 wc w.heap.size (fun k_ => nb k_ Ao24 t477.length co24 ∧ nb k_ Ao27 t481.length co27 ∧ nb k_ Ao29 t487.length co29 ∧ nb k_ Ao33 t537.length co33 ∧ nb k_ Ao39 t540.length co39 ∧ nb k_ Ao42 t506.length co42 ∧ nb k_ Ao47 t510.length co47 ∧ nb k_ Ao49 t516.length co49 ∧ nb k_ Ao130 t561.length co130 ∧ nb k_ Ao136 t565.length co136 ∧ nb k_ Ao138 t571.length co138) (.slice Ao37 t538.length co37) t538) ∧ Aside0 (Kd.R k70 70 wc w.heap.size (fun k_ => nb k_ Ao28 t484.length co28 ∧ nb k_ Ao48 t513.length co48 ∧ nb k_ Ao137 t568.length co137) (.slice Ao38 t539.length co38) t539) ∧ Aside0 (Kd.R (Kd.int .i64) 3 wc w.heap.size (fun k_ => nb k_ Ao24 t477.length co24 ∧ nb k_ Ao27 t481.length co27 ∧ nb k_ Ao29 t487.length co29 ∧ nb k_ Ao33 t537.length co33 ∧ nb k_ Ao37 t538.length co37 ∧ nb k_ Ao42 t506.length co42 ∧ nb k_ Ao47 t510.length co47 ∧ nb k_ Ao49 t516.length co49 ∧ nb k_ Ao130 t561.length co130 ∧ nb k_ Ao136 t565.length co136 ∧ nb k_ Ao138 t571.length co138) (.slice Ao39 t540.length co39) t540) ∧ Aside0 (Kd.R (Kd.int .i64) 3 wc w.heap.size (fun k_ => nb k_ Ao24 t477.length co24 ∧ nb k_ Ao27 t481.length co27 ∧ nb k_ Ao29 t487.length co29 ∧ nb k_ Ao33 t537.length co33 ∧ nb k_ Ao37 t538.length co37 ∧ nb k_ Ao39 t540.length co39 ∧ nb k_ Ao47 t510.length co47 ∧ nb k_ Ao49 t516.length co49 ∧ nb k_ Ao130 t561.length co130 ∧ nb k_ Ao136 t565.length co136 ∧ nb k_ Ao138 t571.length co138) (.slice Ao42 t506.length co42) t543) ∧ Aside0 (Kd.R (Kd.int .i64) 3 wc w.heap.size (fun k_ => nb k_ Ao24 t477.length co24 ∧ nb k_ Ao27 t481.length co27 ∧ nb k_ Ao29 t487.length co29 ∧ nb k_ Ao33 t537.length co33 ∧ nb k_ Ao37 t538.length co37 ∧ nb k_ Ao39 t540.length co39 ∧ nb k_ Ao42 t506.length co42 ∧ nb k_ Ao49 t516.length co49 ∧ nb k_ Ao130 t561.length co130 ∧ nb k_ Ao136 t565.length co136 ∧ nb k_ Ao138 t571.length co138) (.slice Ao47 t510.length co47) t544) ∧ Aside0 (Kd.R k70 70 wc w.heap.size (fun k_ => nb k_ Ao28 t484.length co28 ∧ nb k_ Ao38 t539.length co38 ∧ nb k_ Ao137 t568.length co137) (.slice Ao48 t513.length co48) t545) ∧ Aside0 (Kd.R (Kd.int .i64) 3 wc w.heap.size (fun k_ => nb k_ Ao24 t477.length co24 ∧ nb k_ Ao27 t481.length co27 ∧ nb k_ Ao29 t487.length co29 ∧ nb k_ Ao33 t537.length co33 ∧ nb k_ Ao37 t538.length co37 ∧ nb k_ Ao39 t540.length co39 ∧ nb k_ Ao42 t506.length co42 ∧ nb k_ Ao47 t510.length co47 ∧ nb k_ Ao130 t561.length co130 ∧ nb k_ Ao136 t565.length co136 ∧ nb k_ Ao138 t571.length co138) (.slice Ao49 t516.length co49) t546) ∧ Aside0 (Kd.R (Kd.int .i64) 3 wc w.heap.size (fun k_ => nb k_ Ao24 t477.length co24 ∧ nb k_ Ao27 t481.length co27 ∧ nb k_ Ao29 t487.length co29 ∧ nb k_ Ao33 t537.length co33 ∧ nb k_ Ao37 t538.length co37 ∧ nb k_ Ao39 t540.length co39 ∧ nb k_ Ao42 t506.length co42 ∧ nb k_ Ao47 t510.length co47 ∧ nb k_ Ao49 t516.length co49 ∧ nb k_ Ao136 t565.length co136 ∧ nb k_ Ao138 t571.length co138) (.slice Ao130 t561.length co130) t561) ∧ Aside0 (Kd.R (Kd.int .i64) 3 wc w.heap.size (fun k_ => nb k_ Ao24 t477.length co24 ∧ nb k_ Ao27 t481.length co27 ∧ nb k_ Ao29 t487.length co29 ∧ nb k_ Ao33 t537.length co33 ∧ nb k_ Ao37 t538.length co37 ∧ nb k_ Ao39 t540.length co39 ∧ nb k_ Ao42 t506.length co42 ∧ nb k_ Ao47 t510.length co47 ∧ nb k_ Ao49 t516.length co49 ∧ nb k_ Ao130 t561.length co130 ∧ nb k_ Ao138 t571.length co138) (.slice Ao136 t565.length co136) t565) ∧ Aside0 (Kd.R k70 70 wc w.heap.size (fun k_ => nb k_ Ao28 t484.length co28 ∧ nb k_ Ao38 t539.length co38 ∧ nb k_ Ao48 t513.length co48) (.slice Ao137 t568.length co137) t568) ∧ Aside0 (Kd.R (Kd.int .i64) 3 wc w.heap.size (fun k_ => nb k_ Ao24 t477.length co24 ∧ nb k_ Ao27 t481.length co27 ∧ nb k_ Ao29 t487.length co29 ∧ nb k_ Ao33 t537.length co33 ∧ nb k_ Ao37 t538.length co37 ∧ nb k_ Ao39 t540.length co39 ∧ nb k_ Ao42 t506.length co42 ∧ nb k_ Ao47 t510.length co47 ∧ nb k_ Ao49 t516.length co49 ∧ nb k_ Ao130 t561.length co130 ∧ nb k_ Ao136 t565.length co136) (.slice Ao138 t571.length co138) t571) ∧ Aside0 (wc.heap[gb462]? = some (.cells #[(.slice A0_0 l0_0.length c0_0), .int .i64 a0_1, (.slice A0_2 l0_2.length c0_2), (.slice A0_3 l0_3.length c0_3), (.slice A0_4 l0_4.length c0_4)] 37 (0, 0))) ∧ Aside0 (wc.heap[gb491]? = some (.cells #[(.slice Ao24 t477.length co24), .int .i64 t480, (.slice Ao27 t481.length co27), (.slice Ao28 t484.length co28), (.slice Ao29 t487.length co29)] 27 (0, 0))) ∧ Aside0 (wc.heap[gb505]? = some (.cells #[(.slice Ao33 t537.length co33), .int .i64 t495, (.slice Ao37 t538.length co37), (.slice Ao38 t539.length co38), (.slice Ao39 t540.length co39)] 27 (0, 0))) ∧ Aside0 (wc.heap[gb520]? = some (.cells #[(.slice Ao42 t506.length co42), .int .i64 t509, (.slice Ao47 t510.length co47), (.slice Ao48 t513.length co48), (.slice Ao49 t516.length co49)] 27 (0, 0))) ∧ Aside0 (wc.heap[gb575]? = some (.cells #[(.slice Ao130 t561.length co130), .int .i64 t564, (.slice Ao136 t565.length co136), (.slice Ao137 t568.length co137), (.slice Ao138 t571.length co138)] 27 (0, 0))) ∧ Aside0 (Below w.heap.size w wc))
       case first =>
        have H := HC112.out
        clear HC112
        replace H := Option.bind_eq_some_iff.mp H
        obtain ⟨t576, A1390, H⟩ := H
        try dsimp only at H
        have A139 := Aside0.mk A1390
        clear A1390
        by_cases c140 : t576 = true
        ·subst c140
         rw [if_pos rfl] at H
         have H' := Aside0.mk H
         clear H
         have hnb141 := NB575_462.out
         have hnc141 := NB462_575.out
         have hnb142 := NB575_491.out
         have hnc142 := NB491_575.out
         have hnb143 := NB575_505.out
         have hnc143 := NB505_575.out
         have hnb144 := NB575_520.out
         have hnc144 := NB520_575.out
         have hcz145_0 := bz5 BK575
         have hnb146 := NB491_462.out
         have hnc146 := NB462_491.out
         have hnb147 := NB491_505.out
         have hnc147 := NB505_491.out
         have hnb148 := NB491_520.out
         have hnc148 := NB520_491.out
         have hcz149_0 := bz5 BK491
         go_wp2_with (first | ((with_reducible refine gate_callee (f := 16) rfl ?_); refine gl 86 Try.func16 #[.agg #[.slice Ao130 t561.length co130, .int .i64 t564, .slice Ao136 t565.length co136, .slice Ao137 t568.length co137, .slice Ao138 t571.length co138], .agg #[.slice Ao24 t477.length co24, .int .i64 t480, .slice Ao27 t481.length co27, .slice Ao28 t484.length co28, .slice Ao29 t487.length co29]] ?_; (with_reducible refine (laws_eqPool.calls kj72 _ _ t561 t564 _ _ t565 _ _ t568 _ _ t571 _ _ t477 t480 _ _ t481 _ _ t484 _ _ t487 true _ ?side1 ((Kd.R_reads' HO563.out).2.1) ?side3 ((Kd.R_reads' HO567.out).2.1) ?side5 ((Kd.R_reads' HO570.out).2.1) ?side7 ((Kd.R_reads' HO573.out).2.1) ?side9 ((Kd.R_reads' HO_492000.out).2.1) ?side11 ((Kd.R_reads' HO_492002.out).2.1) ?side13 ((Kd.R_reads' HO_492003.out).2.1) ?side15 ((Kd.R_reads' HO_492004.out).2.1) A139.out).mono ?_); (case side1 => exact rfr _ HO563 BK575); (case side3 => exact rfr _ HO567 BK575); (case side5 => exact rfr _ HO570 BK575); (case side7 => exact rfr _ HO573 BK575); (case side9 => exact rfr _ HO_492000 BK575); (case side11 => exact rfr _ HO_492002 BK575); (case side13 => exact rfr _ HO_492003 BK575); (case side15 => exact rfr _ HO_492004 BK575); rintro e w150 ⟨rfl, hb⟩; refine ⟨_, rfl, ?_⟩; replace HO_492000 := Aside0.mk (Kd.R_below (rf HO_492000 BK575) hb); replace HO_492002 := Aside0.mk (Kd.R_below (rf HO_492002 BK575) hb); replace HO_492003 := Aside0.mk (Kd.R_below (rf HO_492003 BK575) hb); replace HO_492004 := Aside0.mk (Kd.R_below (rf HO_492004 BK575) hb); replace HO_506000 := Aside0.mk (Kd.R_below (rf HO_506000 BK575) hb); replace HO_506002 := Aside0.mk (Kd.R_below (rf HO_506002 BK575) hb); replace HO_506003 := Aside0.mk (Kd.R_below (rf HO_506003 BK575) hb); replace HO_506004 := Aside0.mk (Kd.R_below (rf HO_506004 BK575) hb); replace HO_521000 := Aside0.mk (Kd.R_below (rf HO_521000 BK575) hb); replace HO_521002 := Aside0.mk (Kd.R_below (rf HO_521002 BK575) hb); replace HO_521003 := Aside0.mk (Kd.R_below (rf HO_521003 BK575) hb); replace HO_521004 := Aside0.mk (Kd.R_below (rf HO_521004 BK575) hb); replace HO550 := Aside0.mk (Kd.R_below (rf HO550 BK575) hb); replace HO554 := Aside0.mk (Kd.R_below (rf HO554 BK575) hb); replace HO557 := Aside0.mk (Kd.R_below (rf HO557 BK575) hb); replace HO560 := Aside0.mk (Kd.R_below (rf HO560 BK575) hb); replace HO563 := Aside0.mk (Kd.R_below (rf HO563 BK575) hb); replace HO567 := Aside0.mk (Kd.R_below (rf HO567 BK575) hb); replace HO570 := Aside0.mk (Kd.R_below (rf HO570 BK575) hb); replace HO573 := Aside0.mk (Kd.R_below (rf HO573 BK575) hb); replace BK462 := Aside0.mk (blk_below (g := gb462) (o := .cells #[.slice A0_0 l0_0.length c0_0, .int .i64 a0_1, .slice A0_2 l0_2.length c0_2, .slice A0_3 l0_3.length c0_3, .slice A0_4 l0_4.length c0_4] 37 (0, 0)) (bf1 BK462 NB462_575) hb); replace BK491 := Aside0.mk (blk_below (g := gb491) (o := .cells #[.slice Ao24 t477.length co24, .int .i64 t480, .slice Ao27 t481.length co27, .slice Ao28 t484.length co28, .slice Ao29 t487.length co29] 27 (0, 0)) (bf1 BK491 NB491_575) hb); replace BK505 := Aside0.mk (blk_below (g := gb505) (o := .cells #[.slice Ao33 t537.length co33, .int .i64 t495, .slice Ao37 t538.length co37, .slice Ao38 t539.length co38, .slice Ao39 t540.length co39] 27 (0, 0)) (bf1 BK505 NB505_575) hb); replace BK520 := Aside0.mk (blk_below (g := gb520) (o := .cells #[.slice Ao42 t506.length co42, .int .i64 t509, .slice Ao47 t510.length co47, .slice Ao48 t513.length co48, .slice Ao49 t516.length co49] 27 (0, 0)) (bf1 BK520 NB520_575) hb); replace BK575 := Aside0.mk (blk_below (g := gb575) (o := .cells #[.slice Ao130 t561.length co130, .int .i64 t564, .slice Ao136 t565.length co136, .slice Ao137 t568.length co137, .slice Ao138 t571.length co138] 27 (0, 0)) (by (with_reducible repeat (first | refine blk_drewN ?_ _ | refine blk_drew ?_ | refine blk_alloc ?_ _)); refine blk_put (cs := #[.slice Ao130 t561.length co130, .int .i64 t564, .slice Ao136 t565.length co136, .slice Ao137 t568.length co137, .slice none 0 0]) ?_ 4 _ rfl; (with_reducible repeat (first | refine blk_drewN ?_ _ | refine blk_drew ?_ | refine blk_alloc ?_ _)); refine blk_put (cs := #[.slice Ao130 t561.length co130, .int .i64 t564, .slice Ao136 t565.length co136, .slice none 0 0, .slice none 0 0]) ?_ 3 _ rfl; (with_reducible repeat (first | refine blk_drewN ?_ _ | refine blk_drew ?_ | refine blk_alloc ?_ _)); refine blk_put (cs := #[.slice Ao130 t561.length co130, .int .i64 t564, .slice none 0 0, .slice none 0 0, .slice none 0 0]) ?_ 2 _ rfl; (with_reducible repeat (first | refine blk_drewN ?_ _ | refine blk_drew ?_ | refine blk_alloc ?_ _)); refine blk_put (cs := #[.slice Ao130 t561.length co130, .int .i64 0, .slice none 0 0, .slice none 0 0, .slice none 0 0]) ?_ 1 _ rfl; (with_reducible repeat (first | refine blk_drewN ?_ _ | refine blk_drew ?_ | refine blk_alloc ?_ _)); refine blk_put (cs := #[.slice none 0 0, .int .i64 0, .slice none 0 0, .slice none 0 0, .slice none 0 0]) ?_ 0 _ rfl; (with_reducible repeat (first | refine blk_drewN ?_ _ | refine blk_drew ?_ | refine blk_alloc ?_ _)); exact BK575.out) hb); replace HB := Aside0.mk (below_step (be5 HB GE462 GE491 GE505 GE520 GE575) hb); (try clear hb)))
         go_meet
         case rel => exact ⟨_, ((t574 != t490)), rs, H', ⟨by have := HJ11.out; have := HJ72.out; first | omega | exact Nat.le_refl _⟩, ⟨by (try simp only [hl506000_72, hl506002_72, hl506003_72, hl506004_72]); (with_reducible repeat (first | apply Kd.R_alloc | apply Kd.R_drewN | apply Kd.R_drew)); exact rm HO_492000⟩, ⟨by (try simp only [hl506000_72, hl506002_72, hl506003_72, hl506004_72]); (with_reducible repeat (first | apply Kd.R_alloc | apply Kd.R_drewN | apply Kd.R_drew)); exact rm HO_492002⟩, ⟨by (try simp only [hl506000_72, hl506002_72, hl506003_72, hl506004_72]); (with_reducible repeat (first | apply Kd.R_alloc | apply Kd.R_drewN | apply Kd.R_drew)); exact rm HO_492003⟩, ⟨by (try simp only [hl506000_72, hl506002_72, hl506003_72, hl506004_72]); (with_reducible repeat (first | apply Kd.R_alloc | apply Kd.R_drewN | apply Kd.R_drew)); exact rm HO_492004⟩, ⟨by (try simp only [hl506000_72, hl506002_72, hl506003_72, hl506004_72]); (with_reducible repeat (first | apply Kd.R_alloc | apply Kd.R_drewN | apply Kd.R_drew)); exact rm HO_506000⟩, ⟨by (try simp only [hl506000_72, hl506002_72, hl506003_72, hl506004_72]); (with_reducible repeat (first | apply Kd.R_alloc | apply Kd.R_drewN | apply Kd.R_drew)); exact rm HO_506002⟩, ⟨by (try simp only [hl506000_72, hl506002_72, hl506003_72, hl506004_72]); (with_reducible repeat (first | apply Kd.R_alloc | apply Kd.R_drewN | apply Kd.R_drew)); exact rm HO_506003⟩, ⟨by (try simp only [hl506000_72, hl506002_72, hl506003_72, hl506004_72]); (with_reducible repeat (first | apply Kd.R_alloc | apply Kd.R_drewN | apply Kd.R_drew)); exact rm HO_506004⟩, ⟨by (try simp only [hl506000_72, hl506002_72, hl506003_72, hl506004_72]); (with_reducible repeat (first | apply Kd.R_alloc | apply Kd.R_drewN | apply Kd.R_drew)); exact rm HO_521000⟩, ⟨by (try simp only [hl506000_72, hl506002_72, hl506003_72, hl506004_72]); (with_reducible repeat (first | apply Kd.R_alloc | apply Kd.R_drewN | apply Kd.R_drew)); exact rm HO_521002⟩, ⟨by (try simp only [hl506000_72, hl506002_72, hl506003_72, hl506004_72]); (with_reducible repeat (first | apply Kd.R_alloc | apply Kd.R_drewN | apply Kd.R_drew)); exact rm HO_521003⟩, ⟨by (try simp only [hl506000_72, hl506002_72, hl506003_72, hl506004_72]); (with_reducible repeat (first | apply Kd.R_alloc | apply Kd.R_drewN | apply Kd.R_drew)); exact rm HO_521004⟩, ⟨by (try simp only [hl506000_72, hl506002_72, hl506003_72, hl506004_72]); (with_reducible repeat (first | apply Kd.R_alloc | apply Kd.R_drewN | apply Kd.R_drew)); exact rm HO563⟩, ⟨by (try simp only [hl506000_72, hl506002_72, hl506003_72, hl506004_72]); (with_reducible repeat (first | apply Kd.R_alloc | apply Kd.R_drewN | apply Kd.R_drew)); exact rm HO567⟩, ⟨by (try simp only [hl506000_72, hl506002_72, hl506003_72, hl506004_72]); (with_reducible repeat (first | apply Kd.R_alloc | apply Kd.R_drewN | apply Kd.R_drew)); exact rm HO570⟩, ⟨by (try simp only [hl506000_72, hl506002_72, hl506003_72, hl506004_72]); (with_reducible repeat (first | apply Kd.R_alloc | apply Kd.R_drewN | apply Kd.R_drew)); exact rm HO573⟩, ⟨by (try simp only [hl506000_72, hl506002_72, hl506003_72, hl506004_72]); (with_reducible repeat (first | refine blk_drewN ?_ _ | refine blk_drew ?_ | refine blk_alloc ?_ _)); exact BK462.out⟩, ⟨by (try simp only [hl506000_72, hl506002_72, hl506003_72, hl506004_72]); (with_reducible repeat (first | refine blk_drewN ?_ _ | refine blk_drew ?_ | refine blk_alloc ?_ _)); exact BK491.out⟩, ⟨by (try simp only [hl506000_72, hl506002_72, hl506003_72, hl506004_72]); (with_reducible repeat (first | refine blk_drewN ?_ _ | refine blk_drew ?_ | refine blk_alloc ?_ _)); exact BK505.out⟩, ⟨by (try simp only [hl506000_72, hl506002_72, hl506003_72, hl506004_72]); (with_reducible repeat (first | refine blk_drewN ?_ _ | refine blk_drew ?_ | refine blk_alloc ?_ _)); exact BK520.out⟩, ⟨by (try simp only [hl506000_72, hl506002_72, hl506003_72, hl506004_72]); (with_reducible repeat (first | refine blk_drewN ?_ _ | refine blk_drew ?_ | refine blk_alloc ?_ _)); exact BK575.out⟩, ⟨be5 HB GE462 GE491 GE505 GE520 GE575⟩⟩
        replace c140 := Bool.eq_false_iff.mpr c140
        subst c140
        rw [if_neg (show ¬ (false = true) by decide)] at H
        have H' := Aside0.mk H
        clear H
        have hnb151 := NB575_462.out
        have hnc151 := NB462_575.out
        have hnb152 := NB575_491.out
        have hnc152 := NB491_575.out
        have hnb153 := NB575_505.out
        have hnc153 := NB505_575.out
        have hnb154 := NB575_520.out
        have hnc154 := NB520_575.out
        have hcz155_0 := bz5 BK575
        have hnb156 := NB491_462.out
        have hnc156 := NB462_491.out
        have hnb157 := NB491_505.out
        have hnc157 := NB505_491.out
        have hnb158 := NB491_520.out
        have hnc158 := NB520_491.out
        have hcz159_0 := bz5 BK491
        go_wp2_with (first | ((with_reducible refine gate_callee (f := 16) rfl ?_); refine gl 86 Try.func16 #[.agg #[.slice Ao130 t561.length co130, .int .i64 t564, .slice Ao136 t565.length co136, .slice Ao137 t568.length co137, .slice Ao138 t571.length co138], .agg #[.slice Ao24 t477.length co24, .int .i64 t480, .slice Ao27 t481.length co27, .slice Ao28 t484.length co28, .slice Ao29 t487.length co29]] ?_; (with_reducible refine (laws_eqPool.calls kj72 _ _ t561 t564 _ _ t565 _ _ t568 _ _ t571 _ _ t477 t480 _ _ t481 _ _ t484 _ _ t487 false _ ?side1 ((Kd.R_reads' HO563.out).2.1) ?side3 ((Kd.R_reads' HO567.out).2.1) ?side5 ((Kd.R_reads' HO570.out).2.1) ?side7 ((Kd.R_reads' HO573.out).2.1) ?side9 ((Kd.R_reads' HO_492000.out).2.1) ?side11 ((Kd.R_reads' HO_492002.out).2.1) ?side13 ((Kd.R_reads' HO_492003.out).2.1) ?side15 ((Kd.R_reads' HO_492004.out).2.1) A139.out).mono ?_); (case side1 => exact rfr _ HO563 BK575); (case side3 => exact rfr _ HO567 BK575); (case side5 => exact rfr _ HO570 BK575); (case side7 => exact rfr _ HO573 BK575); (case side9 => exact rfr _ HO_492000 BK575); (case side11 => exact rfr _ HO_492002 BK575); (case side13 => exact rfr _ HO_492003 BK575); (case side15 => exact rfr _ HO_492004 BK575); rintro e w160 ⟨rfl, hb⟩; refine ⟨_, rfl, ?_⟩; replace HO_492000 := Aside0.mk (Kd.R_below (rf HO_492000 BK575) hb); replace HO_492002 := Aside0.mk (Kd.R_below (rf HO_492002 BK575) hb); replace HO_492003 := Aside0.mk (Kd.R_below (rf HO_492003 BK575) hb); replace HO_492004 := Aside0.mk (Kd.R_below (rf HO_492004 BK575) hb); replace HO_506000 := Aside0.mk (Kd.R_below (rf HO_506000 BK575) hb); replace HO_506002 := Aside0.mk (Kd.R_below (rf HO_506002 BK575) hb); replace HO_506003 := Aside0.mk (Kd.R_below (rf HO_506003 BK575) hb); replace HO_506004 := Aside0.mk (Kd.R_below (rf HO_506004 BK575) hb); replace HO_521000 := Aside0.mk (Kd.R_below (rf HO_521000 BK575) hb); replace HO_521002 := Aside0.mk (Kd.R_below (rf HO_521002 BK575) hb); replace HO_521003 := Aside0.mk (Kd.R_below (rf HO_521003 BK575) hb); replace HO_521004 := Aside0.mk (Kd.R_below (rf HO_521004 BK575) hb); replace HO550 := Aside0.mk (Kd.R_below (rf HO550 BK575) hb); replace HO554 := Aside0.mk (Kd.R_below (rf HO554 BK575) hb); replace HO557 := Aside0.mk (Kd.R_below (rf HO557 BK575) hb); replace HO560 := Aside0.mk (Kd.R_below (rf HO560 BK575) hb); replace HO563 := Aside0.mk (Kd.R_below (rf HO563 BK575) hb); replace HO567 := Aside0.mk (Kd.R_below (rf HO567 BK575) hb); replace HO570 := Aside0.mk (Kd.R_below (rf HO570 BK575) hb); replace HO573 := Aside0.mk (Kd.R_below (rf HO573 BK575) hb); replace BK462 := Aside0.mk (blk_below (g := gb462) (o := .cells #[.slice A0_0 l0_0.length c0_0, .int .i64 a0_1, .slice A0_2 l0_2.length c0_2, .slice A0_3 l0_3.length c0_3, .slice A0_4 l0_4.length c0_4] 37 (0, 0)) (bf1 BK462 NB462_575) hb); replace BK491 := Aside0.mk (blk_below (g := gb491) (o := .cells #[.slice Ao24 t477.length co24, .int .i64 t480, .slice Ao27 t481.length co27, .slice Ao28 t484.length co28, .slice Ao29 t487.length co29] 27 (0, 0)) (bf1 BK491 NB491_575) hb); replace BK505 := Aside0.mk (blk_below (g := gb505) (o := .cells #[.slice Ao33 t537.length co33, .int .i64 t495, .slice Ao37 t538.length co37, .slice Ao38 t539.length co38, .slice Ao39 t540.length co39] 27 (0, 0)) (bf1 BK505 NB505_575) hb); replace BK520 := Aside0.mk (blk_below (g := gb520) (o := .cells #[.slice Ao42 t506.length co42, .int .i64 t509, .slice Ao47 t510.length co47, .slice Ao48 t513.length co48, .slice Ao49 t516.length co49] 27 (0, 0)) (bf1 BK520 NB520_575) hb); replace BK575 := Aside0.mk (blk_below (g := gb575) (o := .cells #[.slice Ao130 t561.length co130, .int .i64 t564, .slice Ao136 t565.length co136, .slice Ao137 t568.length co137, .slice Ao138 t571.length co138] 27 (0, 0)) (by (with_reducible repeat (first | refine blk_drewN ?_ _ | refine blk_drew ?_ | refine blk_alloc ?_ _)); refine blk_put (cs := #[.slice Ao130 t561.length co130, .int .i64 t564, .slice Ao136 t565.length co136, .slice Ao137 t568.length co137, .slice none 0 0]) ?_ 4 _ rfl; (with_reducible repeat (first | refine blk_drewN ?_ _ | refine blk_drew ?_ | refine blk_alloc ?_ _)); refine blk_put (cs := #[.slice Ao130 t561.length co130, .int .i64 t564, .slice Ao136 t565.length co136, .slice none 0 0, .slice none 0 0]) ?_ 3 _ rfl; (with_reducible repeat (first | refine blk_drewN ?_ _ | refine blk_drew ?_ | refine blk_alloc ?_ _)); refine blk_put (cs := #[.slice Ao130 t561.length co130, .int .i64 t564, .slice none 0 0, .slice none 0 0, .slice none 0 0]) ?_ 2 _ rfl; (with_reducible repeat (first | refine blk_drewN ?_ _ | refine blk_drew ?_ | refine blk_alloc ?_ _)); refine blk_put (cs := #[.slice Ao130 t561.length co130, .int .i64 0, .slice none 0 0, .slice none 0 0, .slice none 0 0]) ?_ 1 _ rfl; (with_reducible repeat (first | refine blk_drewN ?_ _ | refine blk_drew ?_ | refine blk_alloc ?_ _)); refine blk_put (cs := #[.slice none 0 0, .int .i64 0, .slice none 0 0, .slice none 0 0, .slice none 0 0]) ?_ 0 _ rfl; (with_reducible repeat (first | refine blk_drewN ?_ _ | refine blk_drew ?_ | refine blk_alloc ?_ _)); exact BK575.out) hb); replace HB := Aside0.mk (below_step (be5 HB GE462 GE491 GE505 GE520 GE575) hb); (try clear hb)))
        go_meet
        case rel => exact ⟨_, (true), rs, H', ⟨by have := HJ11.out; have := HJ72.out; first | omega | exact Nat.le_refl _⟩, ⟨by (try simp only [hl506000_72, hl506002_72, hl506003_72, hl506004_72]); (with_reducible repeat (first | apply Kd.R_alloc | apply Kd.R_drewN | apply Kd.R_drew)); exact rm HO_492000⟩, ⟨by (try simp only [hl506000_72, hl506002_72, hl506003_72, hl506004_72]); (with_reducible repeat (first | apply Kd.R_alloc | apply Kd.R_drewN | apply Kd.R_drew)); exact rm HO_492002⟩, ⟨by (try simp only [hl506000_72, hl506002_72, hl506003_72, hl506004_72]); (with_reducible repeat (first | apply Kd.R_alloc | apply Kd.R_drewN | apply Kd.R_drew)); exact rm HO_492003⟩, ⟨by (try simp only [hl506000_72, hl506002_72, hl506003_72, hl506004_72]); (with_reducible repeat (first | apply Kd.R_alloc | apply Kd.R_drewN | apply Kd.R_drew)); exact rm HO_492004⟩, ⟨by (try simp only [hl506000_72, hl506002_72, hl506003_72, hl506004_72]); (with_reducible repeat (first | apply Kd.R_alloc | apply Kd.R_drewN | apply Kd.R_drew)); exact rm HO_506000⟩, ⟨by (try simp only [hl506000_72, hl506002_72, hl506003_72, hl506004_72]); (with_reducible repeat (first | apply Kd.R_alloc | apply Kd.R_drewN | apply Kd.R_drew)); exact rm HO_506002⟩, ⟨by (try simp only [hl506000_72, hl506002_72, hl506003_72, hl506004_72]); (with_reducible repeat (first | apply Kd.R_alloc | apply Kd.R_drewN | apply Kd.R_drew)); exact rm HO_506003⟩, ⟨by (try simp only [hl506000_72, hl506002_72, hl506003_72, hl506004_72]); (with_reducible repeat (first | apply Kd.R_alloc | apply Kd.R_drewN | apply Kd.R_drew)); exact rm HO_506004⟩, ⟨by (try simp only [hl506000_72, hl506002_72, hl506003_72, hl506004_72]); (with_reducible repeat (first | apply Kd.R_alloc | apply Kd.R_drewN | apply Kd.R_drew)); exact rm HO_521000⟩, ⟨by (try simp only [hl506000_72, hl506002_72, hl506003_72, hl506004_72]); (with_reducible repeat (first | apply Kd.R_alloc | apply Kd.R_drewN | apply Kd.R_drew)); exact rm HO_521002⟩, ⟨by (try simp only [hl506000_72, hl506002_72, hl506003_72, hl506004_72]); (with_reducible repeat (first | apply Kd.R_alloc | apply Kd.R_drewN | apply Kd.R_drew)); exact rm HO_521003⟩, ⟨by (try simp only [hl506000_72, hl506002_72, hl506003_72, hl506004_72]); (with_reducible repeat (first | apply Kd.R_alloc | apply Kd.R_drewN | apply Kd.R_drew)); exact rm HO_521004⟩, ⟨by (try simp only [hl506000_72, hl506002_72, hl506003_72, hl506004_72]); (with_reducible repeat (first | apply Kd.R_alloc | apply Kd.R_drewN | apply Kd.R_drew)); exact rm HO563⟩, ⟨by (try simp only [hl506000_72, hl506002_72, hl506003_72, hl506004_72]); (with_reducible repeat (first | apply Kd.R_alloc | apply Kd.R_drewN | apply Kd.R_drew)); exact rm HO567⟩, ⟨by (try simp only [hl506000_72, hl506002_72, hl506003_72, hl506004_72]); (with_reducible repeat (first | apply Kd.R_alloc | apply Kd.R_drewN | apply Kd.R_drew)); exact rm HO570⟩, ⟨by (try simp only [hl506000_72, hl506002_72, hl506003_72, hl506004_72]); (with_reducible repeat (first | apply Kd.R_alloc | apply Kd.R_drewN | apply Kd.R_drew)); exact rm HO573⟩, ⟨by (try simp only [hl506000_72, hl506002_72, hl506003_72, hl506004_72]); (with_reducible repeat (first | refine blk_drewN ?_ _ | refine blk_drew ?_ | refine blk_alloc ?_ _)); exact BK462.out⟩, ⟨by (try simp only [hl506000_72, hl506002_72, hl506003_72, hl506004_72]); (with_reducible repeat (first | refine blk_drewN ?_ _ | refine blk_drew ?_ | refine blk_alloc ?_ _)); exact BK491.out⟩, ⟨by (try simp only [hl506000_72, hl506002_72, hl506003_72, hl506004_72]); (with_reducible repeat (first | refine blk_drewN ?_ _ | refine blk_drew ?_ | refine blk_alloc ?_ _)); exact BK505.out⟩, ⟨by (try simp only [hl506000_72, hl506002_72, hl506003_72, hl506004_72]); (with_reducible repeat (first | refine blk_drewN ?_ _ | refine blk_drew ?_ | refine blk_alloc ?_ _)); exact BK520.out⟩, ⟨by (try simp only [hl506000_72, hl506002_72, hl506003_72, hl506004_72]); (with_reducible repeat (first | refine blk_drewN ?_ _ | refine blk_drew ?_ | refine blk_alloc ?_ _)); exact BK575.out⟩, ⟨be5 HB GE462 GE491 GE505 GE520 GE575⟩⟩
       case rest =>
        clear HC112
        try clear c1; try clear c2; try clear p2; try clear c3; try clear c4; try clear c4b0; try clear c5; try clear c6; try clear c7; try clear c8; try clear c9; try clear c10; try clear c11; try clear c12; try clear c13; try clear c14; try clear c15; try clear c16; try clear c17; try clear c18; try clear c19; try clear c21; try clear c25; try clear c29; try clear c30; try clear c34; try clear c35; try clear c43; try clear c44; try clear c45; try clear c51; try clear c52; try clear c53; try clear c54; try clear c56; try clear c57; try clear c60; try clear c61; try clear c62; try clear c64; try clear c65; try clear c68; try clear c71; try clear c81; try clear c82; try clear c83; try clear c86; try clear c86b0; try clear c88; try clear c89; try clear c90; try clear c91; try clear c93; try clear c94; try clear c97; try clear c98; try clear c99; try clear c101; try clear c102; try clear c105; try clear c108; try clear c108b0; try clear c109; try clear c109b0; try clear c109b1; try clear c113; try clear c114; try clear c115; try clear c120; try clear c121; try clear c131; try clear c132; try clear c133; try clear c134; try clear c140; try clear c141; try clear c142; try clear c143; try clear c144; try clear c146; try clear c147; try clear c148; try clear c151; try clear c152; try clear c153; try clear c154; try clear c156; try clear c157; try clear c158; try clear hcz100_0; try clear hcz103_0; try clear hcz116_0; try clear hcz118_0; try clear hcz122_0; try clear hcz135_0; try clear hcz145_0; try clear hcz149_0; try clear hcz14_0; try clear hcz155_0; try clear hcz159_0; try clear hcz16_0; try clear hcz26_0; try clear hcz30_0; try clear hcz36_0; try clear hcz46_0; try clear hcz55_0; try clear hcz58_0; try clear hcz63_0; try clear hcz66_0; try clear hcz6_0; try clear hcz84_0; try clear hcz92_0; try clear hcz95_0; try clear p2
        obtain ⟨kq, x92_111, rfl, HA, HJ111, HO_492000, HO_492002, HO_492003, HO_492004, HO_506000, HO_506002, HO_506003, HO_506004, HO_521000, HO_521002, HO_521003, HO_521004, HO_576000, HO_576002, HO_576003, HO_576004, BK462, BK491, BK505, BK520, BK575, HB⟩ := hcut
        have hl521000_111 := (Kd.R_reads' HO_521000.out).1
        rw [hl521000_111] at HO_521000
        (try simp only [hl521000_111])
        (try simp only [hl521000_111] at BK462)
        (try simp only [hl521000_111] at BK491)
        (try simp only [hl521000_111] at BK505)
        (try simp only [hl521000_111] at BK520)
        (try simp only [hl521000_111] at BK575)
        (try simp only [hl521000_111] at HO_492000)
        (try simp only [hl521000_111] at HO_492002)
        (try simp only [hl521000_111] at HO_492003)
        (try simp only [hl521000_111] at HO_492004)
        (try simp only [hl521000_111] at HO_506000)
        (try simp only [hl521000_111] at HO_506002)
        (try simp only [hl521000_111] at HO_506003)
        (try simp only [hl521000_111] at HO_506004)
        (try simp only [hl521000_111] at HO_521002)
        (try simp only [hl521000_111] at HO_521003)
        (try simp only [hl521000_111] at HO_521004)
        (try simp only [hl521000_111] at HO_576000)
        (try simp only [hl521000_111] at HO_576002)
        (try simp only [hl521000_111] at HO_576003)
        (try simp only [hl521000_111] at HO_576004)
        have hl521002_111 := (Kd.R_reads' HO_521002.out).1
        rw [hl521002_111] at HO_521002
        (try simp only [hl521002_111])
        (try simp only [hl521002_111] at BK462)
        (try simp only [hl521002_111] at BK491)
        (try simp only [hl521002_111] at BK505)
        (try simp only [hl521002_111] at BK520)
        (try simp only [hl521002_111] at BK575)
        (try simp only [hl521002_111] at HO_492000)
        (try simp only [hl521002_111] at HO_492002)
        (try simp only [hl521002_111] at HO_492003)
        (try simp only [hl521002_111] at HO_492004)
        (try simp only [hl521002_111] at HO_506000)
        (try simp only [hl521002_111] at HO_506002)
        (try simp only [hl521002_111] at HO_506003)
        (try simp only [hl521002_111] at HO_506004)
        (try simp only [hl521002_111] at HO_521000)
        (try simp only [hl521002_111] at HO_521003)
        (try simp only [hl521002_111] at HO_521004)
        (try simp only [hl521002_111] at HO_576000)
        (try simp only [hl521002_111] at HO_576002)
        (try simp only [hl521002_111] at HO_576003)
        (try simp only [hl521002_111] at HO_576004)
        have hl521003_111 := (Kd.R_reads' HO_521003.out).1
        rw [hl521003_111] at HO_521003
        (try simp only [hl521003_111])
        (try simp only [hl521003_111] at BK462)
        (try simp only [hl521003_111] at BK491)
        (try simp only [hl521003_111] at BK505)
        (try simp only [hl521003_111] at BK520)
        (try simp only [hl521003_111] at BK575)
        (try simp only [hl521003_111] at HO_492000)
        (try simp only [hl521003_111] at HO_492002)
        (try simp only [hl521003_111] at HO_492003)
        (try simp only [hl521003_111] at HO_492004)
        (try simp only [hl521003_111] at HO_506000)
        (try simp only [hl521003_111] at HO_506002)
        (try simp only [hl521003_111] at HO_506003)
        (try simp only [hl521003_111] at HO_506004)
        (try simp only [hl521003_111] at HO_521000)
        (try simp only [hl521003_111] at HO_521002)
        (try simp only [hl521003_111] at HO_521004)
        (try simp only [hl521003_111] at HO_576000)
        (try simp only [hl521003_111] at HO_576002)
        (try simp only [hl521003_111] at HO_576003)
        (try simp only [hl521003_111] at HO_576004)
        have hl521004_111 := (Kd.R_reads' HO_521004.out).1
        rw [hl521004_111] at HO_521004
        (try simp only [hl521004_111])
        (try simp only [hl521004_111] at BK462)
        (try simp only [hl521004_111] at BK491)
        (try simp only [hl521004_111] at BK505)
        (try simp only [hl521004_111] at BK520)
        (try simp only [hl521004_111] at BK575)
        (try simp only [hl521004_111] at HO_492000)
        (try simp only [hl521004_111] at HO_492002)
        (try simp only [hl521004_111] at HO_492003)
        (try simp only [hl521004_111] at HO_492004)
        (try simp only [hl521004_111] at HO_506000)
        (try simp only [hl521004_111] at HO_506002)
        (try simp only [hl521004_111] at HO_506003)
        (try simp only [hl521004_111] at HO_506004)
        (try simp only [hl521004_111] at HO_521000)
        (try simp only [hl521004_111] at HO_521002)
        (try simp only [hl521004_111] at HO_521003)
        (try simp only [hl521004_111] at HO_576000)
        (try simp only [hl521004_111] at HO_576002)
        (try simp only [hl521004_111] at HO_576003)
        (try simp only [hl521004_111] at HO_576004)
        cases kq with
        | zero => exact absurd HA.out (by simp [laws_FnExactLeave.j2])
        | succ kj111 =>
         have H := HA.out
         clear HA
         simp only [laws_FnExactLeave.j2] at H
         by_cases c161 : x92_111 = true
         ·subst c161
          rw [if_pos rfl] at H
          exact absurd ((Option.some.inj H).trans hrt_.out) (by decide)
         replace c161 := Bool.eq_false_iff.mpr c161
         subst c161
         rw [if_neg (show ¬ (false = true) by decide)] at H
         replace H := Option.bind_eq_some_iff.mp H
         obtain ⟨t577, A1620, H⟩ := H
         try dsimp only at H
         have A162 := Aside0.mk A1620
         clear A1620
         by_cases c163 : t577 < 0
         ·rw [if_pos c163] at H
          have c163b0 : decide (t577 < 0) = true := decide_eq_true c163
          clear c163
          exact absurd ((Option.some.inj H).trans hrt_.out) (by decide)
         rw [if_neg c163] at H
         have c163b0 : decide (t577 < 0) = false := decide_eq_false c163
         clear c163
         by_cases c164 : t577 = t542
         ·rw [if_pos c164] at H
          have c164b0 : (t577 == t542) = true := beq_iff_eq.mpr c164
          have c164b1 : (t577 != t542) = false := bne_eq_false_iff_eq.mpr c164
          clear c164
          obtain rfl := Option.some.inj H
          have hnb165 := NB520_462.out
          have hnc165 := NB462_520.out
          have hnb166 := NB520_491.out
          have hnc166 := NB491_520.out
          have hnb167 := NB520_505.out
          have hnc167 := NB505_520.out
          have hnb168 := NB520_575.out
          have hnc168 := NB575_520.out
          have hcz169_0 := bz5 BK520
          go_wp2_with (first | ((with_reducible refine gate_callee (f := 18) rfl ?_); refine gl 95 Try.func18 #[.agg #[.slice Ao42 t543.length co42, .int .i64 t509, .slice Ao47 t544.length co47, .slice Ao48 t545.length co48, .slice Ao49 t546.length co49], .int .i64 1] ?_; (with_reducible refine (laws_heldPool.calls kj111 _ _ t543 t509 _ _ t544 _ _ t545 _ _ t546 1 t577 _ (cr HO_521000) ((Kd.R_reads' HO_521000.out).2.1) (cr HO_521002) ((Kd.R_reads' HO_521002.out).2.1) (cr HO_521003) ((Kd.R_reads' HO_521003.out).2.1) (cr HO_521004) ((Kd.R_reads' HO_521004.out).2.1) A162.out).mono ?_); rintro e w170 ⟨rfl, hb⟩; refine ⟨_, rfl, ?_⟩; replace HO_492000 := rb HO_492000 hb; replace HO_492002 := rb HO_492002 hb; replace HO_492003 := rb HO_492003 hb; replace HO_492004 := rb HO_492004 hb; replace HO_506000 := rb HO_506000 hb; replace HO_506002 := rb HO_506002 hb; replace HO_506003 := rb HO_506003 hb; replace HO_506004 := rb HO_506004 hb; replace HO_521000 := rb HO_521000 hb; replace HO_521002 := rb HO_521002 hb; replace HO_521003 := rb HO_521003 hb; replace HO_521004 := rb HO_521004 hb; replace HO_576000 := rb HO_576000 hb; replace HO_576002 := rb HO_576002 hb; replace HO_576003 := rb HO_576003 hb; replace HO_576004 := rb HO_576004 hb; replace BK462 := bb BK462 hb; replace BK491 := bb BK491 hb; replace BK505 := bb BK505 hb; replace BK520 := bb BK520 hb; replace BK575 := bb BK575 hb; replace HB := Aside0.mk (below_step (be5 HB GE462 GE491 GE505 GE520 GE575) hb); (try clear hb)))
          go_ret
          exact ⟨er, be5 HB GE462 GE491 GE505 GE520 GE575⟩
         rw [if_neg c164] at H
         have c164b0 : (t577 == t542) = false := beq_eq_false_iff_ne.mpr c164
         have c164b1 : (t577 != t542) = true := bne_iff_ne.mpr c164
         exact absurd ((Option.some.inj H).trans hrt_.out) (by decide)
      rw [if_neg c109] at H
      have c109b0 : (t547 == t542) = false := beq_eq_false_iff_ne.mpr c109
      have c109b1 : (t547 != t542) = true := bne_iff_ne.mpr c109
      exact absurd ((Option.some.inj H).trans hrt_.out) (by decide)
   replace c71 := Bool.eq_false_iff.mpr c71
   subst c71
   rw [if_neg (show ¬ (false = true) by decide)] at H
   exact absurd ((Option.some.inj H).trans hrt_.out) (by decide)

end Go.Proofs.Ytdgpidhlbpaolaa.QFnExactLeave
