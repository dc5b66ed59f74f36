-- made by a program of this session (myprint.py)
import Derived.Test.YtfjhkediaholmaaQFnExactDropx0
import Derived.Test.YtfjhkediaholmaaQFnExactDropx1
import Derived.Test.YtfjhkediaholmaaQFnExactDropx2
import Derived.Test.YtfjhkediaholmaaQFnExactDropx3
import Derived.Test.YtfjhkediaholmaaQFnExactDropx5
import Derived.Test.YtfjhkediaholmaaQFnExactDropx8
import Derived.Test.YtfjhkediaholmaaQFnExactDropx11
namespace Go.Proofs.Ytfjhkediaholmaa.QFnExactDrop
open Go.RowKit Go.Proofs.YtfjhkediaholmaaW.PrintWords Go.Proofs.YtfjhkediaholmaaW.PrintLast Go.Proofs.YtfjhkediaholmaaW.PrintMore
attribute [local go_sem] max2_int min2_int max_two min_two max_three min_three max_four min_four   -- for this text's walks alone
set_option linter.unusedVariables false
set_option linter.unusedSimpArgs false

/-! ### laws_FnExactDrop: function 8 -/
mutual
def laws_FnExactDrop.j0 : Nat → ByteArray → Bool → Bool → Bool → Int → Int → List (S125) → List (S125) → List Int → Int → Int → List (S68) → List (S68) → List Int → Int → Int → List (S68) → List (S68) → List Int → Int → Int → List (S68) → List (S68) → List Int → Option (Bool)
 | 0, _, _, _, _, _, _, _, _, _, _, _, _, _, _, _, _, _, _, _, _, _, _, _, _ => none
 | k + 1, x1, x7, x10, x47, x336000, x336001, x336002, x336003, x336004, x361000, x361001, x361002, x361003, x361004, x373000, x373001, x373002, x373003, x373004, x386000, x386001, x386002, x386003, x386004 => if x47 = true then (some false) else ((laws_toThree.f k x336000 x336001 x336002 x336003 x336004).bind fun bt387 => ((laws_eqThree.f k x373000 x373001 x373002 x373003 x373004 bt387.1 bt387.2.1 bt387.2.2.1 bt387.2.2.2.1 bt387.2.2.2.2).bind fun t398 => (if t398 = true then ((laws_markThree.f k x373000 x373001 x373002 x373003 x373004 1).bind fun bt399 => (if bt399.1 < 0 then (laws_FnExactDrop.j1 k x1 x7 true x336000 x336001 x336002 x336003 x336004 x361000 x361001 x361002 x361003 x361004 x386000 x386001 x386002 x386003 x386004) else ((laws_eqThree.f k x386000 x386001 x386002 x386003 x386004 x361000 x361001 x361002 x361003 x361004).bind fun t403 => (if t403 = true then (laws_FnExactDrop.j1 k x1 x7 (x10 != x7) x336000 x336001 x336002 x336003 x336004 x361000 x361001 x361002 x361003 x361004 x386000 x386001 x386002 x386003 x386004) else (laws_FnExactDrop.j1 k x1 x7 true x336000 x336001 x336002 x336003 x336004 x361000 x361001 x361002 x361003 x361004 x386000 x386001 x386002 x386003 x386004))))) else (some false))))
def laws_FnExactDrop.j1 : Nat → ByteArray → Bool → Bool → Int → Int → List (S125) → List (S125) → List Int → Int → Int → List (S68) → List (S68) → List Int → Int → Int → List (S68) → List (S68) → List Int → Option (Bool)
 | 0, _, _, _, _, _, _, _, _, _, _, _, _, _, _, _, _, _, _ => none
 | k + 1, x1, x7, x68, x336000, x336001, x336002, x336003, x336004, x361000, x361001, x361002, x361003, x361004, x386000, x386001, x386002, x386003, x386004 => if x68 = true then (some false) else ((laws_markThree.f k x386000 x386001 x386002 x386003 x386004 1).bind fun bt404 => ((laws_heldThree.f k x386000 x386001 bt404.2.1 bt404.2.2.1 bt404.2.2.2 1).bind fun t408 => (if t408 < 0 then (some false) else (if t408 = bt404.1 then ((laws_toThree.f k x336000 x336001 x336002 x336003 x336004).bind fun bt409 => ((impl_Drop.f k bt409.1 bt409.2.1 bt409.2.2.1 bt409.2.2.2.1 bt409.2.2.2.2 x1).bind fun bt420 => ((laws_eqThree.f k bt420.1 bt420.2.1 bt420.2.2.1 bt420.2.2.2.1 bt420.2.2.2.2.1 x361000 x361001 x361002 x361003 x361004).bind fun t433 => (if t433 = true then (laws_FnExactDrop.j2 k bt404.1 (bt420.2.2.2.2.2 != x7) x386000 x386001 bt404.2.1 bt404.2.2.1 bt404.2.2.2) else (laws_FnExactDrop.j2 k bt404.1 true x386000 x386001 bt404.2.1 bt404.2.2.1 bt404.2.2.2))))) else (some false)))))
def laws_FnExactDrop.j2 : Nat → Int → Bool → Int → Int → List (S68) → List (S68) → List Int → Option (Bool)
 | 0, _, _, _, _, _, _, _ => none
 | k + 1, x12, x95, x386000, x386001, x386002, x386003, x386004 => if x95 = true then (some false) else ((laws_heldThree.f k x386000 x386001 x386002 x386003 x386004 1).bind fun t434 => (if t434 < 0 then (some false) else (if t434 = x12 then (some true) else (some false))))
end
def laws_FnExactDrop.f (k : Nat) (a0_0 : Int) (a0_1 : Int) (l0_2 : List (S125)) (l0_3 : List (S125)) (l0_4 : List Int) (a1 : ByteArray) : Option (Bool) := if (a1.size : Int) > 1048576 then (some true) else ((laws_szThree.f k a0_0 a0_1 l0_2 l0_3 l0_4 1048576).bind fun t336 => (if t336 < 0 then (some true) else ((laws_toThree.f k a0_0 a0_1 l0_2 l0_3 l0_4).bind fun bt337 => ((spec_Drop.f k bt337.1 bt337.2.1 bt337.2.2.1 bt337.2.2.2.1 bt337.2.2.2.2 a1).bind fun bt348 => ((laws_toThree.f k a0_0 a0_1 l0_2 l0_3 l0_4).bind fun bt361 => ((impl_Drop.f k bt361.1 bt361.2.1 bt361.2.2.1 bt361.2.2.2.1 bt361.2.2.2.2 a1).bind fun bt373 => ((laws_eqThree.f k bt373.1 bt373.2.1 bt373.2.2.1 bt373.2.2.2.1 bt373.2.2.2.2.1 bt348.1 bt348.2.1 bt348.2.2.1 bt348.2.2.2.1 bt348.2.2.2.2.1).bind fun t386 => (if t386 = true then (laws_FnExactDrop.j0 k a1 bt348.2.2.2.2.2 bt373.2.2.2.2.2 (bt373.2.2.2.2.2 != bt348.2.2.2.2.2) a0_0 a0_1 l0_2 l0_3 l0_4 bt348.1 bt348.2.1 bt348.2.2.1 bt348.2.2.2.1 bt348.2.2.2.2.1 bt361.1 bt361.2.1 bt361.2.2.1 bt361.2.2.2.1 bt361.2.2.2.2 bt373.1 bt373.2.1 bt373.2.2.1 bt373.2.2.2.1 bt373.2.2.2.2.1) else (laws_FnExactDrop.j0 k a1 bt348.2.2.2.2.2 bt373.2.2.2.2.2 true a0_0 a0_1 l0_2 l0_3 l0_4 bt348.1 bt348.2.1 bt348.2.2.1 bt348.2.2.2.1 bt348.2.2.2.2.1 bt361.1 bt361.2.1 bt361.2.2.1 bt361.2.2.2.1 bt361.2.2.2.2 bt373.1 bt373.2.1 bt373.2.2.1 bt373.2.2.2.1 bt373.2.2.2.2.1)))))))))
theorem laws_FnExactDrop.mono_l : ∀ k, (∀ y0 y1 y2 y3 y4 y5 y6 y7 y8 y9 y10 y11 y12 y13 y14 y15 y16 y17 y18 y19 y20 y21 y22 y23, LeO (laws_FnExactDrop.j0 k y0 y1 y2 y3 y4 y5 y6 y7 y8 y9 y10 y11 y12 y13 y14 y15 y16 y17 y18 y19 y20 y21 y22 y23) (laws_FnExactDrop.j0 (k + 1) y0 y1 y2 y3 y4 y5 y6 y7 y8 y9 y10 y11 y12 y13 y14 y15 y16 y17 y18 y19 y20 y21 y22 y23)) ∧ (∀ y0 y1 y2 y3 y4 y5 y6 y7 y8 y9 y10 y11 y12 y13 y14 y15 y16 y17, LeO (laws_FnExactDrop.j1 k y0 y1 y2 y3 y4 y5 y6 y7 y8 y9 y10 y11 y12 y13 y14 y15 y16 y17) (laws_FnExactDrop.j1 (k + 1) y0 y1 y2 y3 y4 y5 y6 y7 y8 y9 y10 y11 y12 y13 y14 y15 y16 y17)) ∧ (∀ y0 y1 y2 y3 y4 y5 y6, LeO (laws_FnExactDrop.j2 k y0 y1 y2 y3 y4 y5 y6) (laws_FnExactDrop.j2 (k + 1) y0 y1 y2 y3 y4 y5 y6))
 | 0 => ⟨fun _ _ _ _ _ _ _ _ _ _ _ _ _ _ _ _ _ _ _ _ _ _ _ _ r h => by simp [laws_FnExactDrop.j0] at h, fun _ _ _ _ _ _ _ _ _ _ _ _ _ _ _ _ _ _ r h => by simp [laws_FnExactDrop.j1] at h, fun _ _ _ _ _ _ _ r h => by simp [laws_FnExactDrop.j2] at h⟩
 | k + 1 => by
  obtain ⟨ih0, ih1, ih2⟩ := laws_FnExactDrop.mono_l k
  refine ⟨?_, ?_, ?_⟩
  ·intro y0 y1 y2 y3 y4 y5 y6 y7 y8 y9 y10 y11 y12 y13 y14 y15 y16 y17 y18 y19 y20 y21 y22 y23
   unfold laws_FnExactDrop.j0
   repeat' first
   | (with_reducible exact ih0 _ _ _ _ _ _ _ _ _ _ _ _ _ _ _ _ _ _ _ _ _ _ _ _)
   | (with_reducible exact ih1 _ _ _ _ _ _ _ _ _ _ _ _ _ _ _ _ _ _)
   | (with_reducible exact ih2 _ _ _ _ _ _ _)
   | (with_reducible exact impl_Drop.mono _ _ _ _ _ _ _)
   | (with_reducible exact laws_eqThree.mono _ _ _ _ _ _ _ _ _ _ _)
   | (with_reducible exact laws_heldThree.mono _ _ _ _ _ _ _)
   | (with_reducible exact laws_markThree.mono _ _ _ _ _ _ _)
   | (with_reducible exact laws_szThree.mono _ _ _ _ _ _ _)
   | (with_reducible exact laws_toThree.mono _ _ _ _ _ _)
   | (with_reducible exact spec_Drop.mono _ _ _ _ _ _ _)
   | (with_reducible exact LeO.refl _)
   | (with_reducible exact LeO.none _)
   | (with_reducible refine LeO.ite ?_ ?_)
   | (with_reducible refine LeO.bind ?_ (fun _ => ?_))
   | exact ih0 _ _ _ _ _ _ _ _ _ _ _ _ _ _ _ _ _ _ _ _ _ _ _ _
   | exact ih1 _ _ _ _ _ _ _ _ _ _ _ _ _ _ _ _ _ _
   | exact ih2 _ _ _ _ _ _ _
   | exact impl_Drop.mono _ _ _ _ _ _ _
   | exact laws_eqThree.mono _ _ _ _ _ _ _ _ _ _ _
   | exact laws_heldThree.mono _ _ _ _ _ _ _
   | exact laws_markThree.mono _ _ _ _ _ _ _
   | exact laws_szThree.mono _ _ _ _ _ _ _
   | exact laws_toThree.mono _ _ _ _ _ _
   | exact spec_Drop.mono _ _ _ _ _ _ _
   | exact LeO.none _
   | refine LeO.ite ?_ ?_
   | refine LeO.bind ?_ (fun _ => ?_)
  ·intro y0 y1 y2 y3 y4 y5 y6 y7 y8 y9 y10 y11 y12 y13 y14 y15 y16 y17
   unfold laws_FnExactDrop.j1
   repeat' first
   | (with_reducible exact ih0 _ _ _ _ _ _ _ _ _ _ _ _ _ _ _ _ _ _ _ _ _ _ _ _)
   | (with_reducible exact ih1 _ _ _ _ _ _ _ _ _ _ _ _ _ _ _ _ _ _)
   | (with_reducible exact ih2 _ _ _ _ _ _ _)
   | (with_reducible exact impl_Drop.mono _ _ _ _ _ _ _)
   | (with_reducible exact laws_eqThree.mono _ _ _ _ _ _ _ _ _ _ _)
   | (with_reducible exact laws_heldThree.mono _ _ _ _ _ _ _)
   | (with_reducible exact laws_markThree.mono _ _ _ _ _ _ _)
   | (with_reducible exact laws_szThree.mono _ _ _ _ _ _ _)
   | (with_reducible exact laws_toThree.mono _ _ _ _ _ _)
   | (with_reducible exact spec_Drop.mono _ _ _ _ _ _ _)
   | (with_reducible exact LeO.refl _)
   | (with_reducible exact LeO.none _)
   | (with_reducible refine LeO.ite ?_ ?_)
   | (with_reducible refine LeO.bind ?_ (fun _ => ?_))
   | exact ih0 _ _ _ _ _ _ _ _ _ _ _ _ _ _ _ _ _ _ _ _ _ _ _ _
   | exact ih1 _ _ _ _ _ _ _ _ _ _ _ _ _ _ _ _ _ _
   | exact ih2 _ _ _ _ _ _ _
   | exact impl_Drop.mono _ _ _ _ _ _ _
   | exact laws_eqThree.mono _ _ _ _ _ _ _ _ _ _ _
   | exact laws_heldThree.mono _ _ _ _ _ _ _
   | exact laws_markThree.mono _ _ _ _ _ _ _
   | exact laws_szThree.mono _ _ _ _ _ _ _
   | exact laws_toThree.mono _ _ _ _ _ _
   | exact spec_Drop.mono _ _ _ _ _ _ _
   | exact LeO.none _
   | refine LeO.ite ?_ ?_
   | refine LeO.bind ?_ (fun _ => ?_)
  intro y0 y1 y2 y3 y4 y5 y6
  unfold laws_FnExactDrop.j2
  repeat' first
  | (with_reducible exact ih0 _ _ _ _ _ _ _ _ _ _ _ _ _ _ _ _ _ _ _ _ _ _ _ _)
  | (with_reducible exact ih1 _ _ _ _ _ _ _ _ _ _ _ _ _ _ _ _ _ _)
  | (with_reducible exact ih2 _ _ _ _ _ _ _)
  | (with_reducible exact impl_Drop.mono _ _ _ _ _ _ _)
  | (with_reducible exact laws_eqThree.mono _ _ _ _ _ _ _ _ _ _ _)
  | (with_reducible exact laws_heldThree.mono _ _ _ _ _ _ _)
  | (with_reducible exact laws_markThree.mono _ _ _ _ _ _ _)
  | (with_reducible exact laws_szThree.mono _ _ _ _ _ _ _)
  | (with_reducible exact laws_toThree.mono _ _ _ _ _ _)
  | (with_reducible exact spec_Drop.mono _ _ _ _ _ _ _)
  | (with_reducible exact LeO.refl _)
  | (with_reducible exact LeO.none _)
  | (with_reducible refine LeO.ite ?_ ?_)
  | (with_reducible refine LeO.bind ?_ (fun _ => ?_))
  | exact ih0 _ _ _ _ _ _ _ _ _ _ _ _ _ _ _ _ _ _ _ _ _ _ _ _
  | exact ih1 _ _ _ _ _ _ _ _ _ _ _ _ _ _ _ _ _ _
  | exact ih2 _ _ _ _ _ _ _
  | exact impl_Drop.mono _ _ _ _ _ _ _
  | exact laws_eqThree.mono _ _ _ _ _ _ _ _ _ _ _
  | exact laws_heldThree.mono _ _ _ _ _ _ _
  | exact laws_markThree.mono _ _ _ _ _ _ _
  | exact laws_szThree.mono _ _ _ _ _ _ _
  | exact laws_toThree.mono _ _ _ _ _ _
  | exact spec_Drop.mono _ _ _ _ _ _ _
  | exact LeO.none _
  | refine LeO.ite ?_ ?_
  | refine LeO.bind ?_ (fun _ => ?_)
theorem laws_FnExactDrop.mono : ∀ a0 a1 a2 a3 a4 a5 k, LeO (laws_FnExactDrop.f k a0 a1 a2 a3 a4 a5) (laws_FnExactDrop.f (k + 1) a0 a1 a2 a3 a4 a5) := by
 intro a0 a1 a2 a3 a4 a5 k
 obtain ⟨ih0, ih1, ih2⟩ := laws_FnExactDrop.mono_l k
 unfold laws_FnExactDrop.f
 repeat' first
   | (with_reducible exact ih0 _ _ _ _ _ _ _ _ _ _ _ _ _ _ _ _ _ _ _ _ _ _ _ _)
   | (with_reducible exact ih1 _ _ _ _ _ _ _ _ _ _ _ _ _ _ _ _ _ _)
   | (with_reducible exact ih2 _ _ _ _ _ _ _)
   | (with_reducible exact impl_Drop.mono _ _ _ _ _ _ _)
   | (with_reducible exact laws_eqThree.mono _ _ _ _ _ _ _ _ _ _ _)
   | (with_reducible exact laws_heldThree.mono _ _ _ _ _ _ _)
   | (with_reducible exact laws_markThree.mono _ _ _ _ _ _ _)
   | (with_reducible exact laws_szThree.mono _ _ _ _ _ _ _)
   | (with_reducible exact laws_toThree.mono _ _ _ _ _ _)
   | (with_reducible exact spec_Drop.mono _ _ _ _ _ _ _)
   | (with_reducible exact LeO.refl _)
   | (with_reducible exact LeO.none _)
   | (with_reducible refine LeO.ite ?_ ?_)
   | (with_reducible refine LeO.bind ?_ (fun _ => ?_))
   | exact ih0 _ _ _ _ _ _ _ _ _ _ _ _ _ _ _ _ _ _ _ _ _ _ _ _
   | exact ih1 _ _ _ _ _ _ _ _ _ _ _ _ _ _ _ _ _ _
   | exact ih2 _ _ _ _ _ _ _
   | exact impl_Drop.mono _ _ _ _ _ _ _
   | exact laws_eqThree.mono _ _ _ _ _ _ _ _ _ _ _
   | exact laws_heldThree.mono _ _ _ _ _ _ _
   | exact laws_markThree.mono _ _ _ _ _ _ _
   | exact laws_szThree.mono _ _ _ _ _ _ _
   | exact laws_toThree.mono _ _ _ _ _ _
   | exact spec_Drop.mono _ _ _ _ _ _ _
   | exact LeO.none _
   | refine LeO.ite ?_ ?_
   | refine LeO.bind ?_ (fun _ => ?_)
set_option maxHeartbeats 8000000 in
set_option maxRecDepth 100000 in
theorem laws_FnExactDrop.calls (k : Nat) (a0_0 : Int) (a0_1 : Int) (A0_2 : Option Addr) (c0_2 : Nat) (l0_2 : List (S125)) (A0_3 : Option Addr) (c0_3 : Nat) (l0_3 : List (S125)) (A0_4 : Option Addr) (c0_4 : Nat) (l0_4 : List Int) (a1 : ByteArray) (r : Bool) (w : World) (hr0_2 : Kd.C k125 w A0_2 l0_2.length l0_2) (hc0_2 : l0_2.length ≤ c0_2) (hr0_3 : Kd.C k125 w A0_3 l0_3.length l0_3) (hc0_3 : l0_3.length ≤ c0_3) (hr0_4 : Kd.C (Kd.int .i64) w A0_4 l0_4.length l0_4) (hc0_4 : l0_4.length ≤ c0_4) (h : laws_FnExactDrop.f k a0_0 a0_1 l0_2 l0_3 l0_4 a1 = some r) (hrt_ : Aside0 (r = true)) :
  Calls Try.prog 8 #[.agg #[.int .i64 a0_0, .int .i64 a0_1, .slice A0_2 l0_2.length c0_2, .slice A0_3 l0_3.length c0_3, .slice A0_4 l0_4.length c0_4], .string a1] w fun e w' => e = .returned (.bool r) ∧ Below w.heap.size w w' := by
 have hu25 := Try.underlying25
 have hu30 := Try.underlying30
 have HR0_2 := Aside0.mk hr0_2
 have HC0_2 := Aside0.mk hc0_2
 clear hr0_2 hc0_2
 have HR0_3 := Aside0.mk hr0_3
 have HC0_3 := Aside0.mk hc0_3
 clear hr0_3 hc0_3
 have HR0_4 := Aside0.mk hr0_4
 have HC0_4 := Aside0.mk hc0_4
 clear hr0_4 hc0_4
 have HB := Aside0.mk (Below.refl w.heap.size w)
 have H : (if (a1.size : Int) > 1048576 then (some true) else ((laws_szThree.f k a0_0 a0_1 l0_2 l0_3 l0_4 1048576).bind fun t336 => (if t336 < 0 then (some true) else ((laws_toThree.f k a0_0 a0_1 l0_2 l0_3 l0_4).bind fun bt337 => ((spec_Drop.f k bt337.1 bt337.2.1 bt337.2.2.1 bt337.2.2.2.1 bt337.2.2.2.2 a1).bind fun bt348 => ((laws_toThree.f k a0_0 a0_1 l0_2 l0_3 l0_4).bind fun bt361 => ((impl_Drop.f k bt361.1 bt361.2.1 bt361.2.2.1 bt361.2.2.2.1 bt361.2.2.2.2 a1).bind fun bt373 => ((laws_eqThree.f k bt373.1 bt373.2.1 bt373.2.2.1 bt373.2.2.2.1 bt373.2.2.2.2.1 bt348.1 bt348.2.1 bt348.2.2.1 bt348.2.2.2.1 bt348.2.2.2.2.1).bind fun t386 => (if t386 = true then (laws_FnExactDrop.j0 k a1 bt348.2.2.2.2.2 bt373.2.2.2.2.2 (bt373.2.2.2.2.2 != bt348.2.2.2.2.2) a0_0 a0_1 l0_2 l0_3 l0_4 bt348.1 bt348.2.1 bt348.2.2.1 bt348.2.2.2.1 bt348.2.2.2.2.1 bt361.1 bt361.2.1 bt361.2.2.1 bt361.2.2.2.1 bt361.2.2.2.2 bt373.1 bt373.2.1 bt373.2.2.1 bt373.2.2.2.1 bt373.2.2.2.2.1) else (laws_FnExactDrop.j0 k a1 bt348.2.2.2.2.2 bt373.2.2.2.2.2 true a0_0 a0_1 l0_2 l0_3 l0_4 bt348.1 bt348.2.1 bt348.2.2.1 bt348.2.2.2.1 bt348.2.2.2.2.1 bt361.1 bt361.2.1 bt361.2.2.1 bt361.2.2.2.1 bt361.2.2.2.2 bt373.1 bt373.2.1 bt373.2.2.1 bt373.2.2.2.1 bt373.2.2.2.2.1)))))))))) = some r := h
 clear h
 by_cases c3 : (a1.size : Int) > 1048576
 ·rw [if_pos c3] at H
  have c3b0 : decide (1048576 < (a1.size : Int)) = true := decide_eq_true c3
  have c3b1 : decide (1048576 < a1.size) = true := decide_eq_true (by omega)
  clear c3
  obtain rfl := Option.some.inj H
  go_enter Try.func8, Try.ntmps8
  go_wp2_with (first | ((with_reducible refine gate_dst (N := 2) rfl ?_); refine bx 2 #[.int .i64 a0_0, .int .i64 a0_1, .slice A0_2 l0_2.length c0_2, .slice A0_3 l0_3.length c0_3, .slice A0_4 l0_4.length c0_4] 25 ?_; intro gb335 hg w4 hbox hb; have BK335 := am hbox; have GW335 := gs0 hg HB; have GE335 := gs0 hg HB; replace HB := s0 HB hb; clear hb hbox hg))
  go_ret
  exact ⟨er, be1 HB GE335⟩
 rw [if_neg c3] at H
 have c3b0 : decide (1048576 < (a1.size : Int)) = false := decide_eq_false c3
 have c3b1 : decide (1048576 < a1.size) = false := decide_eq_false (by omega)
 clear c3
 replace H := Option.bind_eq_some_iff.mp H
 obtain ⟨t336, A50, H⟩ := H
 try dsimp only at H
 have A5 := Aside0.mk A50
 clear A50
 by_cases c6 : t336 < 0
 ·rw [if_pos c6] at H
  have c6b0 : decide (t336 < 0) = true := decide_eq_true c6
  clear c6
  obtain rfl := Option.some.inj H
  go_enter Try.func8, Try.ntmps8
  go_wp2_with (first | ((with_reducible refine gate_dst (N := 2) rfl ?_); refine bx 2 #[.int .i64 a0_0, .int .i64 a0_1, .slice A0_2 l0_2.length c0_2, .slice A0_3 l0_3.length c0_3, .slice A0_4 l0_4.length c0_4] 25 ?_; intro gb335 hg w7 hbox hb; have BK335 := am hbox; have GW335 := gs0 hg HB; have GE335 := gs0 hg HB; replace HB := s0 HB hb; clear hb hbox hg; have hcz8_0 := bz5 BK335) | ((with_reducible refine gate_callee (f := 16) rfl ?_); refine gl 21 Try.func16 #[.agg #[.int .i64 a0_0, .int .i64 a0_1, .slice A0_2 l0_2.length c0_2, .slice A0_3 l0_3.length c0_3, .slice A0_4 l0_4.length c0_4], .int .i64 1048576] ?_; (with_reducible refine (laws_szThree.calls k a0_0 a0_1 _ _ l0_2 _ _ l0_3 _ _ l0_4 1048576 t336 _ (cb HR0_2 HB) HC0_2.out (cb HR0_3 HB) HC0_3.out (cb HR0_4 HB) HC0_4.out A5.out).mono ?_); rintro e w9 ⟨rfl, hb⟩; refine ⟨_, rfl, ?_⟩; replace BK335 := bb BK335 hb; replace HB := Aside0.mk (below_step (be1 HB GE335) hb); (try clear hb)))
  go_ret
  exact ⟨er, be1 HB GE335⟩
 rw [if_neg c6] at H
 have c6b0 : decide (t336 < 0) = false := decide_eq_false c6
 clear c6
 replace H := Option.bind_eq_some_iff.mp H
 obtain ⟨⟨t337, t338, t339, t342, t345⟩, A100, H⟩ := H
 try dsimp only at H
 have A10 := Aside0.mk A100
 clear A100
 replace H := Option.bind_eq_some_iff.mp H
 obtain ⟨⟨t348, t349, t350, t353, t356, t359⟩, A110, H⟩ := H
 try dsimp only at H
 have A11 := Aside0.mk A110
 clear A110
 replace H := Option.bind_eq_some_iff.mp H
 obtain ⟨⟨t361, t362, t363, t366, t369⟩, A120, H⟩ := H
 try dsimp only at H
 have A12 := Aside0.mk A120
 clear A120
 replace H := Option.bind_eq_some_iff.mp H
 obtain ⟨⟨t373, t374, t375, t378, t381, t384⟩, A130, H⟩ := H
 try dsimp only at H
 have A13 := Aside0.mk A130
 clear A130
 have HC14 := Aside0.mk H
 clear H
 go_enter Try.func8, Try.ntmps8
 go_upto_region 10 with (first | ((with_reducible refine gate_dst (N := 2) rfl ?_); refine bx 2 #[.int .i64 a0_0, .int .i64 a0_1, .slice A0_2 l0_2.length c0_2, .slice A0_3 l0_3.length c0_3, .slice A0_4 l0_4.length c0_4] 25 ?_; intro gb335 hg w15 hbox hb; have BK335 := am hbox; have GW335 := gs0 hg HB; have GE335 := gs0 hg HB; replace HB := s0 HB hb; clear hb hbox hg; have hcz16_0 := bz5 BK335) | ((with_reducible refine gate_callee (f := 16) rfl ?_); refine gl 21 Try.func16 #[.agg #[.int .i64 a0_0, .int .i64 a0_1, .slice A0_2 l0_2.length c0_2, .slice A0_3 l0_3.length c0_3, .slice A0_4 l0_4.length c0_4], .int .i64 1048576] ?_; (with_reducible refine (laws_szThree.calls k a0_0 a0_1 _ _ l0_2 _ _ l0_3 _ _ l0_4 1048576 t336 _ (cb HR0_2 HB) HC0_2.out (cb HR0_3 HB) HC0_3.out (cb HR0_4 HB) HC0_4.out A5.out).mono ?_); rintro e w17 ⟨rfl, hb⟩; refine ⟨_, rfl, ?_⟩; replace BK335 := bb BK335 hb; replace HB := Aside0.mk (below_step (be1 HB GE335) hb); (try clear hb); have hcz18_0 := bz5 BK335) | ((with_reducible refine gate_callee (f := 18) rfl ?_); refine gl 26 Try.func18 #[.agg #[.int .i64 a0_0, .int .i64 a0_1, .slice A0_2 l0_2.length c0_2, .slice A0_3 l0_3.length c0_3, .slice A0_4 l0_4.length c0_4]] ?_; (with_reducible refine (laws_toThree.calls k a0_0 a0_1 _ _ l0_2 _ _ l0_3 _ _ l0_4 t337 t338 t339 t342 t345 _ (cb HR0_2 HB) HC0_2.out (cb HR0_3 HB) HC0_3.out (cb HR0_4 HB) HC0_4.out A10.out).mono ?_); rintro e w19 ⟨v340, v343, v346, rfl, ho0, ho1, ho2, hb⟩; refine ⟨_, rfl, ?_⟩; have HO341 := Aside0.mk (Kd.R_lower ho0 (below_size (be1 HB GE335))); have HO344 := Aside0.mk (Kd.R_lower ho1 (below_size (be1 HB GE335))); have HO347 := Aside0.mk (Kd.R_lower ho2 (below_size (be1 HB GE335))); replace BK335 := bb BK335 hb; replace HB := Aside0.mk (below_step (be1 HB GE335) hb); (try clear hb); (try clear ho0); (try clear ho1); (try clear ho2); obtain ⟨Ao20, co20, eo20⟩ := Kd.R_slice HO341.out; subst eo20; obtain ⟨Ao21, co21, eo21⟩ := Kd.R_slice HO344.out; subst eo21; obtain ⟨Ao22, co22, eo22⟩ := Kd.R_slice HO347.out; subst eo22) | ((with_reducible refine gate_callee (f := 33) rfl ?_); refine gl 28 Try.func33 #[.agg #[.int .i64 t337, .int .i64 t338, .slice Ao20 t339.length co20, .slice Ao21 t342.length co21, .slice Ao22 t345.length co22], .string a1] ?_; (with_reducible refine (spec_Drop.calls k t337 t338 _ _ t339 _ _ t342 _ _ t345 a1 t348 t349 t350 t353 t356 t359 _ (cr HO341) ((Kd.R_reads' HO341.out).2.1) (cr HO344) ((Kd.R_reads' HO344.out).2.1) (cr HO347) ((Kd.R_reads' HO347.out).2.1) A11.out).mono ?_); rintro e w23 ⟨v351, v354, v357, rfl, ho0, ho1, ho2, hb⟩; refine ⟨_, rfl, ?_⟩; have HO352 := Aside0.mk (Kd.R_lower (nw (nw ho0 HO341) HO344) (below_size (be1 HB GE335))); have HO355 := Aside0.mk (Kd.R_lower (nw (nw ho1 HO341) HO344) (below_size (be1 HB GE335))); replace HO341 := td2 (ro HO341) hb ho0 ho1; replace HO344 := td2 (ro HO344) hb ho0 ho1; have HO358 := Aside0.mk (Kd.R_lower (nw ho2 HO347) (below_size (be1 HB GE335))); replace HO347 := Aside0.mk (Kd.R_elder' (ro HO347) (Kd.R_base ho2) hb); replace BK335 := bb BK335 hb; replace HB := Aside0.mk (below_step (be1 HB GE335) hb); (try clear hb); (try clear ho0); (try clear ho1); (try clear ho2)) | ((with_reducible refine gate_dst (N := 6) rfl ?_); refine bx 6 #[.int .i64 0, .int .i64 0, .slice none 0 0, .slice none 0 0, .slice none 0 0] 30 ?_; intro gb360 hg w24 hbox hb; replace HO341 := rb HO341 hb; replace HO344 := rb HO344 hb; replace HO347 := rb HO347 hb; replace HO352 := rb HO352 hb; replace HO355 := rb HO355 hb; replace HO358 := rb HO358 hb; have BK360 := am hbox; have GW360 := gs1 hg HB GE335; have GE360 := gs1 hg HB GE335; replace HB := Aside0.mk (below_step (be1 HB GE335) hb); have NB335_360 := Aside0.mk ((by rw [hg]; exact Nat.ne_of_lt (bl BK335) : gb335 ≠ gb360)); have NB360_335 := Aside0.mk ((by rw [hg]; exact Nat.ne_of_gt (bl BK335) : gb360 ≠ gb335)); replace BK335 := bb BK335 hb; clear hb hbox hg; have hnb25 := NB360_335.out; have hnc25 := NB335_360.out; have hcz26_0 := bz5 BK360; obtain ⟨Ao27, co27, eo27⟩ := Kd.R_slice HO352.out; subst eo27; obtain ⟨Ao28, co28, eo28⟩ := Kd.R_slice HO355.out; subst eo28; obtain ⟨Ao29, co29, eo29⟩ := Kd.R_slice HO358.out; subst eo29; have hcz30_0 := bz5 BK335) | ((with_reducible refine gate_callee (f := 18) rfl ?_); refine gl 32 Try.func18 #[.agg #[.int .i64 a0_0, .int .i64 a0_1, .slice A0_2 l0_2.length c0_2, .slice A0_3 l0_3.length c0_3, .slice A0_4 l0_4.length c0_4]] ?_; (with_reducible refine (laws_toThree.calls k a0_0 a0_1 _ _ l0_2 _ _ l0_3 _ _ l0_4 t361 t362 t363 t366 t369 _ ?side1 HC0_2.out ?side3 HC0_3.out ?side5 HC0_4.out A12.out).mono ?_); (case side1 => exact Kd.C_below HR0_2.out (be2 HB GE335 GE360)); (case side3 => exact Kd.C_below HR0_3.out (be2 HB GE335 GE360)); (case side5 => exact Kd.C_below HR0_4.out (be2 HB GE335 GE360)); rintro e w31 ⟨v364, v367, v370, rfl, ho0, ho1, ho2, hb⟩; refine ⟨_, rfl, ?_⟩; have HO365 := Aside0.mk (Kd.R_lower (Kd.R_new' (Kd.R_new' (Kd.R_new' (Kd.R_new' ho0 (Kd.R_lt (rf HO341 BK360))) (Kd.R_lt (rf HO344 BK360))) (Kd.R_lt (rf HO352 BK360))) (Kd.R_lt (rf HO355 BK360))) (below_size (be2 HB GE335 GE360))); have HO368 := Aside0.mk (Kd.R_lower (Kd.R_new' (Kd.R_new' (Kd.R_new' (Kd.R_new' ho1 (Kd.R_lt (rf HO341 BK360))) (Kd.R_lt (rf HO344 BK360))) (Kd.R_lt (rf HO352 BK360))) (Kd.R_lt (rf HO355 BK360))) (below_size (be2 HB GE335 GE360))); replace HO341 := td2 (rf HO341 BK360) hb ho0 ho1; replace HO344 := td2 (rf HO344 BK360) hb ho0 ho1; replace HO352 := td2 (rf HO352 BK360) hb ho0 ho1; replace HO355 := td2 (rf HO355 BK360) hb ho0 ho1; have HO371 := Aside0.mk (Kd.R_lower (Kd.R_new' (Kd.R_new' ho2 (Kd.R_lt (rf HO347 BK360))) (Kd.R_lt (rf HO358 BK360))) (below_size (be2 HB GE335 GE360))); replace HO347 := Aside0.mk (Kd.R_elder' (rf HO347 BK360) (Kd.R_base ho2) hb); replace HO358 := Aside0.mk (Kd.R_elder' (rf HO358 BK360) (Kd.R_base ho2) hb); replace BK335 := Aside0.mk (blk_below (g := gb335) (o := .cells #[.int .i64 a0_0, .int .i64 a0_1, .slice A0_2 l0_2.length c0_2, .slice A0_3 l0_3.length c0_3, .slice A0_4 l0_4.length c0_4] 25 (0, 0)) (bf1 BK335 NB335_360) hb); replace BK360 := Aside0.mk (blk_below (g := gb360) (o := .cells #[.int .i64 t348, .int .i64 t349, .slice Ao27 t350.length co27, .slice Ao28 t353.length co28, .slice Ao29 t356.length co29] 30 (0, 0)) (by (with_reducible repeat (first | refine blk_drewN ?_ _ | refine blk_drew ?_ | refine blk_alloc ?_ _)); refine blk_put (cs := #[.int .i64 t348, .int .i64 t349, .slice Ao27 t350.length co27, .slice Ao28 t353.length co28, .slice none 0 0]) ?_ 4 _ rfl; (with_reducible repeat (first | refine blk_drewN ?_ _ | refine blk_drew ?_ | refine blk_alloc ?_ _)); refine blk_put (cs := #[.int .i64 t348, .int .i64 t349, .slice Ao27 t350.length co27, .slice none 0 0, .slice none 0 0]) ?_ 3 _ rfl; (with_reducible repeat (first | refine blk_drewN ?_ _ | refine blk_drew ?_ | refine blk_alloc ?_ _)); refine blk_put (cs := #[.int .i64 t348, .int .i64 t349, .slice none 0 0, .slice none 0 0, .slice none 0 0]) ?_ 2 _ rfl; (with_reducible repeat (first | refine blk_drewN ?_ _ | refine blk_drew ?_ | refine blk_alloc ?_ _)); refine blk_put (cs := #[.int .i64 t348, .int .i64 0, .slice none 0 0, .slice none 0 0, .slice none 0 0]) ?_ 1 _ rfl; (with_reducible repeat (first | refine blk_drewN ?_ _ | refine blk_drew ?_ | refine blk_alloc ?_ _)); refine blk_put (cs := #[.int .i64 0, .int .i64 0, .slice none 0 0, .slice none 0 0, .slice none 0 0]) ?_ 0 _ rfl; (with_reducible repeat (first | refine blk_drewN ?_ _ | refine blk_drew ?_ | refine blk_alloc ?_ _)); exact BK360.out) hb); replace HB := Aside0.mk (below_step (be2 HB GE335 GE360) hb); (try clear hb); (try clear ho0); (try clear ho1); (try clear ho2)) | ((with_reducible refine gate_dst (N := 8) rfl ?_); refine bx 8 #[.int .i64 0, .int .i64 0, .slice none 0 0, .slice none 0 0, .slice none 0 0] 30 ?_; intro gb372 hg w32 hbox hb; replace HO341 := rb HO341 hb; replace HO344 := rb HO344 hb; replace HO347 := rb HO347 hb; replace HO352 := rb HO352 hb; replace HO355 := rb HO355 hb; replace HO358 := rb HO358 hb; replace HO365 := rb HO365 hb; replace HO368 := rb HO368 hb; replace HO371 := rb HO371 hb; have BK372 := am hbox; have GW372 := gs2 hg HB GE335 GE360; have GE372 := gs2 hg HB GE335 GE360; replace HB := Aside0.mk (below_step (be2 HB GE335 GE360) hb); have NB335_372 := Aside0.mk ((by rw [hg]; exact Nat.ne_of_lt (bl BK335) : gb335 ≠ gb372)); have NB372_335 := Aside0.mk ((by rw [hg]; exact Nat.ne_of_gt (bl BK335) : gb372 ≠ gb335)); replace BK335 := bb BK335 hb; have NB360_372 := Aside0.mk ((by rw [hg]; exact Nat.ne_of_lt (bl BK360) : gb360 ≠ gb372)); have NB372_360 := Aside0.mk ((by rw [hg]; exact Nat.ne_of_gt (bl BK360) : gb372 ≠ gb360)); replace BK360 := bb BK360 hb; clear hb hbox hg; have hnb33 := NB372_335.out; have hnc33 := NB335_372.out; have hnb34 := NB372_360.out; have hnc34 := NB360_372.out; have hcz35_0 := bz5 BK372; obtain ⟨Ao36, co36, eo36⟩ := Kd.R_slice HO365.out; subst eo36; obtain ⟨Ao37, co37, eo37⟩ := Kd.R_slice HO368.out; subst eo37; obtain ⟨Ao38, co38, eo38⟩ := Kd.R_slice HO371.out; subst eo38) | ((with_reducible refine gate_callee (f := 34) rfl ?_); refine gl 36 Try.func34 #[.agg #[.int .i64 t361, .int .i64 t362, .slice Ao36 t363.length co36, .slice Ao37 t366.length co37, .slice Ao38 t369.length co38], .string a1] ?_; (with_reducible refine (impl_Drop.calls k t361 t362 _ _ t363 _ _ t366 _ _ t369 a1 t373 t374 t375 t378 t381 t384 _ ?side1 ((Kd.R_reads' HO365.out).2.1) ?side3 ((Kd.R_reads' HO368.out).2.1) ?side5 ((Kd.R_reads' HO371.out).2.1) A13.out).mono ?_); (case side1 => exact rfr _ HO365 BK372); (case side3 => exact rfr _ HO368 BK372); (case side5 => exact rfr _ HO371 BK372); rintro e w39 ⟨v376, v379, v382, rfl, ho0, ho1, ho2, hb⟩; refine ⟨_, rfl, ?_⟩; have HO377 := Aside0.mk (Kd.R_lower (Kd.R_new' (Kd.R_new' (Kd.R_new' (Kd.R_new' (Kd.R_new' (Kd.R_new' ho0 (Kd.R_lt (rf HO341 BK372))) (Kd.R_lt (rf HO344 BK372))) (Kd.R_lt (rf HO352 BK372))) (Kd.R_lt (rf HO355 BK372))) (Kd.R_lt (rf HO365 BK372))) (Kd.R_lt (rf HO368 BK372))) (below_size (be3 HB GE335 GE360 GE372))); have HO380 := Aside0.mk (Kd.R_lower (Kd.R_new' (Kd.R_new' (Kd.R_new' (Kd.R_new' (Kd.R_new' (Kd.R_new' ho1 (Kd.R_lt (rf HO341 BK372))) (Kd.R_lt (rf HO344 BK372))) (Kd.R_lt (rf HO352 BK372))) (Kd.R_lt (rf HO355 BK372))) (Kd.R_lt (rf HO365 BK372))) (Kd.R_lt (rf HO368 BK372))) (below_size (be3 HB GE335 GE360 GE372))); replace HO341 := td2 (rf HO341 BK372) hb ho0 ho1; replace HO344 := td2 (rf HO344 BK372) hb ho0 ho1; replace HO352 := td2 (rf HO352 BK372) hb ho0 ho1; replace HO355 := td2 (rf HO355 BK372) hb ho0 ho1; replace HO365 := td2 (rf HO365 BK372) hb ho0 ho1; replace HO368 := td2 (rf HO368 BK372) hb ho0 ho1; have HO383 := Aside0.mk (Kd.R_lower (Kd.R_new' (Kd.R_new' (Kd.R_new' ho2 (Kd.R_lt (rf HO347 BK372))) (Kd.R_lt (rf HO358 BK372))) (Kd.R_lt (rf HO371 BK372))) (below_size (be3 HB GE335 GE360 GE372))); replace HO347 := Aside0.mk (Kd.R_elder' (rf HO347 BK372) (Kd.R_base ho2) hb); replace HO358 := Aside0.mk (Kd.R_elder' (rf HO358 BK372) (Kd.R_base ho2) hb); replace HO371 := Aside0.mk (Kd.R_elder' (rf HO371 BK372) (Kd.R_base ho2) hb); replace BK335 := Aside0.mk (blk_below (g := gb335) (o := .cells #[.int .i64 a0_0, .int .i64 a0_1, .slice A0_2 l0_2.length c0_2, .slice A0_3 l0_3.length c0_3, .slice A0_4 l0_4.length c0_4] 25 (0, 0)) (bf1 BK335 NB335_372) hb); replace BK360 := Aside0.mk (blk_below (g := gb360) (o := .cells #[.int .i64 t348, .int .i64 t349, .slice Ao27 t350.length co27, .slice Ao28 t353.length co28, .slice Ao29 t356.length co29] 30 (0, 0)) (bf1 BK360 NB360_372) hb); replace BK372 := Aside0.mk (blk_below (g := gb372) (o := .cells #[.int .i64 t361, .int .i64 t362, .slice Ao36 t363.length co36, .slice Ao37 t366.length co37, .slice Ao38 t369.length co38] 30 (0, 0)) (by (with_reducible repeat (first | refine blk_drewN ?_ _ | refine blk_drew ?_ | refine blk_alloc ?_ _)); refine blk_put (cs := #[.int .i64 t361, .int .i64 t362, .slice Ao36 t363.length co36, .slice Ao37 t366.length co37, .slice none 0 0]) ?_ 4 _ rfl; (with_reducible repeat (first | refine blk_drewN ?_ _ | refine blk_drew ?_ | refine blk_alloc ?_ _)); refine blk_put (cs := #[.int .i64 t361, .int .i64 t362, .slice Ao36 t363.length co36, .slice none 0 0, .slice none 0 0]) ?_ 3 _ rfl; (with_reducible repeat (first | refine blk_drewN ?_ _ | refine blk_drew ?_ | refine blk_alloc ?_ _)); refine blk_put (cs := #[.int .i64 t361, .int .i64 t362, .slice none 0 0, .slice none 0 0, .slice none 0 0]) ?_ 2 _ rfl; (with_reducible repeat (first | refine blk_drewN ?_ _ | refine blk_drew ?_ | refine blk_alloc ?_ _)); refine blk_put (cs := #[.int .i64 t361, .int .i64 0, .slice none 0 0, .slice none 0 0, .slice none 0 0]) ?_ 1 _ rfl; (with_reducible repeat (first | refine blk_drewN ?_ _ | refine blk_drew ?_ | refine blk_alloc ?_ _)); refine blk_put (cs := #[.int .i64 0, .int .i64 0, .slice none 0 0, .slice none 0 0, .slice none 0 0]) ?_ 0 _ rfl; (with_reducible repeat (first | refine blk_drewN ?_ _ | refine blk_drew ?_ | refine blk_alloc ?_ _)); exact BK372.out) hb); replace HB := Aside0.mk (below_step (be3 HB GE335 GE360 GE372) hb); (try clear hb); (try clear ho0); (try clear ho1); (try clear ho2)) | ((with_reducible refine gate_dst (N := 9) rfl ?_); refine bx 9 #[.int .i64 0, .int .i64 0, .slice none 0 0, .slice none 0 0, .slice none 0 0] 30 ?_; intro gb385 hg w40 hbox hb; replace HO341 := rb HO341 hb; replace HO344 := rb HO344 hb; replace HO347 := rb HO347 hb; replace HO352 := rb HO352 hb; replace HO355 := rb HO355 hb; replace HO358 := rb HO358 hb; replace HO365 := rb HO365 hb; replace HO368 := rb HO368 hb; replace HO371 := rb HO371 hb; replace HO377 := rb HO377 hb; replace HO380 := rb HO380 hb; replace HO383 := rb HO383 hb; have BK385 := am hbox; have GW385 := Aside0.mk ((by rw [hg]; exact (below_size (be3 HB GE335 GE360 GE372)) : w.heap.size ≤ gb385)); have GE385 := Aside0.mk ((by rw [hg]; exact (below_size (be3 HB GE335 GE360 GE372)) : w.heap.size ≤ gb385)); replace HB := Aside0.mk (below_step (be3 HB GE335 GE360 GE372) hb); have NB335_385 := Aside0.mk ((by rw [hg]; exact Nat.ne_of_lt (bl BK335) : gb335 ≠ gb385)); have NB385_335 := Aside0.mk ((by rw [hg]; exact Nat.ne_of_gt (bl BK335) : gb385 ≠ gb335)); replace BK335 := bb BK335 hb; have NB360_385 := Aside0.mk ((by rw [hg]; exact Nat.ne_of_lt (bl BK360) : gb360 ≠ gb385)); have NB385_360 := Aside0.mk ((by rw [hg]; exact Nat.ne_of_gt (bl BK360) : gb385 ≠ gb360)); replace BK360 := bb BK360 hb; have NB372_385 := Aside0.mk ((by rw [hg]; exact Nat.ne_of_lt (bl BK372) : gb372 ≠ gb385)); have NB385_372 := Aside0.mk ((by rw [hg]; exact Nat.ne_of_gt (bl BK372) : gb385 ≠ gb372)); replace BK372 := bb BK372 hb; clear hb hbox hg; have hnb41 := NB385_335.out; have hnc41 := NB335_385.out; have hnb42 := NB385_360.out; have hnc42 := NB360_385.out; have hnb43 := NB385_372.out; have hnc43 := NB372_385.out; have hcz44_0 := bz5 BK385; obtain ⟨Ao45, co45, eo45⟩ := Kd.R_slice HO377.out; subst eo45; obtain ⟨Ao46, co46, eo46⟩ := Kd.R_slice HO380.out; subst eo46; obtain ⟨Ao47, co47, eo47⟩ := Kd.R_slice HO383.out; subst eo47))
 (try simp only [Act.put, List.setIfInBounds_toArray, List.set_cons_zero, List.set_cons_succ])
 go_cut [47] (fun v47 wc => ∃ (kq : Nat) (x47_13 : Bool), v47 = .bool x47_13 ∧ Aside0 (laws_FnExactDrop.j0 kq a1 t359 t384 x47_13 a0_0 a0_1 l0_2 l0_3 l0_4 t348 t349 t350 t353 t356 t361 t362 t363 t366 t369 t373 t374 t375 t378 t381 = some r) ∧ Aside0 (kq ≤ k) ∧ Aside0 (Kd.R k68 68 wc w.heap.size (fun k_ => nb k_ Ao28 t353.length co28 ∧ nb k_ Ao36 t363.length co36 ∧ nb k_ Ao37 t366.length co37 ∧ nb k_ Ao45 t375.length co45 ∧ nb k_ Ao46 t378.length co46) (.slice Ao27 t350.length co27) t350) ∧ Aside0 (Kd.R k68 68 wc w.heap.size (fun k_ => nb k_ Ao27 t350.length co27 ∧ nb k_ Ao36 t363.length co36 ∧ nb k_ Ao37 t366.length co37 ∧ nb k_ Ao45 t375.length co45 ∧ nb k_ Ao46 t378.length co46) (.slice Ao28 t353.length co28) t353) ∧ Aside0 (Kd.R (Kd.int .i64) 3 wc w.heap.size (fun k_ => nb k_ Ao38 t369.length co38 ∧ nb k_ Ao47 t381.length co47) (.slice Ao29 t356.length co29) t356) ∧ Aside0 (Kd.R k68 68 wc w.heap.size (fun k_ => nb k_ Ao27 t350.length co27 ∧ nb k_ Ao28 t353.length co28 ∧ nb k_ Ao37 t366.length co37 ∧ nb k_ Ao45 t375.length co45 ∧ nb k_ Ao46 t378.length co46) (.slice Ao36 t363.length co36) t363) ∧ Aside0 (Kd.R k68 68 wc w.heap.size (fun k_ => nb k_ Ao27 t350.length co27 ∧ nb k_ Ao28 t353.length co28 ∧ nb k_ Ao36 t363.length co36 ∧ nb k_ Ao45 t375.length co45 ∧ nb k_ Ao46 t378.length co46) (.slice Ao37 t366.length co37) t366) ∧ Aside0 (Kd.R (Kd.int .i64) 3 wc w.heap.size (fun k_ => nb k_ Ao29 t356.length co29 ∧ nb k_ Ao47 t381.length co47) (.slice Ao38 t369.length co38) t369) ∧ Aside0 (Kd.R k68 68 wc w.heap.size (fun k_ => nb k_ Ao27 t350.length co27 ∧ nb k_ Ao28 t353.length co28 ∧ nb k_ Ao36 t363.length co36 ∧ nb k_ Ao37 t366.length co37 ∧ nb k_ Ao46 t378.length co46) (.slice Ao45 t375.length co45) t375) ∧ Aside0 (Kd.R k68 68 wc w.heap.size (fun k_ => nb k_ Ao27 t350.length co27 ∧ nb k_ Ao28 t353.length co28 ∧ nb k_ Ao36 t363.length co36 ∧ nb k_ Ao37 t366.length co37 ∧ nb k_ Ao45 t375.length co45) (.slice Ao46 t378.length co46) t378) ∧ Aside0 (Kd.R (Kd.int .i64) 3 wc w.heap.size (fun k_ => nb k_ Ao29 t356.length co29 ∧ nb k_ Ao38 t369.length co38) (.slice Ao47 t381.length co47) t381) ∧ Aside0 (wc.heap[gb335]? = some (.cells #[.int .i64 a0_0, .int .i64 a0_1, (.slice A0_2 l0_2.length c0_2), (.slice A0_3 l0_3.length c0_3), (.slice A0_4 l0_4.length c0_4)] 25 (0, 0))) ∧ Aside0 (wc.heap[gb360]? = some (.cells #[.int .i64 t348, .int .i64 t349, (.slice Ao27 t350.length co27), (.slice Ao28 t353.length co28), (.slice Ao29 t356.length co29)] 30 (0, 0))) ∧ Aside0 (wc.heap[gb372]? = some (.cells #[.int .i64 t361, .int .i64 t362, (.slice Ao36 t363.length co36), (.slice Ao37 t366.length co37), (.slice Ao38 t369.length co38)] 30 (0, 0))) ∧ Aside0 (wc.heap[gb385]? = some (.cells #[.int .i64 t373, .int .i64 t374, (.slice Ao45 t375.length co45), (.slice Ao46 t378.length co46), (.slice Ao47 t381.length co47)] 30 (0, 0))) ∧ Aside0 (Below w.heap.size w wc))
 case first =>
  have H := HC14.out
  clear HC14
  replace H := Option.bind_eq_some_iff.mp H
  obtain ⟨t386, A480, H⟩ := H
  try dsimp only at H
  have A48 := Aside0.mk A480
  clear A480
  by_cases c49 : t386 = true
  ·subst c49
   rw [if_pos rfl] at H
   have H' := Aside0.mk H
   clear H
   have hnb50 := NB385_335.out
   have hnc50 := NB335_385.out
   have hnb51 := NB385_360.out
   have hnc51 := NB360_385.out
   have hnb52 := NB385_372.out
   have hnc52 := NB372_385.out
   have hcz53_0 := bz5 BK385
   have hnb54 := NB360_335.out
   have hnc54 := NB335_360.out
   have hnb55 := NB360_372.out
   have hnc55 := NB372_360.out
   have hcz56_0 := bz5 BK360
   go_wp2_with (first | ((with_reducible refine gate_callee (f := 20) rfl ?_); refine gl 41 Try.func20 #[.agg #[.int .i64 t373, .int .i64 t374, .slice Ao45 t375.length co45, .slice Ao46 t378.length co46, .slice Ao47 t381.length co47], .agg #[.int .i64 t348, .int .i64 t349, .slice Ao27 t350.length co27, .slice Ao28 t353.length co28, .slice Ao29 t356.length co29]] ?_; (with_reducible refine (laws_eqThree.calls k t373 t374 _ _ t375 _ _ t378 _ _ t381 t348 t349 _ _ t350 _ _ t353 _ _ t356 true _ ?side1 ((Kd.R_reads' HO377.out).2.1) ?side3 ((Kd.R_reads' HO380.out).2.1) ?side5 ((Kd.R_reads' HO383.out).2.1) ?side7 ((Kd.R_reads' HO352.out).2.1) ?side9 ((Kd.R_reads' HO355.out).2.1) ?side11 ((Kd.R_reads' HO358.out).2.1) A48.out).mono ?_); (case side1 => exact rfr _ HO377 BK385); (case side3 => exact rfr _ HO380 BK385); (case side5 => exact rfr _ HO383 BK385); (case side7 => exact rfr _ HO352 BK385); (case side9 => exact rfr _ HO355 BK385); (case side11 => exact rfr _ HO358 BK385); rintro e w57 ⟨rfl, hb⟩; refine ⟨_, rfl, ?_⟩; replace HO341 := Aside0.mk (Kd.R_below (rf HO341 BK385) hb); replace HO344 := Aside0.mk (Kd.R_below (rf HO344 BK385) hb); replace HO347 := Aside0.mk (Kd.R_below (rf HO347 BK385) hb); replace HO352 := Aside0.mk (Kd.R_below (rf HO352 BK385) hb); replace HO355 := Aside0.mk (Kd.R_below (rf HO355 BK385) hb); replace HO358 := Aside0.mk (Kd.R_below (rf HO358 BK385) hb); replace HO365 := Aside0.mk (Kd.R_below (rf HO365 BK385) hb); replace HO368 := Aside0.mk (Kd.R_below (rf HO368 BK385) hb); replace HO371 := Aside0.mk (Kd.R_below (rf HO371 BK385) hb); replace HO377 := Aside0.mk (Kd.R_below (rf HO377 BK385) hb); replace HO380 := Aside0.mk (Kd.R_below (rf HO380 BK385) hb); replace HO383 := Aside0.mk (Kd.R_below (rf HO383 BK385) hb); replace BK335 := Aside0.mk (blk_below (g := gb335) (o := .cells #[.int .i64 a0_0, .int .i64 a0_1, .slice A0_2 l0_2.length c0_2, .slice A0_3 l0_3.length c0_3, .slice A0_4 l0_4.length c0_4] 25 (0, 0)) (bf1 BK335 NB335_385) hb); replace BK360 := Aside0.mk (blk_below (g := gb360) (o := .cells #[.int .i64 t348, .int .i64 t349, .slice Ao27 t350.length co27, .slice Ao28 t353.length co28, .slice Ao29 t356.length co29] 30 (0, 0)) (bf1 BK360 NB360_385) hb); replace BK372 := Aside0.mk (blk_below (g := gb372) (o := .cells #[.int .i64 t361, .int .i64 t362, .slice Ao36 t363.length co36, .slice Ao37 t366.length co37, .slice Ao38 t369.length co38] 30 (0, 0)) (bf1 BK372 NB372_385) hb); replace BK385 := Aside0.mk (blk_below (g := gb385) (o := .cells #[.int .i64 t373, .int .i64 t374, .slice Ao45 t375.length co45, .slice Ao46 t378.length co46, .slice Ao47 t381.length co47] 30 (0, 0)) (by (with_reducible repeat (first | refine blk_drewN ?_ _ | refine blk_drew ?_ | refine blk_alloc ?_ _)); refine blk_put (cs := #[.int .i64 t373, .int .i64 t374, .slice Ao45 t375.length co45, .slice Ao46 t378.length co46, .slice none 0 0]) ?_ 4 _ rfl; (with_reducible repeat (first | refine blk_drewN ?_ _ | refine blk_drew ?_ | refine blk_alloc ?_ _)); refine blk_put (cs := #[.int .i64 t373, .int .i64 t374, .slice Ao45 t375.length co45, .slice none 0 0, .slice none 0 0]) ?_ 3 _ rfl; (with_reducible repeat (first | refine blk_drewN ?_ _ | refine blk_drew ?_ | refine blk_alloc ?_ _)); refine blk_put (cs := #[.int .i64 t373, .int .i64 t374, .slice none 0 0, .slice none 0 0, .slice none 0 0]) ?_ 2 _ rfl; (with_reducible repeat (first | refine blk_drewN ?_ _ | refine blk_drew ?_ | refine blk_alloc ?_ _)); refine blk_put (cs := #[.int .i64 t373, .int .i64 0, .slice none 0 0, .slice none 0 0, .slice none 0 0]) ?_ 1 _ rfl; (with_reducible repeat (first | refine blk_drewN ?_ _ | refine blk_drew ?_ | refine blk_alloc ?_ _)); refine blk_put (cs := #[.int .i64 0, .int .i64 0, .slice none 0 0, .slice none 0 0, .slice none 0 0]) ?_ 0 _ rfl; (with_reducible repeat (first | refine blk_drewN ?_ _ | refine blk_drew ?_ | refine blk_alloc ?_ _)); exact BK385.out) hb); replace HB := Aside0.mk (below_step (be4 HB GE335 GE360 GE372 GE385) hb); (try clear hb)))
   go_meet
   case rel => exact ⟨_, ((t384 != t359)), rs, H', ⟨by first | omega | exact Nat.le_refl _⟩, ⟨rom HO352⟩, ⟨rom HO355⟩, ⟨rom HO358⟩, ⟨rom HO365⟩, ⟨rom HO368⟩, ⟨rom HO371⟩, ⟨rom HO377⟩, ⟨rom HO380⟩, ⟨rom HO383⟩, ⟨bk BK335⟩, ⟨bk BK360⟩, ⟨bk BK372⟩, ⟨bk BK385⟩, ⟨be4 HB GE335 GE360 GE372 GE385⟩⟩
  replace c49 := Bool.eq_false_iff.mpr c49
  subst c49
  rw [if_neg (show ¬ (false = true) by decide)] at H
  have H' := Aside0.mk H
  clear H
  have hnb58 := NB385_335.out
  have hnc58 := NB335_385.out
  have hnb59 := NB385_360.out
  have hnc59 := NB360_385.out
  have hnb60 := NB385_372.out
  have hnc60 := NB372_385.out
  have hcz61_0 := bz5 BK385
  have hnb62 := NB360_335.out
  have hnc62 := NB335_360.out
  have hnb63 := NB360_372.out
  have hnc63 := NB372_360.out
  have hcz64_0 := bz5 BK360
  go_wp2_with (first | ((with_reducible refine gate_callee (f := 20) rfl ?_); refine gl 41 Try.func20 #[.agg #[.int .i64 t373, .int .i64 t374, .slice Ao45 t375.length co45, .slice Ao46 t378.length co46, .slice Ao47 t381.length co47], .agg #[.int .i64 t348, .int .i64 t349, .slice Ao27 t350.length co27, .slice Ao28 t353.length co28, .slice Ao29 t356.length co29]] ?_; (with_reducible refine (laws_eqThree.calls k t373 t374 _ _ t375 _ _ t378 _ _ t381 t348 t349 _ _ t350 _ _ t353 _ _ t356 false _ ?side1 ((Kd.R_reads' HO377.out).2.1) ?side3 ((Kd.R_reads' HO380.out).2.1) ?side5 ((Kd.R_reads' HO383.out).2.1) ?side7 ((Kd.R_reads' HO352.out).2.1) ?side9 ((Kd.R_reads' HO355.out).2.1) ?side11 ((Kd.R_reads' HO358.out).2.1) A48.out).mono ?_); (case side1 => exact rfr _ HO377 BK385); (case side3 => exact rfr _ HO380 BK385); (case side5 => exact rfr _ HO383 BK385); (case side7 => exact rfr _ HO352 BK385); (case side9 => exact rfr _ HO355 BK385); (case side11 => exact rfr _ HO358 BK385); rintro e w65 ⟨rfl, hb⟩; refine ⟨_, rfl, ?_⟩; replace HO341 := Aside0.mk (Kd.R_below (rf HO341 BK385) hb); replace HO344 := Aside0.mk (Kd.R_below (rf HO344 BK385) hb); replace HO347 := Aside0.mk (Kd.R_below (rf HO347 BK385) hb); replace HO352 := Aside0.mk (Kd.R_below (rf HO352 BK385) hb); replace HO355 := Aside0.mk (Kd.R_below (rf HO355 BK385) hb); replace HO358 := Aside0.mk (Kd.R_below (rf HO358 BK385) hb); replace HO365 := Aside0.mk (Kd.R_below (rf HO365 BK385) hb); replace HO368 := Aside0.mk (Kd.R_below (rf HO368 BK385) hb); replace HO371 := Aside0.mk (Kd.R_below (rf HO371 BK385) hb); replace HO377 := Aside0.mk (Kd.R_below (rf HO377 BK385) hb); replace HO380 := Aside0.mk (Kd.R_below (rf HO380 BK385) hb); replace HO383 := Aside0.mk (Kd.R_below (rf HO383 BK385) hb); replace BK335 := Aside0.mk (blk_below (g := gb335) (o := .cells #[.int .i64 a0_0, .int .i64 a0_1, .slice A0_2 l0_2.length c0_2, .slice A0_3 l0_3.length c0_3, .slice A0_4 l0_4.length c0_4] 25 (0, 0)) (bf1 BK335 NB335_385) hb); replace BK360 := Aside0.mk (blk_below (g := gb360) (o := .cells #[.int .i64 t348, .int .i64 t349, .slice Ao27 t350.length co27, .slice Ao28 t353.length co28, .slice Ao29 t356.length co29] 30 (0, 0)) (bf1 BK360 NB360_385) hb); replace BK372 := Aside0.mk (blk_below (g := gb372) (o := .cells #[.int .i64 t361, .int .i64 t362, .slice Ao36 t363.length co36, .slice Ao37 t366.length co37, .slice Ao38 t369.length co38] 30 (0, 0)) (bf1 BK372 NB372_385) hb); replace BK385 := Aside0.mk (blk_below (g := gb385) (o := .cells #[.int .i64 t373, .int .i64 t374, .slice Ao45 t375.length co45, .slice Ao46 t378.length co46, .slice Ao47 t381.length co47] 30 (0, 0)) (by (with_reducible repeat (first | refine blk_drewN ?_ _ | refine blk_drew ?_ | refine blk_alloc ?_ _)); refine blk_put (cs := #[.int .i64 t373, .int .i64 t374, .slice Ao45 t375.length co45, .slice Ao46 t378.length co46, .slice none 0 0]) ?_ 4 _ rfl; (with_reducible repeat (first | refine blk_drewN ?_ _ | refine blk_drew ?_ | refine blk_alloc ?_ _)); refine blk_put (cs := #[.int .i64 t373, .int .i64 t374, .slice Ao45 t375.length co45, .slice none 0 0, .slice none 0 0]) ?_ 3 _ rfl; (with_reducible repeat (first | refine blk_drewN ?_ _ | refine blk_drew ?_ | refine blk_alloc ?_ _)); refine blk_put (cs := #[.int .i64 t373, .int .i64 t374, .slice none 0 0, .slice none 0 0, .slice none 0 0]) ?_ 2 _ rfl; (with_reducible repeat (first | refine blk_drewN ?_ _ | refine blk_drew ?_ | refine blk_alloc ?_ _)); refine blk_put (cs := #[.int .i64 t373, .int .i64 0, .slice none 0 0, .slice none 0 0, .slice none 0 0]) ?_ 1 _ rfl; (with_reducible repeat (first | refine blk_drewN ?_ _ | refine blk_drew ?_ | refine blk_alloc ?_ _)); refine blk_put (cs := #[.int .i64 0, .int .i64 0, .slice none 0 0, .slice none 0 0, .slice none 0 0]) ?_ 0 _ rfl; (with_reducible repeat (first | refine blk_drewN ?_ _ | refine blk_drew ?_ | refine blk_alloc ?_ _)); exact BK385.out) hb); replace HB := Aside0.mk (below_step (be4 HB GE335 GE360 GE372 GE385) hb); (try clear hb)))
  go_meet
  case rel => exact ⟨_, (true), rs, H', ⟨by first | omega | exact Nat.le_refl _⟩, ⟨rom HO352⟩, ⟨rom HO355⟩, ⟨rom HO358⟩, ⟨rom HO365⟩, ⟨rom HO368⟩, ⟨rom HO371⟩, ⟨rom HO377⟩, ⟨rom HO380⟩, ⟨rom HO383⟩, ⟨bk BK335⟩, ⟨bk BK360⟩, ⟨bk BK372⟩, ⟨bk BK385⟩, ⟨be4 HB GE335 GE360 GE372 GE385⟩⟩
 case rest =>
  clear HC14
  try clear c1; try clear c2; try clear p2; try clear c3; try clear c3b0; try clear c3b1; try clear c4; try clear c5; try clear c6; try clear c6b0; try clear c8; try clear c16; try clear c18; try clear c20; try clear c25; try clear c33; try clear c34; try clear c41; try clear c42; try clear c43; try clear c49; try clear c50; try clear c51; try clear c52; try clear c54; try clear c55; try clear c58; try clear c59; try clear c60; try clear c62; try clear c63; try clear hcz16_0; try clear hcz18_0; try clear hcz26_0; try clear hcz30_0; try clear hcz35_0; try clear hcz44_0; try clear hcz53_0; try clear hcz56_0; try clear hcz61_0; try clear hcz64_0; try clear hcz8_0
  obtain ⟨kq, x47_13, rfl, HA, HJ13, HO_361002, HO_361003, HO_361004, HO_373002, HO_373003, HO_373004, HO_386002, HO_386003, HO_386004, BK335, BK360, BK372, BK385, HB⟩ := hcut
  cases kq with
  | zero => exact absurd HA.out (by simp [laws_FnExactDrop.j0])
  | succ kj13 =>
   have H := HA.out
   clear HA
   simp only [laws_FnExactDrop.j0] at H
   by_cases c66 : x47_13 = true
   ·subst c66
    rw [if_pos rfl] at H
    exact absurd ((Option.some.inj H).trans hrt_.out) (by decide)
   replace c66 := Bool.eq_false_iff.mpr c66
   subst c66
   rw [if_neg (show ¬ (false = true) by decide)] at H
   replace H := Option.bind_eq_some_iff.mp H
   obtain ⟨⟨t387, t388, t389, t392, t395⟩, A670, H⟩ := H
   try dsimp only at H
   have A67 := Aside0.mk A670
   clear A670
   replace H := Option.bind_eq_some_iff.mp H
   obtain ⟨t398, A680, H⟩ := H
   try dsimp only at H
   have A68 := Aside0.mk A680
   clear A680
   by_cases c69 : t398 = true
   ·subst c69
    rw [if_pos rfl] at H
    replace H := Option.bind_eq_some_iff.mp H
    obtain ⟨⟨t399, t400, t401, t402⟩, A700, H⟩ := H
    try dsimp only at H
    have A70 := Aside0.mk A700
    clear A700
    have HC71 := Aside0.mk H
    clear H
    try go_wp2
    have n0_ := Aside0.mk (Kd.R_drew HO_361002.out)
    have n1_ := Aside0.mk (Kd.R_drew HO_361003.out)
    have n2_ := Aside0.mk (Kd.R_drew HO_361004.out)
    have n3_ := Aside0.mk (Kd.R_drew HO_373002.out)
    have n4_ := Aside0.mk (Kd.R_drew HO_373003.out)
    have n5_ := Aside0.mk (Kd.R_drew HO_373004.out)
    have n6_ := Aside0.mk (Kd.R_drew HO_386002.out)
    have n7_ := Aside0.mk (Kd.R_drew HO_386003.out)
    have n8_ := Aside0.mk (Kd.R_drew HO_386004.out)
    have n9_ := Aside0.mk (blk_drew BK335.out)
    have n10_ := Aside0.mk (blk_drew BK360.out)
    have n11_ := Aside0.mk (blk_drew BK372.out)
    have n12_ := Aside0.mk (blk_drew BK385.out)
    have n13_ := Aside0.mk (below_drew1 HB.out)
    clear HO_361002
    clear HO_361003
    clear HO_361004
    clear HO_373002
    clear HO_373003
    clear HO_373004
    clear HO_386002
    clear HO_386003
    clear HO_386004
    clear BK335
    clear BK360
    clear BK372
    clear BK385
    clear HB
    have HO_361002 := n0_
    have HO_361003 := n1_
    have HO_361004 := n2_
    have HO_373002 := n3_
    have HO_373003 := n4_
    have HO_373004 := n5_
    have HO_386002 := n6_
    have HO_386003 := n7_
    have HO_386004 := n8_
    have BK335 := n9_
    have BK360 := n10_
    have BK372 := n11_
    have BK385 := n12_
    have HB := n13_
    clear n0_ n1_ n2_ n3_ n4_ n5_ n6_ n7_ n8_ n9_ n10_ n11_ n12_ n13_
    refine start_ (n := 5) (S := fun w' => w'.cell? ⟨gb372, 0, none⟩ = some (.int .i64 t361) ∧ w'.cell? ⟨gb372, 1, none⟩ = some (.int .i64 t362) ∧ w'.cell? ⟨gb372, 2, none⟩ = some (.slice Ao36 t363.length co36) ∧ w'.cell? ⟨gb372, 3, none⟩ = some (.slice Ao37 t366.length co37) ∧ w'.cell? ⟨gb372, 4, none⟩ = some (.slice Ao38 t369.length co38) ∧ w'.cell? ⟨gb335, 0, none⟩ = some (.int .i64 a0_0) ∧ w'.cell? ⟨gb335, 1, none⟩ = some (.int .i64 a0_1) ∧ w'.cell? ⟨gb335, 2, none⟩ = some (.slice A0_2 l0_2.length c0_2) ∧ w'.cell? ⟨gb335, 3, none⟩ = some (.slice A0_3 l0_3.length c0_3) ∧ w'.cell? ⟨gb335, 4, none⟩ = some (.slice A0_4 l0_4.length c0_4)) (ds := []) (bv 5 0x0) (by kernel_rfl) rfl rfl ⟨bc0 BK372, bc1 BK372, bc2 BK372, bc3 BK372, bc4 BK372, bc0 BK335, bc1 BK335, bc2 BK335, bc3 BK335, bc4 BK335⟩ (fun hHeld => ?_)
    generalize wc.drew = w72 at HO_361002 HO_361003 HO_361004 HO_373002 HO_373003 HO_373004 HO_386002 HO_386003 HO_386004 BK335 BK360 BK372 BK385 HB hHeld ⊢
    refine take_ (i := 0) (N := some 48) (v := ?_) (a' := ?_) (bv 5 0x1) rfl rfl (by kernel_rfl) (fun _ _ _ h => h) (Or.inl ⟨by rfl, ?_⟩) hHeld ?_ ?_
    rotate_left
    ·rintro w' ⟨s0, s1, s2, s3, s4, s5, s6, s7, s8, s9⟩
     go_simp
     with_reducible rfl
    rotate_left
    ·simp only [aP]
     rfl
    refine take_ (i := 1) (N := some 49) (v := ?_) (a' := ?_) (bv 5 0x3) rfl rfl (by kernel_rfl) (fun _ _ _ h => h) (Or.inl ⟨by rfl, ?_⟩) hHeld ?_ ?_
    rotate_left
    ·rintro w' ⟨s0, s1, s2, s3, s4, s5, s6, s7, s8, s9⟩
     go_simp
     with_reducible rfl
    rotate_left
    ·simp only [aP]
     rfl
    refine one_ (i := 2) (N := some 50) (bv 5 0x7) rfl rfl (by kernel_rfl) (by decide) (fun K hK => ?_)
    refine goes_ Try.func18 (by kernel_rfl) rfl #[.agg #[.int .i64 a0_0, .int .i64 a0_1, .slice A0_2 l0_2.length c0_2, .slice A0_3 l0_3.length c0_3, .slice A0_4 l0_4.length c0_4]] (by rfl) rfl rfl ml ?_
    with_reducible refine (laws_toThree.calls kj13 a0_0 a0_1 _ _ l0_2 _ _ l0_3 _ _ l0_4 t387 t388 t389 t392 t395 _ ?side1 ?side2 ?side3 ?side4 ?side5 ?side6 A67.out).mono ?_
    (case side1 => exact cb HR0_2 HB)
    (case side2 => exact HC0_2.out)
    (case side3 => exact cb HR0_3 HB)
    (case side4 => exact HC0_3.out)
    (case side5 => exact cb HR0_4 HB)
    (case side6 => exact HC0_4.out)
    rintro e w73 ⟨v390, v393, v396, rfl, ho0, ho1, ho2, hb⟩
    refine ⟨_, rfl, ?_⟩
    have n0_ := td2 (ro HO_361002) hb ho0 ho1
    have n1_ := td2 (ro HO_361003) hb ho0 ho1
    have n2_ := Aside0.mk (Kd.R_elder' (ro HO_361004) (Kd.R_base ho2) hb)
    have n3_ := td2 (ro HO_373002) hb ho0 ho1
    have n4_ := td2 (ro HO_373003) hb ho0 ho1
    have n5_ := Aside0.mk (Kd.R_elder' (ro HO_373004) (Kd.R_base ho2) hb)
    have n6_ := td2 (ro HO_386002) hb ho0 ho1
    have n7_ := td2 (ro HO_386003) hb ho0 ho1
    have n8_ := Aside0.mk (Kd.R_elder' (ro HO_386004) (Kd.R_base ho2) hb)
    have n9_ := Aside0.mk (Kd.R_lower (nw (nw (nw (nw (nw (nw ho0 HO_361002) HO_361003) HO_373002) HO_373003) HO_386002) HO_386003) (below_size (be4 HB GE335 GE360 GE372 GE385)))
    have n10_ := Aside0.mk (Kd.R_lower (nw (nw (nw (nw (nw (nw ho1 HO_361002) HO_361003) HO_373002) HO_373003) HO_386002) HO_386003) (below_size (be4 HB GE335 GE360 GE372 GE385)))
    have n11_ := Aside0.mk (Kd.R_lower (nw (nw (nw ho2 HO_361004) HO_373004) HO_386004) (below_size (be4 HB GE335 GE360 GE372 GE385)))
    have n12_ := bb BK335 hb
    have n13_ := bb BK360 hb
    have n14_ := bb BK372 hb
    have n15_ := bb BK385 hb
    have n16_ := Aside0.mk (below_step (be4 HB GE335 GE360 GE372 GE385) hb)
    clear HO_361002
    clear HO_361003
    clear HO_361004
    clear HO_373002
    clear HO_373003
    clear HO_373004
    clear HO_386002
    clear HO_386003
    clear HO_386004
    clear BK335
    clear BK360
    clear BK372
    clear BK385
    clear HB
    have HO_361002 := n0_
    have HO_361003 := n1_
    have HO_361004 := n2_
    have HO_373002 := n3_
    have HO_373003 := n4_
    have HO_373004 := n5_
    have HO_386002 := n6_
    have HO_386003 := n7_
    have HO_386004 := n8_
    have HO391 := n9_
    have HO394 := n10_
    have HO397 := n11_
    have BK335 := n12_
    have BK360 := n13_
    have BK372 := n14_
    have BK385 := n15_
    have HB := n16_
    clear n0_ n1_ n2_ n3_ n4_ n5_ n6_ n7_ n8_ n9_ n10_ n11_ n12_ n13_ n14_ n15_ n16_
    (try clear hb)
    (try clear hb2)
    (try clear hk)
    (try clear hi)
    (try clear ho0)
    (try clear ho1)
    (try clear ho2)
    obtain ⟨Ao74, co74, eo74⟩ := Kd.R_slice HO391.out
    (first | subst eo74 | (injection eo74 with f1_ f2_ f3_; have f4_ := f1_.symm; have f5_ := f3_.symm; clear f1_ f2_ f3_; subst f4_; subst f5_))
    obtain ⟨Ao75, co75, eo75⟩ := Kd.R_slice HO394.out
    (first | subst eo75 | (injection eo75 with f1_ f2_ f3_; have f4_ := f1_.symm; have f5_ := f3_.symm; clear f1_ f2_ f3_; subst f4_; subst f5_))
    obtain ⟨Ao76, co76, eo76⟩ := Kd.R_slice HO397.out
    (first | subst eo76 | (injection eo76 with f1_ f2_ f3_; have f4_ := f1_.symm; have f5_ := f3_.symm; clear f1_ f2_ f3_; subst f4_; subst f5_))
    refine hK.out _ _ ⟨bc0 BK372, bc1 BK372, bc2 BK372, bc3 BK372, bc4 BK372, bc0 BK335, bc1 BK335, bc2 BK335, bc3 BK335, bc4 BK335⟩ (fun hHeld => ?_)
    clear hK K
    refine norm_ (a' := ?_) ?_ ?_
    rotate_left
    ·show Act.put _ (some 50) _ = _
     simp only [aP]
     rfl
    refine one_ (i := 3) (N := some 51) (bv 5 0xf) rfl rfl (by kernel_rfl) (by decide) (fun K hK => ?_)
    refine goes_ Try.func20 (by kernel_rfl) rfl #[.agg #[.int .i64 t361, .int .i64 t362, .slice Ao36 t363.length co36, .slice Ao37 t366.length co37, .slice Ao38 t369.length co38], .agg #[.int .i64 t387, .int .i64 t388, .slice Ao74 t389.length co74, .slice Ao75 t392.length co75, .slice Ao76 t395.length co76]] (by rfl) rfl rfl ml ?_
    with_reducible refine (laws_eqThree.calls kj13 t361 t362 _ _ t363 _ _ t366 _ _ t369 t387 t388 _ _ t389 _ _ t392 _ _ t395 true _ ?side1 ?side2 ?side3 ?side4 ?side5 ?side6 ?side7 ?side8 ?side9 ?side10 ?side11 ?side12 A68.out).mono ?_
    (case side1 => exact cr HO_373002)
    (case side2 => exact (Kd.R_reads' HO_373002.out).2.1)
    (case side3 => exact cr HO_373003)
    (case side4 => exact (Kd.R_reads' HO_373003.out).2.1)
    (case side5 => exact cr HO_373004)
    (case side6 => exact (Kd.R_reads' HO_373004.out).2.1)
    (case side7 => exact cr HO391)
    (case side8 => exact (Kd.R_reads' HO391.out).2.1)
    (case side9 => exact cr HO394)
    (case side10 => exact (Kd.R_reads' HO394.out).2.1)
    (case side11 => exact cr HO397)
    (case side12 => exact (Kd.R_reads' HO397.out).2.1)
    rintro e w77 ⟨rfl, hb⟩
    refine ⟨_, rfl, ?_⟩
    have n0_ := rb HO_361002 hb
    have n1_ := rb HO_361003 hb
    have n2_ := rb HO_361004 hb
    have n3_ := rb HO_373002 hb
    have n4_ := rb HO_373003 hb
    have n5_ := rb HO_373004 hb
    have n6_ := rb HO_386002 hb
    have n7_ := rb HO_386003 hb
    have n8_ := rb HO_386004 hb
    have n9_ := rb HO391 hb
    have n10_ := rb HO394 hb
    have n11_ := rb HO397 hb
    have n12_ := bb BK335 hb
    have n13_ := bb BK360 hb
    have n14_ := bb BK372 hb
    have n15_ := bb BK385 hb
    have n16_ := Aside0.mk (below_step (be4 HB GE335 GE360 GE372 GE385) hb)
    clear HO_361002
    clear HO_361003
    clear HO_361004
    clear HO_373002
    clear HO_373003
    clear HO_373004
    clear HO_386002
    clear HO_386003
    clear HO_386004
    clear HO391
    clear HO394
    clear HO397
    clear BK335
    clear BK360
    clear BK372
    clear BK385
    clear HB
    have HO_361002 := n0_
    have HO_361003 := n1_
    have HO_361004 := n2_
    have HO_373002 := n3_
    have HO_373003 := n4_
    have HO_373004 := n5_
    have HO_386002 := n6_
    have HO_386003 := n7_
    have HO_386004 := n8_
    have HO391 := n9_
    have HO394 := n10_
    have HO397 := n11_
    have BK335 := n12_
    have BK360 := n13_
    have BK372 := n14_
    have BK385 := n15_
    have HB := n16_
    clear n0_ n1_ n2_ n3_ n4_ n5_ n6_ n7_ n8_ n9_ n10_ n11_ n12_ n13_ n14_ n15_ n16_
    (try clear hb)
    (try clear hb2)
    (try clear hk)
    (try clear hi)
    refine hK.out _ _ ⟨bc0 BK372, bc1 BK372, bc2 BK372, bc3 BK372, bc4 BK372, bc0 BK335, bc1 BK335, bc2 BK335, bc3 BK335, bc4 BK335⟩ (fun hHeld => ?_)
    clear hK K
    refine norm_ (a' := ?_) ?_ ?_
    rotate_left
    ·show Act.put _ (some 51) _ = _
     simp only [aP]
     rfl
    refine pure_ (i := 4) (N := some 52) (v := ?_) (a' := ?_) (bv 5 0x1f) rfl rfl (by kernel_rfl) (fun _ _ _ h => h) (Or.inl ⟨by rfl, ?_⟩) ?_ ?_
    rotate_left
    ·intro w'
     go_simp
     with_reducible rfl
    rotate_left
    ·simp only [aP]
     rfl
    refine done_ (by kernel_rfl) ?_
    have hnb78 := NB372_335.out
    have hnc78 := NB335_372.out
    have hnb79 := NB372_360.out
    have hnc79 := NB360_372.out
    have hnb80 := NB372_385.out
    have hnc80 := NB385_372.out
    have hcz81_0 := bz5 BK372
    go_upto_region 16 with (first | ((with_reducible refine gate_callee (f := 23) rfl ?_); refine gl 55 Try.func23 #[.agg #[.int .i64 t361, .int .i64 t362, .slice Ao36 t363.length co36, .slice Ao37 t366.length co37, .slice Ao38 t369.length co38], .int .i64 1] ?_; (with_reducible refine (laws_markThree.calls kj13 t361 t362 (fun k_ => some k_ = (.slice Ao36 t363.length co36 : Value).ownBlock) (.slice Ao36 t363.length co36) t363 (fun k_ => some k_ = (.slice Ao37 t366.length co37 : Value).ownBlock) (.slice Ao37 t366.length co37) t366 (fun k_ => some k_ = (.slice Ao38 t369.length co38 : Value).ownBlock) (.slice Ao38 t369.length co38) t369 1 t399 t400 t401 t402 w _ ?side1 ?side2 ?side3 ?side4 ?side5 ?side6 A70.out).mono ?_); (case side1 => repeat (first | (with_reducible first | exact HB.out | apply below_alloc | apply pw_below_drewN | apply below_drew1 | refine below_set ?_ GE335.out | refine below_set ?_ GE360.out | refine below_set ?_ GE372.out | refine below_set ?_ GE385.out) | exact HB.out)); (case side2 => exact Kd.R_tight rfl HO_373002.out); (case side3 => exact fun k_ e_ => (HO_373002.out.1 k_ e_.symm).1.1.2.2.1); (case side4 => exact Kd.R_tight rfl HO_373003.out); (case side5 => exact fun k_ e_ => (HO_373003.out.1 k_ e_.symm).1.1.2.2.1); (case side6 => exact Kd.R_tight rfl HO_373004.out); rintro e w82 ⟨rfl, hy0, hy1, hy2, hb, hkp⟩; refine ⟨_, rfl, ?_⟩; replace HO_361002 := Aside0.mk (Kd.R_mono (ok' := fun k_ => nb k_ Ao28 t353.length co28 ∧ nb k_ Ao36 t363.length co36 ∧ nb k_ Ao37 t366.length co37 ∧ nb k_ Ao45 t375.length co45 ∧ nb k_ Ao46 t378.length co46 ∧ nb k_ Ao74 t389.length co74 ∧ nb k_ Ao75 t392.length co75) (Kd.R_keptB ((Kd.R_apart' HO_361002.out (Kd.R_typed HO_373004.out) (by decide))) hkp (fun k_ hk_ hs_ => Or.elim hs_ (fun e_ => (hk_.1.1.1.2.1) e_) (fun e_ => Or.elim e_ (fun e_ => (hk_.1.1.1.2.2.1) e_) (fun e_ => (hk_.2) e_)))) cj); replace HO_361003 := Aside0.mk (Kd.R_mono (ok' := fun k_ => nb k_ Ao27 t350.length co27 ∧ nb k_ Ao36 t363.length co36 ∧ nb k_ Ao37 t366.length co37 ∧ nb k_ Ao45 t375.length co45 ∧ nb k_ Ao46 t378.length co46 ∧ nb k_ Ao74 t389.length co74 ∧ nb k_ Ao75 t392.length co75) (Kd.R_keptB ((Kd.R_apart' HO_361003.out (Kd.R_typed HO_373004.out) (by decide))) hkp (fun k_ hk_ hs_ => Or.elim hs_ (fun e_ => (hk_.1.1.1.2.1) e_) (fun e_ => Or.elim e_ (fun e_ => (hk_.1.1.1.2.2.1) e_) (fun e_ => (hk_.2) e_)))) cj); replace HO_361004 := Aside0.mk (Kd.R_mono (ok' := fun k_ => nb k_ Ao38 t369.length co38 ∧ nb k_ Ao47 t381.length co47 ∧ nb k_ Ao76 t395.length co76) (Kd.R_keptB ((Kd.R_apart' (Kd.R_apart' HO_361004.out (Kd.R_typed HO_373002.out) (by decide)) (Kd.R_typed HO_373003.out) (by decide))) hkp (fun k_ hk_ hs_ => Or.elim hs_ (fun e_ => (hk_.1.2) e_) (fun e_ => Or.elim e_ (fun e_ => (hk_.2) e_) (fun e_ => (hk_.1.1.1.1) e_)))) cj); replace HO_386002 := Aside0.mk (Kd.R_mono (ok' := fun k_ => nb k_ Ao27 t350.length co27 ∧ nb k_ Ao28 t353.length co28 ∧ nb k_ Ao36 t363.length co36 ∧ nb k_ Ao37 t366.length co37 ∧ nb k_ Ao46 t378.length co46 ∧ nb k_ Ao74 t389.length co74 ∧ nb k_ Ao75 t392.length co75) (Kd.R_keptB ((Kd.R_apart' HO_386002.out (Kd.R_typed HO_373004.out) (by decide))) hkp (fun k_ hk_ hs_ => Or.elim hs_ (fun e_ => (hk_.1.1.1.2.2.1) e_) (fun e_ => Or.elim e_ (fun e_ => (hk_.1.1.1.2.2.2.1) e_) (fun e_ => (hk_.2) e_)))) cj); replace HO_386003 := Aside0.mk (Kd.R_mono (ok' := fun k_ => nb k_ Ao27 t350.length co27 ∧ nb k_ Ao28 t353.length co28 ∧ nb k_ Ao36 t363.length co36 ∧ nb k_ Ao37 t366.length co37 ∧ nb k_ Ao45 t375.length co45 ∧ nb k_ Ao74 t389.length co74 ∧ nb k_ Ao75 t392.length co75) (Kd.R_keptB ((Kd.R_apart' HO_386003.out (Kd.R_typed HO_373004.out) (by decide))) hkp (fun k_ hk_ hs_ => Or.elim hs_ (fun e_ => (hk_.1.1.1.2.2.1) e_) (fun e_ => Or.elim e_ (fun e_ => (hk_.1.1.1.2.2.2.1) e_) (fun e_ => (hk_.2) e_)))) cj); replace HO_386004 := Aside0.mk (Kd.R_mono (ok' := fun k_ => nb k_ Ao29 t356.length co29 ∧ nb k_ Ao38 t369.length co38 ∧ nb k_ Ao76 t395.length co76) (Kd.R_keptB ((Kd.R_apart' (Kd.R_apart' HO_386004.out (Kd.R_typed HO_373002.out) (by decide)) (Kd.R_typed HO_373003.out) (by decide))) hkp (fun k_ hk_ hs_ => Or.elim hs_ (fun e_ => (hk_.1.2) e_) (fun e_ => Or.elim e_ (fun e_ => (hk_.2) e_) (fun e_ => (hk_.1.1.1.2) e_)))) cj); replace BK335 := Aside0.mk (blk_kept (bk BK335) hkp (fun hs_ => Or.elim hs_ (fun e_ => (fun e_ => (Kd.R_ne HO_373002.out BK335.out (by decide)) e_) e_) (fun e_ => Or.elim e_ (fun e_ => (fun e_ => (Kd.R_ne HO_373003.out BK335.out (by decide)) e_) e_) (fun e_ => (fun e_ => (Kd.R_ne HO_373004.out BK335.out (by decide)) e_) e_)))); replace BK360 := Aside0.mk (blk_kept (bk BK360) hkp (fun hs_ => Or.elim hs_ (fun e_ => (fun e_ => (Kd.R_ne HO_373002.out BK360.out (by decide)) e_) e_) (fun e_ => Or.elim e_ (fun e_ => (fun e_ => (Kd.R_ne HO_373003.out BK360.out (by decide)) e_) e_) (fun e_ => (fun e_ => (Kd.R_ne HO_373004.out BK360.out (by decide)) e_) e_)))); replace BK372 := Aside0.mk (blk_kept (bk BK372) hkp (fun hs_ => Or.elim hs_ (fun e_ => (fun e_ => (Kd.R_ne HO_373002.out BK372.out (by decide)) e_) e_) (fun e_ => Or.elim e_ (fun e_ => (fun e_ => (Kd.R_ne HO_373003.out BK372.out (by decide)) e_) e_) (fun e_ => (fun e_ => (Kd.R_ne HO_373004.out BK372.out (by decide)) e_) e_)))); replace BK385 := Aside0.mk (blk_kept (bk BK385) hkp (fun hs_ => Or.elim hs_ (fun e_ => (fun e_ => (Kd.R_ne HO_373002.out BK385.out (by decide)) e_) e_) (fun e_ => Or.elim e_ (fun e_ => (fun e_ => (Kd.R_ne HO_373003.out BK385.out (by decide)) e_) e_) (fun e_ => (fun e_ => (Kd.R_ne HO_373004.out BK385.out (by decide)) e_) e_)))); replace HO391 := Aside0.mk (Kd.R_mono (ok' := fun k_ => nb k_ Ao27 t350.length co27 ∧ nb k_ Ao28 t353.length co28 ∧ nb k_ Ao36 t363.length co36 ∧ nb k_ Ao37 t366.length co37 ∧ nb k_ Ao45 t375.length co45 ∧ nb k_ Ao46 t378.length co46 ∧ nb k_ Ao75 t392.length co75) (Kd.R_keptB ((Kd.R_apart' HO391.out (Kd.R_typed HO_373004.out) (by decide))) hkp (fun k_ hk_ hs_ => Or.elim hs_ (fun e_ => (hk_.1.1.1.1.2) e_) (fun e_ => Or.elim e_ (fun e_ => (hk_.1.1.1.2) e_) (fun e_ => (hk_.2) e_)))) cj); replace HO394 := Aside0.mk (Kd.R_mono (ok' := fun k_ => nb k_ Ao27 t350.length co27 ∧ nb k_ Ao28 t353.length co28 ∧ nb k_ Ao36 t363.length co36 ∧ nb k_ Ao37 t366.length co37 ∧ nb k_ Ao45 t375.length co45 ∧ nb k_ Ao46 t378.length co46 ∧ nb k_ Ao74 t389.length co74) (Kd.R_keptB ((Kd.R_apart' HO394.out (Kd.R_typed HO_373004.out) (by decide))) hkp (fun k_ hk_ hs_ => Or.elim hs_ (fun e_ => (hk_.1.1.1.1.2) e_) (fun e_ => Or.elim e_ (fun e_ => (hk_.1.1.1.2) e_) (fun e_ => (hk_.2) e_)))) cj); replace HO_373004 := Aside0.mk (Kd.R_reok rfl hy2 (fun k_ e_ => HO_373004.out.1 k_ e_)); replace HO397 := Aside0.mk (Kd.R_mono (ok' := fun k_ => nb k_ Ao29 t356.length co29 ∧ nb k_ Ao38 t369.length co38 ∧ nb k_ Ao47 t381.length co47) (Kd.R_keptB ((Kd.R_apart' (Kd.R_apart' HO397.out (Kd.R_typed HO_373002.out) (by decide)) (Kd.R_typed HO_373003.out) (by decide))) hkp (fun k_ hk_ hs_ => Or.elim hs_ (fun e_ => (hk_.1.2) e_) (fun e_ => Or.elim e_ (fun e_ => (hk_.2) e_) (fun e_ => (hk_.1.1.1.2) e_)))) cj); replace HO_373002 := Aside0.mk (Kd.R_reok rfl hy0 (fun k_ e_ => HO_373002.out.1 k_ e_)); replace HO_373003 := Aside0.mk (Kd.R_reok rfl hy1 (fun k_ e_ => HO_373003.out.1 k_ e_)); replace HB := Aside0.mk (hb); (try clear hb); (try clear hkp); (try clear hy0); (try clear hy1); (try clear hy2)))
    (try simp only [Act.put, List.setIfInBounds_toArray, List.set_cons_zero, List.set_cons_succ])
    go_cut [68] (fun v68 wc => ∃ (kq : Nat) (x68_70 : Bool), v68 = .bool x68_70 ∧ Aside0 (laws_FnExactDrop.j1 kq a1 t359 x68_70 a0_0 a0_1 l0_2 l0_3 l0_4 t348 t349 t350 t353 t356 t373 t374 t375 t378 t381 = some r) ∧ Aside0 (kq ≤ kj13) ∧ Aside0 (Kd.R k68 68 wc w.heap.size (fun k_ => nb k_ Ao28 t353.length co28 ∧ nb k_ Ao36 t363.length co36 ∧ nb k_ Ao37 t366.length co37 ∧ nb k_ Ao45 t375.length co45 ∧ nb k_ Ao46 t378.length co46) (.slice Ao27 t350.length co27) t350) ∧ Aside0 (Kd.R k68 68 wc w.heap.size (fun k_ => nb k_ Ao27 t350.length co27 ∧ nb k_ Ao36 t363.length co36 ∧ nb k_ Ao37 t366.length co37 ∧ nb k_ Ao45 t375.length co45 ∧ nb k_ Ao46 t378.length co46) (.slice Ao28 t353.length co28) t353) ∧ Aside0 (Kd.R (Kd.int .i64) 3 wc w.heap.size (fun k_ => nb k_ Ao38 t369.length co38 ∧ nb k_ Ao47 t381.length co47) (.slice Ao29 t356.length co29) t356) ∧ Aside0 (Kd.R k68 68 wc w.heap.size (fun k_ => nb k_ Ao27 t350.length co27 ∧ nb k_ Ao28 t353.length co28 ∧ nb k_ Ao37 t366.length co37 ∧ nb k_ Ao45 t375.length co45 ∧ nb k_ Ao46 t378.length co46) (.slice Ao36 t363.length co36) t400) ∧ Aside0 (Kd.R k68 68 wc w.heap.size (fun k_ => nb k_ Ao27 t350.length co27 ∧ nb k_ Ao28 t353.length co28 ∧ nb k_ Ao36 t363.length co36 ∧ nb k_ Ao45 t375.length co45 ∧ nb k_ Ao46 t378.length co46) (.slice Ao37 t366.length co37) t401) ∧ Aside0 (Kd.R (Kd.int .i64) 3 wc w.heap.size (fun k_ => nb k_ Ao29 t356.length co29 ∧ nb k_ Ao47 t381.length co47) (.slice Ao38 t369.length co38) t402) ∧ Aside0 (Kd.R k68 68 wc w.heap.size (fun k_ => nb k_ Ao27 t350.length co27 ∧ nb k_ Ao28 t353.length co28 ∧ nb k_ Ao36 t363.length co36 ∧ nb k_ Ao37 t366.length co37 ∧ nb k_ Ao46 t378.length co46) (.slice Ao45 t375.length co45) t375) ∧ Aside0 (Kd.R k68 68 wc w.heap.size (fun k_ => nb k_ Ao27 t350.length co27 ∧ nb k_ Ao28 t353.length co28 ∧ nb k_ Ao36 t363.length co36 ∧ nb k_ Ao37 t366.length co37 ∧ nb k_ Ao45 t375.length co45) (.slice Ao46 t378.length co46) t378) ∧ Aside0 (Kd.R (Kd.int .i64) 3 wc w.heap.size (fun k_ => nb k_ Ao29 t356.length co29 ∧ nb k_ Ao38 t369.length co38) (.slice Ao47 t381.length co47) t381) ∧ Aside0 (wc.heap[gb335]? = some (.cells #[.int .i64 a0_0, .int .i64 a0_1, (.slice A0_2 l0_2.length c0_2), (.slice A0_3 l0_3.length c0_3), (.slice A0_4 l0_4.length c0_4)] 25 (0, 0))) ∧ Aside0 (wc.heap[gb360]? = some (.cells #[.int .i64 t348, .int .i64 t349, (.slice Ao27 t350.length co27), (.slice Ao28 t353.length co28), (.slice Ao29 t356.length co29)] 30 (0, 0))) ∧ Aside0 (wc.heap[gb372]? = some (.cells #[.int .i64 t361, .int .i64 t362, (.slice Ao36 t363.length co36), (.slice Ao37 t366.length co37), (.slice Ao38 t369.length co38)] 30 (0, 0))) ∧ Aside0 (wc.heap[gb385]? = some (.cells #[.int .i64 t373, .int .i64 t374, (.slice Ao45 t375.length co45), (.slice Ao46 t378.length co46), (.slice Ao47 t381.length co47)] 30 (0, 0))) ∧ Aside0 (Below w.heap.size w wc))
    case first =>
     have H := HC71.out
     clear HC71
     by_cases c83 : t399 < 0
     ·rw [if_pos c83] at H
      have c83b0 : decide (t399 < 0) = true := decide_eq_true c83
      clear c83
      (first | rw [c83b0] | (simp only [i64_w, i32_w]; rw [c83b0]) | skip)
      have H' := Aside0.mk H
      clear H
      go_wp2
      go_meet
      case rel => exact ⟨_, (true), rs, H', ⟨by have := HJ13.out; first | omega | exact Nat.le_refl _⟩, ⟨rom HO_361002⟩, ⟨rom HO_361003⟩, ⟨rom HO_361004⟩, ⟨rom HO_373002⟩, ⟨rom HO_373003⟩, ⟨rom HO_373004⟩, ⟨rom HO_386002⟩, ⟨rom HO_386003⟩, ⟨rom HO_386004⟩, ⟨bk BK335⟩, ⟨bk BK360⟩, ⟨bk BK372⟩, ⟨bk BK385⟩, ⟨be4 HB GE335 GE360 GE372 GE385⟩⟩
     rw [if_neg c83] at H
     have c83b0 : decide (t399 < 0) = false := decide_eq_false c83
     clear c83
     (first | rw [c83b0] | (simp only [i64_w, i32_w]; rw [c83b0]) | skip)
     replace H := Option.bind_eq_some_iff.mp H
     obtain ⟨t403, A840, H⟩ := H
     try dsimp only at H
     have A84 := Aside0.mk A840
     clear A840
     by_cases c85 : t403 = true
     ·subst c85
      rw [if_pos rfl] at H
      have H' := Aside0.mk H
      clear H
      have hnb86 := NB385_335.out
      have hnc86 := NB335_385.out
      have hnb87 := NB385_360.out
      have hnc87 := NB360_385.out
      have hnb88 := NB385_372.out
      have hnc88 := NB372_385.out
      have hcz89_0 := bz5 BK385
      have hnb90 := NB360_335.out
      have hnc90 := NB335_360.out
      have hnb91 := NB360_372.out
      have hnc91 := NB372_360.out
      have hcz92_0 := bz5 BK360
      go_wp2_with (first | (go_at_call 20; (with_reducible refine (laws_eqThree.calls kj13 t373 t374 _ _ t375 _ _ t378 _ _ t381 t348 t349 _ _ t350 _ _ t353 _ _ t356 true _ (cr HO_386002) ((Kd.R_reads' HO_386002.out).2.1) (cr HO_386003) ((Kd.R_reads' HO_386003.out).2.1) (cr HO_386004) ((Kd.R_reads' HO_386004.out).2.1) (cr HO_361002) ((Kd.R_reads' HO_361002.out).2.1) (cr HO_361003) ((Kd.R_reads' HO_361003.out).2.1) (cr HO_361004) ((Kd.R_reads' HO_361004.out).2.1) A84.out).mono ?_); rintro e w93 ⟨rfl, hb⟩; replace HO_361002 := rb HO_361002 hb; replace HO_361003 := rb HO_361003 hb; replace HO_361004 := rb HO_361004 hb; replace HO_373002 := rb HO_373002 hb; replace HO_373003 := rb HO_373003 hb; replace HO_373004 := rb HO_373004 hb; replace HO_386002 := rb HO_386002 hb; replace HO_386003 := rb HO_386003 hb; replace HO_386004 := rb HO_386004 hb; replace HO391 := rb HO391 hb; replace HO394 := rb HO394 hb; replace HO397 := rb HO397 hb; replace BK335 := bb BK335 hb; replace BK360 := bb BK360 hb; replace BK372 := bb BK372 hb; replace BK385 := bb BK385 hb; replace HB := Aside0.mk (below_step (be4 HB GE335 GE360 GE372 GE385) hb); (try clear hb)))
      go_meet
      case rel => exact ⟨_, ((t384 != t359)), rs, H', ⟨by have := HJ13.out; first | omega | exact Nat.le_refl _⟩, ⟨rom HO_361002⟩, ⟨rom HO_361003⟩, ⟨rom HO_361004⟩, ⟨rom HO_373002⟩, ⟨rom HO_373003⟩, ⟨rom HO_373004⟩, ⟨rom HO_386002⟩, ⟨rom HO_386003⟩, ⟨rom HO_386004⟩, ⟨bk BK335⟩, ⟨bk BK360⟩, ⟨bk BK372⟩, ⟨bk BK385⟩, ⟨be4 HB GE335 GE360 GE372 GE385⟩⟩
     replace c85 := Bool.eq_false_iff.mpr c85
     subst c85
     rw [if_neg (show ¬ (false = true) by decide)] at H
     have H' := Aside0.mk H
     clear H
     have hnb94 := NB385_335.out
     have hnc94 := NB335_385.out
     have hnb95 := NB385_360.out
     have hnc95 := NB360_385.out
     have hnb96 := NB385_372.out
     have hnc96 := NB372_385.out
     have hcz97_0 := bz5 BK385
     have hnb98 := NB360_335.out
     have hnc98 := NB335_360.out
     have hnb99 := NB360_372.out
     have hnc99 := NB372_360.out
     have hcz100_0 := bz5 BK360
     go_wp2_with (first | (go_at_call 20; (with_reducible refine (laws_eqThree.calls kj13 t373 t374 _ _ t375 _ _ t378 _ _ t381 t348 t349 _ _ t350 _ _ t353 _ _ t356 false _ (cr HO_386002) ((Kd.R_reads' HO_386002.out).2.1) (cr HO_386003) ((Kd.R_reads' HO_386003.out).2.1) (cr HO_386004) ((Kd.R_reads' HO_386004.out).2.1) (cr HO_361002) ((Kd.R_reads' HO_361002.out).2.1) (cr HO_361003) ((Kd.R_reads' HO_361003.out).2.1) (cr HO_361004) ((Kd.R_reads' HO_361004.out).2.1) A84.out).mono ?_); rintro e w101 ⟨rfl, hb⟩; replace HO_361002 := rb HO_361002 hb; replace HO_361003 := rb HO_361003 hb; replace HO_361004 := rb HO_361004 hb; replace HO_373002 := rb HO_373002 hb; replace HO_373003 := rb HO_373003 hb; replace HO_373004 := rb HO_373004 hb; replace HO_386002 := rb HO_386002 hb; replace HO_386003 := rb HO_386003 hb; replace HO_386004 := rb HO_386004 hb; replace HO391 := rb HO391 hb; replace HO394 := rb HO394 hb; replace HO397 := rb HO397 hb; replace BK335 := bb BK335 hb; replace BK360 := bb BK360 hb; replace BK372 := bb BK372 hb; replace BK385 := bb BK385 hb; replace HB := Aside0.mk (below_step (be4 HB GE335 GE360 GE372 GE385) hb); (try clear hb)))
     go_meet
     case rel => exact ⟨_, (true), rs, H', ⟨by have := HJ13.out; first | omega | exact Nat.le_refl _⟩, ⟨rom HO_361002⟩, ⟨rom HO_361003⟩, ⟨rom HO_361004⟩, ⟨rom HO_373002⟩, ⟨rom HO_373003⟩, ⟨rom HO_373004⟩, ⟨rom HO_386002⟩, ⟨rom HO_386003⟩, ⟨rom HO_386004⟩, ⟨bk BK335⟩, ⟨bk BK360⟩, ⟨bk BK372⟩, ⟨bk BK385⟩, ⟨be4 HB GE335 GE360 GE372 GE385⟩⟩
    case rest =>
     clear HC71
     try clear c1; try clear c2; try clear p2; try clear c3; try clear c3b0; try clear c3b1; try clear c4; try clear c5; try clear c6; try clear c6b0; try clear c7; try clear c8; try clear c9; try clear c16; try clear c18; try clear c20; try clear c23; try clear c25; try clear c33; try clear c34; try clear c41; try clear c42; try clear c43; try clear c49; try clear c50; try clear c51; try clear c52; try clear c54; try clear c55; try clear c58; try clear c59; try clear c60; try clear c62; try clear c63; try clear c66; try clear c69; try clear c78; try clear c79; try clear c80; try clear c83; try clear c83b0; try clear c85; try clear c86; try clear c87; try clear c88; try clear c90; try clear c91; try clear c94; try clear c95; try clear c96; try clear c98; try clear c99; try clear hcz100_0; try clear hcz16_0; try clear hcz18_0; try clear hcz26_0; try clear hcz30_0; try clear hcz35_0; try clear hcz44_0; try clear hcz53_0; try clear hcz56_0; try clear hcz61_0; try clear hcz64_0; try clear hcz81_0; try clear hcz89_0; try clear hcz8_0; try clear hcz92_0; try clear hcz97_0; try clear p2
     obtain ⟨kq, x68_70, rfl, HA, HJ70, HO_361002, HO_361003, HO_361004, HO_373002, HO_373003, HO_373004, HO_386002, HO_386003, HO_386004, BK335, BK360, BK372, BK385, HB⟩ := hcut
     have hl373002_70 := (Kd.R_reads' HO_373002.out).1
     rw [hl373002_70] at HO_373002
     (try simp only [hl373002_70])
     (try simp only [hl373002_70] at BK335)
     (try simp only [hl373002_70] at BK360)
     (try simp only [hl373002_70] at BK372)
     (try simp only [hl373002_70] at BK385)
     (try simp only [hl373002_70] at HO_361002)
     (try simp only [hl373002_70] at HO_361003)
     (try simp only [hl373002_70] at HO_361004)
     (try simp only [hl373002_70] at HO_373003)
     (try simp only [hl373002_70] at HO_373004)
     (try simp only [hl373002_70] at HO_386002)
     (try simp only [hl373002_70] at HO_386003)
     (try simp only [hl373002_70] at HO_386004)
     have hl373003_70 := (Kd.R_reads' HO_373003.out).1
     rw [hl373003_70] at HO_373003
     (try simp only [hl373003_70])
     (try simp only [hl373003_70] at BK335)
     (try simp only [hl373003_70] at BK360)
     (try simp only [hl373003_70] at BK372)
     (try simp only [hl373003_70] at BK385)
     (try simp only [hl373003_70] at HO_361002)
     (try simp only [hl373003_70] at HO_361003)
     (try simp only [hl373003_70] at HO_361004)
     (try simp only [hl373003_70] at HO_373002)
     (try simp only [hl373003_70] at HO_373004)
     (try simp only [hl373003_70] at HO_386002)
     (try simp only [hl373003_70] at HO_386003)
     (try simp only [hl373003_70] at HO_386004)
     have hl373004_70 := (Kd.R_reads' HO_373004.out).1
     rw [hl373004_70] at HO_373004
     (try simp only [hl373004_70])
     (try simp only [hl373004_70] at BK335)
     (try simp only [hl373004_70] at BK360)
     (try simp only [hl373004_70] at BK372)
     (try simp only [hl373004_70] at BK385)
     (try simp only [hl373004_70] at HO_361002)
     (try simp only [hl373004_70] at HO_361003)
     (try simp only [hl373004_70] at HO_361004)
     (try simp only [hl373004_70] at HO_373002)
     (try simp only [hl373004_70] at HO_373003)
     (try simp only [hl373004_70] at HO_386002)
     (try simp only [hl373004_70] at HO_386003)
     (try simp only [hl373004_70] at HO_386004)
     cases kq with
     | zero => exact absurd HA.out (by simp [laws_FnExactDrop.j1])
     | succ kj70 =>
      have H := HA.out
      clear HA
      simp only [laws_FnExactDrop.j1] at H
      by_cases c102 : x68_70 = true
      ·subst c102
       rw [if_pos rfl] at H
       exact absurd ((Option.some.inj H).trans hrt_.out) (by decide)
      replace c102 := Bool.eq_false_iff.mpr c102
      subst c102
      rw [if_neg (show ¬ (false = true) by decide)] at H
      replace H := Option.bind_eq_some_iff.mp H
      obtain ⟨⟨t404, t405, t406, t407⟩, A1030, H⟩ := H
      try dsimp only at H
      have A103 := Aside0.mk A1030
      clear A1030
      replace H := Option.bind_eq_some_iff.mp H
      obtain ⟨t408, A1040, H⟩ := H
      try dsimp only at H
      have A104 := Aside0.mk A1040
      clear A1040
      by_cases c105 : t408 < 0
      ·rw [if_pos c105] at H
       have c105b0 : decide (t408 < 0) = true := decide_eq_true c105
       clear c105
       exact absurd ((Option.some.inj H).trans hrt_.out) (by decide)
      rw [if_neg c105] at H
      have c105b0 : decide (t408 < 0) = false := decide_eq_false c105
      clear c105
      by_cases c106 : t408 = t404
      ·rw [if_pos c106] at H
       have c106b0 : (t408 == t404) = true := beq_iff_eq.mpr c106
       have c106b1 : (t408 != t404) = false := bne_eq_false_iff_eq.mpr c106
       clear c106
       replace H := Option.bind_eq_some_iff.mp H
       obtain ⟨⟨t409, t410, t411, t414, t417⟩, A1070, H⟩ := H
       try dsimp only at H
       have A107 := Aside0.mk A1070
       clear A1070
       replace H := Option.bind_eq_some_iff.mp H
       obtain ⟨⟨t420, t421, t422, t425, t428, t431⟩, A1080, H⟩ := H
       try dsimp only at H
       have A108 := Aside0.mk A1080
       clear A1080
       have HC109 := Aside0.mk H
       clear H
       have hnb110 := NB385_335.out
       have hnc110 := NB335_385.out
       have hnb111 := NB385_360.out
       have hnc111 := NB360_385.out
       have hnb112 := NB385_372.out
       have hnc112 := NB372_385.out
       have hcz113_0 := bz5 BK385
       go_upto_region 27 with (first | ((with_reducible refine gate_callee (f := 23) rfl ?_); refine gl 71 Try.func23 #[.agg #[.int .i64 t373, .int .i64 t374, .slice Ao45 t375.length co45, .slice Ao46 t378.length co46, .slice Ao47 t381.length co47], .int .i64 1] ?_; (with_reducible refine (laws_markThree.calls kj70 t373 t374 (fun k_ => some k_ = (.slice Ao45 t375.length co45 : Value).ownBlock) (.slice Ao45 t375.length co45) t375 (fun k_ => some k_ = (.slice Ao46 t378.length co46 : Value).ownBlock) (.slice Ao46 t378.length co46) t378 (fun k_ => some k_ = (.slice Ao47 t381.length co47 : Value).ownBlock) (.slice Ao47 t381.length co47) t381 1 t404 t405 t406 t407 w _ ?side1 ?side2 ?side3 ?side4 ?side5 ?side6 A103.out).mono ?_); (case side1 => repeat (first | (with_reducible first | exact HB.out | apply below_alloc | apply pw_below_drewN | apply below_drew1 | refine below_set ?_ GE335.out | refine below_set ?_ GE360.out | refine below_set ?_ GE372.out | refine below_set ?_ GE385.out) | exact HB.out)); (case side2 => exact Kd.R_tight rfl HO_386002.out); (case side3 => exact fun k_ e_ => (HO_386002.out.1 k_ e_.symm).2.2.2.2); (case side4 => exact Kd.R_tight rfl HO_386003.out); (case side5 => exact fun k_ e_ => (HO_386003.out.1 k_ e_.symm).2.2.2.2); (case side6 => exact Kd.R_tight rfl HO_386004.out); rintro e w114 ⟨rfl, hy0, hy1, hy2, hb, hkp⟩; refine ⟨_, rfl, ?_⟩; replace HO_361002 := Aside0.mk (Kd.R_mono (ok' := fun k_ => nb k_ Ao28 t353.length co28 ∧ nb k_ Ao36 t400.length co36 ∧ nb k_ Ao37 t401.length co37 ∧ nb k_ Ao45 t375.length co45 ∧ nb k_ Ao46 t378.length co46) (Kd.R_keptB ((Kd.R_apart' HO_361002.out (Kd.R_typed HO_386004.out) (by decide))) hkp (fun k_ hk_ hs_ => Or.elim hs_ (fun e_ => (hk_.1.2.2.2.1) e_) (fun e_ => Or.elim e_ (fun e_ => (hk_.1.2.2.2.2) e_) (fun e_ => (hk_.2) e_)))) cj); replace HO_361003 := Aside0.mk (Kd.R_mono (ok' := fun k_ => nb k_ Ao27 t350.length co27 ∧ nb k_ Ao36 t400.length co36 ∧ nb k_ Ao37 t401.length co37 ∧ nb k_ Ao45 t375.length co45 ∧ nb k_ Ao46 t378.length co46) (Kd.R_keptB ((Kd.R_apart' HO_361003.out (Kd.R_typed HO_386004.out) (by decide))) hkp (fun k_ hk_ hs_ => Or.elim hs_ (fun e_ => (hk_.1.2.2.2.1) e_) (fun e_ => Or.elim e_ (fun e_ => (hk_.1.2.2.2.2) e_) (fun e_ => (hk_.2) e_)))) cj); replace HO_361004 := Aside0.mk (Kd.R_mono (ok' := fun k_ => nb k_ Ao38 t402.length co38 ∧ nb k_ Ao47 t381.length co47) (Kd.R_keptB ((Kd.R_apart' (Kd.R_apart' HO_361004.out (Kd.R_typed HO_386002.out) (by decide)) (Kd.R_typed HO_386003.out) (by decide))) hkp (fun k_ hk_ hs_ => Or.elim hs_ (fun e_ => (hk_.1.2) e_) (fun e_ => Or.elim e_ (fun e_ => (hk_.2) e_) (fun e_ => (hk_.1.1.2) e_)))) cj); replace HO_373002 := Aside0.mk (Kd.R_mono (ok' := fun k_ => nb k_ Ao27 t350.length co27 ∧ nb k_ Ao28 t353.length co28 ∧ nb k_ Ao37 t401.length co37 ∧ nb k_ Ao45 t375.length co45 ∧ nb k_ Ao46 t378.length co46) (Kd.R_keptB ((Kd.R_apart' HO_373002.out (Kd.R_typed HO_386004.out) (by decide))) hkp (fun k_ hk_ hs_ => Or.elim hs_ (fun e_ => (hk_.1.2.2.2.1) e_) (fun e_ => Or.elim e_ (fun e_ => (hk_.1.2.2.2.2) e_) (fun e_ => (hk_.2) e_)))) cj); replace HO_373003 := Aside0.mk (Kd.R_mono (ok' := fun k_ => nb k_ Ao27 t350.length co27 ∧ nb k_ Ao28 t353.length co28 ∧ nb k_ Ao36 t400.length co36 ∧ nb k_ Ao45 t375.length co45 ∧ nb k_ Ao46 t378.length co46) (Kd.R_keptB ((Kd.R_apart' HO_373003.out (Kd.R_typed HO_386004.out) (by decide))) hkp (fun k_ hk_ hs_ => Or.elim hs_ (fun e_ => (hk_.1.2.2.2.1) e_) (fun e_ => Or.elim e_ (fun e_ => (hk_.1.2.2.2.2) e_) (fun e_ => (hk_.2) e_)))) cj); replace HO_373004 := Aside0.mk (Kd.R_mono (ok' := fun k_ => nb k_ Ao29 t356.length co29 ∧ nb k_ Ao47 t381.length co47) (Kd.R_keptB ((Kd.R_apart' (Kd.R_apart' HO_373004.out (Kd.R_typed HO_386002.out) (by decide)) (Kd.R_typed HO_386003.out) (by decide))) hkp (fun k_ hk_ hs_ => Or.elim hs_ (fun e_ => (hk_.1.2) e_) (fun e_ => Or.elim e_ (fun e_ => (hk_.2) e_) (fun e_ => (hk_.1.1.2) e_)))) cj); replace BK335 := Aside0.mk (blk_kept (bk BK335) hkp (fun hs_ => Or.elim hs_ (fun e_ => (fun e_ => (Kd.R_ne HO_386002.out BK335.out (by decide)) e_) e_) (fun e_ => Or.elim e_ (fun e_ => (fun e_ => (Kd.R_ne HO_386003.out BK335.out (by decide)) e_) e_) (fun e_ => (fun e_ => (Kd.R_ne HO_386004.out BK335.out (by decide)) e_) e_)))); replace BK360 := Aside0.mk (blk_kept (bk BK360) hkp (fun hs_ => Or.elim hs_ (fun e_ => (fun e_ => (Kd.R_ne HO_386002.out BK360.out (by decide)) e_) e_) (fun e_ => Or.elim e_ (fun e_ => (fun e_ => (Kd.R_ne HO_386003.out BK360.out (by decide)) e_) e_) (fun e_ => (fun e_ => (Kd.R_ne HO_386004.out BK360.out (by decide)) e_) e_)))); replace BK372 := Aside0.mk (blk_kept (bk BK372) hkp (fun hs_ => Or.elim hs_ (fun e_ => (fun e_ => (Kd.R_ne HO_386002.out BK372.out (by decide)) e_) e_) (fun e_ => Or.elim e_ (fun e_ => (fun e_ => (Kd.R_ne HO_386003.out BK372.out (by decide)) e_) e_) (fun e_ => (fun e_ => (Kd.R_ne HO_386004.out BK372.out (by decide)) e_) e_)))); replace BK385 := Aside0.mk (blk_kept (bk BK385) hkp (fun hs_ => Or.elim hs_ (fun e_ => (fun e_ => (Kd.R_ne HO_386002.out BK385.out (by decide)) e_) e_) (fun e_ => Or.elim e_ (fun e_ => (fun e_ => (Kd.R_ne HO_386003.out BK385.out (by decide)) e_) e_) (fun e_ => (fun e_ => (Kd.R_ne HO_386004.out BK385.out (by decide)) e_) e_)))); replace HO_386002 := Aside0.mk (Kd.R_reok rfl hy0 (fun k_ e_ => HO_386002.out.1 k_ e_)); replace HO_386003 := Aside0.mk (Kd.R_reok rfl hy1 (fun k_ e_ => HO_386003.out.1 k_ e_)); replace HO_386004 := Aside0.mk (Kd.R_reok rfl hy2 (fun k_ e_ => HO_386004.out.1 k_ e_)); replace HB := Aside0.mk (hb); (try clear hb); (try clear hkp); (try clear hy0); (try clear hy1); (try clear hy2); have hcz115_0 := bz5 BK385) | ((with_reducible refine gate_callee (f := 24) rfl ?_); refine goesL_ (some 74) rfl rfl Try.func24 (by kernel_rfl) rfl #[.agg #[.int .i64 t373, .int .i64 t374, .slice Ao45 t405.length co45, .slice Ao46 t406.length co46, .slice Ao47 t407.length co47], .int .i64 1] rfl (by (try simp only [List.map_toArray, List.map_cons, List.map_nil]); first | done | (rw [show t405.length = t375.length from (Kd.R_reads' HO_386002.out).1.symm, show t406.length = t378.length from (Kd.R_reads' HO_386003.out).1.symm, show t407.length = t381.length from (Kd.R_reads' HO_386004.out).1.symm] <;> rfl) | rfl | (simp only [List.length_drop, List.length_take]; rfl)) ?_; (with_reducible refine (laws_heldThree.calls kj70 t373 t374 _ _ t405 _ _ t406 _ _ t407 1 t408 _ (cr HO_386002) ?side2 (cr HO_386003) ?side4 (cr HO_386004) ?side6 A104.out).mono ?_); (case side2 => rw [show t405.length = t375.length from (Kd.R_reads' HO_386002.out).1.symm]; exact (Kd.R_reads' HO_386002.out).2.1); (case side4 => rw [show t406.length = t378.length from (Kd.R_reads' HO_386003.out).1.symm]; exact (Kd.R_reads' HO_386003.out).2.1); (case side6 => rw [show t407.length = t381.length from (Kd.R_reads' HO_386004.out).1.symm]; exact (Kd.R_reads' HO_386004.out).2.1); rintro e w116 ⟨rfl, hb⟩; refine ⟨_, rfl, ?_⟩; replace HO_361002 := rb HO_361002 hb; replace HO_361003 := rb HO_361003 hb; replace HO_361004 := rb HO_361004 hb; replace HO_373002 := rb HO_373002 hb; replace HO_373003 := rb HO_373003 hb; replace HO_373004 := rb HO_373004 hb; replace HO_386002 := rb HO_386002 hb; replace HO_386003 := rb HO_386003 hb; replace HO_386004 := rb HO_386004 hb; replace BK335 := bb BK335 hb; replace BK360 := bb BK360 hb; replace BK372 := bb BK372 hb; replace BK385 := bb BK385 hb; replace HB := Aside0.mk (below_step (be4 HB GE335 GE360 GE372 GE385) hb); (try clear hb); have hnb117 := NB335_360.out; have hnc117 := NB360_335.out; have hnb118 := NB335_372.out; have hnc118 := NB372_335.out; have hcz119_0 := bz5 BK335) | ((with_reducible refine gate_callee (f := 18) rfl ?_); refine gl 82 Try.func18 #[.agg #[.int .i64 a0_0, .int .i64 a0_1, .slice A0_2 l0_2.length c0_2, .slice A0_3 l0_3.length c0_3, .slice A0_4 l0_4.length c0_4]] ?_; (with_reducible refine (laws_toThree.calls kj70 a0_0 a0_1 _ _ l0_2 _ _ l0_3 _ _ l0_4 t409 t410 t411 t414 t417 _ (cb HR0_2 HB) HC0_2.out (cb HR0_3 HB) HC0_3.out (cb HR0_4 HB) HC0_4.out A107.out).mono ?_); rintro e w120 ⟨v412, v415, v418, rfl, ho0, ho1, ho2, hb⟩; refine ⟨_, rfl, ?_⟩; have HO413 := Aside0.mk (Kd.R_lower (nw (nw (nw (nw (nw (nw ho0 HO_361002) HO_361003) HO_373002) HO_373003) HO_386002) HO_386003) (below_size (be4 HB GE335 GE360 GE372 GE385))); have HO416 := Aside0.mk (Kd.R_lower (nw (nw (nw (nw (nw (nw ho1 HO_361002) HO_361003) HO_373002) HO_373003) HO_386002) HO_386003) (below_size (be4 HB GE335 GE360 GE372 GE385))); replace HO_361002 := td2 (ro HO_361002) hb ho0 ho1; replace HO_361003 := td2 (ro HO_361003) hb ho0 ho1; replace HO_373002 := td2 (ro HO_373002) hb ho0 ho1; replace HO_373003 := td2 (ro HO_373003) hb ho0 ho1; replace HO_386002 := td2 (ro HO_386002) hb ho0 ho1; replace HO_386003 := td2 (ro HO_386003) hb ho0 ho1; have HO419 := Aside0.mk (Kd.R_lower (nw (nw (nw ho2 HO_361004) HO_373004) HO_386004) (below_size (be4 HB GE335 GE360 GE372 GE385))); replace HO_361004 := Aside0.mk (Kd.R_elder' (ro HO_361004) (Kd.R_base ho2) hb); replace HO_373004 := Aside0.mk (Kd.R_elder' (ro HO_373004) (Kd.R_base ho2) hb); replace HO_386004 := Aside0.mk (Kd.R_elder' (ro HO_386004) (Kd.R_base ho2) hb); replace BK335 := bb BK335 hb; replace BK360 := bb BK360 hb; replace BK372 := bb BK372 hb; replace BK385 := bb BK385 hb; replace HB := Aside0.mk (below_step (be4 HB GE335 GE360 GE372 GE385) hb); (try clear hb); (try clear ho0); (try clear ho1); (try clear ho2); obtain ⟨Ao121, co121, eo121⟩ := Kd.R_slice HO413.out; subst eo121; obtain ⟨Ao122, co122, eo122⟩ := Kd.R_slice HO416.out; subst eo122; obtain ⟨Ao123, co123, eo123⟩ := Kd.R_slice HO419.out; subst eo123) | ((with_reducible refine gate_callee (f := 34) rfl ?_); refine gl 84 Try.func34 #[.agg #[.int .i64 t409, .int .i64 t410, .slice Ao121 t411.length co121, .slice Ao122 t414.length co122, .slice Ao123 t417.length co123], .string a1] ?_; (with_reducible refine (impl_Drop.calls kj70 t409 t410 _ _ t411 _ _ t414 _ _ t417 a1 t420 t421 t422 t425 t428 t431 _ (cr HO413) ((Kd.R_reads' HO413.out).2.1) (cr HO416) ((Kd.R_reads' HO416.out).2.1) (cr HO419) ((Kd.R_reads' HO419.out).2.1) A108.out).mono ?_); rintro e w124 ⟨v423, v426, v429, rfl, ho0, ho1, ho2, hb⟩; refine ⟨_, rfl, ?_⟩; have HO424 := Aside0.mk (Kd.R_lower (nw (nw (nw (nw (nw (nw (nw (nw ho0 HO_361002) HO_361003) HO_373002) HO_373003) HO_386002) HO_386003) HO413) HO416) (below_size (be4 HB GE335 GE360 GE372 GE385))); have HO427 := Aside0.mk (Kd.R_lower (nw (nw (nw (nw (nw (nw (nw (nw ho1 HO_361002) HO_361003) HO_373002) HO_373003) HO_386002) HO_386003) HO413) HO416) (below_size (be4 HB GE335 GE360 GE372 GE385))); replace HO_361002 := td2 (ro HO_361002) hb ho0 ho1; replace HO_361003 := td2 (ro HO_361003) hb ho0 ho1; replace HO_373002 := td2 (ro HO_373002) hb ho0 ho1; replace HO_373003 := td2 (ro HO_373003) hb ho0 ho1; replace HO_386002 := td2 (ro HO_386002) hb ho0 ho1; replace HO_386003 := td2 (ro HO_386003) hb ho0 ho1; replace HO413 := td2 (ro HO413) hb ho0 ho1; replace HO416 := td2 (ro HO416) hb ho0 ho1; have HO430 := Aside0.mk (Kd.R_lower (nw (nw (nw (nw ho2 HO_361004) HO_373004) HO_386004) HO419) (below_size (be4 HB GE335 GE360 GE372 GE385))); replace HO_361004 := Aside0.mk (Kd.R_elder' (ro HO_361004) (Kd.R_base ho2) hb); replace HO_373004 := Aside0.mk (Kd.R_elder' (ro HO_373004) (Kd.R_base ho2) hb); replace HO_386004 := Aside0.mk (Kd.R_elder' (ro HO_386004) (Kd.R_base ho2) hb); replace HO419 := Aside0.mk (Kd.R_elder' (ro HO419) (Kd.R_base ho2) hb); replace BK335 := bb BK335 hb; replace BK360 := bb BK360 hb; replace BK372 := bb BK372 hb; replace BK385 := bb BK385 hb; replace HB := Aside0.mk (below_step (be4 HB GE335 GE360 GE372 GE385) hb); (try clear hb); (try clear ho0); (try clear ho1); (try clear ho2)) | ((with_reducible refine gate_dst (N := 14) rfl ?_); refine bx 14 #[.int .i64 0, .int .i64 0, .slice none 0 0, .slice none 0 0, .slice none 0 0] 30 ?_; intro gb432 hg w125 hbox hb; replace HO_361002 := rb HO_361002 hb; replace HO_361003 := rb HO_361003 hb; replace HO_361004 := rb HO_361004 hb; replace HO_373002 := rb HO_373002 hb; replace HO_373003 := rb HO_373003 hb; replace HO_373004 := rb HO_373004 hb; replace HO_386002 := rb HO_386002 hb; replace HO_386003 := rb HO_386003 hb; replace HO_386004 := rb HO_386004 hb; replace HO413 := rb HO413 hb; replace HO416 := rb HO416 hb; replace HO419 := rb HO419 hb; replace HO424 := rb HO424 hb; replace HO427 := rb HO427 hb; replace HO430 := rb HO430 hb; have BK432 := am hbox; have GW432 := Aside0.mk ((by rw [hg]; exact (below_size (be4 HB GE335 GE360 GE372 GE385)) : w.heap.size ≤ gb432)); have GE432 := Aside0.mk ((by rw [hg]; exact (below_size (be4 HB GE335 GE360 GE372 GE385)) : w.heap.size ≤ gb432)); replace HB := Aside0.mk (below_step (be4 HB GE335 GE360 GE372 GE385) hb); have NB335_432 := Aside0.mk ((by rw [hg]; exact Nat.ne_of_lt (bl BK335) : gb335 ≠ gb432)); have NB432_335 := Aside0.mk ((by rw [hg]; exact Nat.ne_of_gt (bl BK335) : gb432 ≠ gb335)); replace BK335 := bb BK335 hb; have NB360_432 := Aside0.mk ((by rw [hg]; exact Nat.ne_of_lt (bl BK360) : gb360 ≠ gb432)); have NB432_360 := Aside0.mk ((by rw [hg]; exact Nat.ne_of_gt (bl BK360) : gb432 ≠ gb360)); replace BK360 := bb BK360 hb; have NB372_432 := Aside0.mk ((by rw [hg]; exact Nat.ne_of_lt (bl BK372) : gb372 ≠ gb432)); have NB432_372 := Aside0.mk ((by rw [hg]; exact Nat.ne_of_gt (bl BK372) : gb432 ≠ gb372)); replace BK372 := bb BK372 hb; have NB385_432 := Aside0.mk ((by rw [hg]; exact Nat.ne_of_lt (bl BK385) : gb385 ≠ gb432)); have NB432_385 := Aside0.mk ((by rw [hg]; exact Nat.ne_of_gt (bl BK385) : gb432 ≠ gb385)); replace BK385 := bb BK385 hb; clear hb hbox hg; have hnb126 := NB432_335.out; have hnc126 := NB335_432.out; have hnb127 := NB432_360.out; have hnc127 := NB360_432.out; have hnb128 := NB432_372.out; have hnc128 := NB372_432.out; have hnb129 := NB432_385.out; have hnc129 := NB385_432.out; have hcz130_0 := bz5 BK432; obtain ⟨Ao131, co131, eo131⟩ := Kd.R_slice HO424.out; subst eo131; obtain ⟨Ao132, co132, eo132⟩ := Kd.R_slice HO427.out; subst eo132; obtain ⟨Ao133, co133, eo133⟩ := Kd.R_slice HO430.out; subst eo133))
       (try simp only [Act.put, List.setIfInBounds_toArray, List.set_cons_zero, List.set_cons_succ])
       go_cut [95] (fun v95 wc => ∃ (kq : Nat) (x95_108 : Bool), v95 = .bool x95_108 ∧ Aside0 (laws_FnExactDrop.j2 kq t404 x95_108 t373 t374 t405 t406 t407 = some r) ∧ Aside0 (kq ≤ kj70) ∧ Aside0 (Kd.R k68 68 wc w.heap.size (fun k_ => nb k_ Ao28 t353.length co28 ∧ nb k_ Ao36 t400.length co36 ∧ nb k_ Ao37 t401.length co37 ∧ nb k_ Ao45 t375.length co45 ∧ nb k_ Ao46 t378.length co46 ∧ nb k_ Ao131 t422.length co131 ∧ nb k_ Ao132 t425.length co132) (.slice Ao27 t350.length co27) t350) ∧ Aside0 (Kd.R k68 68 wc w.heap.size (fun k_ => nb k_ Ao27 t350.length co27 ∧ nb k_ Ao36 t400.length co36 ∧ nb k_ Ao37 t401.length co37 ∧ nb k_ Ao45 t375.length co45 ∧ nb k_ Ao46 t378.length co46 ∧ nb k_ Ao131 t422.length co131 ∧ nb k_ Ao132 t425.length co132) (.slice Ao28 t353.length co28) t353) ∧ Aside0 (Kd.R (Kd.int .i64) 3 wc w.heap.size (fun k_ => nb k_ Ao38 t402.length co38 ∧ nb k_ Ao47 t381.length co47 ∧ nb k_ Ao133 t428.length co133) (.slice Ao29 t356.length co29) t356) ∧ Aside0 (Kd.R k68 68 wc w.heap.size (fun k_ => nb k_ Ao27 t350.length co27 ∧ nb k_ Ao28 t353.length co28 ∧ nb k_ Ao37 t401.length co37 ∧ nb k_ Ao45 t375.length co45 ∧ nb k_ Ao46 t378.length co46 ∧ nb k_ Ao131 t422.length co131 ∧ nb k_ Ao132 t425.length co132) (.slice Ao36 t400.length co36) t400) ∧ Aside0 (Kd.R k68 68 wc w.heap.size (fun k_ => nb k_ Ao27 t350.length co27 ∧ nb k_ Ao28 t353.length co28 ∧ nb k_ Ao36 t400.length co36 ∧ nb k_ Ao45 t375.length co45 ∧ nb k_ Ao46 t378.length co46 ∧ nb k_ Ao131 t422.length co131 ∧ nb k_ Ao132 t425.length co132) (.slice Ao37 t401.length co37) t401) ∧ Aside0 (Kd.R (Kd.int .i64) 3 wc w.heap.size (fun k_ => nb k_ Ao29 t356.length co29 ∧ nb k_ Ao47 t381.length co47 ∧ nb k_ Ao133 t428.length co133) (.slice Ao38 t402.length co38) t402) ∧ Aside0 (Kd.R k68 68 wc w.heap.size (fun k_ => nb k_ Ao27 t350.length co27 ∧ nb k_ Ao28 t353.length co28 ∧ nb k_ Ao36 t400.length co36 ∧ nb k_ Ao37 t401.length co37 ∧ nb k_ Ao46 t378.length co46 ∧ nb k_ Ao131 t422.length co131 ∧ nb k_ Ao132 t425.length co132) (.slice Ao45 t375.length co45) t405) ∧ Aside0 (Kd.R k68 68 wc w.heap.size (fun k_ => nb k_ Ao27 t350.length co27 ∧ nb k_ Ao28 t353.length co28 ∧ nb k_ Ao36 t400.length co36 ∧ nb k_ Ao37 t401.length co37 ∧ nb k_ Ao45 t375.length co45 ∧ nb k_ Ao131 t422.length co131 ∧ nb k_ Ao132 t425.length co132) (.slice Ao46 t378.length co46) t406) ∧ Aside0 (Kd.R (Kd.int .i64) 3 wc w.heap.size (fun k_ => nb k_ Ao29 t356.length co29 ∧ nb k_ Ao38 t402.length co38 ∧ nb k_ Ao133 t428.length co133) (.slice Ao47 t381.length co47) t407) ∧ Aside0 (Kd.R k68 68 wc w.heap.size (fun k_ => nb k_ Ao27 t350.length co27 ∧ nb k_ Ao28 t353.length co28 ∧ nb k_ Ao36 t400.length co36 ∧ nb k_ Ao37 t401.length co37 ∧ nb k_ Ao45 t375.length co45 ∧ nb k_ Ao46 t378.length co46 ∧ nb k_ Ao132 t425.length co132) (.slice Ao131 t422.length co131) t422) ∧ Aside0 (Kd.R k68 68 wc w.heap.size (fun k_ => nb k_ Ao27 t350.length co27 ∧ nb k_ Ao28 t353.length co28 ∧ nb k_ Ao36 t400.length co36 ∧ nb k_ Ao37 t401.length co37 ∧ nb k_ Ao45 t375.length co45 ∧ nb k_ Ao46 t378.length co46 ∧ nb k_ Ao131 t422.length co131) (.slice Ao132 t425.length co132) t425) ∧ Aside0 (Kd.R (Kd.int .i64) 3 wc w.heap.size (fun k_ => nb k_ Ao29 t356.length co29 ∧ nb k_ Ao38 t402.length co38 ∧ nb k_ Ao47 t381.length co47) (.slice Ao133 t428.length co133) t428) ∧ Aside0 (wc.heap[gb335]? = some (.cells #[.int .i64 a0_0, .int .i64 a0_1, (.slice A0_2 l0_2.length c0_2), (.slice A0_3 l0_3.length c0_3), (.slice A0_4 l0_4.length c0_4)] 25 (0, 0))) ∧ Aside0 (wc.heap[gb360]? = some (.cells #[.int .i64 t348, .int .i64 t349, (.slice Ao27 t350.length co27), (.slice Ao28 t353.length co28), (.slice Ao29 t356.length co29)] 30 (0, 0))) ∧ Aside0 (wc.heap[gb372]? = some (.cells #[.int .i64 t361, .int .i64 t362, (.slice Ao36 t400.length co36), (.slice Ao37 t401.length co37), (.slice Ao38 t402.length co38)] 30 (0, 0))) ∧ Aside0 (wc.heap[gb385]? = some (.cells #[.int .i64 t373, .int .i64 t374, (.slice Ao45 t375.length co45), (.slice Ao46 t378.length co46), (.slice Ao47 t381.length co47)] 30 (0, 0))) ∧ Aside0 (wc.heap[gb432]? = some (.cells #[.int .i64 t420, .int .i64 t421, (.slice Ao131 t422.length co131), (.slice Ao132 t425.length co132), (.slice Ao133 t428.length co133)] 30 (0, 0))) ∧ Aside0 (Below w.heap.size w wc))
       case first =>
        have H := HC109.out
        clear HC109
        replace H := Option.bind_eq_some_iff.mp H
        obtain ⟨t433, A1340, H⟩ := H
        try dsimp only at H
        have A134 := Aside0.mk A1340
        clear A1340
        by_cases c135 : t433 = true
        ·subst c135
         rw [if_pos rfl] at H
         have H' := Aside0.mk H
         clear H
         have hnb136 := NB432_335.out
         have hnc136 := NB335_432.out
         have hnb137 := NB432_360.out
         have hnc137 := NB360_432.out
         have hnb138 := NB432_372.out
         have hnc138 := NB372_432.out
         have hnb139 := NB432_385.out
         have hnc139 := NB385_432.out
         have hcz140_0 := bz5 BK432
         have hnb141 := NB360_335.out
         have hnc141 := NB335_360.out
         have hnb142 := NB360_372.out
         have hnc142 := NB372_360.out
         have hnb143 := NB360_385.out
         have hnc143 := NB385_360.out
         have hcz144_0 := bz5 BK360
         go_wp2_with (first | ((with_reducible refine gate_callee (f := 20) rfl ?_); refine gl 89 Try.func20 #[.agg #[.int .i64 t420, .int .i64 t421, .slice Ao131 t422.length co131, .slice Ao132 t425.length co132, .slice Ao133 t428.length co133], .agg #[.int .i64 t348, .int .i64 t349, .slice Ao27 t350.length co27, .slice Ao28 t353.length co28, .slice Ao29 t356.length co29]] ?_; (with_reducible refine (laws_eqThree.calls kj70 t420 t421 _ _ t422 _ _ t425 _ _ t428 t348 t349 _ _ t350 _ _ t353 _ _ t356 true _ ?side1 ((Kd.R_reads' HO424.out).2.1) ?side3 ((Kd.R_reads' HO427.out).2.1) ?side5 ((Kd.R_reads' HO430.out).2.1) ?side7 ((Kd.R_reads' HO_361002.out).2.1) ?side9 ((Kd.R_reads' HO_361003.out).2.1) ?side11 ((Kd.R_reads' HO_361004.out).2.1) A134.out).mono ?_); (case side1 => exact rfr _ HO424 BK432); (case side3 => exact rfr _ HO427 BK432); (case side5 => exact rfr _ HO430 BK432); (case side7 => exact rfr _ HO_361002 BK432); (case side9 => exact rfr _ HO_361003 BK432); (case side11 => exact rfr _ HO_361004 BK432); rintro e w145 ⟨rfl, hb⟩; refine ⟨_, rfl, ?_⟩; replace HO_361002 := Aside0.mk (Kd.R_below (rf HO_361002 BK432) hb); replace HO_361003 := Aside0.mk (Kd.R_below (rf HO_361003 BK432) hb); replace HO_361004 := Aside0.mk (Kd.R_below (rf HO_361004 BK432) hb); replace HO_373002 := Aside0.mk (Kd.R_below (rf HO_373002 BK432) hb); replace HO_373003 := Aside0.mk (Kd.R_below (rf HO_373003 BK432) hb); replace HO_373004 := Aside0.mk (Kd.R_below (rf HO_373004 BK432) hb); replace HO_386002 := Aside0.mk (Kd.R_below (rf HO_386002 BK432) hb); replace HO_386003 := Aside0.mk (Kd.R_below (rf HO_386003 BK432) hb); replace HO_386004 := Aside0.mk (Kd.R_below (rf HO_386004 BK432) hb); replace HO413 := Aside0.mk (Kd.R_below (rf HO413 BK432) hb); replace HO416 := Aside0.mk (Kd.R_below (rf HO416 BK432) hb); replace HO419 := Aside0.mk (Kd.R_below (rf HO419 BK432) hb); replace HO424 := Aside0.mk (Kd.R_below (rf HO424 BK432) hb); replace HO427 := Aside0.mk (Kd.R_below (rf HO427 BK432) hb); replace HO430 := Aside0.mk (Kd.R_below (rf HO430 BK432) hb); replace BK335 := Aside0.mk (blk_below (g := gb335) (o := .cells #[.int .i64 a0_0, .int .i64 a0_1, .slice A0_2 l0_2.length c0_2, .slice A0_3 l0_3.length c0_3, .slice A0_4 l0_4.length c0_4] 25 (0, 0)) (bf1 BK335 NB335_432) hb); replace BK360 := Aside0.mk (blk_below (g := gb360) (o := .cells #[.int .i64 t348, .int .i64 t349, .slice Ao27 t350.length co27, .slice Ao28 t353.length co28, .slice Ao29 t356.length co29] 30 (0, 0)) (bf1 BK360 NB360_432) hb); replace BK372 := Aside0.mk (blk_below (g := gb372) (o := .cells #[.int .i64 t361, .int .i64 t362, .slice Ao36 t400.length co36, .slice Ao37 t401.length co37, .slice Ao38 t402.length co38] 30 (0, 0)) (bf1 BK372 NB372_432) hb); replace BK385 := Aside0.mk (blk_below (g := gb385) (o := .cells #[.int .i64 t373, .int .i64 t374, .slice Ao45 t375.length co45, .slice Ao46 t378.length co46, .slice Ao47 t381.length co47] 30 (0, 0)) (bf1 BK385 NB385_432) hb); replace BK432 := Aside0.mk (blk_below (g := gb432) (o := .cells #[.int .i64 t420, .int .i64 t421, .slice Ao131 t422.length co131, .slice Ao132 t425.length co132, .slice Ao133 t428.length co133] 30 (0, 0)) (by (with_reducible repeat (first | refine blk_drewN ?_ _ | refine blk_drew ?_ | refine blk_alloc ?_ _)); refine blk_put (cs := #[.int .i64 t420, .int .i64 t421, .slice Ao131 t422.length co131, .slice Ao132 t425.length co132, .slice none 0 0]) ?_ 4 _ rfl; (with_reducible repeat (first | refine blk_drewN ?_ _ | refine blk_drew ?_ | refine blk_alloc ?_ _)); refine blk_put (cs := #[.int .i64 t420, .int .i64 t421, .slice Ao131 t422.length co131, .slice none 0 0, .slice none 0 0]) ?_ 3 _ rfl; (with_reducible repeat (first | refine blk_drewN ?_ _ | refine blk_drew ?_ | refine blk_alloc ?_ _)); refine blk_put (cs := #[.int .i64 t420, .int .i64 t421, .slice none 0 0, .slice none 0 0, .slice none 0 0]) ?_ 2 _ rfl; (with_reducible repeat (first | refine blk_drewN ?_ _ | refine blk_drew ?_ | refine blk_alloc ?_ _)); refine blk_put (cs := #[.int .i64 t420, .int .i64 0, .slice none 0 0, .slice none 0 0, .slice none 0 0]) ?_ 1 _ rfl; (with_reducible repeat (first | refine blk_drewN ?_ _ | refine blk_drew ?_ | refine blk_alloc ?_ _)); refine blk_put (cs := #[.int .i64 0, .int .i64 0, .slice none 0 0, .slice none 0 0, .slice none 0 0]) ?_ 0 _ rfl; (with_reducible repeat (first | refine blk_drewN ?_ _ | refine blk_drew ?_ | refine blk_alloc ?_ _)); exact BK432.out) hb); replace HB := Aside0.mk (below_step (be5 HB GE335 GE360 GE372 GE385 GE432) hb); (try clear hb)))
         go_meet
         case rel => exact ⟨_, ((t431 != t359)), rs, H', ⟨by have := HJ13.out; have := HJ70.out; first | omega | exact Nat.le_refl _⟩, ⟨by (try simp only [hl373002_70, hl373003_70, hl373004_70]); (with_reducible repeat (first | apply Kd.R_alloc | apply Kd.R_drewN | apply Kd.R_drew)); exact rm HO_361002⟩, ⟨by (try simp only [hl373002_70, hl373003_70, hl373004_70]); (with_reducible repeat (first | apply Kd.R_alloc | apply Kd.R_drewN | apply Kd.R_drew)); exact rm HO_361003⟩, ⟨by (try simp only [hl373002_70, hl373003_70, hl373004_70]); (with_reducible repeat (first | apply Kd.R_alloc | apply Kd.R_drewN | apply Kd.R_drew)); exact rm HO_361004⟩, ⟨by (try simp only [hl373002_70, hl373003_70, hl373004_70]); (with_reducible repeat (first | apply Kd.R_alloc | apply Kd.R_drewN | apply Kd.R_drew)); exact rm HO_373002⟩, ⟨by (try simp only [hl373002_70, hl373003_70, hl373004_70]); (with_reducible repeat (first | apply Kd.R_alloc | apply Kd.R_drewN | apply Kd.R_drew)); exact rm HO_373003⟩, ⟨by (try simp only [hl373002_70, hl373003_70, hl373004_70]); (with_reducible repeat (first | apply Kd.R_alloc | apply Kd.R_drewN | apply Kd.R_drew)); exact rm HO_373004⟩, ⟨by (try simp only [hl373002_70, hl373003_70, hl373004_70]); (with_reducible repeat (first | apply Kd.R_alloc | apply Kd.R_drewN | apply Kd.R_drew)); exact rm HO_386002⟩, ⟨by (try simp only [hl373002_70, hl373003_70, hl373004_70]); (with_reducible repeat (first | apply Kd.R_alloc | apply Kd.R_drewN | apply Kd.R_drew)); exact rm HO_386003⟩, ⟨by (try simp only [hl373002_70, hl373003_70, hl373004_70]); (with_reducible repeat (first | apply Kd.R_alloc | apply Kd.R_drewN | apply Kd.R_drew)); exact rm HO_386004⟩, ⟨by (try simp only [hl373002_70, hl373003_70, hl373004_70]); (with_reducible repeat (first | apply Kd.R_alloc | apply Kd.R_drewN | apply Kd.R_drew)); exact rm HO424⟩, ⟨by (try simp only [hl373002_70, hl373003_70, hl373004_70]); (with_reducible repeat (first | apply Kd.R_alloc | apply Kd.R_drewN | apply Kd.R_drew)); exact rm HO427⟩, ⟨by (try simp only [hl373002_70, hl373003_70, hl373004_70]); (with_reducible repeat (first | apply Kd.R_alloc | apply Kd.R_drewN | apply Kd.R_drew)); exact rm HO430⟩, ⟨by (try simp only [hl373002_70, hl373003_70, hl373004_70]); (with_reducible repeat (first | refine blk_drewN ?_ _ | refine blk_drew ?_ | refine blk_alloc ?_ _)); exact BK335.out⟩, ⟨by (try simp only [hl373002_70, hl373003_70, hl373004_70]); (with_reducible repeat (first | refine blk_drewN ?_ _ | refine blk_drew ?_ | refine blk_alloc ?_ _)); exact BK360.out⟩, ⟨by (try simp only [hl373002_70, hl373003_70, hl373004_70]); (with_reducible repeat (first | refine blk_drewN ?_ _ | refine blk_drew ?_ | refine blk_alloc ?_ _)); exact BK372.out⟩, ⟨by (try simp only [hl373002_70, hl373003_70, hl373004_70]); (with_reducible repeat (first | refine blk_drewN ?_ _ | refine blk_drew ?_ | refine blk_alloc ?_ _)); exact BK385.out⟩, ⟨by (try simp only [hl373002_70, hl373003_70, hl373004_70]); (with_reducible repeat (first | refine blk_drewN ?_ _ | refine blk_drew ?_ | refine blk_alloc ?_ _)); exact BK432.out⟩, ⟨be5 HB GE335 GE360 GE372 GE385 GE432⟩⟩
        replace c135 := Bool.eq_false_iff.mpr c135
        subst c135
        rw [if_neg (show ¬ (false = true) by decide)] at H
        have H' := Aside0.mk H
        clear H
        have hnb146 := NB432_335.out
        have hnc146 := NB335_432.out
        have hnb147 := NB432_360.out
        have hnc147 := NB360_432.out
        have hnb148 := NB432_372.out
        have hnc148 := NB372_432.out
        have hnb149 := NB432_385.out
        have hnc149 := NB385_432.out
        have hcz150_0 := bz5 BK432
        have hnb151 := NB360_335.out
        have hnc151 := NB335_360.out
        have hnb152 := NB360_372.out
        have hnc152 := NB372_360.out
        have hnb153 := NB360_385.out
        have hnc153 := NB385_360.out
        have hcz154_0 := bz5 BK360
        go_wp2_with (first | ((with_reducible refine gate_callee (f := 20) rfl ?_); refine gl 89 Try.func20 #[.agg #[.int .i64 t420, .int .i64 t421, .slice Ao131 t422.length co131, .slice Ao132 t425.length co132, .slice Ao133 t428.length co133], .agg #[.int .i64 t348, .int .i64 t349, .slice Ao27 t350.length co27, .slice Ao28 t353.length co28, .slice Ao29 t356.length co29]] ?_; (with_reducible refine (laws_eqThree.calls kj70 t420 t421 _ _ t422 _ _ t425 _ _ t428 t348 t349 _ _ t350 _ _ t353 _ _ t356 false _ ?side1 ((Kd.R_reads' HO424.out).2.1) ?side3 ((Kd.R_reads' HO427.out).2.1) ?side5 ((Kd.R_reads' HO430.out).2.1) ?side7 ((Kd.R_reads' HO_361002.out).2.1) ?side9 ((Kd.R_reads' HO_361003.out).2.1) ?side11 ((Kd.R_reads' HO_361004.out).2.1) A134.out).mono ?_); (case side1 => exact rfr _ HO424 BK432); (case side3 => exact rfr _ HO427 BK432); (case side5 => exact rfr _ HO430 BK432); (case side7 => exact rfr _ HO_361002 BK432); (case side9 => exact rfr _ HO_361003 BK432); (case side11 => exact rfr _ HO_361004 BK432); rintro e w155 ⟨rfl, hb⟩; refine ⟨_, rfl, ?_⟩; replace HO_361002 := Aside0.mk (Kd.R_below (rf HO_361002 BK432) hb); replace HO_361003 := Aside0.mk (Kd.R_below (rf HO_361003 BK432) hb); replace HO_361004 := Aside0.mk (Kd.R_below (rf HO_361004 BK432) hb); replace HO_373002 := Aside0.mk (Kd.R_below (rf HO_373002 BK432) hb); replace HO_373003 := Aside0.mk (Kd.R_below (rf HO_373003 BK432) hb); replace HO_373004 := Aside0.mk (Kd.R_below (rf HO_373004 BK432) hb); replace HO_386002 := Aside0.mk (Kd.R_below (rf HO_386002 BK432) hb); replace HO_386003 := Aside0.mk (Kd.R_below (rf HO_386003 BK432) hb); replace HO_386004 := Aside0.mk (Kd.R_below (rf HO_386004 BK432) hb); replace HO413 := Aside0.mk (Kd.R_below (rf HO413 BK432) hb); replace HO416 := Aside0.mk (Kd.R_below (rf HO416 BK432) hb); replace HO419 := Aside0.mk (Kd.R_below (rf HO419 BK432) hb); replace HO424 := Aside0.mk (Kd.R_below (rf HO424 BK432) hb); replace HO427 := Aside0.mk (Kd.R_below (rf HO427 BK432) hb); replace HO430 := Aside0.mk (Kd.R_below (rf HO430 BK432) hb); replace BK335 := Aside0.mk (blk_below (g := gb335) (o := .cells #[.int .i64 a0_0, .int .i64 a0_1, .slice A0_2 l0_2.length c0_2, .slice A0_3 l0_3.length c0_3, .slice A0_4 l0_4.length c0_4] 25 (0, 0)) (bf1 BK335 NB335_432) hb); replace BK360 := Aside0.mk (blk_below (g := gb360) (o := .cells #[.int .i64 t348, .int .i64 t349, .slice Ao27 t350.length co27, .slice Ao28 t353.length co28, .slice Ao29 t356.length co29] 30 (0, 0)) (bf1 BK360 NB360_432) hb); replace BK372 := Aside0.mk (blk_below (g := gb372) (o := .cells #[.int .i64 t361, .int .i64 t362, .slice Ao36 t400.length co36, .slice Ao37 t401.length co37, .slice Ao38 t402.length co38] 30 (0, 0)) (bf1 BK372 NB372_432) hb); replace BK385 := Aside0.mk (blk_below (g := gb385) (o := .cells #[.int .i64 t373, .int .i64 t374, .slice Ao45 t375.length co45, .slice Ao46 t378.length co46, .slice Ao47 t381.length co47] 30 (0, 0)) (bf1 BK385 NB385_432) hb); replace BK432 := Aside0.mk (blk_below (g := gb432) (o := .cells #[.int .i64 t420, .int .i64 t421, .slice Ao131 t422.length co131, .slice Ao132 t425.length co132, .slice Ao133 t428.length co133] 30 (0, 0)) (by (with_reducible repeat (first | refine blk_drewN ?_ _ | refine blk_drew ?_ | refine blk_alloc ?_ _)); refine blk_put (cs := #[.int .i64 t420, .int .i64 t421, .slice Ao131 t422.length co131, .slice Ao132 t425.length co132, .slice none 0 0]) ?_ 4 _ rfl; (with_reducible repeat (first | refine blk_drewN ?_ _ | refine blk_drew ?_ | refine blk_alloc ?_ _)); refine blk_put (cs := #[.int .i64 t420, .int .i64 t421, .slice Ao131 t422.length co131, .slice none 0 0, .slice none 0 0]) ?_ 3 _ rfl; (with_reducible repeat (first | refine blk_drewN ?_ _ | refine blk_drew ?_ | refine blk_alloc ?_ _)); refine blk_put (cs := #[.int .i64 t420, .int .i64 t421, .slice none 0 0, .slice none 0 0, .slice none 0 0]) ?_ 2 _ rfl; (with_reducible repeat (first | refine blk_drewN ?_ _ | refine blk_drew ?_ | refine blk_alloc ?_ _)); refine blk_put (cs := #[.int .i64 t420, .int .i64 0, .slice none 0 0, .slice none 0 0, .slice none 0 0]) ?_ 1 _ rfl; (with_reducible repeat (first | refine blk_drewN ?_ _ | refine blk_drew ?_ | refine blk_alloc ?_ _)); refine blk_put (cs := #[.int .i64 0, .int .i64 0, .slice none 0 0, .slice none 0 0, .slice none 0 0]) ?_ 0 _ rfl; (with_reducible repeat (first | refine blk_drewN ?_ _ | refine blk_drew ?_ | refine blk_alloc ?_ _)); exact BK432.out) hb); replace HB := Aside0.mk (below_step (be5 HB GE335 GE360 GE372 GE385 GE432) hb); (try clear hb)))
        go_meet
        case rel => exact ⟨_, (true), rs, H', ⟨by have := HJ13.out; have := HJ70.out; first | omega | exact Nat.le_refl _⟩, ⟨by (try simp only [hl373002_70, hl373003_70, hl373004_70]); (with_reducible repeat (first | apply Kd.R_alloc | apply Kd.R_drewN | apply Kd.R_drew)); exact rm HO_361002⟩, ⟨by (try simp only [hl373002_70, hl373003_70, hl373004_70]); (with_reducible repeat (first | apply Kd.R_alloc | apply Kd.R_drewN | apply Kd.R_drew)); exact rm HO_361003⟩, ⟨by (try simp only [hl373002_70, hl373003_70, hl373004_70]); (with_reducible repeat (first | apply Kd.R_alloc | apply Kd.R_drewN | apply Kd.R_drew)); exact rm HO_361004⟩, ⟨by (try simp only [hl373002_70, hl373003_70, hl373004_70]); (with_reducible repeat (first | apply Kd.R_alloc | apply Kd.R_drewN | apply Kd.R_drew)); exact rm HO_373002⟩, ⟨by (try simp only [hl373002_70, hl373003_70, hl373004_70]); (with_reducible repeat (first | apply Kd.R_alloc | apply Kd.R_drewN | apply Kd.R_drew)); exact rm HO_373003⟩, ⟨by (try simp only [hl373002_70, hl373003_70, hl373004_70]); (with_reducible repeat (first | apply Kd.R_alloc | apply Kd.R_drewN | apply Kd.R_drew)); exact rm HO_373004⟩, ⟨by (try simp only [hl373002_70, hl373003_70, hl373004_70]); (with_reducible repeat (first | apply Kd.R_alloc | apply Kd.R_drewN | apply Kd.R_drew)); exact rm HO_386002⟩, ⟨by (try simp only [hl373002_70, hl373003_70, hl373004_70]); (with_reducible repeat (first | apply Kd.R_alloc | apply Kd.R_drewN | apply Kd.R_drew)); exact rm HO_386003⟩, ⟨by (try simp only [hl373002_70, hl373003_70, hl373004_70]); (with_reducible repeat (first | apply Kd.R_alloc | apply Kd.R_drewN | apply Kd.R_drew)); exact rm HO_386004⟩, ⟨by (try simp only [hl373002_70, hl373003_70, hl373004_70]); (with_reducible repeat (first | apply Kd.R_alloc | apply Kd.R_drewN | apply Kd.R_drew)); exact rm HO424⟩, ⟨by (try simp only [hl373002_70, hl373003_70, hl373004_70]); (with_reducible repeat (first | apply Kd.R_alloc | apply Kd.R_drewN | apply Kd.R_drew)); exact rm HO427⟩, ⟨by (try simp only [hl373002_70, hl373003_70, hl373004_70]); (with_reducible repeat (first | apply Kd.R_alloc | apply Kd.R_drewN | apply Kd.R_drew)); exact rm HO430⟩, ⟨by (try simp only [hl373002_70, hl373003_70, hl373004_70]); (with_reducible repeat (first | refine blk_drewN ?_ _ | refine blk_drew ?_ | refine blk_alloc ?_ _)); exact BK335.out⟩, ⟨by (try simp only [hl373002_70, hl373003_70, hl373004_70]); (with_reducible repeat (first | refine blk_drewN ?_ _ | refine blk_drew ?_ | refine blk_alloc ?_ _)); exact BK360.out⟩, ⟨by (try simp only [hl373002_70, hl373003_70, hl373004_70]); (with_reducible repeat (first | refine blk_drewN ?_ _ | refine blk_drew ?_ | refine blk_alloc ?_ _)); exact BK372.out⟩, ⟨by (try simp only [hl373002_70, hl373003_70, hl373004_70]); (with_reducible repeat (first | refine blk_drewN ?_ _ | refine blk_drew ?_ | refine blk_alloc ?_ _)); exact BK385.out⟩, ⟨by (try simp only [hl373002_70, hl373003_70, hl373004_70]); (with_reducible repeat (first | refine blk_drewN ?_ _ | refine blk_drew ?_ | refine blk_alloc ?_ _)); exact BK432.out⟩, ⟨be5 HB GE335 GE360 GE372 GE385 GE432⟩⟩
       case rest =>
        clear HC109
        try clear c1; try clear c2; try clear p2; try clear c3; try clear c3b0; try clear c3b1; try clear c4; try clear c5; try clear c6; try clear c6b0; try clear c7; try clear c8; try clear c9; try clear c10; try clear c11; try clear c12; try clear c13; try clear c14; try clear c15; try clear c16; try clear c18; try clear c20; try clear c23; try clear c24; try clear c25; try clear c33; try clear c34; try clear c41; try clear c42; try clear c43; try clear c49; try clear c50; try clear c51; try clear c52; try clear c54; try clear c55; try clear c58; try clear c59; try clear c60; try clear c62; try clear c63; try clear c66; try clear c69; try clear c78; try clear c79; try clear c80; try clear c83; try clear c83b0; try clear c85; try clear c86; try clear c87; try clear c88; try clear c90; try clear c91; try clear c94; try clear c95; try clear c96; try clear c98; try clear c99; try clear c102; try clear c105; try clear c105b0; try clear c106; try clear c106b0; try clear c106b1; try clear c110; try clear c111; try clear c112; try clear c117; try clear c118; try clear c126; try clear c127; try clear c128; try clear c129; try clear c135; try clear c136; try clear c137; try clear c138; try clear c139; try clear c141; try clear c142; try clear c143; try clear c146; try clear c147; try clear c148; try clear c149; try clear c151; try clear c152; try clear c153; try clear hcz100_0; try clear hcz113_0; try clear hcz115_0; try clear hcz119_0; try clear hcz130_0; try clear hcz140_0; try clear hcz144_0; try clear hcz150_0; try clear hcz154_0; try clear hcz16_0; try clear hcz18_0; try clear hcz26_0; try clear hcz30_0; try clear hcz35_0; try clear hcz44_0; try clear hcz53_0; try clear hcz56_0; try clear hcz61_0; try clear hcz64_0; try clear hcz81_0; try clear hcz89_0; try clear hcz8_0; try clear hcz92_0; try clear hcz97_0; try clear p2
        obtain ⟨kq, x95_108, rfl, HA, HJ108, HO_361002, HO_361003, HO_361004, HO_373002, HO_373003, HO_373004, HO_386002, HO_386003, HO_386004, HO_433002, HO_433003, HO_433004, BK335, BK360, BK372, BK385, BK432, HB⟩ := hcut
        have hl386002_108 := (Kd.R_reads' HO_386002.out).1
        rw [hl386002_108] at HO_386002
        (try simp only [hl386002_108])
        (try simp only [hl386002_108] at BK335)
        (try simp only [hl386002_108] at BK360)
        (try simp only [hl386002_108] at BK372)
        (try simp only [hl386002_108] at BK385)
        (try simp only [hl386002_108] at BK432)
        (try simp only [hl386002_108] at HO_361002)
        (try simp only [hl386002_108] at HO_361003)
        (try simp only [hl386002_108] at HO_361004)
        (try simp only [hl386002_108] at HO_373002)
        (try simp only [hl386002_108] at HO_373003)
        (try simp only [hl386002_108] at HO_373004)
        (try simp only [hl386002_108] at HO_386003)
        (try simp only [hl386002_108] at HO_386004)
        (try simp only [hl386002_108] at HO_433002)
        (try simp only [hl386002_108] at HO_433003)
        (try simp only [hl386002_108] at HO_433004)
        have hl386003_108 := (Kd.R_reads' HO_386003.out).1
        rw [hl386003_108] at HO_386003
        (try simp only [hl386003_108])
        (try simp only [hl386003_108] at BK335)
        (try simp only [hl386003_108] at BK360)
        (try simp only [hl386003_108] at BK372)
        (try simp only [hl386003_108] at BK385)
        (try simp only [hl386003_108] at BK432)
        (try simp only [hl386003_108] at HO_361002)
        (try simp only [hl386003_108] at HO_361003)
        (try simp only [hl386003_108] at HO_361004)
        (try simp only [hl386003_108] at HO_373002)
        (try simp only [hl386003_108] at HO_373003)
        (try simp only [hl386003_108] at HO_373004)
        (try simp only [hl386003_108] at HO_386002)
        (try simp only [hl386003_108] at HO_386004)
        (try simp only [hl386003_108] at HO_433002)
        (try simp only [hl386003_108] at HO_433003)
        (try simp only [hl386003_108] at HO_433004)
        have hl386004_108 := (Kd.R_reads' HO_386004.out).1
        rw [hl386004_108] at HO_386004
        (try simp only [hl386004_108])
        (try simp only [hl386004_108] at BK335)
        (try simp only [hl386004_108] at BK360)
        (try simp only [hl386004_108] at BK372)
        (try simp only [hl386004_108] at BK385)
        (try simp only [hl386004_108] at BK432)
        (try simp only [hl386004_108] at HO_361002)
        (try simp only [hl386004_108] at HO_361003)
        (try simp only [hl386004_108] at HO_361004)
        (try simp only [hl386004_108] at HO_373002)
        (try simp only [hl386004_108] at HO_373003)
        (try simp only [hl386004_108] at HO_373004)
        (try simp only [hl386004_108] at HO_386002)
        (try simp only [hl386004_108] at HO_386003)
        (try simp only [hl386004_108] at HO_433002)
        (try simp only [hl386004_108] at HO_433003)
        (try simp only [hl386004_108] at HO_433004)
        cases kq with
        | zero => exact absurd HA.out (by simp [laws_FnExactDrop.j2])
        | succ kj108 =>
         have H := HA.out
         clear HA
         simp only [laws_FnExactDrop.j2] at H
         by_cases c156 : x95_108 = true
         ·subst c156
          rw [if_pos rfl] at H
          exact absurd ((Option.some.inj H).trans hrt_.out) (by decide)
         replace c156 := Bool.eq_false_iff.mpr c156
         subst c156
         rw [if_neg (show ¬ (false = true) by decide)] at H
         replace H := Option.bind_eq_some_iff.mp H
         obtain ⟨t434, A1570, H⟩ := H
         try dsimp only at H
         have A157 := Aside0.mk A1570
         clear A1570
         by_cases c158 : t434 < 0
         ·rw [if_pos c158] at H
          have c158b0 : decide (t434 < 0) = true := decide_eq_true c158
          clear c158
          exact absurd ((Option.some.inj H).trans hrt_.out) (by decide)
         rw [if_neg c158] at H
         have c158b0 : decide (t434 < 0) = false := decide_eq_false c158
         clear c158
         by_cases c159 : t434 = t404
         ·rw [if_pos c159] at H
          have c159b0 : (t434 == t404) = true := beq_iff_eq.mpr c159
          have c159b1 : (t434 != t404) = false := bne_eq_false_iff_eq.mpr c159
          clear c159
          obtain rfl := Option.some.inj H
          have hnb160 := NB385_335.out
          have hnc160 := NB335_385.out
          have hnb161 := NB385_360.out
          have hnc161 := NB360_385.out
          have hnb162 := NB385_372.out
          have hnc162 := NB372_385.out
          have hnb163 := NB385_432.out
          have hnc163 := NB432_385.out
          have hcz164_0 := bz5 BK385
          go_wp2_with (first | ((with_reducible refine gate_callee (f := 24) rfl ?_); refine gl 98 Try.func24 #[.agg #[.int .i64 t373, .int .i64 t374, .slice Ao45 t405.length co45, .slice Ao46 t406.length co46, .slice Ao47 t407.length co47], .int .i64 1] ?_; (with_reducible refine (laws_heldThree.calls kj108 t373 t374 _ _ t405 _ _ t406 _ _ t407 1 t434 _ (cr HO_386002) ((Kd.R_reads' HO_386002.out).2.1) (cr HO_386003) ((Kd.R_reads' HO_386003.out).2.1) (cr HO_386004) ((Kd.R_reads' HO_386004.out).2.1) A157.out).mono ?_); rintro e w165 ⟨rfl, hb⟩; refine ⟨_, rfl, ?_⟩; replace HO_361002 := rb HO_361002 hb; replace HO_361003 := rb HO_361003 hb; replace HO_361004 := rb HO_361004 hb; replace HO_373002 := rb HO_373002 hb; replace HO_373003 := rb HO_373003 hb; replace HO_373004 := rb HO_373004 hb; replace HO_386002 := rb HO_386002 hb; replace HO_386003 := rb HO_386003 hb; replace HO_386004 := rb HO_386004 hb; replace HO_433002 := rb HO_433002 hb; replace HO_433003 := rb HO_433003 hb; replace HO_433004 := rb HO_433004 hb; replace BK335 := bb BK335 hb; replace BK360 := bb BK360 hb; replace BK372 := bb BK372 hb; replace BK385 := bb BK385 hb; replace BK432 := bb BK432 hb; replace HB := Aside0.mk (below_step (be5 HB GE335 GE360 GE372 GE385 GE432) hb); (try clear hb)))
          go_ret
          exact ⟨er, be5 HB GE335 GE360 GE372 GE385 GE432⟩
         rw [if_neg c159] at H
         have c159b0 : (t434 == t404) = false := beq_eq_false_iff_ne.mpr c159
         have c159b1 : (t434 != t404) = true := bne_iff_ne.mpr c159
         exact absurd ((Option.some.inj H).trans hrt_.out) (by decide)
      rw [if_neg c106] at H
      have c106b0 : (t408 == t404) = false := beq_eq_false_iff_ne.mpr c106
      have c106b1 : (t408 != t404) = true := bne_iff_ne.mpr c106
      exact absurd ((Option.some.inj H).trans hrt_.out) (by decide)
   replace c69 := Bool.eq_false_iff.mpr c69
   subst c69
   rw [if_neg (show ¬ (false = true) by decide)] at H
   exact absurd ((Option.some.inj H).trans hrt_.out) (by decide)

end Go.Proofs.Ytfjhkediaholmaa.QFnExactDrop
