-- made by a program of this session (myprint.py)
import Derived.Test.YtfjhkediaholmaaQFnExactEvictSmallx0
import Derived.Test.YtfjhkediaholmaaQFnExactEvictSmallx1
import Derived.Test.YtfjhkediaholmaaQFnExactEvictSmallx2
import Derived.Test.YtfjhkediaholmaaQFnExactEvictSmallx3
import Derived.Test.YtfjhkediaholmaaQFnExactEvictSmallx5
import Derived.Test.YtfjhkediaholmaaQFnExactEvictSmallx9
import Derived.Test.YtfjhkediaholmaaQFnExactEvictSmallx14
namespace Go.Proofs.Ytfjhkediaholmaa.QFnExactEvictSmall
open Go.RowKit Go.Proofs.YtfjhkediaholmaaW.PrintWords Go.Proofs.YtfjhkediaholmaaW.PrintLast Go.Proofs.YtfjhkediaholmaaW.PrintMore
attribute [local go_sem] max2_int min2_int max_two min_two max_three min_three max_four min_four   -- for this text's walks alone
set_option linter.unusedVariables false
set_option linter.unusedSimpArgs false

/-! ### laws_FnExactEvictSmall: function 10 -/
mutual
def laws_FnExactEvictSmall.j0 : Nat → ByteArray → Bool → ByteArray → Bool → Bool → Int → Int → List (S125) → List (S125) → List Int → Int → Int → List (S68) → List (S68) → List Int → Int → Int → List (S68) → List (S68) → List Int → Int → Int → List (S68) → List (S68) → List Int → Option (Bool)
 | 0, _, _, _, _, _, _, _, _, _, _, _, _, _, _, _, _, _, _, _, _, _, _, _, _, _ => none
 | k + 1, x5, x6, x9, x10, x50, x429000, x429001, x429002, x429003, x429004, x455000, x455001, x455002, x455003, x455004, x467000, x467001, x467002, x467003, x467004, x481000, x481001, x481002, x481003, x481004 => if x50 = true then (some false) else ((laws_toThree.f k x429000 x429001 x429002 x429003 x429004).bind fun bt482 => ((laws_eqThree.f k x467000 x467001 x467002 x467003 x467004 bt482.1 bt482.2.1 bt482.2.2.1 bt482.2.2.2.1 bt482.2.2.2.2).bind fun t493 => (if t493 = true then ((laws_markThree.f k x467000 x467001 x467002 x467003 x467004 1).bind fun bt494 => (if bt494.1 < 0 then (laws_FnExactEvictSmall.j1 k x5 x6 true x429000 x429001 x429002 x429003 x429004 x455000 x455001 x455002 x455003 x455004 x481000 x481001 x481002 x481003 x481004) else ((laws_eqThree.f k x481000 x481001 x481002 x481003 x481004 x455000 x455001 x455002 x455003 x455004).bind fun t498 => (if t498 = true then (if x9.toList = x5.toList then (laws_FnExactEvictSmall.j1 k x5 x6 (x10 != x6) x429000 x429001 x429002 x429003 x429004 x455000 x455001 x455002 x455003 x455004 x481000 x481001 x481002 x481003 x481004) else (laws_FnExactEvictSmall.j1 k x5 x6 true x429000 x429001 x429002 x429003 x429004 x455000 x455001 x455002 x455003 x455004 x481000 x481001 x481002 x481003 x481004)) else (laws_FnExactEvictSmall.j1 k x5 x6 true x429000 x429001 x429002 x429003 x429004 x455000 x455001 x455002 x455003 x455004 x481000 x481001 x481002 x481003 x481004))))) else (some false))))
def laws_FnExactEvictSmall.j1 : Nat → ByteArray → Bool → Bool → Int → Int → List (S125) → List (S125) → List Int → Int → Int → List (S68) → List (S68) → List Int → Int → Int → List (S68) → List (S68) → List Int → Option (Bool)
 | 0, _, _, _, _, _, _, _, _, _, _, _, _, _, _, _, _, _, _ => none
 | k + 1, x5, x6, x76, x429000, x429001, x429002, x429003, x429004, x455000, x455001, x455002, x455003, x455004, x481000, x481001, x481002, x481003, x481004 => if x76 = true then (some false) else ((laws_markThree.f k x481000 x481001 x481002 x481003 x481004 1).bind fun bt499 => ((laws_heldThree.f k x481000 x481001 bt499.2.1 bt499.2.2.1 bt499.2.2.2 1).bind fun t503 => (if t503 < 0 then (some false) else (if t503 = bt499.1 then ((laws_toThree.f k x429000 x429001 x429002 x429003 x429004).bind fun bt504 => ((impl_EvictSmall.f k bt504.1 bt504.2.1 bt504.2.2.1 bt504.2.2.2.1 bt504.2.2.2.2).bind fun bt515 => ((laws_eqThree.f k bt515.1 bt515.2.1 bt515.2.2.1 bt515.2.2.2.1 bt515.2.2.2.2.1 x455000 x455001 x455002 x455003 x455004).bind fun t529 => (if t529 = true then (if bt515.2.2.2.2.2.1.toList = x5.toList then (laws_FnExactEvictSmall.j2 k bt499.1 (bt515.2.2.2.2.2.2 != x6) x481000 x481001 bt499.2.1 bt499.2.2.1 bt499.2.2.2) else (laws_FnExactEvictSmall.j2 k bt499.1 true x481000 x481001 bt499.2.1 bt499.2.2.1 bt499.2.2.2)) else (laws_FnExactEvictSmall.j2 k bt499.1 true x481000 x481001 bt499.2.1 bt499.2.2.1 bt499.2.2.2))))) else (some false)))))
def laws_FnExactEvictSmall.j2 : Nat → Int → Bool → Int → Int → List (S68) → List (S68) → List Int → Option (Bool)
 | 0, _, _, _, _, _, _, _ => none
 | k + 1, x12, x108, x481000, x481001, x481002, x481003, x481004 => if x108 = true then (some false) else ((laws_heldThree.f k x481000 x481001 x481002 x481003 x481004 1).bind fun t530 => (if t530 < 0 then (some false) else (if t530 = x12 then (some true) else (some false))))
end
def laws_FnExactEvictSmall.f (k : Nat) (a0_0 : Int) (a0_1 : Int) (l0_2 : List (S125)) (l0_3 : List (S125)) (l0_4 : List Int) : Option (Bool) := (laws_szThree.f k a0_0 a0_1 l0_2 l0_3 l0_4 1048576).bind fun t429 => (if t429 < 0 then (some true) else ((laws_toThree.f k a0_0 a0_1 l0_2 l0_3 l0_4).bind fun bt430 => ((spec_EvictSmall.f k bt430.1 bt430.2.1 bt430.2.2.1 bt430.2.2.2.1 bt430.2.2.2.2).bind fun bt441 => ((laws_toThree.f k a0_0 a0_1 l0_2 l0_3 l0_4).bind fun bt455 => ((impl_EvictSmall.f k bt455.1 bt455.2.1 bt455.2.2.1 bt455.2.2.2.1 bt455.2.2.2.2).bind fun bt467 => ((laws_eqThree.f k bt467.1 bt467.2.1 bt467.2.2.1 bt467.2.2.2.1 bt467.2.2.2.2.1 bt441.1 bt441.2.1 bt441.2.2.1 bt441.2.2.2.1 bt441.2.2.2.2.1).bind fun t481 => (if t481 = true then (if bt467.2.2.2.2.2.1.toList = bt441.2.2.2.2.2.1.toList then (laws_FnExactEvictSmall.j0 k bt441.2.2.2.2.2.1 bt441.2.2.2.2.2.2 bt467.2.2.2.2.2.1 bt467.2.2.2.2.2.2 (bt467.2.2.2.2.2.2 != bt441.2.2.2.2.2.2) a0_0 a0_1 l0_2 l0_3 l0_4 bt441.1 bt441.2.1 bt441.2.2.1 bt441.2.2.2.1 bt441.2.2.2.2.1 bt455.1 bt455.2.1 bt455.2.2.1 bt455.2.2.2.1 bt455.2.2.2.2 bt467.1 bt467.2.1 bt467.2.2.1 bt467.2.2.2.1 bt467.2.2.2.2.1) else (laws_FnExactEvictSmall.j0 k bt441.2.2.2.2.2.1 bt441.2.2.2.2.2.2 bt467.2.2.2.2.2.1 bt467.2.2.2.2.2.2 true a0_0 a0_1 l0_2 l0_3 l0_4 bt441.1 bt441.2.1 bt441.2.2.1 bt441.2.2.2.1 bt441.2.2.2.2.1 bt455.1 bt455.2.1 bt455.2.2.1 bt455.2.2.2.1 bt455.2.2.2.2 bt467.1 bt467.2.1 bt467.2.2.1 bt467.2.2.2.1 bt467.2.2.2.2.1)) else (laws_FnExactEvictSmall.j0 k bt441.2.2.2.2.2.1 bt441.2.2.2.2.2.2 bt467.2.2.2.2.2.1 bt467.2.2.2.2.2.2 true a0_0 a0_1 l0_2 l0_3 l0_4 bt441.1 bt441.2.1 bt441.2.2.1 bt441.2.2.2.1 bt441.2.2.2.2.1 bt455.1 bt455.2.1 bt455.2.2.1 bt455.2.2.2.1 bt455.2.2.2.2 bt467.1 bt467.2.1 bt467.2.2.1 bt467.2.2.2.1 bt467.2.2.2.2.1))))))))
theorem laws_FnExactEvictSmall.mono_l : ∀ k, (∀ y0 y1 y2 y3 y4 y5 y6 y7 y8 y9 y10 y11 y12 y13 y14 y15 y16 y17 y18 y19 y20 y21 y22 y23 y24, LeO (laws_FnExactEvictSmall.j0 k y0 y1 y2 y3 y4 y5 y6 y7 y8 y9 y10 y11 y12 y13 y14 y15 y16 y17 y18 y19 y20 y21 y22 y23 y24) (laws_FnExactEvictSmall.j0 (k + 1) y0 y1 y2 y3 y4 y5 y6 y7 y8 y9 y10 y11 y12 y13 y14 y15 y16 y17 y18 y19 y20 y21 y22 y23 y24)) ∧ (∀ y0 y1 y2 y3 y4 y5 y6 y7 y8 y9 y10 y11 y12 y13 y14 y15 y16 y17, LeO (laws_FnExactEvictSmall.j1 k y0 y1 y2 y3 y4 y5 y6 y7 y8 y9 y10 y11 y12 y13 y14 y15 y16 y17) (laws_FnExactEvictSmall.j1 (k + 1) y0 y1 y2 y3 y4 y5 y6 y7 y8 y9 y10 y11 y12 y13 y14 y15 y16 y17)) ∧ (∀ y0 y1 y2 y3 y4 y5 y6, LeO (laws_FnExactEvictSmall.j2 k y0 y1 y2 y3 y4 y5 y6) (laws_FnExactEvictSmall.j2 (k + 1) y0 y1 y2 y3 y4 y5 y6))
 | 0 => ⟨fun _ _ _ _ _ _ _ _ _ _ _ _ _ _ _ _ _ _ _ _ _ _ _ _ _ r h => by simp [laws_FnExactEvictSmall.j0] at h, fun _ _ _ _ _ _ _ _ _ _ _ _ _ _ _ _ _ _ r h => by simp [laws_FnExactEvictSmall.j1] at h, fun _ _ _ _ _ _ _ r h => by simp [laws_FnExactEvictSmall.j2] at h⟩
 | k + 1 => by
  obtain ⟨ih0, ih1, ih2⟩ := laws_FnExactEvictSmall.mono_l k
  refine ⟨?_, ?_, ?_⟩
  ·intro y0 y1 y2 y3 y4 y5 y6 y7 y8 y9 y10 y11 y12 y13 y14 y15 y16 y17 y18 y19 y20 y21 y22 y23 y24
   unfold laws_FnExactEvictSmall.j0
   repeat' first
   | (with_reducible exact ih0 _ _ _ _ _ _ _ _ _ _ _ _ _ _ _ _ _ _ _ _ _ _ _ _ _)
   | (with_reducible exact ih1 _ _ _ _ _ _ _ _ _ _ _ _ _ _ _ _ _ _)
   | (with_reducible exact ih2 _ _ _ _ _ _ _)
   | (with_reducible exact impl_EvictSmall.mono _ _ _ _ _ _)
   | (with_reducible exact laws_eqThree.mono _ _ _ _ _ _ _ _ _ _ _)
   | (with_reducible exact laws_heldThree.mono _ _ _ _ _ _ _)
   | (with_reducible exact laws_markThree.mono _ _ _ _ _ _ _)
   | (with_reducible exact laws_szThree.mono _ _ _ _ _ _ _)
   | (with_reducible exact laws_toThree.mono _ _ _ _ _ _)
   | (with_reducible exact spec_EvictSmall.mono _ _ _ _ _ _)
   | (with_reducible exact LeO.refl _)
   | (with_reducible exact LeO.none _)
   | (with_reducible refine LeO.ite ?_ ?_)
   | (with_reducible refine LeO.bind ?_ (fun _ => ?_))
   | exact ih0 _ _ _ _ _ _ _ _ _ _ _ _ _ _ _ _ _ _ _ _ _ _ _ _ _
   | exact ih1 _ _ _ _ _ _ _ _ _ _ _ _ _ _ _ _ _ _
   | exact ih2 _ _ _ _ _ _ _
   | exact impl_EvictSmall.mono _ _ _ _ _ _
   | exact laws_eqThree.mono _ _ _ _ _ _ _ _ _ _ _
   | exact laws_heldThree.mono _ _ _ _ _ _ _
   | exact laws_markThree.mono _ _ _ _ _ _ _
   | exact laws_szThree.mono _ _ _ _ _ _ _
   | exact laws_toThree.mono _ _ _ _ _ _
   | exact spec_EvictSmall.mono _ _ _ _ _ _
   | exact LeO.none _
   | refine LeO.ite ?_ ?_
   | refine LeO.bind ?_ (fun _ => ?_)
  ·intro y0 y1 y2 y3 y4 y5 y6 y7 y8 y9 y10 y11 y12 y13 y14 y15 y16 y17
   unfold laws_FnExactEvictSmall.j1
   repeat' first
   | (with_reducible exact ih0 _ _ _ _ _ _ _ _ _ _ _ _ _ _ _ _ _ _ _ _ _ _ _ _ _)
   | (with_reducible exact ih1 _ _ _ _ _ _ _ _ _ _ _ _ _ _ _ _ _ _)
   | (with_reducible exact ih2 _ _ _ _ _ _ _)
   | (with_reducible exact impl_EvictSmall.mono _ _ _ _ _ _)
   | (with_reducible exact laws_eqThree.mono _ _ _ _ _ _ _ _ _ _ _)
   | (with_reducible exact laws_heldThree.mono _ _ _ _ _ _ _)
   | (with_reducible exact laws_markThree.mono _ _ _ _ _ _ _)
   | (with_reducible exact laws_szThree.mono _ _ _ _ _ _ _)
   | (with_reducible exact laws_toThree.mono _ _ _ _ _ _)
   | (with_reducible exact spec_EvictSmall.mono _ _ _ _ _ _)
   | (with_reducible exact LeO.refl _)
   | (with_reducible exact LeO.none _)
   | (with_reducible refine LeO.ite ?_ ?_)
   | (with_reducible refine LeO.bind ?_ (fun _ => ?_))
   | exact ih0 _ _ _ _ _ _ _ _ _ _ _ _ _ _ _ _ _ _ _ _ _ _ _ _ _
   | exact ih1 _ _ _ _ _ _ _ _ _ _ _ _ _ _ _ _ _ _
   | exact ih2 _ _ _ _ _ _ _
   | exact impl_EvictSmall.mono _ _ _ _ _ _
   | exact laws_eqThree.mono _ _ _ _ _ _ _ _ _ _ _
   | exact laws_heldThree.mono _ _ _ _ _ _ _
   | exact laws_markThree.mono _ _ _ _ _ _ _
   | exact laws_szThree.mono _ _ _ _ _ _ _
   | exact laws_toThree.mono _ _ _ _ _ _
   | exact spec_EvictSmall.mono _ _ _ _ _ _
   | exact LeO.none _
   | refine LeO.ite ?_ ?_
   | refine LeO.bind ?_ (fun _ => ?_)
  intro y0 y1 y2 y3 y4 y5 y6
  unfold laws_FnExactEvictSmall.j2
  repeat' first
  | (with_reducible exact ih0 _ _ _ _ _ _ _ _ _ _ _ _ _ _ _ _ _ _ _ _ _ _ _ _ _)
  | (with_reducible exact ih1 _ _ _ _ _ _ _ _ _ _ _ _ _ _ _ _ _ _)
  | (with_reducible exact ih2 _ _ _ _ _ _ _)
  | (with_reducible exact impl_EvictSmall.mono _ _ _ _ _ _)
  | (with_reducible exact laws_eqThree.mono _ _ _ _ _ _ _ _ _ _ _)
  | (with_reducible exact laws_heldThree.mono _ _ _ _ _ _ _)
  | (with_reducible exact laws_markThree.mono _ _ _ _ _ _ _)
  | (with_reducible exact laws_szThree.mono _ _ _ _ _ _ _)
  | (with_reducible exact laws_toThree.mono _ _ _ _ _ _)
  | (with_reducible exact spec_EvictSmall.mono _ _ _ _ _ _)
  | (with_reducible exact LeO.refl _)
  | (with_reducible exact LeO.none _)
  | (with_reducible refine LeO.ite ?_ ?_)
  | (with_reducible refine LeO.bind ?_ (fun _ => ?_))
  | exact ih0 _ _ _ _ _ _ _ _ _ _ _ _ _ _ _ _ _ _ _ _ _ _ _ _ _
  | exact ih1 _ _ _ _ _ _ _ _ _ _ _ _ _ _ _ _ _ _
  | exact ih2 _ _ _ _ _ _ _
  | exact impl_EvictSmall.mono _ _ _ _ _ _
  | exact laws_eqThree.mono _ _ _ _ _ _ _ _ _ _ _
  | exact laws_heldThree.mono _ _ _ _ _ _ _
  | exact laws_markThree.mono _ _ _ _ _ _ _
  | exact laws_szThree.mono _ _ _ _ _ _ _
  | exact laws_toThree.mono _ _ _ _ _ _
  | exact spec_EvictSmall.mono _ _ _ _ _ _
  | exact LeO.none _
  | refine LeO.ite ?_ ?_
  | refine LeO.bind ?_ (fun _ => ?_)
theorem laws_FnExactEvictSmall.mono : ∀ a0 a1 a2 a3 a4 k, LeO (laws_FnExactEvictSmall.f k a0 a1 a2 a3 a4) (laws_FnExactEvictSmall.f (k + 1) a0 a1 a2 a3 a4) := by
 intro a0 a1 a2 a3 a4 k
 obtain ⟨ih0, ih1, ih2⟩ := laws_FnExactEvictSmall.mono_l k
 unfold laws_FnExactEvictSmall.f
 repeat' first
   | (with_reducible exact ih0 _ _ _ _ _ _ _ _ _ _ _ _ _ _ _ _ _ _ _ _ _ _ _ _ _)
   | (with_reducible exact ih1 _ _ _ _ _ _ _ _ _ _ _ _ _ _ _ _ _ _)
   | (with_reducible exact ih2 _ _ _ _ _ _ _)
   | (with_reducible exact impl_EvictSmall.mono _ _ _ _ _ _)
   | (with_reducible exact laws_eqThree.mono _ _ _ _ _ _ _ _ _ _ _)
   | (with_reducible exact laws_heldThree.mono _ _ _ _ _ _ _)
   | (with_reducible exact laws_markThree.mono _ _ _ _ _ _ _)
   | (with_reducible exact laws_szThree.mono _ _ _ _ _ _ _)
   | (with_reducible exact laws_toThree.mono _ _ _ _ _ _)
   | (with_reducible exact spec_EvictSmall.mono _ _ _ _ _ _)
   | (with_reducible exact LeO.refl _)
   | (with_reducible exact LeO.none _)
   | (with_reducible refine LeO.ite ?_ ?_)
   | (with_reducible refine LeO.bind ?_ (fun _ => ?_))
   | exact ih0 _ _ _ _ _ _ _ _ _ _ _ _ _ _ _ _ _ _ _ _ _ _ _ _ _
   | exact ih1 _ _ _ _ _ _ _ _ _ _ _ _ _ _ _ _ _ _
   | exact ih2 _ _ _ _ _ _ _
   | exact impl_EvictSmall.mono _ _ _ _ _ _
   | exact laws_eqThree.mono _ _ _ _ _ _ _ _ _ _ _
   | exact laws_heldThree.mono _ _ _ _ _ _ _
   | exact laws_markThree.mono _ _ _ _ _ _ _
   | exact laws_szThree.mono _ _ _ _ _ _ _
   | exact laws_toThree.mono _ _ _ _ _ _
   | exact spec_EvictSmall.mono _ _ _ _ _ _
   | exact LeO.none _
   | refine LeO.ite ?_ ?_
   | refine LeO.bind ?_ (fun _ => ?_)
set_option maxHeartbeats 8000000 in
set_option maxRecDepth 100000 in
theorem laws_FnExactEvictSmall.calls (k : Nat) (a0_0 : Int) (a0_1 : Int) (A0_2 : Option Addr) (c0_2 : Nat) (l0_2 : List (S125)) (A0_3 : Option Addr) (c0_3 : Nat) (l0_3 : List (S125)) (A0_4 : Option Addr) (c0_4 : Nat) (l0_4 : List Int) (r : Bool) (w : World) (hr0_2 : Kd.C k125 w A0_2 l0_2.length l0_2) (hc0_2 : l0_2.length ≤ c0_2) (hr0_3 : Kd.C k125 w A0_3 l0_3.length l0_3) (hc0_3 : l0_3.length ≤ c0_3) (hr0_4 : Kd.C (Kd.int .i64) w A0_4 l0_4.length l0_4) (hc0_4 : l0_4.length ≤ c0_4) (h : laws_FnExactEvictSmall.f k a0_0 a0_1 l0_2 l0_3 l0_4 = some r) (hrt_ : Aside0 (r = true)) :
  Calls Try.prog 10 #[.agg #[.int .i64 a0_0, .int .i64 a0_1, .slice A0_2 l0_2.length c0_2, .slice A0_3 l0_3.length c0_3, .slice A0_4 l0_4.length c0_4]] w fun e w' => e = .returned (.bool r) ∧ Below w.heap.size w w' := by
 have hu25 := Try.underlying25
 have hu30 := Try.underlying30
 have HR0_2 := Aside0.mk hr0_2
 have HC0_2 := Aside0.mk hc0_2
 clear hr0_2 hc0_2
 have HR0_3 := Aside0.mk hr0_3
 have HC0_3 := Aside0.mk hc0_3
 clear hr0_3 hc0_3
 have HR0_4 := Aside0.mk hr0_4
 have HC0_4 := Aside0.mk hc0_4
 clear hr0_4 hc0_4
 have HB := Aside0.mk (Below.refl w.heap.size w)
 have H : ((laws_szThree.f k a0_0 a0_1 l0_2 l0_3 l0_4 1048576).bind fun t429 => (if t429 < 0 then (some true) else ((laws_toThree.f k a0_0 a0_1 l0_2 l0_3 l0_4).bind fun bt430 => ((spec_EvictSmall.f k bt430.1 bt430.2.1 bt430.2.2.1 bt430.2.2.2.1 bt430.2.2.2.2).bind fun bt441 => ((laws_toThree.f k a0_0 a0_1 l0_2 l0_3 l0_4).bind fun bt455 => ((impl_EvictSmall.f k bt455.1 bt455.2.1 bt455.2.2.1 bt455.2.2.2.1 bt455.2.2.2.2).bind fun bt467 => ((laws_eqThree.f k bt467.1 bt467.2.1 bt467.2.2.1 bt467.2.2.2.1 bt467.2.2.2.2.1 bt441.1 bt441.2.1 bt441.2.2.1 bt441.2.2.2.1 bt441.2.2.2.2.1).bind fun t481 => (if t481 = true then (if bt467.2.2.2.2.2.1.toList = bt441.2.2.2.2.2.1.toList then (laws_FnExactEvictSmall.j0 k bt441.2.2.2.2.2.1 bt441.2.2.2.2.2.2 bt467.2.2.2.2.2.1 bt467.2.2.2.2.2.2 (bt467.2.2.2.2.2.2 != bt441.2.2.2.2.2.2) a0_0 a0_1 l0_2 l0_3 l0_4 bt441.1 bt441.2.1 bt441.2.2.1 bt441.2.2.2.1 bt441.2.2.2.2.1 bt455.1 bt455.2.1 bt455.2.2.1 bt455.2.2.2.1 bt455.2.2.2.2 bt467.1 bt467.2.1 bt467.2.2.1 bt467.2.2.2.1 bt467.2.2.2.2.1) else (laws_FnExactEvictSmall.j0 k bt441.2.2.2.2.2.1 bt441.2.2.2.2.2.2 bt467.2.2.2.2.2.1 bt467.2.2.2.2.2.2 true a0_0 a0_1 l0_2 l0_3 l0_4 bt441.1 bt441.2.1 bt441.2.2.1 bt441.2.2.2.1 bt441.2.2.2.2.1 bt455.1 bt455.2.1 bt455.2.2.1 bt455.2.2.2.1 bt455.2.2.2.2 bt467.1 bt467.2.1 bt467.2.2.1 bt467.2.2.2.1 bt467.2.2.2.2.1)) else (laws_FnExactEvictSmall.j0 k bt441.2.2.2.2.2.1 bt441.2.2.2.2.2.2 bt467.2.2.2.2.2.1 bt467.2.2.2.2.2.2 true a0_0 a0_1 l0_2 l0_3 l0_4 bt441.1 bt441.2.1 bt441.2.2.1 bt441.2.2.2.1 bt441.2.2.2.2.1 bt455.1 bt455.2.1 bt455.2.2.1 bt455.2.2.2.1 bt455.2.2.2.2 bt467.1 bt467.2.1 bt467.2.2.1 bt467.2.2.2.1 bt467.2.2.2.2.1))))))))) = some r := h
 clear h
 replace H := Option.bind_eq_some_iff.mp H
 obtain ⟨t429, A20, H⟩ := H
 try dsimp only at H
 have A2 := Aside0.mk A20
 clear A20
 by_cases c3 : t429 < 0
 ·rw [if_pos c3] at H
  have c3b0 : decide (t429 < 0) = true := decide_eq_true c3
  clear c3
  obtain rfl := Option.some.inj H
  go_enter Try.func10, Try.ntmps10
  go_wp2_with (first | ((with_reducible refine gate_dst (N := 1) rfl ?_); refine bx 1 #[.int .i64 a0_0, .int .i64 a0_1, .slice A0_2 l0_2.length c0_2, .slice A0_3 l0_3.length c0_3, .slice A0_4 l0_4.length c0_4] 25 ?_; intro gb428 hg w4 hbox hb; have BK428 := am hbox; have GW428 := gs0 hg HB; have GE428 := gs0 hg HB; replace HB := s0 HB hb; clear hb hbox hg; have hcz5_0 := bz5 BK428) | ((with_reducible refine gate_callee (f := 16) rfl ?_); refine gl 19 Try.func16 #[.agg #[.int .i64 a0_0, .int .i64 a0_1, .slice A0_2 l0_2.length c0_2, .slice A0_3 l0_3.length c0_3, .slice A0_4 l0_4.length c0_4], .int .i64 1048576] ?_; (with_reducible refine (laws_szThree.calls k a0_0 a0_1 _ _ l0_2 _ _ l0_3 _ _ l0_4 1048576 t429 _ (cb HR0_2 HB) HC0_2.out (cb HR0_3 HB) HC0_3.out (cb HR0_4 HB) HC0_4.out A2.out).mono ?_); rintro e w6 ⟨rfl, hb⟩; refine ⟨_, rfl, ?_⟩; replace BK428 := bb BK428 hb; replace HB := Aside0.mk (below_step (be1 HB GE428) hb); (try clear hb)))
  go_ret
  exact ⟨er, be1 HB GE428⟩
 rw [if_neg c3] at H
 have c3b0 : decide (t429 < 0) = false := decide_eq_false c3
 clear c3
 replace H := Option.bind_eq_some_iff.mp H
 obtain ⟨⟨t430, t431, t432, t435, t438⟩, A70, H⟩ := H
 try dsimp only at H
 have A7 := Aside0.mk A70
 clear A70
 replace H := Option.bind_eq_some_iff.mp H
 obtain ⟨⟨t441, t442, t443, t446, t449, t452, t453⟩, A80, H⟩ := H
 try dsimp only at H
 have A8 := Aside0.mk A80
 clear A80
 replace H := Option.bind_eq_some_iff.mp H
 obtain ⟨⟨t455, t456, t457, t460, t463⟩, A90, H⟩ := H
 try dsimp only at H
 have A9 := Aside0.mk A90
 clear A90
 replace H := Option.bind_eq_some_iff.mp H
 obtain ⟨⟨t467, t468, t469, t472, t475, t478, t479⟩, A100, H⟩ := H
 try dsimp only at H
 have A10 := Aside0.mk A100
 clear A100
 have HC11 := Aside0.mk H
 clear H
 go_enter Try.func10, Try.ntmps10
 go_upto_region 8 with (first | ((with_reducible refine gate_dst (N := 1) rfl ?_); refine bx 1 #[.int .i64 a0_0, .int .i64 a0_1, .slice A0_2 l0_2.length c0_2, .slice A0_3 l0_3.length c0_3, .slice A0_4 l0_4.length c0_4] 25 ?_; intro gb428 hg w12 hbox hb; have BK428 := am hbox; have GW428 := gs0 hg HB; have GE428 := gs0 hg HB; replace HB := s0 HB hb; clear hb hbox hg; have hcz13_0 := bz5 BK428) | ((with_reducible refine gate_callee (f := 16) rfl ?_); refine gl 19 Try.func16 #[.agg #[.int .i64 a0_0, .int .i64 a0_1, .slice A0_2 l0_2.length c0_2, .slice A0_3 l0_3.length c0_3, .slice A0_4 l0_4.length c0_4], .int .i64 1048576] ?_; (with_reducible refine (laws_szThree.calls k a0_0 a0_1 _ _ l0_2 _ _ l0_3 _ _ l0_4 1048576 t429 _ (cb HR0_2 HB) HC0_2.out (cb HR0_3 HB) HC0_3.out (cb HR0_4 HB) HC0_4.out A2.out).mono ?_); rintro e w14 ⟨rfl, hb⟩; refine ⟨_, rfl, ?_⟩; replace BK428 := bb BK428 hb; replace HB := Aside0.mk (below_step (be1 HB GE428) hb); (try clear hb); have hcz15_0 := bz5 BK428) | ((with_reducible refine gate_callee (f := 18) rfl ?_); refine gl 24 Try.func18 #[.agg #[.int .i64 a0_0, .int .i64 a0_1, .slice A0_2 l0_2.length c0_2, .slice A0_3 l0_3.length c0_3, .slice A0_4 l0_4.length c0_4]] ?_; (with_reducible refine (laws_toThree.calls k a0_0 a0_1 _ _ l0_2 _ _ l0_3 _ _ l0_4 t430 t431 t432 t435 t438 _ (cb HR0_2 HB) HC0_2.out (cb HR0_3 HB) HC0_3.out (cb HR0_4 HB) HC0_4.out A7.out).mono ?_); rintro e w16 ⟨v433, v436, v439, rfl, ho0, ho1, ho2, hb⟩; refine ⟨_, rfl, ?_⟩; have HO434 := Aside0.mk (Kd.R_lower ho0 (below_size (be1 HB GE428))); have HO437 := Aside0.mk (Kd.R_lower ho1 (below_size (be1 HB GE428))); have HO440 := Aside0.mk (Kd.R_lower ho2 (below_size (be1 HB GE428))); replace BK428 := bb BK428 hb; replace HB := Aside0.mk (below_step (be1 HB GE428) hb); (try clear hb); (try clear ho0); (try clear ho1); (try clear ho2); obtain ⟨Ao17, co17, eo17⟩ := Kd.R_slice HO434.out; subst eo17; obtain ⟨Ao18, co18, eo18⟩ := Kd.R_slice HO437.out; subst eo18; obtain ⟨Ao19, co19, eo19⟩ := Kd.R_slice HO440.out; subst eo19) | ((with_reducible refine gate_callee (f := 37) rfl ?_); refine gl 25 Try.func37 #[.agg #[.int .i64 t430, .int .i64 t431, .slice Ao17 t432.length co17, .slice Ao18 t435.length co18, .slice Ao19 t438.length co19]] ?_; (with_reducible refine (spec_EvictSmall.calls k t430 t431 _ _ t432 _ _ t435 _ _ t438 t441 t442 t443 t446 t449 t452 t453 _ (cr HO434) ((Kd.R_reads' HO434.out).2.1) (cr HO437) ((Kd.R_reads' HO437.out).2.1) (cr HO440) ((Kd.R_reads' HO440.out).2.1) A8.out).mono ?_); rintro e w20 ⟨v444, v447, v450, rfl, ho0, ho1, ho2, hb⟩; refine ⟨_, rfl, ?_⟩; have HO445 := Aside0.mk (Kd.R_lower (nw (nw ho0 HO434) HO437) (below_size (be1 HB GE428))); have HO448 := Aside0.mk (Kd.R_lower (nw (nw ho1 HO434) HO437) (below_size (be1 HB GE428))); replace HO434 := td2 (ro HO434) hb ho0 ho1; replace HO437 := td2 (ro HO437) hb ho0 ho1; have HO451 := Aside0.mk (Kd.Q_lower (Kd.Q_new' ho2 (Kd.R_lt (ro HO440))) (below_size (be1 HB GE428))); replace HO440 := Aside0.mk (Kd.R_elder' (ro HO440) (Kd.Q_base ho2) hb); replace BK428 := bb BK428 hb; replace HB := Aside0.mk (below_step (be1 HB GE428) hb); (try clear hb); (try clear ho0); (try clear ho1); (try clear ho2)) | ((with_reducible refine gate_dst (N := 4) rfl ?_); refine bx 4 #[.int .i64 0, .int .i64 0, .slice none 0 0, .slice none 0 0, .slice none 0 0] 30 ?_; intro gb454 hg w21 hbox hb; replace HO434 := rb HO434 hb; replace HO437 := rb HO437 hb; replace HO440 := rb HO440 hb; replace HO445 := rb HO445 hb; replace HO448 := rb HO448 hb; replace HO451 := Aside0.mk (Kd.Q_below (by (with_reducible repeat (first | apply Kd.Q_alloc | apply Kd.Q_drewN | apply Kd.Q_drew)); exact HO451.out) hb); have BK454 := am hbox; have GW454 := gs1 hg HB GE428; have GE454 := gs1 hg HB GE428; replace HB := Aside0.mk (below_step (be1 HB GE428) hb); have NB428_454 := Aside0.mk ((by rw [hg]; exact Nat.ne_of_lt (bl BK428) : gb428 ≠ gb454)); have NB454_428 := Aside0.mk ((by rw [hg]; exact Nat.ne_of_gt (bl BK428) : gb454 ≠ gb428)); replace BK428 := bb BK428 hb; clear hb hbox hg; have hnb22 := NB454_428.out; have hnc22 := NB428_454.out; have hcz23_0 := bz5 BK454; obtain ⟨Ao24, co24, eo24⟩ := Kd.R_slice HO445.out; subst eo24; obtain ⟨Ao25, co25, eo25⟩ := Kd.R_slice HO448.out; subst eo25; obtain ⟨Ao26, co26, eo26, _⟩ := Kd.Q_slice HO451.out; subst eo26; have hcz27_0 := bz5 BK428) | ((with_reducible refine gate_callee (f := 18) rfl ?_); refine gl 30 Try.func18 #[.agg #[.int .i64 a0_0, .int .i64 a0_1, .slice A0_2 l0_2.length c0_2, .slice A0_3 l0_3.length c0_3, .slice A0_4 l0_4.length c0_4]] ?_; (with_reducible refine (laws_toThree.calls k a0_0 a0_1 _ _ l0_2 _ _ l0_3 _ _ l0_4 t455 t456 t457 t460 t463 _ ?side1 HC0_2.out ?side3 HC0_3.out ?side5 HC0_4.out A9.out).mono ?_); (case side1 => exact Kd.C_below HR0_2.out (be2 HB GE428 GE454)); (case side3 => exact Kd.C_below HR0_3.out (be2 HB GE428 GE454)); (case side5 => exact Kd.C_below HR0_4.out (be2 HB GE428 GE454)); rintro e w28 ⟨v458, v461, v464, rfl, ho0, ho1, ho2, hb⟩; refine ⟨_, rfl, ?_⟩; have HO459 := Aside0.mk (Kd.R_lower (Kd.R_new' (Kd.R_new' (Kd.R_new' (Kd.R_new' ho0 (Kd.R_lt (rf HO434 BK454))) (Kd.R_lt (rf HO437 BK454))) (Kd.R_lt (rf HO445 BK454))) (Kd.R_lt (rf HO448 BK454))) (below_size (be2 HB GE428 GE454))); have HO462 := Aside0.mk (Kd.R_lower (Kd.R_new' (Kd.R_new' (Kd.R_new' (Kd.R_new' ho1 (Kd.R_lt (rf HO434 BK454))) (Kd.R_lt (rf HO437 BK454))) (Kd.R_lt (rf HO445 BK454))) (Kd.R_lt (rf HO448 BK454))) (below_size (be2 HB GE428 GE454))); replace HO434 := td2 (rf HO434 BK454) hb ho0 ho1; replace HO437 := td2 (rf HO437 BK454) hb ho0 ho1; replace HO445 := td2 (rf HO445 BK454) hb ho0 ho1; replace HO448 := td2 (rf HO448 BK454) hb ho0 ho1; have HO465 := Aside0.mk (Kd.R_lower (Kd.R_new' (Kd.R_new' ho2 (Kd.R_lt (rf HO440 BK454))) (Kd.Q_lt (by (with_reducible repeat (first | apply Kd.Q_alloc | apply Kd.Q_drewN | apply Kd.Q_drew)); exact (Kd.Q_mono (Kd.Q_far (p := ⟨gb454, 4, none⟩) (Kd.Q_far (p := ⟨gb454, 3, none⟩) (Kd.Q_far (p := ⟨gb454, 2, none⟩) (Kd.Q_far (p := ⟨gb454, 1, none⟩) (Kd.Q_far (p := ⟨gb454, 0, none⟩) (Kd.Q_types HO451.out BK454.out (by decide)) (fun _ hk => hk.2) (.int .i64 t441)) (fun _ hk => hk.2) (.int .i64 t442)) (fun _ hk => hk.2) (.slice Ao24 t443.length co24)) (fun _ hk => hk.2) (.slice Ao25 t446.length co25)) (fun _ hk => hk.2) (.slice Ao26 t449.length co26)) (fun _ h_ => h_.1))))) (below_size (be2 HB GE428 GE454))); replace HO440 := Aside0.mk (Kd.R_elder' (rf HO440 BK454) (Kd.R_base ho2) hb); replace HO451 := Aside0.mk (Kd.Q_elder' (by (with_reducible repeat (first | apply Kd.Q_alloc | apply Kd.Q_drewN | apply Kd.Q_drew)); exact (Kd.Q_mono (Kd.Q_far (p := ⟨gb454, 4, none⟩) (Kd.Q_far (p := ⟨gb454, 3, none⟩) (Kd.Q_far (p := ⟨gb454, 2, none⟩) (Kd.Q_far (p := ⟨gb454, 1, none⟩) (Kd.Q_far (p := ⟨gb454, 0, none⟩) (Kd.Q_types HO451.out BK454.out (by decide)) (fun _ hk => hk.2) (.int .i64 t441)) (fun _ hk => hk.2) (.int .i64 t442)) (fun _ hk => hk.2) (.slice Ao24 t443.length co24)) (fun _ hk => hk.2) (.slice Ao25 t446.length co25)) (fun _ hk => hk.2) (.slice Ao26 t449.length co26)) (fun _ h_ => h_.1))) (Kd.R_base ho2) hb); replace BK428 := Aside0.mk (blk_below (g := gb428) (o := .cells #[.int .i64 a0_0, .int .i64 a0_1, .slice A0_2 l0_2.length c0_2, .slice A0_3 l0_3.length c0_3, .slice A0_4 l0_4.length c0_4] 25 (0, 0)) (bf1 BK428 NB428_454) hb); replace BK454 := Aside0.mk (blk_below (g := gb454) (o := .cells #[.int .i64 t441, .int .i64 t442, .slice Ao24 t443.length co24, .slice Ao25 t446.length co25, .slice Ao26 t449.length co26] 30 (0, 0)) (by (with_reducible repeat (first | refine blk_drewN ?_ _ | refine blk_drew ?_ | refine blk_alloc ?_ _)); refine blk_put (cs := #[.int .i64 t441, .int .i64 t442, .slice Ao24 t443.length co24, .slice Ao25 t446.length co25, .slice none 0 0]) ?_ 4 _ rfl; (with_reducible repeat (first | refine blk_drewN ?_ _ | refine blk_drew ?_ | refine blk_alloc ?_ _)); refine blk_put (cs := #[.int .i64 t441, .int .i64 t442, .slice Ao24 t443.length co24, .slice none 0 0, .slice none 0 0]) ?_ 3 _ rfl; (with_reducible repeat (first | refine blk_drewN ?_ _ | refine blk_drew ?_ | refine blk_alloc ?_ _)); refine blk_put (cs := #[.int .i64 t441, .int .i64 t442, .slice none 0 0, .slice none 0 0, .slice none 0 0]) ?_ 2 _ rfl; (with_reducible repeat (first | refine blk_drewN ?_ _ | refine blk_drew ?_ | refine blk_alloc ?_ _)); refine blk_put (cs := #[.int .i64 t441, .int .i64 0, .slice none 0 0, .slice none 0 0, .slice none 0 0]) ?_ 1 _ rfl; (with_reducible repeat (first | refine blk_drewN ?_ _ | refine blk_drew ?_ | refine blk_alloc ?_ _)); refine blk_put (cs := #[.int .i64 0, .int .i64 0, .slice none 0 0, .slice none 0 0, .slice none 0 0]) ?_ 0 _ rfl; (with_reducible repeat (first | refine blk_drewN ?_ _ | refine blk_drew ?_ | refine blk_alloc ?_ _)); exact BK454.out) hb); replace HB := Aside0.mk (below_step (be2 HB GE428 GE454) hb); (try clear hb); (try clear ho0); (try clear ho1); (try clear ho2)) | ((with_reducible refine gate_dst (N := 7) rfl ?_); refine bx 7 #[.int .i64 0, .int .i64 0, .slice none 0 0, .slice none 0 0, .slice none 0 0] 30 ?_; intro gb466 hg w29 hbox hb; replace HO434 := rb HO434 hb; replace HO437 := rb HO437 hb; replace HO440 := rb HO440 hb; replace HO445 := rb HO445 hb; replace HO448 := rb HO448 hb; replace HO451 := Aside0.mk (Kd.Q_below (by (with_reducible repeat (first | apply Kd.Q_alloc | apply Kd.Q_drewN | apply Kd.Q_drew)); exact HO451.out) hb); replace HO459 := rb HO459 hb; replace HO462 := rb HO462 hb; replace HO465 := rb HO465 hb; have BK466 := am hbox; have GW466 := gs2 hg HB GE428 GE454; have GE466 := gs2 hg HB GE428 GE454; replace HB := Aside0.mk (below_step (be2 HB GE428 GE454) hb); have NB428_466 := Aside0.mk ((by rw [hg]; exact Nat.ne_of_lt (bl BK428) : gb428 ≠ gb466)); have NB466_428 := Aside0.mk ((by rw [hg]; exact Nat.ne_of_gt (bl BK428) : gb466 ≠ gb428)); replace BK428 := bb BK428 hb; have NB454_466 := Aside0.mk ((by rw [hg]; exact Nat.ne_of_lt (bl BK454) : gb454 ≠ gb466)); have NB466_454 := Aside0.mk ((by rw [hg]; exact Nat.ne_of_gt (bl BK454) : gb466 ≠ gb454)); replace BK454 := bb BK454 hb; clear hb hbox hg; have hnb30 := NB466_428.out; have hnc30 := NB428_466.out; have hnb31 := NB466_454.out; have hnc31 := NB454_466.out; have hcz32_0 := bz5 BK466; obtain ⟨Ao33, co33, eo33⟩ := Kd.R_slice HO459.out; subst eo33; obtain ⟨Ao34, co34, eo34⟩ := Kd.R_slice HO462.out; subst eo34; obtain ⟨Ao35, co35, eo35⟩ := Kd.R_slice HO465.out; subst eo35) | ((with_reducible refine gate_callee (f := 38) rfl ?_); refine gl 33 Try.func38 #[.agg #[.int .i64 t455, .int .i64 t456, .slice Ao33 t457.length co33, .slice Ao34 t460.length co34, .slice Ao35 t463.length co35]] ?_; (with_reducible refine (impl_EvictSmall.calls k t455 t456 _ _ t457 _ _ t460 _ _ t463 t467 t468 t469 t472 t475 t478 t479 _ ?side1 ((Kd.R_reads' HO459.out).2.1) ?side3 ((Kd.R_reads' HO462.out).2.1) ?side5 ((Kd.R_reads' HO465.out).2.1) A10.out).mono ?_); (case side1 => exact rfr _ HO459 BK466); (case side3 => exact rfr _ HO462 BK466); (case side5 => exact rfr _ HO465 BK466); rintro e w36 ⟨v470, v473, v476, rfl, ho0, ho1, ho2, hb⟩; refine ⟨_, rfl, ?_⟩; have HO471 := Aside0.mk (Kd.R_lower (Kd.R_new' (Kd.R_new' (Kd.R_new' (Kd.R_new' (Kd.R_new' (Kd.R_new' ho0 (Kd.R_lt (rf HO434 BK466))) (Kd.R_lt (rf HO437 BK466))) (Kd.R_lt (rf HO445 BK466))) (Kd.R_lt (rf HO448 BK466))) (Kd.R_lt (rf HO459 BK466))) (Kd.R_lt (rf HO462 BK466))) (below_size (be3 HB GE428 GE454 GE466))); have HO474 := Aside0.mk (Kd.R_lower (Kd.R_new' (Kd.R_new' (Kd.R_new' (Kd.R_new' (Kd.R_new' (Kd.R_new' ho1 (Kd.R_lt (rf HO434 BK466))) (Kd.R_lt (rf HO437 BK466))) (Kd.R_lt (rf HO445 BK466))) (Kd.R_lt (rf HO448 BK466))) (Kd.R_lt (rf HO459 BK466))) (Kd.R_lt (rf HO462 BK466))) (below_size (be3 HB GE428 GE454 GE466))); replace HO434 := td2 (rf HO434 BK466) hb ho0 ho1; replace HO437 := td2 (rf HO437 BK466) hb ho0 ho1; replace HO445 := td2 (rf HO445 BK466) hb ho0 ho1; replace HO448 := td2 (rf HO448 BK466) hb ho0 ho1; replace HO459 := td2 (rf HO459 BK466) hb ho0 ho1; replace HO462 := td2 (rf HO462 BK466) hb ho0 ho1; have HO477 := Aside0.mk (Kd.R_lower (Kd.R_new' (Kd.R_new' (Kd.R_new' ho2 (Kd.R_lt (rf HO440 BK466))) (Kd.Q_lt (by (with_reducible repeat (first | apply Kd.Q_alloc | apply Kd.Q_drewN | apply Kd.Q_drew)); exact (Kd.Q_mono (Kd.Q_far (p := ⟨gb466, 4, none⟩) (Kd.Q_far (p := ⟨gb466, 3, none⟩) (Kd.Q_far (p := ⟨gb466, 2, none⟩) (Kd.Q_far (p := ⟨gb466, 1, none⟩) (Kd.Q_far (p := ⟨gb466, 0, none⟩) (Kd.Q_types HO451.out BK466.out (by decide)) (fun _ hk => hk.2) (.int .i64 t455)) (fun _ hk => hk.2) (.int .i64 t456)) (fun _ hk => hk.2) (.slice Ao33 t457.length co33)) (fun _ hk => hk.2) (.slice Ao34 t460.length co34)) (fun _ hk => hk.2) (.slice Ao35 t463.length co35)) (fun _ h_ => h_.1))))) (Kd.R_lt (rf HO465 BK466))) (below_size (be3 HB GE428 GE454 GE466))); replace HO440 := Aside0.mk (Kd.R_elder' (rf HO440 BK466) (Kd.R_base ho2) hb); replace HO451 := Aside0.mk (Kd.Q_elder' (by (with_reducible repeat (first | apply Kd.Q_alloc | apply Kd.Q_drewN | apply Kd.Q_drew)); exact (Kd.Q_mono (Kd.Q_far (p := ⟨gb466, 4, none⟩) (Kd.Q_far (p := ⟨gb466, 3, none⟩) (Kd.Q_far (p := ⟨gb466, 2, none⟩) (Kd.Q_far (p := ⟨gb466, 1, none⟩) (Kd.Q_far (p := ⟨gb466, 0, none⟩) (Kd.Q_types HO451.out BK466.out (by decide)) (fun _ hk => hk.2) (.int .i64 t455)) (fun _ hk => hk.2) (.int .i64 t456)) (fun _ hk => hk.2) (.slice Ao33 t457.length co33)) (fun _ hk => hk.2) (.slice Ao34 t460.length co34)) (fun _ hk => hk.2) (.slice Ao35 t463.length co35)) (fun _ h_ => h_.1))) (Kd.R_base ho2) hb); replace HO465 := Aside0.mk (Kd.R_elder' (rf HO465 BK466) (Kd.R_base ho2) hb); replace BK428 := Aside0.mk (blk_below (g := gb428) (o := .cells #[.int .i64 a0_0, .int .i64 a0_1, .slice A0_2 l0_2.length c0_2, .slice A0_3 l0_3.length c0_3, .slice A0_4 l0_4.length c0_4] 25 (0, 0)) (bf1 BK428 NB428_466) hb); replace BK454 := Aside0.mk (blk_below (g := gb454) (o := .cells #[.int .i64 t441, .int .i64 t442, .slice Ao24 t443.length co24, .slice Ao25 t446.length co25, .slice Ao26 t449.length co26] 30 (0, 0)) (bf1 BK454 NB454_466) hb); replace BK466 := Aside0.mk (blk_below (g := gb466) (o := .cells #[.int .i64 t455, .int .i64 t456, .slice Ao33 t457.length co33, .slice Ao34 t460.length co34, .slice Ao35 t463.length co35] 30 (0, 0)) (by (with_reducible repeat (first | refine blk_drewN ?_ _ | refine blk_drew ?_ | refine blk_alloc ?_ _)); refine blk_put (cs := #[.int .i64 t455, .int .i64 t456, .slice Ao33 t457.length co33, .slice Ao34 t460.length co34, .slice none 0 0]) ?_ 4 _ rfl; (with_reducible repeat (first | refine blk_drewN ?_ _ | refine blk_drew ?_ | refine blk_alloc ?_ _)); refine blk_put (cs := #[.int .i64 t455, .int .i64 t456, .slice Ao33 t457.length co33, .slice none 0 0, .slice none 0 0]) ?_ 3 _ rfl; (with_reducible repeat (first | refine blk_drewN ?_ _ | refine blk_drew ?_ | refine blk_alloc ?_ _)); refine blk_put (cs := #[.int .i64 t455, .int .i64 t456, .slice none 0 0, .slice none 0 0, .slice none 0 0]) ?_ 2 _ rfl; (with_reducible repeat (first | refine blk_drewN ?_ _ | refine blk_drew ?_ | refine blk_alloc ?_ _)); refine blk_put (cs := #[.int .i64 t455, .int .i64 0, .slice none 0 0, .slice none 0 0, .slice none 0 0]) ?_ 1 _ rfl; (with_reducible repeat (first | refine blk_drewN ?_ _ | refine blk_drew ?_ | refine blk_alloc ?_ _)); refine blk_put (cs := #[.int .i64 0, .int .i64 0, .slice none 0 0, .slice none 0 0, .slice none 0 0]) ?_ 0 _ rfl; (with_reducible repeat (first | refine blk_drewN ?_ _ | refine blk_drew ?_ | refine blk_alloc ?_ _)); exact BK466.out) hb); replace HB := Aside0.mk (below_step (be3 HB GE428 GE454 GE466) hb); (try clear hb); (try clear ho0); (try clear ho1); (try clear ho2)) | ((with_reducible refine gate_dst (N := 8) rfl ?_); refine bx 8 #[.int .i64 0, .int .i64 0, .slice none 0 0, .slice none 0 0, .slice none 0 0] 30 ?_; intro gb480 hg w37 hbox hb; replace HO434 := rb HO434 hb; replace HO437 := rb HO437 hb; replace HO440 := rb HO440 hb; replace HO445 := rb HO445 hb; replace HO448 := rb HO448 hb; replace HO451 := Aside0.mk (Kd.Q_below (by (with_reducible repeat (first | apply Kd.Q_alloc | apply Kd.Q_drewN | apply Kd.Q_drew)); exact HO451.out) hb); replace HO459 := rb HO459 hb; replace HO462 := rb HO462 hb; replace HO465 := rb HO465 hb; replace HO471 := rb HO471 hb; replace HO474 := rb HO474 hb; replace HO477 := rb HO477 hb; have BK480 := am hbox; have GW480 := Aside0.mk ((by rw [hg]; exact (below_size (be3 HB GE428 GE454 GE466)) : w.heap.size ≤ gb480)); have GE480 := Aside0.mk ((by rw [hg]; exact (below_size (be3 HB GE428 GE454 GE466)) : w.heap.size ≤ gb480)); replace HB := Aside0.mk (below_step (be3 HB GE428 GE454 GE466) hb); have NB428_480 := Aside0.mk ((by rw [hg]; exact Nat.ne_of_lt (bl BK428) : gb428 ≠ gb480)); have NB480_428 := Aside0.mk ((by rw [hg]; exact Nat.ne_of_gt (bl BK428) : gb480 ≠ gb428)); replace BK428 := bb BK428 hb; have NB454_480 := Aside0.mk ((by rw [hg]; exact Nat.ne_of_lt (bl BK454) : gb454 ≠ gb480)); have NB480_454 := Aside0.mk ((by rw [hg]; exact Nat.ne_of_gt (bl BK454) : gb480 ≠ gb454)); replace BK454 := bb BK454 hb; have NB466_480 := Aside0.mk ((by rw [hg]; exact Nat.ne_of_lt (bl BK466) : gb466 ≠ gb480)); have NB480_466 := Aside0.mk ((by rw [hg]; exact Nat.ne_of_gt (bl BK466) : gb480 ≠ gb466)); replace BK466 := bb BK466 hb; clear hb hbox hg; have hnb38 := NB480_428.out; have hnc38 := NB428_480.out; have hnb39 := NB480_454.out; have hnc39 := NB454_480.out; have hnb40 := NB480_466.out; have hnc40 := NB466_480.out; have hcz41_0 := bz5 BK480; obtain ⟨Ao42, co42, eo42⟩ := Kd.R_slice HO471.out; subst eo42; obtain ⟨Ao43, co43, eo43⟩ := Kd.R_slice HO474.out; subst eo43; obtain ⟨Ao44, co44, eo44⟩ := Kd.R_slice HO477.out; subst eo44))
 (try simp only [Act.put, List.setIfInBounds_toArray, List.set_cons_zero, List.set_cons_succ])
 go_cut [50] (fun v50 wc => ∃ (kq : Nat) (x50_10 : Bool), v50 = .bool x50_10 ∧ Aside0 (laws_FnExactEvictSmall.j0 kq t452 t453 t478 t479 x50_10 a0_0 a0_1 l0_2 l0_3 l0_4 t441 t442 t443 t446 t449 t455 t456 t457 t460 t463 t467 t468 t469 t472 t475 = some r) ∧ Aside0 (kq ≤ k) ∧ Aside0 (Kd.R k68 68 wc w.heap.size (fun k_ => nb k_ Ao25 t446.length co25 ∧ nb k_ Ao33 t457.length co33 ∧ nb k_ Ao34 t460.length co34 ∧ nb k_ Ao42 t469.length co42 ∧ nb k_ Ao43 t472.length co43) (.slice Ao24 t443.length co24) t443) ∧ Aside0 (Kd.R k68 68 wc w.heap.size (fun k_ => nb k_ Ao24 t443.length co24 ∧ nb k_ Ao33 t457.length co33 ∧ nb k_ Ao34 t460.length co34 ∧ nb k_ Ao42 t469.length co42 ∧ nb k_ Ao43 t472.length co43) (.slice Ao25 t446.length co25) t446) ∧ Aside0 (Kd.Q (Kd.int .i64) 3 wc w.heap.size (fun k_ => nb k_ Ao35 t463.length co35 ∧ nb k_ Ao44 t475.length co44) (.slice Ao26 t449.length co26) t449) ∧ Aside0 (Kd.R k68 68 wc w.heap.size (fun k_ => nb k_ Ao24 t443.length co24 ∧ nb k_ Ao25 t446.length co25 ∧ nb k_ Ao34 t460.length co34 ∧ nb k_ Ao42 t469.length co42 ∧ nb k_ Ao43 t472.length co43) (.slice Ao33 t457.length co33) t457) ∧ Aside0 (Kd.R k68 68 wc w.heap.size (fun k_ => nb k_ Ao24 t443.length co24 ∧ nb k_ Ao25 t446.length co25 ∧ nb k_ Ao33 t457.length co33 ∧ nb k_ Ao42 t469.length co42 ∧ nb k_ Ao43 t472.length co43) (.slice Ao34 t460.length co34) t460) ∧ Aside0 (Kd.Q (Kd.int .i64) 3 wc w.heap.size (fun k_ => nb k_ Ao26 t449.length co26 ∧ nb k_ Ao44 t475.length co44) (.slice Ao35 t463.length co35) t463) ∧ Aside0 (Kd.R k68 68 wc w.heap.size (fun k_ => nb k_ Ao24 t443.length co24 ∧ nb k_ Ao25 t446.length co25 ∧ nb k_ Ao33 t457.length co33 ∧ nb k_ Ao34 t460.length co34 ∧ nb k_ Ao43 t472.length co43) (.slice Ao42 t469.length co42) t469) ∧ Aside0 (Kd.R k68 68 wc w.heap.size (fun k_ => nb k_ Ao24 t443.length co24 ∧ nb k_ Ao25 t446.length co25 ∧ nb k_ Ao33 t457.length co33 ∧ nb k_ Ao34 t460.length co34 ∧ nb k_ Ao42 t469.length co42) (.slice Ao43 t472.length co43) t472) ∧ Aside0 (Kd.Q (Kd.int .i64) 3 wc w.heap.size (fun k_ => nb k_ Ao26 t449.length co26 ∧ nb k_ Ao35 t463.length co35) (.slice Ao44 t475.length co44) t475) ∧ Aside0 (wc.heap[gb428]? = some (.cells #[.int .i64 a0_0, .int .i64 a0_1, (.slice A0_2 l0_2.length c0_2), (.slice A0_3 l0_3.length c0_3), (.slice A0_4 l0_4.length c0_4)] 25 (0, 0))) ∧ Aside0 (wc.heap[gb454]? = some (.cells #[.int .i64 t441, .int .i64 t442, (.slice Ao24 t443.length co24), (.slice Ao25 t446.length co25), (.slice Ao26 t449.length co26)] 30 (0, 0))) ∧ Aside0 (wc.heap[gb466]? = some (.cells #[.int .i64 t455, .int .i64 t456, (.slice Ao33 t457.length co33), (.slice Ao34 t460.length co34), (.slice Ao35 t463.length co35)] 30 (0, 0))) ∧ Aside0 (wc.heap[gb480]? = some (.cells #[.int .i64 t467, .int .i64 t468, (.slice Ao42 t469.length co42), (.slice Ao43 t472.length co43), (.slice Ao44 t475.length co44)] 30 (0, 0))) ∧ Aside0 (Below w.heap.size w wc))
 case first =>
  have H := HC11.out
  clear HC11
  replace H := Option.bind_eq_some_iff.mp H
  obtain ⟨t481, A450, H⟩ := H
  try dsimp only at H
  have A45 := Aside0.mk A450
  clear A450
  by_cases c46 : t481 = true
  ·subst c46
   rw [if_pos rfl] at H
   by_cases c47 : t478.toList = t452.toList
   ·rw [if_pos c47] at H
    have c47b0 : (t478.toList == t452.toList) = true := beq_iff_eq.mpr c47
    have c47b1 : (t478.toList != t452.toList) = false := bne_eq_false_iff_eq.mpr c47
    clear c47
    (first | rw [c47b0] | (simp only [i64_w, i32_w]; rw [c47b0]) | skip)
    have H' := Aside0.mk H
    clear H
    have hnb48 := NB480_428.out
    have hnc48 := NB428_480.out
    have hnb49 := NB480_454.out
    have hnc49 := NB454_480.out
    have hnb50 := NB480_466.out
    have hnc50 := NB466_480.out
    have hcz51_0 := bz5 BK480
    have hnb52 := NB454_428.out
    have hnc52 := NB428_454.out
    have hnb53 := NB454_466.out
    have hnc53 := NB466_454.out
    have hcz54_0 := bz5 BK454
    go_wp2_with (first | ((with_reducible refine gate_callee (f := 20) rfl ?_); refine gl 39 Try.func20 #[.agg #[.int .i64 t467, .int .i64 t468, .slice Ao42 t469.length co42, .slice Ao43 t472.length co43, .slice Ao44 t475.length co44], .agg #[.int .i64 t441, .int .i64 t442, .slice Ao24 t443.length co24, .slice Ao25 t446.length co25, .slice Ao26 t449.length co26]] ?_; (with_reducible refine (laws_eqThree.calls k t467 t468 _ _ t469 _ _ t472 _ _ t475 t441 t442 _ _ t443 _ _ t446 _ _ t449 true _ ?side1 ((Kd.R_reads' HO471.out).2.1) ?side3 ((Kd.R_reads' HO474.out).2.1) ?side5 ((Kd.R_reads' HO477.out).2.1) ?side7 ((Kd.R_reads' HO445.out).2.1) ?side9 ((Kd.R_reads' HO448.out).2.1) ?side11 ?side12 A45.out).mono ?_); (case side1 => exact rfr _ HO471 BK480); (case side3 => exact rfr _ HO474 BK480); (case side5 => exact rfr _ HO477 BK480); (case side7 => exact rfr _ HO445 BK480); (case side9 => exact rfr _ HO448 BK480); (case side11 => refine (Kd.Q_reads' (e := 3) (base := w.heap.size) (ok := fun k_ => (((True ∧ nb k_ Ao19 t438.length co19) ∧ nb k_ Ao35 t463.length co35) ∧ nb k_ Ao44 t475.length co44)) (n := t449.length) (c := co26) ?_).2.2; exact (by (with_reducible repeat (first | apply Kd.Q_alloc | apply Kd.Q_drewN | apply Kd.Q_drew)); exact (Kd.Q_mono (Kd.Q_far (p := ⟨gb480, 4, none⟩) (Kd.Q_far (p := ⟨gb480, 3, none⟩) (Kd.Q_far (p := ⟨gb480, 2, none⟩) (Kd.Q_far (p := ⟨gb480, 1, none⟩) (Kd.Q_far (p := ⟨gb480, 0, none⟩) (Kd.Q_types HO451.out BK480.out (by decide)) (fun _ hk => hk.2) (.int .i64 t467)) (fun _ hk => hk.2) (.int .i64 t468)) (fun _ hk => hk.2) (.slice Ao42 t469.length co42)) (fun _ hk => hk.2) (.slice Ao43 t472.length co43)) (fun _ hk => hk.2) (.slice Ao44 t475.length co44)) (fun _ h_ => h_.1)))); (case side12 => exact (Kd.Q_reads' HO451.out).2.1); rintro e w55 ⟨rfl, hb⟩; refine ⟨_, rfl, ?_⟩; replace HO434 := Aside0.mk (Kd.R_below (rf HO434 BK480) hb); replace HO437 := Aside0.mk (Kd.R_below (rf HO437 BK480) hb); replace HO440 := Aside0.mk (Kd.R_below (rf HO440 BK480) hb); replace HO445 := Aside0.mk (Kd.R_below (rf HO445 BK480) hb); replace HO448 := Aside0.mk (Kd.R_below (rf HO448 BK480) hb); replace HO451 := Aside0.mk (Kd.Q_below (by (with_reducible repeat (first | apply Kd.Q_alloc | apply Kd.Q_drewN | apply Kd.Q_drew)); exact (Kd.Q_mono (Kd.Q_far (p := ⟨gb480, 4, none⟩) (Kd.Q_far (p := ⟨gb480, 3, none⟩) (Kd.Q_far (p := ⟨gb480, 2, none⟩) (Kd.Q_far (p := ⟨gb480, 1, none⟩) (Kd.Q_far (p := ⟨gb480, 0, none⟩) (Kd.Q_types HO451.out BK480.out (by decide)) (fun _ hk => hk.2) (.int .i64 t467)) (fun _ hk => hk.2) (.int .i64 t468)) (fun _ hk => hk.2) (.slice Ao42 t469.length co42)) (fun _ hk => hk.2) (.slice Ao43 t472.length co43)) (fun _ hk => hk.2) (.slice Ao44 t475.length co44)) (fun _ h_ => h_.1))) hb); replace HO459 := Aside0.mk (Kd.R_below (rf HO459 BK480) hb); replace HO462 := Aside0.mk (Kd.R_below (rf HO462 BK480) hb); replace HO465 := Aside0.mk (Kd.R_below (rf HO465 BK480) hb); replace HO471 := Aside0.mk (Kd.R_below (rf HO471 BK480) hb); replace HO474 := Aside0.mk (Kd.R_below (rf HO474 BK480) hb); replace HO477 := Aside0.mk (Kd.R_below (rf HO477 BK480) hb); replace BK428 := Aside0.mk (blk_below (g := gb428) (o := .cells #[.int .i64 a0_0, .int .i64 a0_1, .slice A0_2 l0_2.length c0_2, .slice A0_3 l0_3.length c0_3, .slice A0_4 l0_4.length c0_4] 25 (0, 0)) (bf1 BK428 NB428_480) hb); replace BK454 := Aside0.mk (blk_below (g := gb454) (o := .cells #[.int .i64 t441, .int .i64 t442, .slice Ao24 t443.length co24, .slice Ao25 t446.length co25, .slice Ao26 t449.length co26] 30 (0, 0)) (bf1 BK454 NB454_480) hb); replace BK466 := Aside0.mk (blk_below (g := gb466) (o := .cells #[.int .i64 t455, .int .i64 t456, .slice Ao33 t457.length co33, .slice Ao34 t460.length co34, .slice Ao35 t463.length co35] 30 (0, 0)) (bf1 BK466 NB466_480) hb); replace BK480 := Aside0.mk (blk_below (g := gb480) (o := .cells #[.int .i64 t467, .int .i64 t468, .slice Ao42 t469.length co42, .slice Ao43 t472.length co43, .slice Ao44 t475.length co44] 30 (0, 0)) (by (with_reducible repeat (first | refine blk_drewN ?_ _ | refine blk_drew ?_ | refine blk_alloc ?_ _)); refine blk_put (cs := #[.int .i64 t467, .int .i64 t468, .slice Ao42 t469.length co42, .slice Ao43 t472.length co43, .slice none 0 0]) ?_ 4 _ rfl; (with_reducible repeat (first | refine blk_drewN ?_ _ | refine blk_drew ?_ | refine blk_alloc ?_ _)); refine blk_put (cs := #[.int .i64 t467, .int .i64 t468, .slice Ao42 t469.length co42, .slice none 0 0, .slice none 0 0]) ?_ 3 _ rfl; (with_reducible repeat (first | refine blk_drewN ?_ _ | refine blk_drew ?_ | refine blk_alloc ?_ _)); refine blk_put (cs := #[.int .i64 t467, .int .i64 t468, .slice none 0 0, .slice none 0 0, .slice none 0 0]) ?_ 2 _ rfl; (with_reducible repeat (first | refine blk_drewN ?_ _ | refine blk_drew ?_ | refine blk_alloc ?_ _)); refine blk_put (cs := #[.int .i64 t467, .int .i64 0, .slice none 0 0, .slice none 0 0, .slice none 0 0]) ?_ 1 _ rfl; (with_reducible repeat (first | refine blk_drewN ?_ _ | refine blk_drew ?_ | refine blk_alloc ?_ _)); refine blk_put (cs := #[.int .i64 0, .int .i64 0, .slice none 0 0, .slice none 0 0, .slice none 0 0]) ?_ 0 _ rfl; (with_reducible repeat (first | refine blk_drewN ?_ _ | refine blk_drew ?_ | refine blk_alloc ?_ _)); exact BK480.out) hb); replace HB := Aside0.mk (below_step (be4 HB GE428 GE454 GE466 GE480) hb); (try clear hb)))
    go_meet
    case rel => exact ⟨_, ((t479 != t453)), rs, H', ⟨by first | omega | exact Nat.le_refl _⟩, ⟨rom HO445⟩, ⟨rom HO448⟩, ⟨by (with_reducible repeat (first | apply Kd.Q_alloc | apply Kd.Q_drewN | apply Kd.Q_drew)); exact Kd.Q_mono HO451.out (fun _ hk => ⟨hk.1.2, hk.2⟩)⟩, ⟨rom HO459⟩, ⟨rom HO462⟩, ⟨Kd.Q_of_R (by (with_reducible repeat (first | apply Kd.R_alloc | apply Kd.R_drewN | apply Kd.R_drew)); exact rm HO465)⟩, ⟨rom HO471⟩, ⟨rom HO474⟩, ⟨Kd.Q_of_R (by (with_reducible repeat (first | apply Kd.R_alloc | apply Kd.R_drewN | apply Kd.R_drew)); exact rm HO477)⟩, ⟨bk BK428⟩, ⟨bk BK454⟩, ⟨bk BK466⟩, ⟨bk BK480⟩, ⟨be4 HB GE428 GE454 GE466 GE480⟩⟩
   rw [if_neg c47] at H
   have c47b0 : (t478.toList == t452.toList) = false := beq_eq_false_iff_ne.mpr c47
   have c47b1 : (t478.toList != t452.toList) = true := bne_iff_ne.mpr c47
   (first | rw [c47b0] | (simp only [i64_w, i32_w]; rw [c47b0]) | skip)
   have H' := Aside0.mk H
   clear H
   have hnb56 := NB480_428.out
   have hnc56 := NB428_480.out
   have hnb57 := NB480_454.out
   have hnc57 := NB454_480.out
   have hnb58 := NB480_466.out
   have hnc58 := NB466_480.out
   have hcz59_0 := bz5 BK480
   have hnb60 := NB454_428.out
   have hnc60 := NB428_454.out
   have hnb61 := NB454_466.out
   have hnc61 := NB466_454.out
   have hcz62_0 := bz5 BK454
   go_wp2_with (first | ((with_reducible refine gate_callee (f := 20) rfl ?_); refine gl 39 Try.func20 #[.agg #[.int .i64 t467, .int .i64 t468, .slice Ao42 t469.length co42, .slice Ao43 t472.length co43, .slice Ao44 t475.length co44], .agg #[.int .i64 t441, .int .i64 t442, .slice Ao24 t443.length co24, .slice Ao25 t446.length co25, .slice Ao26 t449.length co26]] ?_; (with_reducible refine (laws_eqThree.calls k t467 t468 _ _ t469 _ _ t472 _ _ t475 t441 t442 _ _ t443 _ _ t446 _ _ t449 true _ ?side1 ((Kd.R_reads' HO471.out).2.1) ?side3 ((Kd.R_reads' HO474.out).2.1) ?side5 ((Kd.R_reads' HO477.out).2.1) ?side7 ((Kd.R_reads' HO445.out).2.1) ?side9 ((Kd.R_reads' HO448.out).2.1) ?side11 ?side12 A45.out).mono ?_); (case side1 => exact rfr _ HO471 BK480); (case side3 => exact rfr _ HO474 BK480); (case side5 => exact rfr _ HO477 BK480); (case side7 => exact rfr _ HO445 BK480); (case side9 => exact rfr _ HO448 BK480); (case side11 => refine (Kd.Q_reads' (e := 3) (base := w.heap.size) (ok := fun k_ => (((True ∧ nb k_ Ao19 t438.length co19) ∧ nb k_ Ao35 t463.length co35) ∧ nb k_ Ao44 t475.length co44)) (n := t449.length) (c := co26) ?_).2.2; exact (by (with_reducible repeat (first | apply Kd.Q_alloc | apply Kd.Q_drewN | apply Kd.Q_drew)); exact (Kd.Q_mono (Kd.Q_far (p := ⟨gb480, 4, none⟩) (Kd.Q_far (p := ⟨gb480, 3, none⟩) (Kd.Q_far (p := ⟨gb480, 2, none⟩) (Kd.Q_far (p := ⟨gb480, 1, none⟩) (Kd.Q_far (p := ⟨gb480, 0, none⟩) (Kd.Q_types HO451.out BK480.out (by decide)) (fun _ hk => hk.2) (.int .i64 t467)) (fun _ hk => hk.2) (.int .i64 t468)) (fun _ hk => hk.2) (.slice Ao42 t469.length co42)) (fun _ hk => hk.2) (.slice Ao43 t472.length co43)) (fun _ hk => hk.2) (.slice Ao44 t475.length co44)) (fun _ h_ => h_.1)))); (case side12 => exact (Kd.Q_reads' HO451.out).2.1); rintro e w63 ⟨rfl, hb⟩; refine ⟨_, rfl, ?_⟩; replace HO434 := Aside0.mk (Kd.R_below (rf HO434 BK480) hb); replace HO437 := Aside0.mk (Kd.R_below (rf HO437 BK480) hb); replace HO440 := Aside0.mk (Kd.R_below (rf HO440 BK480) hb); replace HO445 := Aside0.mk (Kd.R_below (rf HO445 BK480) hb); replace HO448 := Aside0.mk (Kd.R_below (rf HO448 BK480) hb); replace HO451 := Aside0.mk (Kd.Q_below (by (with_reducible repeat (first | apply Kd.Q_alloc | apply Kd.Q_drewN | apply Kd.Q_drew)); exact (Kd.Q_mono (Kd.Q_far (p := ⟨gb480, 4, none⟩) (Kd.Q_far (p := ⟨gb480, 3, none⟩) (Kd.Q_far (p := ⟨gb480, 2, none⟩) (Kd.Q_far (p := ⟨gb480, 1, none⟩) (Kd.Q_far (p := ⟨gb480, 0, none⟩) (Kd.Q_types HO451.out BK480.out (by decide)) (fun _ hk => hk.2) (.int .i64 t467)) (fun _ hk => hk.2) (.int .i64 t468)) (fun _ hk => hk.2) (.slice Ao42 t469.length co42)) (fun _ hk => hk.2) (.slice Ao43 t472.length co43)) (fun _ hk => hk.2) (.slice Ao44 t475.length co44)) (fun _ h_ => h_.1))) hb); replace HO459 := Aside0.mk (Kd.R_below (rf HO459 BK480) hb); replace HO462 := Aside0.mk (Kd.R_below (rf HO462 BK480) hb); replace HO465 := Aside0.mk (Kd.R_below (rf HO465 BK480) hb); replace HO471 := Aside0.mk (Kd.R_below (rf HO471 BK480) hb); replace HO474 := Aside0.mk (Kd.R_below (rf HO474 BK480) hb); replace HO477 := Aside0.mk (Kd.R_below (rf HO477 BK480) hb); replace BK428 := Aside0.mk (blk_below (g := gb428) (o := .cells #[.int .i64 a0_0, .int .i64 a0_1, .slice A0_2 l0_2.length c0_2, .slice A0_3 l0_3.length c0_3, .slice A0_4 l0_4.length c0_4] 25 (0, 0)) (bf1 BK428 NB428_480) hb); replace BK454 := Aside0.mk (blk_below (g := gb454) (o := .cells #[.int .i64 t441, .int .i64 t442, .slice Ao24 t443.length co24, .slice Ao25 t446.length co25, .slice Ao26 t449.length co26] 30 (0, 0)) (bf1 BK454 NB454_480) hb); replace BK466 := Aside0.mk (blk_below (g := gb466) (o := .cells #[.int .i64 t455, .int .i64 t456, .slice Ao33 t457.length co33, .slice Ao34 t460.length co34, .slice Ao35 t463.length co35] 30 (0, 0)) (bf1 BK466 NB466_480) hb); replace BK480 := Aside0.mk (blk_below (g := gb480) (o := .cells #[.int .i64 t467, .int .i64 t468, .slice Ao42 t469.length co42, .slice Ao43 t472.length co43, .slice Ao44 t475.length co44] 30 (0, 0)) (by (with_reducible repeat (first | refine blk_drewN ?_ _ | refine blk_drew ?_ | refine blk_alloc ?_ _)); refine blk_put (cs := #[.int .i64 t467, .int .i64 t468, .slice Ao42 t469.length co42, .slice Ao43 t472.length co43, .slice none 0 0]) ?_ 4 _ rfl; (with_reducible repeat (first | refine blk_drewN ?_ _ | refine blk_drew ?_ | refine blk_alloc ?_ _)); refine blk_put (cs := #[.int .i64 t467, .int .i64 t468, .slice Ao42 t469.length co42, .slice none 0 0, .slice none 0 0]) ?_ 3 _ rfl; (with_reducible repeat (first | refine blk_drewN ?_ _ | refine blk_drew ?_ | refine blk_alloc ?_ _)); refine blk_put (cs := #[.int .i64 t467, .int .i64 t468, .slice none 0 0, .slice none 0 0, .slice none 0 0]) ?_ 2 _ rfl; (with_reducible repeat (first | refine blk_drewN ?_ _ | refine blk_drew ?_ | refine blk_alloc ?_ _)); refine blk_put (cs := #[.int .i64 t467, .int .i64 0, .slice none 0 0, .slice none 0 0, .slice none 0 0]) ?_ 1 _ rfl; (with_reducible repeat (first | refine blk_drewN ?_ _ | refine blk_drew ?_ | refine blk_alloc ?_ _)); refine blk_put (cs := #[.int .i64 0, .int .i64 0, .slice none 0 0, .slice none 0 0, .slice none 0 0]) ?_ 0 _ rfl; (with_reducible repeat (first | refine blk_drewN ?_ _ | refine blk_drew ?_ | refine blk_alloc ?_ _)); exact BK480.out) hb); replace HB := Aside0.mk (below_step (be4 HB GE428 GE454 GE466 GE480) hb); (try clear hb)))
   go_meet
   case rel => exact ⟨_, (true), rs, H', ⟨by first | omega | exact Nat.le_refl _⟩, ⟨rom HO445⟩, ⟨rom HO448⟩, ⟨by (with_reducible repeat (first | apply Kd.Q_alloc | apply Kd.Q_drewN | apply Kd.Q_drew)); exact Kd.Q_mono HO451.out (fun _ hk => ⟨hk.1.2, hk.2⟩)⟩, ⟨rom HO459⟩, ⟨rom HO462⟩, ⟨Kd.Q_of_R (by (with_reducible repeat (first | apply Kd.R_alloc | apply Kd.R_drewN | apply Kd.R_drew)); exact rm HO465)⟩, ⟨rom HO471⟩, ⟨rom HO474⟩, ⟨Kd.Q_of_R (by (with_reducible repeat (first | apply Kd.R_alloc | apply Kd.R_drewN | apply Kd.R_drew)); exact rm HO477)⟩, ⟨bk BK428⟩, ⟨bk BK454⟩, ⟨bk BK466⟩, ⟨bk BK480⟩, ⟨be4 HB GE428 GE454 GE466 GE480⟩⟩
  replace c46 := Bool.eq_false_iff.mpr c46
  subst c46
  rw [if_neg (show ¬ (false = true) by decide)] at H
  have H' := Aside0.mk H
  clear H
  have hnb64 := NB480_428.out
  have hnc64 := NB428_480.out
  have hnb65 := NB480_454.out
  have hnc65 := NB454_480.out
  have hnb66 := NB480_466.out
  have hnc66 := NB466_480.out
  have hcz67_0 := bz5 BK480
  have hnb68 := NB454_428.out
  have hnc68 := NB428_454.out
  have hnb69 := NB454_466.out
  have hnc69 := NB466_454.out
  have hcz70_0 := bz5 BK454
  go_wp2_with (first | ((with_reducible refine gate_callee (f := 20) rfl ?_); refine gl 39 Try.func20 #[.agg #[.int .i64 t467, .int .i64 t468, .slice Ao42 t469.length co42, .slice Ao43 t472.length co43, .slice Ao44 t475.length co44], .agg #[.int .i64 t441, .int .i64 t442, .slice Ao24 t443.length co24, .slice Ao25 t446.length co25, .slice Ao26 t449.length co26]] ?_; (with_reducible refine (laws_eqThree.calls k t467 t468 _ _ t469 _ _ t472 _ _ t475 t441 t442 _ _ t443 _ _ t446 _ _ t449 false _ ?side1 ((Kd.R_reads' HO471.out).2.1) ?side3 ((Kd.R_reads' HO474.out).2.1) ?side5 ((Kd.R_reads' HO477.out).2.1) ?side7 ((Kd.R_reads' HO445.out).2.1) ?side9 ((Kd.R_reads' HO448.out).2.1) ?side11 ?side12 A45.out).mono ?_); (case side1 => exact rfr _ HO471 BK480); (case side3 => exact rfr _ HO474 BK480); (case side5 => exact rfr _ HO477 BK480); (case side7 => exact rfr _ HO445 BK480); (case side9 => exact rfr _ HO448 BK480); (case side11 => refine (Kd.Q_reads' (e := 3) (base := w.heap.size) (ok := fun k_ => (((True ∧ nb k_ Ao19 t438.length co19) ∧ nb k_ Ao35 t463.length co35) ∧ nb k_ Ao44 t475.length co44)) (n := t449.length) (c := co26) ?_).2.2; exact (by (with_reducible repeat (first | apply Kd.Q_alloc | apply Kd.Q_drewN | apply Kd.Q_drew)); exact (Kd.Q_mono (Kd.Q_far (p := ⟨gb480, 4, none⟩) (Kd.Q_far (p := ⟨gb480, 3, none⟩) (Kd.Q_far (p := ⟨gb480, 2, none⟩) (Kd.Q_far (p := ⟨gb480, 1, none⟩) (Kd.Q_far (p := ⟨gb480, 0, none⟩) (Kd.Q_types HO451.out BK480.out (by decide)) (fun _ hk => hk.2) (.int .i64 t467)) (fun _ hk => hk.2) (.int .i64 t468)) (fun _ hk => hk.2) (.slice Ao42 t469.length co42)) (fun _ hk => hk.2) (.slice Ao43 t472.length co43)) (fun _ hk => hk.2) (.slice Ao44 t475.length co44)) (fun _ h_ => h_.1)))); (case side12 => exact (Kd.Q_reads' HO451.out).2.1); rintro e w71 ⟨rfl, hb⟩; refine ⟨_, rfl, ?_⟩; replace HO434 := Aside0.mk (Kd.R_below (rf HO434 BK480) hb); replace HO437 := Aside0.mk (Kd.R_below (rf HO437 BK480) hb); replace HO440 := Aside0.mk (Kd.R_below (rf HO440 BK480) hb); replace HO445 := Aside0.mk (Kd.R_below (rf HO445 BK480) hb); replace HO448 := Aside0.mk (Kd.R_below (rf HO448 BK480) hb); replace HO451 := Aside0.mk (Kd.Q_below (by (with_reducible repeat (first | apply Kd.Q_alloc | apply Kd.Q_drewN | apply Kd.Q_drew)); exact (Kd.Q_mono (Kd.Q_far (p := ⟨gb480, 4, none⟩) (Kd.Q_far (p := ⟨gb480, 3, none⟩) (Kd.Q_far (p := ⟨gb480, 2, none⟩) (Kd.Q_far (p := ⟨gb480, 1, none⟩) (Kd.Q_far (p := ⟨gb480, 0, none⟩) (Kd.Q_types HO451.out BK480.out (by decide)) (fun _ hk => hk.2) (.int .i64 t467)) (fun _ hk => hk.2) (.int .i64 t468)) (fun _ hk => hk.2) (.slice Ao42 t469.length co42)) (fun _ hk => hk.2) (.slice Ao43 t472.length co43)) (fun _ hk => hk.2) (.slice Ao44 t475.length co44)) (fun _ h_ => h_.1))) hb); replace HO459 := Aside0.mk (Kd.R_below (rf HO459 BK480) hb); replace HO462 := Aside0.mk (Kd.R_below (rf HO462 BK480) hb); replace HO465 := Aside0.mk (Kd.R_below (rf HO465 BK480) hb); replace HO471 := Aside0.mk (Kd.R_below (rf HO471 BK480) hb); replace HO474 := Aside0.mk (Kd.R_below (rf HO474 BK480) hb); replace HO477 := Aside0.mk (Kd.R_below (rf HO477 BK480) hb); replace BK428 := Aside0.mk (blk_below (g := gb428) (o := .cells #[.int .i64 a0_0, .int .i64 a0_1, .slice A0_2 l0_2.length c0_2, .slice A0_3 l0_3.length c0_3, .slice A0_4 l0_4.length c0_4] 25 (0, 0)) (bf1 BK428 NB428_480) hb); replace BK454 := Aside0.mk (blk_below (g := gb454) (o := .cells #[.int .i64 t441, .int .i64 t442, .slice Ao24 t443.length co24, .slice Ao25 t446.length co25, .slice Ao26 t449.length co26] 30 (0, 0)) (bf1 BK454 NB454_480) hb); replace BK466 := Aside0.mk (blk_below (g := gb466) (o := .cells #[.int .i64 t455, .int .i64 t456, .slice Ao33 t457.length co33, .slice Ao34 t460.length co34, .slice Ao35 t463.length co35] 30 (0, 0)) (bf1 BK466 NB466_480) hb); replace BK480 := Aside0.mk (blk_below (g := gb480) (o := .cells #[.int .i64 t467, .int .i64 t468, .slice Ao42 t469.length co42, .slice Ao43 t472.length co43, .slice Ao44 t475.length co44] 30 (0, 0)) (by (with_reducible repeat (first | refine blk_drewN ?_ _ | refine blk_drew ?_ | refine blk_alloc ?_ _)); refine blk_put (cs := #[.int .i64 t467, .int .i64 t468, .slice Ao42 t469.length co42, .slice Ao43 t472.length co43, .slice none 0 0]) ?_ 4 _ rfl; (with_reducible repeat (first | refine blk_drewN ?_ _ | refine blk_drew ?_ | refine blk_alloc ?_ _)); refine blk_put (cs := #[.int .i64 t467, .int .i64 t468, .slice Ao42 t469.length co42, .slice none 0 0, .slice none 0 0]) ?_ 3 _ rfl; (with_reducible repeat (first | refine blk_drewN ?_ _ | refine blk_drew ?_ | refine blk_alloc ?_ _)); refine blk_put (cs := #[.int .i64 t467, .int .i64 t468, .slice none 0 0, .slice none 0 0, .slice none 0 0]) ?_ 2 _ rfl; (with_reducible repeat (first | refine blk_drewN ?_ _ | refine blk_drew ?_ | refine blk_alloc ?_ _)); refine blk_put (cs := #[.int .i64 t467, .int .i64 0, .slice none 0 0, .slice none 0 0, .slice none 0 0]) ?_ 1 _ rfl; (with_reducible repeat (first | refine blk_drewN ?_ _ | refine blk_drew ?_ | refine blk_alloc ?_ _)); refine blk_put (cs := #[.int .i64 0, .int .i64 0, .slice none 0 0, .slice none 0 0, .slice none 0 0]) ?_ 0 _ rfl; (with_reducible repeat (first | refine blk_drewN ?_ _ | refine blk_drew ?_ | refine blk_alloc ?_ _)); exact BK480.out) hb); replace HB := Aside0.mk (below_step (be4 HB GE428 GE454 GE466 GE480) hb); (try clear hb)))
  go_meet
  case rel => exact ⟨_, (true), rs, H', ⟨by first | omega | exact Nat.le_refl _⟩, ⟨rom HO445⟩, ⟨rom HO448⟩, ⟨by (with_reducible repeat (first | apply Kd.Q_alloc | apply Kd.Q_drewN | apply Kd.Q_drew)); exact Kd.Q_mono HO451.out (fun _ hk => ⟨hk.1.2, hk.2⟩)⟩, ⟨rom HO459⟩, ⟨rom HO462⟩, ⟨Kd.Q_of_R (by (with_reducible repeat (first | apply Kd.R_alloc | apply Kd.R_drewN | apply Kd.R_drew)); exact rm HO465)⟩, ⟨rom HO471⟩, ⟨rom HO474⟩, ⟨Kd.Q_of_R (by (with_reducible repeat (first | apply Kd.R_alloc | apply Kd.R_drewN | apply Kd.R_drew)); exact rm HO477)⟩, ⟨bk BK428⟩, ⟨bk BK454⟩, ⟨bk BK466⟩, ⟨bk BK480⟩, ⟨be4 HB GE428 GE454 GE466 GE480⟩⟩
 case rest =>
  clear HC11
  try clear c1; try clear c2; try clear p2; try clear c3; try clear c3b0; try clear c4; try clear c5; try clear c6; try clear c10; try clear c16; try clear c18; try clear c20; try clear c22; try clear c30; try clear c31; try clear c37; try clear c38; try clear c39; try clear c40; try clear c46; try clear c47; try clear c47b0; try clear c47b1; try clear c48; try clear c49; try clear c50; try clear c52; try clear c53; try clear c56; try clear c57; try clear c58; try clear c60; try clear c61; try clear c64; try clear c65; try clear c66; try clear c68; try clear c69; try clear hcz13_0; try clear hcz15_0; try clear hcz23_0; try clear hcz27_0; try clear hcz32_0; try clear hcz41_0; try clear hcz51_0; try clear hcz54_0; try clear hcz59_0; try clear hcz5_0; try clear hcz62_0; try clear hcz67_0; try clear hcz70_0
  obtain ⟨kq, x50_10, rfl, HA, HJ10, HO_455002, HO_455003, HO_455004, HO_467002, HO_467003, HO_467004, HO_481002, HO_481003, HO_481004, BK428, BK454, BK466, BK480, HB⟩ := hcut
  cases kq with
  | zero => exact absurd HA.out (by simp [laws_FnExactEvictSmall.j0])
  | succ kj10 =>
   have H := HA.out
   clear HA
   simp only [laws_FnExactEvictSmall.j0] at H
   by_cases c72 : x50_10 = true
   ·subst c72
    rw [if_pos rfl] at H
    exact absurd ((Option.some.inj H).trans hrt_.out) (by decide)
   replace c72 := Bool.eq_false_iff.mpr c72
   subst c72
   rw [if_neg (show ¬ (false = true) by decide)] at H
   replace H := Option.bind_eq_some_iff.mp H
   obtain ⟨⟨t482, t483, t484, t487, t490⟩, A730, H⟩ := H
   try dsimp only at H
   have A73 := Aside0.mk A730
   clear A730
   replace H := Option.bind_eq_some_iff.mp H
   obtain ⟨t493, A740, H⟩ := H
   try dsimp only at H
   have A74 := Aside0.mk A740
   clear A740
   by_cases c75 : t493 = true
   ·subst c75
    rw [if_pos rfl] at H
    replace H := Option.bind_eq_some_iff.mp H
    obtain ⟨⟨t494, t495, t496, t497⟩, A760, H⟩ := H
    try dsimp only at H
    have A76 := Aside0.mk A760
    clear A760
    have HC77 := Aside0.mk H
    clear H
    try go_wp2
    have n0_ := Aside0.mk (Kd.R_drew HO_455002.out)
    have n1_ := Aside0.mk (Kd.R_drew HO_455003.out)
    have n2_ := Aside0.mk (Kd.Q_drew HO_455004.out)
    have n3_ := Aside0.mk (Kd.R_drew HO_467002.out)
    have n4_ := Aside0.mk (Kd.R_drew HO_467003.out)
    have n5_ := Aside0.mk (Kd.Q_drew HO_467004.out)
    have n6_ := Aside0.mk (Kd.R_drew HO_481002.out)
    have n7_ := Aside0.mk (Kd.R_drew HO_481003.out)
    have n8_ := Aside0.mk (Kd.Q_drew HO_481004.out)
    have n9_ := Aside0.mk (blk_drew BK428.out)
    have n10_ := Aside0.mk (blk_drew BK454.out)
    have n11_ := Aside0.mk (blk_drew BK466.out)
    have n12_ := Aside0.mk (blk_drew BK480.out)
    have n13_ := Aside0.mk (below_drew1 HB.out)
    clear HO_455002
    clear HO_455003
    clear HO_455004
    clear HO_467002
    clear HO_467003
    clear HO_467004
    clear HO_481002
    clear HO_481003
    clear HO_481004
    clear BK428
    clear BK454
    clear BK466
    clear BK480
    clear HB
    have HO_455002 := n0_
    have HO_455003 := n1_
    have HO_455004 := n2_
    have HO_467002 := n3_
    have HO_467003 := n4_
    have HO_467004 := n5_
    have HO_481002 := n6_
    have HO_481003 := n7_
    have HO_481004 := n8_
    have BK428 := n9_
    have BK454 := n10_
    have BK466 := n11_
    have BK480 := n12_
    have HB := n13_
    clear n0_ n1_ n2_ n3_ n4_ n5_ n6_ n7_ n8_ n9_ n10_ n11_ n12_ n13_
    refine start_ (n := 5) (S := fun w' => w'.cell? ⟨gb466, 0, none⟩ = some (.int .i64 t455) ∧ w'.cell? ⟨gb466, 1, none⟩ = some (.int .i64 t456) ∧ w'.cell? ⟨gb466, 2, none⟩ = some (.slice Ao33 t457.length co33) ∧ w'.cell? ⟨gb466, 3, none⟩ = some (.slice Ao34 t460.length co34) ∧ w'.cell? ⟨gb466, 4, none⟩ = some (.slice Ao35 t463.length co35) ∧ w'.cell? ⟨gb428, 0, none⟩ = some (.int .i64 a0_0) ∧ w'.cell? ⟨gb428, 1, none⟩ = some (.int .i64 a0_1) ∧ w'.cell? ⟨gb428, 2, none⟩ = some (.slice A0_2 l0_2.length c0_2) ∧ w'.cell? ⟨gb428, 3, none⟩ = some (.slice A0_3 l0_3.length c0_3) ∧ w'.cell? ⟨gb428, 4, none⟩ = some (.slice A0_4 l0_4.length c0_4)) (ds := []) (bv 5 0x0) (by kernel_rfl) rfl rfl ⟨bc0 BK466, bc1 BK466, bc2 BK466, bc3 BK466, bc4 BK466, bc0 BK428, bc1 BK428, bc2 BK428, bc3 BK428, bc4 BK428⟩ (fun hHeld => ?_)
    generalize wc.drew = w78 at HO_455002 HO_455003 HO_455004 HO_467002 HO_467003 HO_467004 HO_481002 HO_481003 HO_481004 BK428 BK454 BK466 BK480 HB hHeld ⊢
    refine take_ (i := 0) (N := some 51) (v := ?_) (a' := ?_) (bv 5 0x1) rfl rfl (by kernel_rfl) (fun _ _ _ h => h) (Or.inl ⟨by rfl, ?_⟩) hHeld ?_ ?_
    rotate_left
    ·rintro w' ⟨s0, s1, s2, s3, s4, s5, s6, s7, s8, s9⟩
     go_simp
     with_reducible rfl
    rotate_left
    ·simp only [aP]
     rfl
    refine take_ (i := 1) (N := some 52) (v := ?_) (a' := ?_) (bv 5 0x3) rfl rfl (by kernel_rfl) (fun _ _ _ h => h) (Or.inl ⟨by rfl, ?_⟩) hHeld ?_ ?_
    rotate_left
    ·rintro w' ⟨s0, s1, s2, s3, s4, s5, s6, s7, s8, s9⟩
     go_simp
     with_reducible rfl
    rotate_left
    ·simp only [aP]
     rfl
    refine one_ (i := 2) (N := some 53) (bv 5 0x7) rfl rfl (by kernel_rfl) (by decide) (fun K hK => ?_)
    refine goes_ Try.func18 (by kernel_rfl) rfl #[.agg #[.int .i64 a0_0, .int .i64 a0_1, .slice A0_2 l0_2.length c0_2, .slice A0_3 l0_3.length c0_3, .slice A0_4 l0_4.length c0_4]] (by rfl) rfl rfl ml ?_
    with_reducible refine (laws_toThree.calls kj10 a0_0 a0_1 _ _ l0_2 _ _ l0_3 _ _ l0_4 t482 t483 t484 t487 t490 _ ?side1 ?side2 ?side3 ?side4 ?side5 ?side6 A73.out).mono ?_
    (case side1 => exact cb HR0_2 HB)
    (case side2 => exact HC0_2.out)
    (case side3 => exact cb HR0_3 HB)
    (case side4 => exact HC0_3.out)
    (case side5 => exact cb HR0_4 HB)
    (case side6 => exact HC0_4.out)
    rintro e w79 ⟨v485, v488, v491, rfl, ho0, ho1, ho2, hb⟩
    refine ⟨_, rfl, ?_⟩
    have n0_ := td2 (ro HO_455002) hb ho0 ho1
    have n1_ := td2 (ro HO_455003) hb ho0 ho1
    have n2_ := Aside0.mk (Kd.Q_elder' (by (with_reducible repeat (first | apply Kd.Q_alloc | apply Kd.Q_drewN | apply Kd.Q_drew)); exact HO_455004.out) (Kd.R_base ho2) hb)
    have n3_ := td2 (ro HO_467002) hb ho0 ho1
    have n4_ := td2 (ro HO_467003) hb ho0 ho1
    have n5_ := Aside0.mk (Kd.Q_elder' (by (with_reducible repeat (first | apply Kd.Q_alloc | apply Kd.Q_drewN | apply Kd.Q_drew)); exact HO_467004.out) (Kd.R_base ho2) hb)
    have n6_ := td2 (ro HO_481002) hb ho0 ho1
    have n7_ := td2 (ro HO_481003) hb ho0 ho1
    have n8_ := Aside0.mk (Kd.Q_elder' (by (with_reducible repeat (first | apply Kd.Q_alloc | apply Kd.Q_drewN | apply Kd.Q_drew)); exact HO_481004.out) (Kd.R_base ho2) hb)
    have n9_ := Aside0.mk (Kd.R_lower (nw (nw (nw (nw (nw (nw ho0 HO_455002) HO_455003) HO_467002) HO_467003) HO_481002) HO_481003) (below_size (be4 HB GE428 GE454 GE466 GE480)))
    have n10_ := Aside0.mk (Kd.R_lower (nw (nw (nw (nw (nw (nw ho1 HO_455002) HO_455003) HO_467002) HO_467003) HO_481002) HO_481003) (below_size (be4 HB GE428 GE454 GE466 GE480)))
    have n11_ := Aside0.mk (Kd.R_lower (Kd.R_new' (Kd.R_new' (Kd.R_new' ho2 (Kd.Q_lt (by (with_reducible repeat (first | apply Kd.Q_alloc | apply Kd.Q_drewN | apply Kd.Q_drew)); exact HO_455004.out))) (Kd.Q_lt (by (with_reducible repeat (first | apply Kd.Q_alloc | apply Kd.Q_drewN | apply Kd.Q_drew)); exact HO_467004.out))) (Kd.Q_lt (by (with_reducible repeat (first | apply Kd.Q_alloc | apply Kd.Q_drewN | apply Kd.Q_drew)); exact HO_481004.out))) (below_size (be4 HB GE428 GE454 GE466 GE480)))
    have n12_ := bb BK428 hb
    have n13_ := bb BK454 hb
    have n14_ := bb BK466 hb
    have n15_ := bb BK480 hb
    have n16_ := Aside0.mk (below_step (be4 HB GE428 GE454 GE466 GE480) hb)
    clear HO_455002
    clear HO_455003
    clear HO_455004
    clear HO_467002
    clear HO_467003
    clear HO_467004
    clear HO_481002
    clear HO_481003
    clear HO_481004
    clear BK428
    clear BK454
    clear BK466
    clear BK480
    clear HB
    have HO_455002 := n0_
    have HO_455003 := n1_
    have HO_455004 := n2_
    have HO_467002 := n3_
    have HO_467003 := n4_
    have HO_467004 := n5_
    have HO_481002 := n6_
    have HO_481003 := n7_
    have HO_481004 := n8_
    have HO486 := n9_
    have HO489 := n10_
    have HO492 := n11_
    have BK428 := n12_
    have BK454 := n13_
    have BK466 := n14_
    have BK480 := n15_
    have HB := n16_
    clear n0_ n1_ n2_ n3_ n4_ n5_ n6_ n7_ n8_ n9_ n10_ n11_ n12_ n13_ n14_ n15_ n16_
    (try clear hb)
    (try clear hb2)
    (try clear hk)
    (try clear hi)
    (try clear ho0)
    (try clear ho1)
    (try clear ho2)
    obtain ⟨Ao80, co80, eo80⟩ := Kd.R_slice HO486.out
    (first | subst eo80 | (injection eo80 with f1_ f2_ f3_; have f4_ := f1_.symm; have f5_ := f3_.symm; clear f1_ f2_ f3_; subst f4_; subst f5_))
    obtain ⟨Ao81, co81, eo81⟩ := Kd.R_slice HO489.out
    (first | subst eo81 | (injection eo81 with f1_ f2_ f3_; have f4_ := f1_.symm; have f5_ := f3_.symm; clear f1_ f2_ f3_; subst f4_; subst f5_))
    obtain ⟨Ao82, co82, eo82⟩ := Kd.R_slice HO492.out
    (first | subst eo82 | (injection eo82 with f1_ f2_ f3_; have f4_ := f1_.symm; have f5_ := f3_.symm; clear f1_ f2_ f3_; subst f4_; subst f5_))
    refine hK.out _ _ ⟨bc0 BK466, bc1 BK466, bc2 BK466, bc3 BK466, bc4 BK466, bc0 BK428, bc1 BK428, bc2 BK428, bc3 BK428, bc4 BK428⟩ (fun hHeld => ?_)
    clear hK K
    refine norm_ (a' := ?_) ?_ ?_
    rotate_left
    ·show Act.put _ (some 53) _ = _
     simp only [aP]
     rfl
    refine one_ (i := 3) (N := some 54) (bv 5 0xf) rfl rfl (by kernel_rfl) (by decide) (fun K hK => ?_)
    refine goes_ Try.func20 (by kernel_rfl) rfl #[.agg #[.int .i64 t455, .int .i64 t456, .slice Ao33 t457.length co33, .slice Ao34 t460.length co34, .slice Ao35 t463.length co35], .agg #[.int .i64 t482, .int .i64 t483, .slice Ao80 t484.length co80, .slice Ao81 t487.length co81, .slice Ao82 t490.length co82]] (by rfl) rfl rfl ml ?_
    with_reducible refine (laws_eqThree.calls kj10 t455 t456 _ _ t457 _ _ t460 _ _ t463 t482 t483 _ _ t484 _ _ t487 _ _ t490 true _ ?side1 ?side2 ?side3 ?side4 ?side5 ?side6 ?side7 ?side8 ?side9 ?side10 ?side11 ?side12 A74.out).mono ?_
    (case side1 => exact cr HO_467002)
    (case side2 => exact (Kd.R_reads' HO_467002.out).2.1)
    (case side3 => exact cr HO_467003)
    (case side4 => exact (Kd.R_reads' HO_467003.out).2.1)
    (case side5 => repeat (first | exact (Kd.Q_reads' HO_467004.out).2.2 | (with_reducible refine Kd.C_alloc ?_ _) | (with_reducible refine Kd.C_drewN ?_ _) | (with_reducible refine Kd.C_drew ?_)))
    (case side6 => exact (Kd.Q_reads' HO_467004.out).2.1)
    (case side7 => exact cr HO486)
    (case side8 => exact (Kd.R_reads' HO486.out).2.1)
    (case side9 => exact cr HO489)
    (case side10 => exact (Kd.R_reads' HO489.out).2.1)
    (case side11 => exact cr HO492)
    (case side12 => exact (Kd.R_reads' HO492.out).2.1)
    rintro e w83 ⟨rfl, hb⟩
    refine ⟨_, rfl, ?_⟩
    have n0_ := rb HO_455002 hb
    have n1_ := rb HO_455003 hb
    have n2_ := Aside0.mk (Kd.Q_below (by (with_reducible repeat (first | apply Kd.Q_alloc | apply Kd.Q_drewN | apply Kd.Q_drew)); exact HO_455004.out) hb)
    have n3_ := rb HO_467002 hb
    have n4_ := rb HO_467003 hb
    have n5_ := Aside0.mk (Kd.Q_below (by (with_reducible repeat (first | apply Kd.Q_alloc | apply Kd.Q_drewN | apply Kd.Q_drew)); exact HO_467004.out) hb)
    have n6_ := rb HO_481002 hb
    have n7_ := rb HO_481003 hb
    have n8_ := Aside0.mk (Kd.Q_below (by (with_reducible repeat (first | apply Kd.Q_alloc | apply Kd.Q_drewN | apply Kd.Q_drew)); exact HO_481004.out) hb)
    have n9_ := rb HO486 hb
    have n10_ := rb HO489 hb
    have n11_ := rb HO492 hb
    have n12_ := bb BK428 hb
    have n13_ := bb BK454 hb
    have n14_ := bb BK466 hb
    have n15_ := bb BK480 hb
    have n16_ := Aside0.mk (below_step (be4 HB GE428 GE454 GE466 GE480) hb)
    clear HO_455002
    clear HO_455003
    clear HO_455004
    clear HO_467002
    clear HO_467003
    clear HO_467004
    clear HO_481002
    clear HO_481003
    clear HO_481004
    clear HO486
    clear HO489
    clear HO492
    clear BK428
    clear BK454
    clear BK466
    clear BK480
    clear HB
    have HO_455002 := n0_
    have HO_455003 := n1_
    have HO_455004 := n2_
    have HO_467002 := n3_
    have HO_467003 := n4_
    have HO_467004 := n5_
    have HO_481002 := n6_
    have HO_481003 := n7_
    have HO_481004 := n8_
    have HO486 := n9_
    have HO489 := n10_
    have HO492 := n11_
    have BK428 := n12_
    have BK454 := n13_
    have BK466 := n14_
    have BK480 := n15_
    have HB := n16_
    clear n0_ n1_ n2_ n3_ n4_ n5_ n6_ n7_ n8_ n9_ n10_ n11_ n12_ n13_ n14_ n15_ n16_
    (try clear hb)
    (try clear hb2)
    (try clear hk)
    (try clear hi)
    refine hK.out _ _ ⟨bc0 BK466, bc1 BK466, bc2 BK466, bc3 BK466, bc4 BK466, bc0 BK428, bc1 BK428, bc2 BK428, bc3 BK428, bc4 BK428⟩ (fun hHeld => ?_)
    clear hK K
    refine norm_ (a' := ?_) ?_ ?_
    rotate_left
    ·show Act.put _ (some 54) _ = _
     simp only [aP]
     rfl
    refine pure_ (i := 4) (N := some 55) (v := ?_) (a' := ?_) (bv 5 0x1f) rfl rfl (by kernel_rfl) (fun _ _ _ h => h) (Or.inl ⟨by rfl, ?_⟩) ?_ ?_
    rotate_left
    ·intro w'
     go_simp
     with_reducible rfl
    rotate_left
    ·simp only [aP]
     rfl
    refine done_ (by kernel_rfl) ?_
    have hnb84 := NB466_428.out
    have hnc84 := NB428_466.out
    have hnb85 := NB466_454.out
    have hnc85 := NB454_466.out
    have hnb86 := NB466_480.out
    have hnc86 := NB480_466.out
    have hcz87_0 := bz5 BK466
    go_upto_region 14 with (first | ((with_reducible refine gate_callee (f := 23) rfl ?_); refine gl 58 Try.func23 #[.agg #[.int .i64 t455, .int .i64 t456, .slice Ao33 t457.length co33, .slice Ao34 t460.length co34, .slice Ao35 t463.length co35], .int .i64 1] ?_; (with_reducible refine (laws_markThree.calls kj10 t455 t456 (fun k_ => some k_ = (.slice Ao33 t457.length co33 : Value).ownBlock) (.slice Ao33 t457.length co33) t457 (fun k_ => some k_ = (.slice Ao34 t460.length co34 : Value).ownBlock) (.slice Ao34 t460.length co34) t460 (fun k_ => some k_ = (.slice Ao35 t463.length co35 : Value).ownBlock) (.slice Ao35 t463.length co35) t463 1 t494 t495 t496 t497 w _ ?side1 ?side2 ?side3 ?side4 ?side5 ?side6 A76.out).mono ?_); (case side1 => repeat (first | (with_reducible first | exact HB.out | apply below_alloc | apply pw_below_drewN | apply below_drew1 | refine below_set ?_ GE428.out | refine below_set ?_ GE454.out | refine below_set ?_ GE466.out | refine below_set ?_ GE480.out) | exact HB.out)); (case side2 => exact Kd.R_tight rfl HO_467002.out); (case side3 => exact fun k_ e_ => (HO_467002.out.1 k_ e_.symm).1.1.2.2.1); (case side4 => exact Kd.R_tight rfl HO_467003.out); (case side5 => exact fun k_ e_ => (HO_467003.out.1 k_ e_.symm).1.1.2.2.1); (case side6 => exact Kd.Q_tight rfl HO_467004.out); rintro e w88 ⟨rfl, hy0, hy1, hy2, hb, hkp⟩; refine ⟨_, rfl, ?_⟩; replace HO_455002 := Aside0.mk (Kd.R_mono (ok' := fun k_ => nb k_ Ao25 t446.length co25 ∧ nb k_ Ao33 t457.length co33 ∧ nb k_ Ao34 t460.length co34 ∧ nb k_ Ao42 t469.length co42 ∧ nb k_ Ao43 t472.length co43 ∧ nb k_ Ao80 t484.length co80 ∧ nb k_ Ao81 t487.length co81) (Kd.R_keptB ((Kd.R_apart' HO_455002.out (Kd.Q_typed HO_467004.out) (by decide))) hkp (fun k_ hk_ hs_ => Or.elim hs_ (fun e_ => (hk_.1.1.1.2.1) e_) (fun e_ => Or.elim e_ (fun e_ => (hk_.1.1.1.2.2.1) e_) (fun e_ => (hk_.2) e_)))) cj); replace HO_455003 := Aside0.mk (Kd.R_mono (ok' := fun k_ => nb k_ Ao24 t443.length co24 ∧ nb k_ Ao33 t457.length co33 ∧ nb k_ Ao34 t460.length co34 ∧ nb k_ Ao42 t469.length co42 ∧ nb k_ Ao43 t472.length co43 ∧ nb k_ Ao80 t484.length co80 ∧ nb k_ Ao81 t487.length co81) (Kd.R_keptB ((Kd.R_apart' HO_455003.out (Kd.Q_typed HO_467004.out) (by decide))) hkp (fun k_ hk_ hs_ => Or.elim hs_ (fun e_ => (hk_.1.1.1.2.1) e_) (fun e_ => Or.elim e_ (fun e_ => (hk_.1.1.1.2.2.1) e_) (fun e_ => (hk_.2) e_)))) cj); replace HO_455004 := Aside0.mk (Kd.Q_mono (ok' := fun k_ => nb k_ Ao35 t463.length co35 ∧ nb k_ Ao44 t475.length co44 ∧ nb k_ Ao82 t490.length co82) (Kd.Q_keptB ((Kd.Q_apart' (Kd.Q_apart' HO_455004.out (Kd.R_typed HO_467002.out) (by decide)) (Kd.R_typed HO_467003.out) (by decide))) hkp (fun k_ hk_ hs_ => Or.elim hs_ (fun e_ => (hk_.1.2) e_) (fun e_ => Or.elim e_ (fun e_ => (hk_.2) e_) (fun e_ => (hk_.1.1.1.1) e_)))) cj); replace HO_481002 := Aside0.mk (Kd.R_mono (ok' := fun k_ => nb k_ Ao24 t443.length co24 ∧ nb k_ Ao25 t446.length co25 ∧ nb k_ Ao33 t457.length co33 ∧ nb k_ Ao34 t460.length co34 ∧ nb k_ Ao43 t472.length co43 ∧ nb k_ Ao80 t484.length co80 ∧ nb k_ Ao81 t487.length co81) (Kd.R_keptB ((Kd.R_apart' HO_481002.out (Kd.Q_typed HO_467004.out) (by decide))) hkp (fun k_ hk_ hs_ => Or.elim hs_ (fun e_ => (hk_.1.1.1.2.2.1) e_) (fun e_ => Or.elim e_ (fun e_ => (hk_.1.1.1.2.2.2.1) e_) (fun e_ => (hk_.2) e_)))) cj); replace HO_481003 := Aside0.mk (Kd.R_mono (ok' := fun k_ => nb k_ Ao24 t443.length co24 ∧ nb k_ Ao25 t446.length co25 ∧ nb k_ Ao33 t457.length co33 ∧ nb k_ Ao34 t460.length co34 ∧ nb k_ Ao42 t469.length co42 ∧ nb k_ Ao80 t484.length co80 ∧ nb k_ Ao81 t487.length co81) (Kd.R_keptB ((Kd.R_apart' HO_481003.out (Kd.Q_typed HO_467004.out) (by decide))) hkp (fun k_ hk_ hs_ => Or.elim hs_ (fun e_ => (hk_.1.1.1.2.2.1) e_) (fun e_ => Or.elim e_ (fun e_ => (hk_.1.1.1.2.2.2.1) e_) (fun e_ => (hk_.2) e_)))) cj); replace HO_481004 := Aside0.mk (Kd.Q_mono (ok' := fun k_ => nb k_ Ao26 t449.length co26 ∧ nb k_ Ao35 t463.length co35 ∧ nb k_ Ao82 t490.length co82) (Kd.Q_keptB ((Kd.Q_apart' (Kd.Q_apart' HO_481004.out (Kd.R_typed HO_467002.out) (by decide)) (Kd.R_typed HO_467003.out) (by decide))) hkp (fun k_ hk_ hs_ => Or.elim hs_ (fun e_ => (hk_.1.2) e_) (fun e_ => Or.elim e_ (fun e_ => (hk_.2) e_) (fun e_ => (hk_.1.1.1.2) e_)))) cj); replace BK428 := Aside0.mk (blk_kept (bk BK428) hkp (fun hs_ => Or.elim hs_ (fun e_ => (fun e_ => (Kd.R_ne HO_467002.out BK428.out (by decide)) e_) e_) (fun e_ => Or.elim e_ (fun e_ => (fun e_ => (Kd.R_ne HO_467003.out BK428.out (by decide)) e_) e_) (fun e_ => (fun e_ => (Kd.Q_ne HO_467004.out BK428.out (by decide)) e_) e_)))); replace BK454 := Aside0.mk (blk_kept (bk BK454) hkp (fun hs_ => Or.elim hs_ (fun e_ => (fun e_ => (Kd.R_ne HO_467002.out BK454.out (by decide)) e_) e_) (fun e_ => Or.elim e_ (fun e_ => (fun e_ => (Kd.R_ne HO_467003.out BK454.out (by decide)) e_) e_) (fun e_ => (fun e_ => (Kd.Q_ne HO_467004.out BK454.out (by decide)) e_) e_)))); replace BK466 := Aside0.mk (blk_kept (bk BK466) hkp (fun hs_ => Or.elim hs_ (fun e_ => (fun e_ => (Kd.R_ne HO_467002.out BK466.out (by decide)) e_) e_) (fun e_ => Or.elim e_ (fun e_ => (fun e_ => (Kd.R_ne HO_467003.out BK466.out (by decide)) e_) e_) (fun e_ => (fun e_ => (Kd.Q_ne HO_467004.out BK466.out (by decide)) e_) e_)))); replace BK480 := Aside0.mk (blk_kept (bk BK480) hkp (fun hs_ => Or.elim hs_ (fun e_ => (fun e_ => (Kd.R_ne HO_467002.out BK480.out (by decide)) e_) e_) (fun e_ => Or.elim e_ (fun e_ => (fun e_ => (Kd.R_ne HO_467003.out BK480.out (by decide)) e_) e_) (fun e_ => (fun e_ => (Kd.Q_ne HO_467004.out BK480.out (by decide)) e_) e_)))); replace HO486 := Aside0.mk (Kd.R_mono (ok' := fun k_ => nb k_ Ao24 t443.length co24 ∧ nb k_ Ao25 t446.length co25 ∧ nb k_ Ao33 t457.length co33 ∧ nb k_ Ao34 t460.length co34 ∧ nb k_ Ao42 t469.length co42 ∧ nb k_ Ao43 t472.length co43 ∧ nb k_ Ao81 t487.length co81) (Kd.R_keptB ((Kd.R_apart' HO486.out (Kd.Q_typed HO_467004.out) (by decide))) hkp (fun k_ hk_ hs_ => Or.elim hs_ (fun e_ => (hk_.1.1.1.1.2) e_) (fun e_ => Or.elim e_ (fun e_ => (hk_.1.1.1.2) e_) (fun e_ => (hk_.2) e_)))) cj); replace HO489 := Aside0.mk (Kd.R_mono (ok' := fun k_ => nb k_ Ao24 t443.length co24 ∧ nb k_ Ao25 t446.length co25 ∧ nb k_ Ao33 t457.length co33 ∧ nb k_ Ao34 t460.length co34 ∧ nb k_ Ao42 t469.length co42 ∧ nb k_ Ao43 t472.length co43 ∧ nb k_ Ao80 t484.length co80) (Kd.R_keptB ((Kd.R_apart' HO489.out (Kd.Q_typed HO_467004.out) (by decide))) hkp (fun k_ hk_ hs_ => Or.elim hs_ (fun e_ => (hk_.1.1.1.1.2) e_) (fun e_ => Or.elim e_ (fun e_ => (hk_.1.1.1.2) e_) (fun e_ => (hk_.2) e_)))) cj); replace HO_467004 := Aside0.mk (Kd.Q_mono (Kd.Q_tight rfl hy2) (fun k_ e_ => HO_467004.out.1 k_ e_.symm)); replace HO492 := Aside0.mk (Kd.R_mono (ok' := fun k_ => nb k_ Ao26 t449.length co26 ∧ nb k_ Ao35 t463.length co35 ∧ nb k_ Ao44 t475.length co44) (Kd.R_keptB ((Kd.R_apart' (Kd.R_apart' HO492.out (Kd.R_typed HO_467002.out) (by decide)) (Kd.R_typed HO_467003.out) (by decide))) hkp (fun k_ hk_ hs_ => Or.elim hs_ (fun e_ => (hk_.1.2) e_) (fun e_ => Or.elim e_ (fun e_ => (hk_.2) e_) (fun e_ => (hk_.1.1.1.2) e_)))) cj); replace HO_467002 := Aside0.mk (Kd.R_reok rfl hy0 (fun k_ e_ => HO_467002.out.1 k_ e_)); replace HO_467003 := Aside0.mk (Kd.R_reok rfl hy1 (fun k_ e_ => HO_467003.out.1 k_ e_)); replace HB := Aside0.mk (hb); (try clear hb); (try clear hkp); (try clear hy0); (try clear hy1); (try clear hy2)))
    (try simp only [Act.put, List.setIfInBounds_toArray, List.set_cons_zero, List.set_cons_succ])
    go_cut [76] (fun v76 wc => ∃ (kq : Nat) (x76_76 : Bool), v76 = .bool x76_76 ∧ Aside0 (laws_FnExactEvictSmall.j1 kq t452 t453 x76_76 a0_0 a0_1 l0_2 l0_3 l0_4 t441 t442 t443 t446 t449 t467 t468 t469 t472 t475 = some r) ∧ Aside0 (kq ≤ kj10) ∧ Aside0 (Kd.R k68 68 wc w.heap.size (fun k_ => nb k_ Ao25 t446.length co25 ∧ nb k_ Ao33 t457.length co33 ∧ nb k_ Ao34 t460.length co34 ∧ nb k_ Ao42 t469.length co42 ∧ nb k_ Ao43 t472.length co43) (.slice Ao24 t443.length co24) t443) ∧ Aside0 (Kd.R k68 68 wc w.heap.size (fun k_ => nb k_ Ao24 t443.length co24 ∧ nb k_ Ao33 t457.length co33 ∧ nb k_ Ao34 t460.length co34 ∧ nb k_ Ao42 t469.length co42 ∧ nb k_ Ao43 t472.length co43) (.slice Ao25 t446.length co25) t446) ∧ Aside0 (Kd.Q (Kd.int .i64) 3 wc w.heap.size (fun k_ => nb k_ Ao35 t463.length co35 ∧ nb k_ Ao44 t475.length co44) (.slice Ao26 t449.length co26) t449) ∧ Aside0 (Kd.R k68 68 wc w.heap.size (fun k_ => nb k_ Ao24 t443.length co24 ∧ nb k_ Ao25 t446.length co25 ∧ nb k_ Ao34 t460.length co34 ∧ nb k_ Ao42 t469.length co42 ∧ nb k_ Ao43 t472.length co43) (.slice Ao33 t457.length co33) t495) ∧ Aside0 (Kd.R k68 68 wc w.heap.size (fun k_ => nb k_ Ao24 t443.length co24 ∧ nb k_ Ao25 t446.length co25 ∧ nb k_ Ao33 t457.length co33 ∧ nb k_ Ao42 t469.length co42 ∧ nb k_ Ao43 t472.length co43) (.slice Ao34 t460.length co34) t496) ∧ Aside0 (Kd.Q (Kd.int .i64) 3 wc w.heap.size (fun k_ => nb k_ Ao26 t449.length co26 ∧ nb k_ Ao44 t475.length co44) (.slice Ao35 t463.length co35) t497) ∧ Aside0 (Kd.R k68 68 wc w.heap.size (fun k_ => nb k_ Ao24 t443.length co24 ∧ nb k_ Ao25 t446.length co25 ∧ nb k_ Ao33 t457.length co33 ∧ nb k_ Ao34 t460.length co34 ∧ nb k_ Ao43 t472.length co43) (.slice Ao42 t469.length co42) t469) ∧ Aside0 (Kd.R k68 68 wc w.heap.size (fun k_ => nb k_ Ao24 t443.length co24 ∧ nb k_ Ao25 t446.length co25 ∧ nb k_ Ao33 t457.length co33 ∧ nb k_ Ao34 t460.length co34 ∧ nb k_ Ao42 t469.length co42) (.slice Ao43 t472.length co43) t472) ∧ Aside0 (Kd.Q (Kd.int .i64) 3 wc w.heap.size (fun k_ => nb k_ Ao26 t449.length co26 ∧ nb k_ Ao35 t463.length co35) (.slice Ao44 t475.length co44) t475) ∧ Aside0 (wc.heap[gb428]? = some (.cells #[.int .i64 a0_0, .int .i64 a0_1, (.slice A0_2 l0_2.length c0_2), (.slice A0_3 l0_3.length c0_3), (.slice A0_4 l0_4.length c0_4)] 25 (0, 0))) ∧ Aside0 (wc.heap[gb454]? = some (.cells #[.int .i64 t441, .int .i64 t442, (.slice Ao24 t443.length co24), (.slice Ao25 t446.length co25), (.slice Ao26 t449.length co26)] 30 (0, 0))) ∧ Aside0 (wc.heap[gb466]? = some (.cells #[.int .i64 t455, .int .i64 t456, (.slice Ao33 t457.length co33), (.slice Ao34 t460.length co34), (.slice Ao35 t463.length co35)] 30 (0, 0))) ∧ Aside0 (wc.heap[gb480]? = some (.cells #[.int .i64 t467, .int .i64 t468, (.slice Ao42 t469.length co42), (.slice Ao43 t472.length co43), (.slice Ao44 t475.length co44)] 30 (0, 0))) ∧ Aside0 (Below w.heap.size w wc))
    case first =>
     have H := HC77.out
     clear HC77
     by_cases c89 : t494 < 0
     ·rw [if_pos c89] at H
      have c89b0 : decide (t494 < 0) = true := decide_eq_true c89
      clear c89
      (first | rw [c89b0] | (simp only [i64_w, i32_w]; rw [c89b0]) | skip)
      have H' := Aside0.mk H
      clear H
      go_wp2
      go_meet
      case rel => exact ⟨_, (true), rs, H', ⟨by have := HJ10.out; first | omega | exact Nat.le_refl _⟩, ⟨rom HO_455002⟩, ⟨rom HO_455003⟩, ⟨by (with_reducible repeat (first | apply Kd.Q_alloc | apply Kd.Q_drewN | apply Kd.Q_drew)); exact Kd.Q_mono HO_455004.out (fun _ hk => ⟨hk.1, hk.2.1⟩)⟩, ⟨rom HO_467002⟩, ⟨rom HO_467003⟩, ⟨by (with_reducible repeat (first | apply Kd.Q_alloc | apply Kd.Q_drewN | apply Kd.Q_drew)); exact Kd.Q_mono HO_467004.out (fun _ hk => ⟨hk.1.1, hk.1.2⟩)⟩, ⟨rom HO_481002⟩, ⟨rom HO_481003⟩, ⟨by (with_reducible repeat (first | apply Kd.Q_alloc | apply Kd.Q_drewN | apply Kd.Q_drew)); exact Kd.Q_mono HO_481004.out (fun _ hk => ⟨hk.1, hk.2.1⟩)⟩, ⟨bk BK428⟩, ⟨bk BK454⟩, ⟨bk BK466⟩, ⟨bk BK480⟩, ⟨be4 HB GE428 GE454 GE466 GE480⟩⟩
     rw [if_neg c89] at H
     have c89b0 : decide (t494 < 0) = false := decide_eq_false c89
     clear c89
     (first | rw [c89b0] | (simp only [i64_w, i32_w]; rw [c89b0]) | skip)
     replace H := Option.bind_eq_some_iff.mp H
     obtain ⟨t498, A900, H⟩ := H
     try dsimp only at H
     have A90 := Aside0.mk A900
     clear A900
     by_cases c91 : t498 = true
     ·subst c91
      rw [if_pos rfl] at H
      by_cases c92 : t478.toList = t452.toList
      ·rw [if_pos c92] at H
       have c92b0 : (t478.toList == t452.toList) = true := beq_iff_eq.mpr c92
       have c92b1 : (t478.toList != t452.toList) = false := bne_eq_false_iff_eq.mpr c92
       clear c92
       have H' := Aside0.mk H
       clear H
       have hnb93 := NB480_428.out
       have hnc93 := NB428_480.out
       have hnb94 := NB480_454.out
       have hnc94 := NB454_480.out
       have hnb95 := NB480_466.out
       have hnc95 := NB466_480.out
       have hcz96_0 := bz5 BK480
       have hnb97 := NB454_428.out
       have hnc97 := NB428_454.out
       have hnb98 := NB454_466.out
       have hnc98 := NB466_454.out
       have hcz99_0 := bz5 BK454
       go_wp2_with (first | (go_at_call 20; (with_reducible refine (laws_eqThree.calls kj10 t467 t468 _ _ t469 _ _ t472 _ _ t475 t441 t442 _ _ t443 _ _ t446 _ _ t449 true _ (cr HO_481002) ((Kd.R_reads' HO_481002.out).2.1) (cr HO_481003) ((Kd.R_reads' HO_481003.out).2.1) ?side5 ?side6 (cr HO_455002) ((Kd.R_reads' HO_455002.out).2.1) (cr HO_455003) ((Kd.R_reads' HO_455003.out).2.1) ?side11 ?side12 A90.out).mono ?_); (case side5 => repeat (first | exact (Kd.Q_reads' HO_481004.out).2.2 | (with_reducible refine Kd.C_alloc ?_ _) | (with_reducible refine Kd.C_drewN ?_ _) | (with_reducible refine Kd.C_drew ?_))); (case side6 => exact (Kd.Q_reads' HO_481004.out).2.1); (case side11 => repeat (first | exact (Kd.Q_reads' HO_455004.out).2.2 | (with_reducible refine Kd.C_alloc ?_ _) | (with_reducible refine Kd.C_drewN ?_ _) | (with_reducible refine Kd.C_drew ?_))); (case side12 => exact (Kd.Q_reads' HO_455004.out).2.1); rintro e w100 ⟨rfl, hb⟩; replace HO_455002 := rb HO_455002 hb; replace HO_455003 := rb HO_455003 hb; replace HO_455004 := Aside0.mk (Kd.Q_below (by (with_reducible repeat (first | apply Kd.Q_alloc | apply Kd.Q_drewN | apply Kd.Q_drew)); exact HO_455004.out) hb); replace HO_467002 := rb HO_467002 hb; replace HO_467003 := rb HO_467003 hb; replace HO_467004 := Aside0.mk (Kd.Q_below (by (with_reducible repeat (first | apply Kd.Q_alloc | apply Kd.Q_drewN | apply Kd.Q_drew)); exact HO_467004.out) hb); replace HO_481002 := rb HO_481002 hb; replace HO_481003 := rb HO_481003 hb; replace HO_481004 := Aside0.mk (Kd.Q_below (by (with_reducible repeat (first | apply Kd.Q_alloc | apply Kd.Q_drewN | apply Kd.Q_drew)); exact HO_481004.out) hb); replace HO486 := rb HO486 hb; replace HO489 := rb HO489 hb; replace HO492 := rb HO492 hb; replace BK428 := bb BK428 hb; replace BK454 := bb BK454 hb; replace BK466 := bb BK466 hb; replace BK480 := bb BK480 hb; replace HB := Aside0.mk (below_step (be4 HB GE428 GE454 GE466 GE480) hb); (try clear hb)))
       go_meet
       case rel => exact ⟨_, ((t479 != t453)), rs, H', ⟨by have := HJ10.out; first | omega | exact Nat.le_refl _⟩, ⟨rom HO_455002⟩, ⟨rom HO_455003⟩, ⟨by (with_reducible repeat (first | apply Kd.Q_alloc | apply Kd.Q_drewN | apply Kd.Q_drew)); exact Kd.Q_mono HO_455004.out (fun _ hk => ⟨hk.1, hk.2.1⟩)⟩, ⟨rom HO_467002⟩, ⟨rom HO_467003⟩, ⟨by (with_reducible repeat (first | apply Kd.Q_alloc | apply Kd.Q_drewN | apply Kd.Q_drew)); exact Kd.Q_mono HO_467004.out (fun _ hk => ⟨hk.1.1, hk.1.2⟩)⟩, ⟨rom HO_481002⟩, ⟨rom HO_481003⟩, ⟨by (with_reducible repeat (first | apply Kd.Q_alloc | apply Kd.Q_drewN | apply Kd.Q_drew)); exact Kd.Q_mono HO_481004.out (fun _ hk => ⟨hk.1, hk.2.1⟩)⟩, ⟨bk BK428⟩, ⟨bk BK454⟩, ⟨bk BK466⟩, ⟨bk BK480⟩, ⟨be4 HB GE428 GE454 GE466 GE480⟩⟩
      rw [if_neg c92] at H
      have c92b0 : (t478.toList == t452.toList) = false := beq_eq_false_iff_ne.mpr c92
      have c92b1 : (t478.toList != t452.toList) = true := bne_iff_ne.mpr c92
      have H' := Aside0.mk H
      clear H
      have hnb101 := NB480_428.out
      have hnc101 := NB428_480.out
      have hnb102 := NB480_454.out
      have hnc102 := NB454_480.out
      have hnb103 := NB480_466.out
      have hnc103 := NB466_480.out
      have hcz104_0 := bz5 BK480
      have hnb105 := NB454_428.out
      have hnc105 := NB428_454.out
      have hnb106 := NB454_466.out
      have hnc106 := NB466_454.out
      have hcz107_0 := bz5 BK454
      go_wp2_with (first | (go_at_call 20; (with_reducible refine (laws_eqThree.calls kj10 t467 t468 _ _ t469 _ _ t472 _ _ t475 t441 t442 _ _ t443 _ _ t446 _ _ t449 true _ (cr HO_481002) ((Kd.R_reads' HO_481002.out).2.1) (cr HO_481003) ((Kd.R_reads' HO_481003.out).2.1) ?side5 ?side6 (cr HO_455002) ((Kd.R_reads' HO_455002.out).2.1) (cr HO_455003) ((Kd.R_reads' HO_455003.out).2.1) ?side11 ?side12 A90.out).mono ?_); (case side5 => repeat (first | exact (Kd.Q_reads' HO_481004.out).2.2 | (with_reducible refine Kd.C_alloc ?_ _) | (with_reducible refine Kd.C_drewN ?_ _) | (with_reducible refine Kd.C_drew ?_))); (case side6 => exact (Kd.Q_reads' HO_481004.out).2.1); (case side11 => repeat (first | exact (Kd.Q_reads' HO_455004.out).2.2 | (with_reducible refine Kd.C_alloc ?_ _) | (with_reducible refine Kd.C_drewN ?_ _) | (with_reducible refine Kd.C_drew ?_))); (case side12 => exact (Kd.Q_reads' HO_455004.out).2.1); rintro e w108 ⟨rfl, hb⟩; replace HO_455002 := rb HO_455002 hb; replace HO_455003 := rb HO_455003 hb; replace HO_455004 := Aside0.mk (Kd.Q_below (by (with_reducible repeat (first | apply Kd.Q_alloc | apply Kd.Q_drewN | apply Kd.Q_drew)); exact HO_455004.out) hb); replace HO_467002 := rb HO_467002 hb; replace HO_467003 := rb HO_467003 hb; replace HO_467004 := Aside0.mk (Kd.Q_below (by (with_reducible repeat (first | apply Kd.Q_alloc | apply Kd.Q_drewN | apply Kd.Q_drew)); exact HO_467004.out) hb); replace HO_481002 := rb HO_481002 hb; replace HO_481003 := rb HO_481003 hb; replace HO_481004 := Aside0.mk (Kd.Q_below (by (with_reducible repeat (first | apply Kd.Q_alloc | apply Kd.Q_drewN | apply Kd.Q_drew)); exact HO_481004.out) hb); replace HO486 := rb HO486 hb; replace HO489 := rb HO489 hb; replace HO492 := rb HO492 hb; replace BK428 := bb BK428 hb; replace BK454 := bb BK454 hb; replace BK466 := bb BK466 hb; replace BK480 := bb BK480 hb; replace HB := Aside0.mk (below_step (be4 HB GE428 GE454 GE466 GE480) hb); (try clear hb)))
      go_meet
      case rel => exact ⟨_, (true), rs, H', ⟨by have := HJ10.out; first | omega | exact Nat.le_refl _⟩, ⟨rom HO_455002⟩, ⟨rom HO_455003⟩, ⟨by (with_reducible repeat (first | apply Kd.Q_alloc | apply Kd.Q_drewN | apply Kd.Q_drew)); exact Kd.Q_mono HO_455004.out (fun _ hk => ⟨hk.1, hk.2.1⟩)⟩, ⟨rom HO_467002⟩, ⟨rom HO_467003⟩, ⟨by (with_reducible repeat (first | apply Kd.Q_alloc | apply Kd.Q_drewN | apply Kd.Q_drew)); exact Kd.Q_mono HO_467004.out (fun _ hk => ⟨hk.1.1, hk.1.2⟩)⟩, ⟨rom HO_481002⟩, ⟨rom HO_481003⟩, ⟨by (with_reducible repeat (first | apply Kd.Q_alloc | apply Kd.Q_drewN | apply Kd.Q_drew)); exact Kd.Q_mono HO_481004.out (fun _ hk => ⟨hk.1, hk.2.1⟩)⟩, ⟨bk BK428⟩, ⟨bk BK454⟩, ⟨bk BK466⟩, ⟨bk BK480⟩, ⟨be4 HB GE428 GE454 GE466 GE480⟩⟩
     replace c91 := Bool.eq_false_iff.mpr c91
     subst c91
     rw [if_neg (show ¬ (false = true) by decide)] at H
     have H' := Aside0.mk H
     clear H
     have hnb109 := NB480_428.out
     have hnc109 := NB428_480.out
     have hnb110 := NB480_454.out
     have hnc110 := NB454_480.out
     have hnb111 := NB480_466.out
     have hnc111 := NB466_480.out
     have hcz112_0 := bz5 BK480
     have hnb113 := NB454_428.out
     have hnc113 := NB428_454.out
     have hnb114 := NB454_466.out
     have hnc114 := NB466_454.out
     have hcz115_0 := bz5 BK454
     go_wp2_with (first | (go_at_call 20; (with_reducible refine (laws_eqThree.calls kj10 t467 t468 _ _ t469 _ _ t472 _ _ t475 t441 t442 _ _ t443 _ _ t446 _ _ t449 false _ (cr HO_481002) ((Kd.R_reads' HO_481002.out).2.1) (cr HO_481003) ((Kd.R_reads' HO_481003.out).2.1) ?side5 ?side6 (cr HO_455002) ((Kd.R_reads' HO_455002.out).2.1) (cr HO_455003) ((Kd.R_reads' HO_455003.out).2.1) ?side11 ?side12 A90.out).mono ?_); (case side5 => repeat (first | exact (Kd.Q_reads' HO_481004.out).2.2 | (with_reducible refine Kd.C_alloc ?_ _) | (with_reducible refine Kd.C_drewN ?_ _) | (with_reducible refine Kd.C_drew ?_))); (case side6 => exact (Kd.Q_reads' HO_481004.out).2.1); (case side11 => repeat (first | exact (Kd.Q_reads' HO_455004.out).2.2 | (with_reducible refine Kd.C_alloc ?_ _) | (with_reducible refine Kd.C_drewN ?_ _) | (with_reducible refine Kd.C_drew ?_))); (case side12 => exact (Kd.Q_reads' HO_455004.out).2.1); rintro e w116 ⟨rfl, hb⟩; replace HO_455002 := rb HO_455002 hb; replace HO_455003 := rb HO_455003 hb; replace HO_455004 := Aside0.mk (Kd.Q_below (by (with_reducible repeat (first | apply Kd.Q_alloc | apply Kd.Q_drewN | apply Kd.Q_drew)); exact HO_455004.out) hb); replace HO_467002 := rb HO_467002 hb; replace HO_467003 := rb HO_467003 hb; replace HO_467004 := Aside0.mk (Kd.Q_below (by (with_reducible repeat (first | apply Kd.Q_alloc | apply Kd.Q_drewN | apply Kd.Q_drew)); exact HO_467004.out) hb); replace HO_481002 := rb HO_481002 hb; replace HO_481003 := rb HO_481003 hb; replace HO_481004 := Aside0.mk (Kd.Q_below (by (with_reducible repeat (first | apply Kd.Q_alloc | apply Kd.Q_drewN | apply Kd.Q_drew)); exact HO_481004.out) hb); replace HO486 := rb HO486 hb; replace HO489 := rb HO489 hb; replace HO492 := rb HO492 hb; replace BK428 := bb BK428 hb; replace BK454 := bb BK454 hb; replace BK466 := bb BK466 hb; replace BK480 := bb BK480 hb; replace HB := Aside0.mk (below_step (be4 HB GE428 GE454 GE466 GE480) hb); (try clear hb)))
     go_meet
     case rel => exact ⟨_, (true), rs, H', ⟨by have := HJ10.out; first | omega | exact Nat.le_refl _⟩, ⟨rom HO_455002⟩, ⟨rom HO_455003⟩, ⟨by (with_reducible repeat (first | apply Kd.Q_alloc | apply Kd.Q_drewN | apply Kd.Q_drew)); exact Kd.Q_mono HO_455004.out (fun _ hk => ⟨hk.1, hk.2.1⟩)⟩, ⟨rom HO_467002⟩, ⟨rom HO_467003⟩, ⟨by (with_reducible repeat (first | apply Kd.Q_alloc | apply Kd.Q_drewN | apply Kd.Q_drew)); exact Kd.Q_mono HO_467004.out (fun _ hk => ⟨hk.1.1, hk.1.2⟩)⟩, ⟨rom HO_481002⟩, ⟨rom HO_481003⟩, ⟨by (with_reducible repeat (first | apply Kd.Q_alloc | apply Kd.Q_drewN | apply Kd.Q_drew)); exact Kd.Q_mono HO_481004.out (fun _ hk => ⟨hk.1, hk.2.1⟩)⟩, ⟨bk BK428⟩, ⟨bk BK454⟩, ⟨bk BK466⟩, ⟨bk BK480⟩, ⟨be4 HB GE428 GE454 GE466 GE480⟩⟩
    case rest =>
     clear HC77
     try clear c1; try clear c2; try clear p2; try clear c3; try clear c4; try clear c5; try clear c6; try clear c7; try clear c8; try clear c9; try clear c10; try clear c11; try clear c18; try clear c20; try clear c22; try clear c23; try clear c30; try clear c31; try clear c37; try clear c38; try clear c39; try clear c40; try clear c46; try clear c47; try clear c47b0; try clear c47b1; try clear c48; try clear c49; try clear c50; try clear c52; try clear c53; try clear c56; try clear c57; try clear c58; try clear c60; try clear c61; try clear c64; try clear c65; try clear c66; try clear c68; try clear c69; try clear c72; try clear c75; try clear c84; try clear c85; try clear c86; try clear c89; try clear c89b0; try clear c91; try clear c92; try clear c92b0; try clear c92b1; try clear c93; try clear c94; try clear c95; try clear c97; try clear c98; try clear c101; try clear c102; try clear c103; try clear c105; try clear c106; try clear c109; try clear c110; try clear c111; try clear c113; try clear c114; try clear hcz104_0; try clear hcz107_0; try clear hcz112_0; try clear hcz115_0; try clear hcz13_0; try clear hcz15_0; try clear hcz23_0; try clear hcz27_0; try clear hcz32_0; try clear hcz41_0; try clear hcz51_0; try clear hcz54_0; try clear hcz59_0; try clear hcz5_0; try clear hcz62_0; try clear hcz67_0; try clear hcz70_0; try clear hcz87_0; try clear hcz96_0; try clear hcz99_0
     obtain ⟨kq, x76_76, rfl, HA, HJ76, HO_455002, HO_455003, HO_455004, HO_467002, HO_467003, HO_467004, HO_481002, HO_481003, HO_481004, BK428, BK454, BK466, BK480, HB⟩ := hcut
     have hl467002_76 := (Kd.R_reads' HO_467002.out).1
     rw [hl467002_76] at HO_467002
     (try simp only [hl467002_76])
     (try simp only [hl467002_76] at BK428)
     (try simp only [hl467002_76] at BK454)
     (try simp only [hl467002_76] at BK466)
     (try simp only [hl467002_76] at BK480)
     (try simp only [hl467002_76] at HO_455002)
     (try simp only [hl467002_76] at HO_455003)
     (try simp only [hl467002_76] at HO_455004)
     (try simp only [hl467002_76] at HO_467003)
     (try simp only [hl467002_76] at HO_467004)
     (try simp only [hl467002_76] at HO_481002)
     (try simp only [hl467002_76] at HO_481003)
     (try simp only [hl467002_76] at HO_481004)
     have hl467003_76 := (Kd.R_reads' HO_467003.out).1
     rw [hl467003_76] at HO_467003
     (try simp only [hl467003_76])
     (try simp only [hl467003_76] at BK428)
     (try simp only [hl467003_76] at BK454)
     (try simp only [hl467003_76] at BK466)
     (try simp only [hl467003_76] at BK480)
     (try simp only [hl467003_76] at HO_455002)
     (try simp only [hl467003_76] at HO_455003)
     (try simp only [hl467003_76] at HO_455004)
     (try simp only [hl467003_76] at HO_467002)
     (try simp only [hl467003_76] at HO_467004)
     (try simp only [hl467003_76] at HO_481002)
     (try simp only [hl467003_76] at HO_481003)
     (try simp only [hl467003_76] at HO_481004)
     have hl467004_76 := (Kd.Q_reads' HO_467004.out).1
     rw [hl467004_76] at HO_467004
     (try simp only [hl467004_76])
     (try simp only [hl467004_76] at BK428)
     (try simp only [hl467004_76] at BK454)
     (try simp only [hl467004_76] at BK466)
     (try simp only [hl467004_76] at BK480)
     (try simp only [hl467004_76] at HO_455002)
     (try simp only [hl467004_76] at HO_455003)
     (try simp only [hl467004_76] at HO_455004)
     (try simp only [hl467004_76] at HO_467002)
     (try simp only [hl467004_76] at HO_467003)
     (try simp only [hl467004_76] at HO_481002)
     (try simp only [hl467004_76] at HO_481003)
     (try simp only [hl467004_76] at HO_481004)
     cases kq with
     | zero => exact absurd HA.out (by simp [laws_FnExactEvictSmall.j1])
     | succ kj76 =>
      have H := HA.out
      clear HA
      simp only [laws_FnExactEvictSmall.j1] at H
      by_cases c117 : x76_76 = true
      ·subst c117
       rw [if_pos rfl] at H
       exact absurd ((Option.some.inj H).trans hrt_.out) (by decide)
      replace c117 := Bool.eq_false_iff.mpr c117
      subst c117
      rw [if_neg (show ¬ (false = true) by decide)] at H
      replace H := Option.bind_eq_some_iff.mp H
      obtain ⟨⟨t499, t500, t501, t502⟩, A1180, H⟩ := H
      try dsimp only at H
      have A118 := Aside0.mk A1180
      clear A1180
      replace H := Option.bind_eq_some_iff.mp H
      obtain ⟨t503, A1190, H⟩ := H
      try dsimp only at H
      have A119 := Aside0.mk A1190
      clear A1190
      by_cases c120 : t503 < 0
      ·rw [if_pos c120] at H
       have c120b0 : decide (t503 < 0) = true := decide_eq_true c120
       clear c120
       exact absurd ((Option.some.inj H).trans hrt_.out) (by decide)
      rw [if_neg c120] at H
      have c120b0 : decide (t503 < 0) = false := decide_eq_false c120
      clear c120
      by_cases c121 : t503 = t499
      ·rw [if_pos c121] at H
       have c121b0 : (t503 == t499) = true := beq_iff_eq.mpr c121
       have c121b1 : (t503 != t499) = false := bne_eq_false_iff_eq.mpr c121
       clear c121
       replace H := Option.bind_eq_some_iff.mp H
       obtain ⟨⟨t504, t505, t506, t509, t512⟩, A1220, H⟩ := H
       try dsimp only at H
       have A122 := Aside0.mk A1220
       clear A1220
       replace H := Option.bind_eq_some_iff.mp H
       obtain ⟨⟨t515, t516, t517, t520, t523, t526, t527⟩, A1230, H⟩ := H
       try dsimp only at H
       have A123 := Aside0.mk A1230
       clear A1230
       have HC124 := Aside0.mk H
       clear H
       have hnb125 := NB480_428.out
       have hnc125 := NB428_480.out
       have hnb126 := NB480_454.out
       have hnc126 := NB454_480.out
       have hnb127 := NB480_466.out
       have hnc127 := NB466_480.out
       have hcz128_0 := bz5 BK480
       go_upto_region 25 with (first | ((with_reducible refine gate_callee (f := 23) rfl ?_); refine gl 79 Try.func23 #[.agg #[.int .i64 t467, .int .i64 t468, .slice Ao42 t469.length co42, .slice Ao43 t472.length co43, .slice Ao44 t475.length co44], .int .i64 1] ?_; (with_reducible refine (laws_markThree.calls kj76 t467 t468 (fun k_ => some k_ = (.slice Ao42 t469.length co42 : Value).ownBlock) (.slice Ao42 t469.length co42) t469 (fun k_ => some k_ = (.slice Ao43 t472.length co43 : Value).ownBlock) (.slice Ao43 t472.length co43) t472 (fun k_ => some k_ = (.slice Ao44 t475.length co44 : Value).ownBlock) (.slice Ao44 t475.length co44) t475 1 t499 t500 t501 t502 w _ ?side1 ?side2 ?side3 ?side4 ?side5 ?side6 A118.out).mono ?_); (case side1 => repeat (first | (with_reducible first | exact HB.out | apply below_alloc | apply pw_below_drewN | apply below_drew1 | refine below_set ?_ GE428.out | refine below_set ?_ GE454.out | refine below_set ?_ GE466.out | refine below_set ?_ GE480.out) | exact HB.out)); (case side2 => exact Kd.R_tight rfl HO_481002.out); (case side3 => exact fun k_ e_ => (HO_481002.out.1 k_ e_.symm).2.2.2.2); (case side4 => exact Kd.R_tight rfl HO_481003.out); (case side5 => exact fun k_ e_ => (HO_481003.out.1 k_ e_.symm).2.2.2.2); (case side6 => exact Kd.Q_tight rfl HO_481004.out); rintro e w129 ⟨rfl, hy0, hy1, hy2, hb, hkp⟩; refine ⟨_, rfl, ?_⟩; replace HO_455002 := Aside0.mk (Kd.R_mono (ok' := fun k_ => nb k_ Ao25 t446.length co25 ∧ nb k_ Ao33 t495.length co33 ∧ nb k_ Ao34 t496.length co34 ∧ nb k_ Ao42 t469.length co42 ∧ nb k_ Ao43 t472.length co43) (Kd.R_keptB ((Kd.R_apart' HO_455002.out (Kd.Q_typed HO_481004.out) (by decide))) hkp (fun k_ hk_ hs_ => Or.elim hs_ (fun e_ => (hk_.1.2.2.2.1) e_) (fun e_ => Or.elim e_ (fun e_ => (hk_.1.2.2.2.2) e_) (fun e_ => (hk_.2) e_)))) cj); replace HO_455003 := Aside0.mk (Kd.R_mono (ok' := fun k_ => nb k_ Ao24 t443.length co24 ∧ nb k_ Ao33 t495.length co33 ∧ nb k_ Ao34 t496.length co34 ∧ nb k_ Ao42 t469.length co42 ∧ nb k_ Ao43 t472.length co43) (Kd.R_keptB ((Kd.R_apart' HO_455003.out (Kd.Q_typed HO_481004.out) (by decide))) hkp (fun k_ hk_ hs_ => Or.elim hs_ (fun e_ => (hk_.1.2.2.2.1) e_) (fun e_ => Or.elim e_ (fun e_ => (hk_.1.2.2.2.2) e_) (fun e_ => (hk_.2) e_)))) cj); replace HO_455004 := Aside0.mk (Kd.Q_mono (ok' := fun k_ => nb k_ Ao35 t497.length co35 ∧ nb k_ Ao44 t475.length co44) (Kd.Q_keptB ((Kd.Q_apart' (Kd.Q_apart' HO_455004.out (Kd.R_typed HO_481002.out) (by decide)) (Kd.R_typed HO_481003.out) (by decide))) hkp (fun k_ hk_ hs_ => Or.elim hs_ (fun e_ => (hk_.1.2) e_) (fun e_ => Or.elim e_ (fun e_ => (hk_.2) e_) (fun e_ => (hk_.1.1.2) e_)))) cj); replace HO_467002 := Aside0.mk (Kd.R_mono (ok' := fun k_ => nb k_ Ao24 t443.length co24 ∧ nb k_ Ao25 t446.length co25 ∧ nb k_ Ao34 t496.length co34 ∧ nb k_ Ao42 t469.length co42 ∧ nb k_ Ao43 t472.length co43) (Kd.R_keptB ((Kd.R_apart' HO_467002.out (Kd.Q_typed HO_481004.out) (by decide))) hkp (fun k_ hk_ hs_ => Or.elim hs_ (fun e_ => (hk_.1.2.2.2.1) e_) (fun e_ => Or.elim e_ (fun e_ => (hk_.1.2.2.2.2) e_) (fun e_ => (hk_.2) e_)))) cj); replace HO_467003 := Aside0.mk (Kd.R_mono (ok' := fun k_ => nb k_ Ao24 t443.length co24 ∧ nb k_ Ao25 t446.length co25 ∧ nb k_ Ao33 t495.length co33 ∧ nb k_ Ao42 t469.length co42 ∧ nb k_ Ao43 t472.length co43) (Kd.R_keptB ((Kd.R_apart' HO_467003.out (Kd.Q_typed HO_481004.out) (by decide))) hkp (fun k_ hk_ hs_ => Or.elim hs_ (fun e_ => (hk_.1.2.2.2.1) e_) (fun e_ => Or.elim e_ (fun e_ => (hk_.1.2.2.2.2) e_) (fun e_ => (hk_.2) e_)))) cj); replace HO_467004 := Aside0.mk (Kd.Q_mono (ok' := fun k_ => nb k_ Ao26 t449.length co26 ∧ nb k_ Ao44 t475.length co44) (Kd.Q_keptB ((Kd.Q_apart' (Kd.Q_apart' HO_467004.out (Kd.R_typed HO_481002.out) (by decide)) (Kd.R_typed HO_481003.out) (by decide))) hkp (fun k_ hk_ hs_ => Or.elim hs_ (fun e_ => (hk_.1.2) e_) (fun e_ => Or.elim e_ (fun e_ => (hk_.2) e_) (fun e_ => (hk_.1.1.2) e_)))) cj); replace BK428 := Aside0.mk (blk_kept (bk BK428) hkp (fun hs_ => Or.elim hs_ (fun e_ => (fun e_ => (Kd.R_ne HO_481002.out BK428.out (by decide)) e_) e_) (fun e_ => Or.elim e_ (fun e_ => (fun e_ => (Kd.R_ne HO_481003.out BK428.out (by decide)) e_) e_) (fun e_ => (fun e_ => (Kd.Q_ne HO_481004.out BK428.out (by decide)) e_) e_)))); replace BK454 := Aside0.mk (blk_kept (bk BK454) hkp (fun hs_ => Or.elim hs_ (fun e_ => (fun e_ => (Kd.R_ne HO_481002.out BK454.out (by decide)) e_) e_) (fun e_ => Or.elim e_ (fun e_ => (fun e_ => (Kd.R_ne HO_481003.out BK454.out (by decide)) e_) e_) (fun e_ => (fun e_ => (Kd.Q_ne HO_481004.out BK454.out (by decide)) e_) e_)))); replace BK466 := Aside0.mk (blk_kept (bk BK466) hkp (fun hs_ => Or.elim hs_ (fun e_ => (fun e_ => (Kd.R_ne HO_481002.out BK466.out (by decide)) e_) e_) (fun e_ => Or.elim e_ (fun e_ => (fun e_ => (Kd.R_ne HO_481003.out BK466.out (by decide)) e_) e_) (fun e_ => (fun e_ => (Kd.Q_ne HO_481004.out BK466.out (by decide)) e_) e_)))); replace BK480 := Aside0.mk (blk_kept (bk BK480) hkp (fun hs_ => Or.elim hs_ (fun e_ => (fun e_ => (Kd.R_ne HO_481002.out BK480.out (by decide)) e_) e_) (fun e_ => Or.elim e_ (fun e_ => (fun e_ => (Kd.R_ne HO_481003.out BK480.out (by decide)) e_) e_) (fun e_ => (fun e_ => (Kd.Q_ne HO_481004.out BK480.out (by decide)) e_) e_)))); replace HO_481002 := Aside0.mk (Kd.R_reok rfl hy0 (fun k_ e_ => HO_481002.out.1 k_ e_)); replace HO_481003 := Aside0.mk (Kd.R_reok rfl hy1 (fun k_ e_ => HO_481003.out.1 k_ e_)); replace HO_481004 := Aside0.mk (Kd.Q_mono (Kd.Q_tight rfl hy2) (fun k_ e_ => HO_481004.out.1 k_ e_.symm)); replace HB := Aside0.mk (hb); (try clear hb); (try clear hkp); (try clear hy0); (try clear hy1); (try clear hy2); have hcz130_0 := bz5 BK480) | ((with_reducible refine gate_callee (f := 24) rfl ?_); refine goesL_ (some 82) rfl rfl Try.func24 (by kernel_rfl) rfl #[.agg #[.int .i64 t467, .int .i64 t468, .slice Ao42 t500.length co42, .slice Ao43 t501.length co43, .slice Ao44 t502.length co44], .int .i64 1] rfl (by (try simp only [List.map_toArray, List.map_cons, List.map_nil]); first | done | (rw [show t500.length = t469.length from (Kd.R_reads' HO_481002.out).1.symm, show t501.length = t472.length from (Kd.R_reads' HO_481003.out).1.symm, show t502.length = t475.length from (Kd.Q_reads' HO_481004.out).1.symm] <;> rfl) | rfl | (simp only [List.length_drop, List.length_take]; rfl)) ?_; (with_reducible refine (laws_heldThree.calls kj76 t467 t468 _ _ t500 _ _ t501 _ _ t502 1 t503 _ (cr HO_481002) ?side2 (cr HO_481003) ?side4 ?side5 ?side6 A119.out).mono ?_); (case side2 => rw [show t500.length = t469.length from (Kd.R_reads' HO_481002.out).1.symm]; exact (Kd.R_reads' HO_481002.out).2.1); (case side4 => rw [show t501.length = t472.length from (Kd.R_reads' HO_481003.out).1.symm]; exact (Kd.R_reads' HO_481003.out).2.1); (case side5 => repeat (first | exact (Kd.Q_reads' HO_481004.out).2.2 | (with_reducible refine Kd.C_alloc ?_ _) | (with_reducible refine Kd.C_drewN ?_ _) | (with_reducible refine Kd.C_drew ?_))); (case side6 => rw [show t502.length = t475.length from (Kd.Q_reads' HO_481004.out).1.symm]; exact (Kd.Q_reads' HO_481004.out).2.1); rintro e w131 ⟨rfl, hb⟩; refine ⟨_, rfl, ?_⟩; replace HO_455002 := rb HO_455002 hb; replace HO_455003 := rb HO_455003 hb; replace HO_455004 := Aside0.mk (Kd.Q_below (by (with_reducible repeat (first | apply Kd.Q_alloc | apply Kd.Q_drewN | apply Kd.Q_drew)); exact HO_455004.out) hb); replace HO_467002 := rb HO_467002 hb; replace HO_467003 := rb HO_467003 hb; replace HO_467004 := Aside0.mk (Kd.Q_below (by (with_reducible repeat (first | apply Kd.Q_alloc | apply Kd.Q_drewN | apply Kd.Q_drew)); exact HO_467004.out) hb); replace HO_481002 := rb HO_481002 hb; replace HO_481003 := rb HO_481003 hb; replace HO_481004 := Aside0.mk (Kd.Q_below (by (with_reducible repeat (first | apply Kd.Q_alloc | apply Kd.Q_drewN | apply Kd.Q_drew)); exact HO_481004.out) hb); replace BK428 := bb BK428 hb; replace BK454 := bb BK454 hb; replace BK466 := bb BK466 hb; replace BK480 := bb BK480 hb; replace HB := Aside0.mk (below_step (be4 HB GE428 GE454 GE466 GE480) hb); (try clear hb); have hnb132 := NB428_454.out; have hnc132 := NB454_428.out; have hnb133 := NB428_466.out; have hnc133 := NB466_428.out; have hcz134_0 := bz5 BK428) | ((with_reducible refine gate_callee (f := 18) rfl ?_); refine gl 90 Try.func18 #[.agg #[.int .i64 a0_0, .int .i64 a0_1, .slice A0_2 l0_2.length c0_2, .slice A0_3 l0_3.length c0_3, .slice A0_4 l0_4.length c0_4]] ?_; (with_reducible refine (laws_toThree.calls kj76 a0_0 a0_1 _ _ l0_2 _ _ l0_3 _ _ l0_4 t504 t505 t506 t509 t512 _ (cb HR0_2 HB) HC0_2.out (cb HR0_3 HB) HC0_3.out (cb HR0_4 HB) HC0_4.out A122.out).mono ?_); rintro e w135 ⟨v507, v510, v513, rfl, ho0, ho1, ho2, hb⟩; refine ⟨_, rfl, ?_⟩; have HO508 := Aside0.mk (Kd.R_lower (nw (nw (nw (nw (nw (nw ho0 HO_455002) HO_455003) HO_467002) HO_467003) HO_481002) HO_481003) (below_size (be4 HB GE428 GE454 GE466 GE480))); have HO511 := Aside0.mk (Kd.R_lower (nw (nw (nw (nw (nw (nw ho1 HO_455002) HO_455003) HO_467002) HO_467003) HO_481002) HO_481003) (below_size (be4 HB GE428 GE454 GE466 GE480))); replace HO_455002 := td2 (ro HO_455002) hb ho0 ho1; replace HO_455003 := td2 (ro HO_455003) hb ho0 ho1; replace HO_467002 := td2 (ro HO_467002) hb ho0 ho1; replace HO_467003 := td2 (ro HO_467003) hb ho0 ho1; replace HO_481002 := td2 (ro HO_481002) hb ho0 ho1; replace HO_481003 := td2 (ro HO_481003) hb ho0 ho1; have HO514 := Aside0.mk (Kd.R_lower (Kd.R_new' (Kd.R_new' (Kd.R_new' ho2 (Kd.Q_lt (by (with_reducible repeat (first | apply Kd.Q_alloc | apply Kd.Q_drewN | apply Kd.Q_drew)); exact HO_455004.out))) (Kd.Q_lt (by (with_reducible repeat (first | apply Kd.Q_alloc | apply Kd.Q_drewN | apply Kd.Q_drew)); exact HO_467004.out))) (Kd.Q_lt (by (with_reducible repeat (first | apply Kd.Q_alloc | apply Kd.Q_drewN | apply Kd.Q_drew)); exact HO_481004.out))) (below_size (be4 HB GE428 GE454 GE466 GE480))); replace HO_455004 := Aside0.mk (Kd.Q_elder' (by (with_reducible repeat (first | apply Kd.Q_alloc | apply Kd.Q_drewN | apply Kd.Q_drew)); exact HO_455004.out) (Kd.R_base ho2) hb); replace HO_467004 := Aside0.mk (Kd.Q_elder' (by (with_reducible repeat (first | apply Kd.Q_alloc | apply Kd.Q_drewN | apply Kd.Q_drew)); exact HO_467004.out) (Kd.R_base ho2) hb); replace HO_481004 := Aside0.mk (Kd.Q_elder' (by (with_reducible repeat (first | apply Kd.Q_alloc | apply Kd.Q_drewN | apply Kd.Q_drew)); exact HO_481004.out) (Kd.R_base ho2) hb); replace BK428 := bb BK428 hb; replace BK454 := bb BK454 hb; replace BK466 := bb BK466 hb; replace BK480 := bb BK480 hb; replace HB := Aside0.mk (below_step (be4 HB GE428 GE454 GE466 GE480) hb); (try clear hb); (try clear ho0); (try clear ho1); (try clear ho2); obtain ⟨Ao136, co136, eo136⟩ := Kd.R_slice HO508.out; subst eo136; obtain ⟨Ao137, co137, eo137⟩ := Kd.R_slice HO511.out; subst eo137; obtain ⟨Ao138, co138, eo138⟩ := Kd.R_slice HO514.out; subst eo138) | ((with_reducible refine gate_callee (f := 38) rfl ?_); refine gl 91 Try.func38 #[.agg #[.int .i64 t504, .int .i64 t505, .slice Ao136 t506.length co136, .slice Ao137 t509.length co137, .slice Ao138 t512.length co138]] ?_; (with_reducible refine (impl_EvictSmall.calls kj76 t504 t505 _ _ t506 _ _ t509 _ _ t512 t515 t516 t517 t520 t523 t526 t527 _ (cr HO508) ((Kd.R_reads' HO508.out).2.1) (cr HO511) ((Kd.R_reads' HO511.out).2.1) (cr HO514) ((Kd.R_reads' HO514.out).2.1) A123.out).mono ?_); rintro e w139 ⟨v518, v521, v524, rfl, ho0, ho1, ho2, hb⟩; refine ⟨_, rfl, ?_⟩; have HO519 := Aside0.mk (Kd.R_lower (nw (nw (nw (nw (nw (nw (nw (nw ho0 HO_455002) HO_455003) HO_467002) HO_467003) HO_481002) HO_481003) HO508) HO511) (below_size (be4 HB GE428 GE454 GE466 GE480))); have HO522 := Aside0.mk (Kd.R_lower (nw (nw (nw (nw (nw (nw (nw (nw ho1 HO_455002) HO_455003) HO_467002) HO_467003) HO_481002) HO_481003) HO508) HO511) (below_size (be4 HB GE428 GE454 GE466 GE480))); replace HO_455002 := td2 (ro HO_455002) hb ho0 ho1; replace HO_455003 := td2 (ro HO_455003) hb ho0 ho1; replace HO_467002 := td2 (ro HO_467002) hb ho0 ho1; replace HO_467003 := td2 (ro HO_467003) hb ho0 ho1; replace HO_481002 := td2 (ro HO_481002) hb ho0 ho1; replace HO_481003 := td2 (ro HO_481003) hb ho0 ho1; replace HO508 := td2 (ro HO508) hb ho0 ho1; replace HO511 := td2 (ro HO511) hb ho0 ho1; have HO525 := Aside0.mk (Kd.R_lower (nw (Kd.R_new' (Kd.R_new' (Kd.R_new' ho2 (Kd.Q_lt (by (with_reducible repeat (first | apply Kd.Q_alloc | apply Kd.Q_drewN | apply Kd.Q_drew)); exact HO_455004.out))) (Kd.Q_lt (by (with_reducible repeat (first | apply Kd.Q_alloc | apply Kd.Q_drewN | apply Kd.Q_drew)); exact HO_467004.out))) (Kd.Q_lt (by (with_reducible repeat (first | apply Kd.Q_alloc | apply Kd.Q_drewN | apply Kd.Q_drew)); exact HO_481004.out))) HO514) (below_size (be4 HB GE428 GE454 GE466 GE480))); replace HO_455004 := Aside0.mk (Kd.Q_elder' (by (with_reducible repeat (first | apply Kd.Q_alloc | apply Kd.Q_drewN | apply Kd.Q_drew)); exact HO_455004.out) (Kd.R_base ho2) hb); replace HO_467004 := Aside0.mk (Kd.Q_elder' (by (with_reducible repeat (first | apply Kd.Q_alloc | apply Kd.Q_drewN | apply Kd.Q_drew)); exact HO_467004.out) (Kd.R_base ho2) hb); replace HO_481004 := Aside0.mk (Kd.Q_elder' (by (with_reducible repeat (first | apply Kd.Q_alloc | apply Kd.Q_drewN | apply Kd.Q_drew)); exact HO_481004.out) (Kd.R_base ho2) hb); replace HO514 := Aside0.mk (Kd.R_elder' (ro HO514) (Kd.R_base ho2) hb); replace BK428 := bb BK428 hb; replace BK454 := bb BK454 hb; replace BK466 := bb BK466 hb; replace BK480 := bb BK480 hb; replace HB := Aside0.mk (below_step (be4 HB GE428 GE454 GE466 GE480) hb); (try clear hb); (try clear ho0); (try clear ho1); (try clear ho2)) | ((with_reducible refine gate_dst (N := 14) rfl ?_); refine bx 14 #[.int .i64 0, .int .i64 0, .slice none 0 0, .slice none 0 0, .slice none 0 0] 30 ?_; intro gb528 hg w140 hbox hb; replace HO_455002 := rb HO_455002 hb; replace HO_455003 := rb HO_455003 hb; replace HO_455004 := Aside0.mk (Kd.Q_below (by (with_reducible repeat (first | apply Kd.Q_alloc | apply Kd.Q_drewN | apply Kd.Q_drew)); exact HO_455004.out) hb); replace HO_467002 := rb HO_467002 hb; replace HO_467003 := rb HO_467003 hb; replace HO_467004 := Aside0.mk (Kd.Q_below (by (with_reducible repeat (first | apply Kd.Q_alloc | apply Kd.Q_drewN | apply Kd.Q_drew)); exact HO_467004.out) hb); replace HO_481002 := rb HO_481002 hb; replace HO_481003 := rb HO_481003 hb; replace HO_481004 := Aside0.mk (Kd.Q_below (by (with_reducible repeat (first | apply Kd.Q_alloc | apply Kd.Q_drewN | apply Kd.Q_drew)); exact HO_481004.out) hb); replace HO508 := rb HO508 hb; replace HO511 := rb HO511 hb; replace HO514 := rb HO514 hb; replace HO519 := rb HO519 hb; replace HO522 := rb HO522 hb; replace HO525 := rb HO525 hb; have BK528 := am hbox; have GW528 := Aside0.mk ((by rw [hg]; exact (below_size (be4 HB GE428 GE454 GE466 GE480)) : w.heap.size ≤ gb528)); have GE528 := Aside0.mk ((by rw [hg]; exact (below_size (be4 HB GE428 GE454 GE466 GE480)) : w.heap.size ≤ gb528)); replace HB := Aside0.mk (below_step (be4 HB GE428 GE454 GE466 GE480) hb); have NB428_528 := Aside0.mk ((by rw [hg]; exact Nat.ne_of_lt (bl BK428) : gb428 ≠ gb528)); have NB528_428 := Aside0.mk ((by rw [hg]; exact Nat.ne_of_gt (bl BK428) : gb528 ≠ gb428)); replace BK428 := bb BK428 hb; have NB454_528 := Aside0.mk ((by rw [hg]; exact Nat.ne_of_lt (bl BK454) : gb454 ≠ gb528)); have NB528_454 := Aside0.mk ((by rw [hg]; exact Nat.ne_of_gt (bl BK454) : gb528 ≠ gb454)); replace BK454 := bb BK454 hb; have NB466_528 := Aside0.mk ((by rw [hg]; exact Nat.ne_of_lt (bl BK466) : gb466 ≠ gb528)); have NB528_466 := Aside0.mk ((by rw [hg]; exact Nat.ne_of_gt (bl BK466) : gb528 ≠ gb466)); replace BK466 := bb BK466 hb; have NB480_528 := Aside0.mk ((by rw [hg]; exact Nat.ne_of_lt (bl BK480) : gb480 ≠ gb528)); have NB528_480 := Aside0.mk ((by rw [hg]; exact Nat.ne_of_gt (bl BK480) : gb528 ≠ gb480)); replace BK480 := bb BK480 hb; clear hb hbox hg; have hnb141 := NB528_428.out; have hnc141 := NB428_528.out; have hnb142 := NB528_454.out; have hnc142 := NB454_528.out; have hnb143 := NB528_466.out; have hnc143 := NB466_528.out; have hnb144 := NB528_480.out; have hnc144 := NB480_528.out; have hcz145_0 := bz5 BK528; obtain ⟨Ao146, co146, eo146⟩ := Kd.R_slice HO519.out; subst eo146; obtain ⟨Ao147, co147, eo147⟩ := Kd.R_slice HO522.out; subst eo147; obtain ⟨Ao148, co148, eo148⟩ := Kd.R_slice HO525.out; subst eo148))
       (try simp only [Act.put, List.setIfInBounds_toArray, List.set_cons_zero, List.set_cons_succ])
       go_cut [108] (fun v108 wc => ∃ (kq : Nat) (x108_123 : Bool), v108 = .bool x108_123 ∧ Aside0 (laws_FnExactEvictSmall.j2 kq t499 x108_123 t467 t468 t500 t501 t502 = some r) ∧ Aside0 (kq ≤ kj76) ∧ Aside0 (Kd.R k68 68 wc w.heap.size (fun k_ => nb k_ Ao25 t446.length co25 ∧ nb k_ Ao33 t495.length co33 ∧ nb k_ Ao34 t496.length co34 ∧ nb k_ Ao42 t469.length co42 ∧ nb k_ Ao43 t472.length co43 ∧ nb k_ Ao146 t517.length co146 ∧ nb k_ Ao147 t520.length co147) (.slice Ao24 t443.length co24) t443) ∧ Aside0 (Kd.R k68 68 wc w.heap.size (fun k_ => nb k_ Ao24 t443.length co24 ∧ nb k_ Ao33 t495.length co33 ∧ nb k_ Ao34 t496.length co34 ∧ nb k_ Ao42 t469.length co42 ∧ nb k_ Ao43 t472.length co43 ∧ nb k_ Ao146 t517.length co146 ∧ nb k_ Ao147 t520.length co147) (.slice Ao25 t446.length co25) t446) ∧ Aside0 (Kd.Q (Kd.int .i64) 3 wc w.heap.size (fun k_ => nb k_ Ao35 t497.length co35 ∧ nb k_ Ao44 t475.length co44 ∧ nb k_ Ao148 t523.length co148) (.slice Ao26 t449.length co26) t449) ∧ Aside0 (Kd.R k68 68 wc w.heap.size (fun k_ => nb k_ Ao24 t443.length co24 ∧ nb k_ Ao25 t446.length co25 ∧ nb k_ Ao34 t496.length co34 ∧ nb k_ Ao42 t469.length co42 ∧ nb k_ Ao43 t472.length co43 ∧ nb k_ Ao146 t517.length co146 ∧ nb k_ Ao147 t520.length co147) (.slice Ao33 t495.length co33) t495) ∧ Aside0 (Kd.R k68 68 wc w.heap.size (fun k_ => nb k_ Ao24 t443.length co24 ∧ nb k_ Ao25 t446.length co25 ∧ nb k_ Ao33 t495.length co33 ∧ nb k_ Ao42 t469.length co42 ∧ nb k_ Ao43 t472.length co43 ∧ nb k_ Ao146 t517.length co146 ∧ nb k_ Ao147 t520.length co147) (.slice Ao34 t496.length co34) t496) ∧ Aside0 (Kd.Q (Kd.int .i64) 3 wc w.heap.size (fun k_ => nb k_ Ao26 t449.length co26 ∧ nb k_ Ao44 t475.length co44 ∧ nb k_ Ao148 t523.length co148) (.slice Ao35 t497.length co35) t497) ∧ Aside0 (Kd.R k68 68 wc w.heap.size (fun k_ => nb k_ Ao24 t443.length co24 ∧ nb k_ Ao25 t446.length co25 ∧ nb k_ Ao33 t495.length co33 ∧ nb k_ Ao34 t496.length co34 ∧ nb k_ Ao43 t472.length co43 ∧ nb k_ Ao146 t517.length co146 ∧ nb k_ Ao147 t520.length co147) (.slice Ao42 t469.length co42) t500) ∧ Aside0 (Kd.R k68 68 wc w.heap.size (fun k_ => nb k_ Ao24 t443.length co24 ∧ nb k_ Ao25 t446.length co25 ∧ nb k_ Ao33 t495.length co33 ∧ nb k_ Ao34 t496.length co34 ∧ nb k_ Ao42 t469.length co42 ∧ nb k_ Ao146 t517.length co146 ∧ nb k_ Ao147 t520.length co147) (.slice Ao43 t472.length co43) t501) ∧ Aside0 (Kd.Q (Kd.int .i64) 3 wc w.heap.size (fun k_ => nb k_ Ao26 t449.length co26 ∧ nb k_ Ao35 t497.length co35 ∧ nb k_ Ao148 t523.length co148) (.slice Ao44 t475.length co44) t502) ∧ Aside0 (Kd.R k68 68 wc w.heap.size (fun k_ => nb k_ Ao24 t443.length co24 ∧ nb k_ Ao25 t446.length co25 ∧ nb k_ Ao33 t495.length co33 ∧ nb k_ Ao34 t496.length co34 ∧ nb k_ Ao42 t469.length co42 ∧ nb k_ Ao43 t472.length co43 ∧ nb k_ Ao147 t520.length co147) (.slice Ao146 t517.length co146) t517) ∧ Aside0 (Kd.R k68 68 wc w.heap.size (fun k_ => nb k_ Ao24 t443.length co24 ∧ nb k_ Ao25 t446.length co25 ∧ nb k_ Ao33 t495.length co33 ∧ nb k_ Ao34 t496.length co34 ∧ nb k_ Ao42 t469.length co42 ∧ nb k_ Ao43 t472.length co43 ∧ nb k_ Ao146 t517.length co146) (.slice Ao147 t520.length co147) t520) ∧ Aside0 (Kd.Q (Kd.int .i64) 3 wc w.heap.size (fun k_ => nb k_ Ao26 t449.length co26 ∧ nb k_ Ao35 t497.length co35 ∧ nb k_ Ao44 t475.length co44) (.slice Ao148 t523.length co148) t523) ∧ Aside0 (wc.heap[gb428]? = some (.cells #[.int .i64 a0_0, .int .i64 a0_1, (.slice A0_2 l0_2.length c0_2), (.slice A0_3 l0_3.length c0_3), (.slice A0_4 l0_4.length c0_4)] 25 (0, 0))) ∧ Aside0 (wc.heap[gb454]? = some (.cells #[.int .i64 t441, .int .i64 t442, (.slice Ao24 t443.length co24), (.slice Ao25 t446.length co25), (.slice Ao26 t449.length co26)] 30 (0, 0))) ∧ Aside0 (wc.heap[gb466]? = some (.cells #[.int .i64 t455, .int .i64 t456, (.slice Ao33 t495.length co33), (.slice Ao34 t496.length co34), (.slice Ao35 t497.length co35)] 30 (0, 0))) ∧ Aside0 (wc.heap[gb480]? = some (.cells #[.int .i64 t467, .int .i64 t468, (.slice Ao42 t469.length co42), (.slice Ao43 t472.length co43), (.slice Ao44 t475.length co44)] 30 (0, 0))) ∧ Aside0 (wc.heap[gb528]? = some (.cells #[.int .i64 t515, .int .i64 t516, (.slice Ao146 t517.length co146), (.slice Ao147 t520.length co147), (.slice Ao148 t523.length co148)] 30 (0, 0))) ∧ Aside0 (Below w.heap.size w wc))
       case first =>
        have H := HC124.out
        clear HC124
        replace H := Option.bind_eq_some_iff.mp H
        obtain ⟨t529, A1490, H⟩ := H
        try dsimp only at H
        have A149 := Aside0.mk A1490
        clear A1490
        by_cases c150 : t529 = true
        ·subst c150
         rw [if_pos rfl] at H
         by_cases c151 : t526.toList = t452.toList
         ·rw [if_pos c151] at H
          have c151b0 : (t526.toList == t452.toList) = true := beq_iff_eq.mpr c151
          have c151b1 : (t526.toList != t452.toList) = false := bne_eq_false_iff_eq.mpr c151
          clear c151
          (first | rw [c151b0] | (simp only [i64_w, i32_w]; rw [c151b0]) | skip)
          have H' := Aside0.mk H
          clear H
          have hnb152 := NB528_428.out
          have hnc152 := NB428_528.out
          have hnb153 := NB528_454.out
          have hnc153 := NB454_528.out
          have hnb154 := NB528_466.out
          have hnc154 := NB466_528.out
          have hnb155 := NB528_480.out
          have hnc155 := NB480_528.out
          have hcz156_0 := bz5 BK528
          have hnb157 := NB454_428.out
          have hnc157 := NB428_454.out
          have hnb158 := NB454_466.out
          have hnc158 := NB466_454.out
          have hnb159 := NB454_480.out
          have hnc159 := NB480_454.out
          have hcz160_0 := bz5 BK454
          go_wp2_with (first | ((with_reducible refine gate_callee (f := 20) rfl ?_); refine gl 97 Try.func20 #[.agg #[.int .i64 t515, .int .i64 t516, .slice Ao146 t517.length co146, .slice Ao147 t520.length co147, .slice Ao148 t523.length co148], .agg #[.int .i64 t441, .int .i64 t442, .slice Ao24 t443.length co24, .slice Ao25 t446.length co25, .slice Ao26 t449.length co26]] ?_; (with_reducible refine (laws_eqThree.calls kj76 t515 t516 _ _ t517 _ _ t520 _ _ t523 t441 t442 _ _ t443 _ _ t446 _ _ t449 true _ ?side1 ((Kd.R_reads' HO519.out).2.1) ?side3 ((Kd.R_reads' HO522.out).2.1) ?side5 ((Kd.R_reads' HO525.out).2.1) ?side7 ((Kd.R_reads' HO_455002.out).2.1) ?side9 ((Kd.R_reads' HO_455003.out).2.1) ?side11 ?side12 A149.out).mono ?_); (case side1 => exact rfr _ HO519 BK528); (case side3 => exact rfr _ HO522 BK528); (case side5 => exact rfr _ HO525 BK528); (case side7 => exact rfr _ HO_455002 BK528); (case side9 => exact rfr _ HO_455003 BK528); (case side11 => refine (Kd.Q_reads' (e := 3) (base := w.heap.size) (ok := fun k_ => (((nb k_ Ao35 t497.length co35 ∧ nb k_ Ao44 t475.length co44) ∧ nb k_ Ao138 t512.length co138) ∧ nb k_ Ao148 t523.length co148)) (n := t449.length) (c := co26) ?_).2.2; exact (by (with_reducible repeat (first | apply Kd.Q_alloc | apply Kd.Q_drewN | apply Kd.Q_drew)); exact (Kd.Q_mono (Kd.Q_far (p := ⟨gb528, 4, none⟩) (Kd.Q_far (p := ⟨gb528, 3, none⟩) (Kd.Q_far (p := ⟨gb528, 2, none⟩) (Kd.Q_far (p := ⟨gb528, 1, none⟩) (Kd.Q_far (p := ⟨gb528, 0, none⟩) (Kd.Q_types HO_455004.out BK528.out (by decide)) (fun _ hk => hk.2) (.int .i64 t515)) (fun _ hk => hk.2) (.int .i64 t516)) (fun _ hk => hk.2) (.slice Ao146 t517.length co146)) (fun _ hk => hk.2) (.slice Ao147 t520.length co147)) (fun _ hk => hk.2) (.slice Ao148 t523.length co148)) (fun _ h_ => h_.1)))); (case side12 => exact (Kd.Q_reads' HO_455004.out).2.1); rintro e w161 ⟨rfl, hb⟩; refine ⟨_, rfl, ?_⟩; replace HO_455002 := Aside0.mk (Kd.R_below (rf HO_455002 BK528) hb); replace HO_455003 := Aside0.mk (Kd.R_below (rf HO_455003 BK528) hb); replace HO_455004 := Aside0.mk (Kd.Q_below (by (with_reducible repeat (first | apply Kd.Q_alloc | apply Kd.Q_drewN | apply Kd.Q_drew)); exact (Kd.Q_mono (Kd.Q_far (p := ⟨gb528, 4, none⟩) (Kd.Q_far (p := ⟨gb528, 3, none⟩) (Kd.Q_far (p := ⟨gb528, 2, none⟩) (Kd.Q_far (p := ⟨gb528, 1, none⟩) (Kd.Q_far (p := ⟨gb528, 0, none⟩) (Kd.Q_types HO_455004.out BK528.out (by decide)) (fun _ hk => hk.2) (.int .i64 t515)) (fun _ hk => hk.2) (.int .i64 t516)) (fun _ hk => hk.2) (.slice Ao146 t517.length co146)) (fun _ hk => hk.2) (.slice Ao147 t520.length co147)) (fun _ hk => hk.2) (.slice Ao148 t523.length co148)) (fun _ h_ => h_.1))) hb); replace HO_467002 := Aside0.mk (Kd.R_below (rf HO_467002 BK528) hb); replace HO_467003 := Aside0.mk (Kd.R_below (rf HO_467003 BK528) hb); replace HO_467004 := Aside0.mk (Kd.Q_below (by (with_reducible repeat (first | apply Kd.Q_alloc | apply Kd.Q_drewN | apply Kd.Q_drew)); exact (Kd.Q_mono (Kd.Q_far (p := ⟨gb528, 4, none⟩) (Kd.Q_far (p := ⟨gb528, 3, none⟩) (Kd.Q_far (p := ⟨gb528, 2, none⟩) (Kd.Q_far (p := ⟨gb528, 1, none⟩) (Kd.Q_far (p := ⟨gb528, 0, none⟩) (Kd.Q_types HO_467004.out BK528.out (by decide)) (fun _ hk => hk.2) (.int .i64 t515)) (fun _ hk => hk.2) (.int .i64 t516)) (fun _ hk => hk.2) (.slice Ao146 t517.length co146)) (fun _ hk => hk.2) (.slice Ao147 t520.length co147)) (fun _ hk => hk.2) (.slice Ao148 t523.length co148)) (fun _ h_ => h_.1))) hb); replace HO_481002 := Aside0.mk (Kd.R_below (rf HO_481002 BK528) hb); replace HO_481003 := Aside0.mk (Kd.R_below (rf HO_481003 BK528) hb); replace HO_481004 := Aside0.mk (Kd.Q_below (by (with_reducible repeat (first | apply Kd.Q_alloc | apply Kd.Q_drewN | apply Kd.Q_drew)); exact (Kd.Q_mono (Kd.Q_far (p := ⟨gb528, 4, none⟩) (Kd.Q_far (p := ⟨gb528, 3, none⟩) (Kd.Q_far (p := ⟨gb528, 2, none⟩) (Kd.Q_far (p := ⟨gb528, 1, none⟩) (Kd.Q_far (p := ⟨gb528, 0, none⟩) (Kd.Q_types HO_481004.out BK528.out (by decide)) (fun _ hk => hk.2) (.int .i64 t515)) (fun _ hk => hk.2) (.int .i64 t516)) (fun _ hk => hk.2) (.slice Ao146 t517.length co146)) (fun _ hk => hk.2) (.slice Ao147 t520.length co147)) (fun _ hk => hk.2) (.slice Ao148 t523.length co148)) (fun _ h_ => h_.1))) hb); replace HO508 := Aside0.mk (Kd.R_below (rf HO508 BK528) hb); replace HO511 := Aside0.mk (Kd.R_below (rf HO511 BK528) hb); replace HO514 := Aside0.mk (Kd.R_below (rf HO514 BK528) hb); replace HO519 := Aside0.mk (Kd.R_below (rf HO519 BK528) hb); replace HO522 := Aside0.mk (Kd.R_below (rf HO522 BK528) hb); replace HO525 := Aside0.mk (Kd.R_below (rf HO525 BK528) hb); replace BK428 := Aside0.mk (blk_below (g := gb428) (o := .cells #[.int .i64 a0_0, .int .i64 a0_1, .slice A0_2 l0_2.length c0_2, .slice A0_3 l0_3.length c0_3, .slice A0_4 l0_4.length c0_4] 25 (0, 0)) (bf1 BK428 NB428_528) hb); replace BK454 := Aside0.mk (blk_below (g := gb454) (o := .cells #[.int .i64 t441, .int .i64 t442, .slice Ao24 t443.length co24, .slice Ao25 t446.length co25, .slice Ao26 t449.length co26] 30 (0, 0)) (bf1 BK454 NB454_528) hb); replace BK466 := Aside0.mk (blk_below (g := gb466) (o := .cells #[.int .i64 t455, .int .i64 t456, .slice Ao33 t495.length co33, .slice Ao34 t496.length co34, .slice Ao35 t497.length co35] 30 (0, 0)) (bf1 BK466 NB466_528) hb); replace BK480 := Aside0.mk (blk_below (g := gb480) (o := .cells #[.int .i64 t467, .int .i64 t468, .slice Ao42 t469.length co42, .slice Ao43 t472.length co43, .slice Ao44 t475.length co44] 30 (0, 0)) (bf1 BK480 NB480_528) hb); replace BK528 := Aside0.mk (blk_below (g := gb528) (o := .cells #[.int .i64 t515, .int .i64 t516, .slice Ao146 t517.length co146, .slice Ao147 t520.length co147, .slice Ao148 t523.length co148] 30 (0, 0)) (by (with_reducible repeat (first | refine blk_drewN ?_ _ | refine blk_drew ?_ | refine blk_alloc ?_ _)); refine blk_put (cs := #[.int .i64 t515, .int .i64 t516, .slice Ao146 t517.length co146, .slice Ao147 t520.length co147, .slice none 0 0]) ?_ 4 _ rfl; (with_reducible repeat (first | refine blk_drewN ?_ _ | refine blk_drew ?_ | refine blk_alloc ?_ _)); refine blk_put (cs := #[.int .i64 t515, .int .i64 t516, .slice Ao146 t517.length co146, .slice none 0 0, .slice none 0 0]) ?_ 3 _ rfl; (with_reducible repeat (first | refine blk_drewN ?_ _ | refine blk_drew ?_ | refine blk_alloc ?_ _)); refine blk_put (cs := #[.int .i64 t515, .int .i64 t516, .slice none 0 0, .slice none 0 0, .slice none 0 0]) ?_ 2 _ rfl; (with_reducible repeat (first | refine blk_drewN ?_ _ | refine blk_drew ?_ | refine blk_alloc ?_ _)); refine blk_put (cs := #[.int .i64 t515, .int .i64 0, .slice none 0 0, .slice none 0 0, .slice none 0 0]) ?_ 1 _ rfl; (with_reducible repeat (first | refine blk_drewN ?_ _ | refine blk_drew ?_ | refine blk_alloc ?_ _)); refine blk_put (cs := #[.int .i64 0, .int .i64 0, .slice none 0 0, .slice none 0 0, .slice none 0 0]) ?_ 0 _ rfl; (with_reducible repeat (first | refine blk_drewN ?_ _ | refine blk_drew ?_ | refine blk_alloc ?_ _)); exact BK528.out) hb); replace HB := Aside0.mk (below_step (be5 HB GE428 GE454 GE466 GE480 GE528) hb); (try clear hb)))
          go_meet
          case rel => exact ⟨_, ((t527 != t453)), rs, H', ⟨by have := HJ10.out; have := HJ76.out; first | omega | exact Nat.le_refl _⟩, ⟨by (try simp only [hl467002_76, hl467003_76, hl467004_76]); (with_reducible repeat (first | apply Kd.R_alloc | apply Kd.R_drewN | apply Kd.R_drew)); exact rm HO_455002⟩, ⟨by (try simp only [hl467002_76, hl467003_76, hl467004_76]); (with_reducible repeat (first | apply Kd.R_alloc | apply Kd.R_drewN | apply Kd.R_drew)); exact rm HO_455003⟩, ⟨by (try simp only [hl467002_76, hl467003_76, hl467004_76]); (with_reducible repeat (first | apply Kd.Q_alloc | apply Kd.Q_drewN | apply Kd.Q_drew)); exact Kd.Q_mono HO_455004.out (fun _ hk => ⟨hk.1.1.1, ⟨hk.1.1.2, hk.2⟩⟩)⟩, ⟨by (try simp only [hl467002_76, hl467003_76, hl467004_76]); (with_reducible repeat (first | apply Kd.R_alloc | apply Kd.R_drewN | apply Kd.R_drew)); exact rm HO_467002⟩, ⟨by (try simp only [hl467002_76, hl467003_76, hl467004_76]); (with_reducible repeat (first | apply Kd.R_alloc | apply Kd.R_drewN | apply Kd.R_drew)); exact rm HO_467003⟩, ⟨by (try simp only [hl467002_76, hl467003_76, hl467004_76]); (with_reducible repeat (first | apply Kd.Q_alloc | apply Kd.Q_drewN | apply Kd.Q_drew)); exact Kd.Q_mono HO_467004.out (fun _ hk => ⟨hk.1.1.1, ⟨hk.1.1.2, hk.2⟩⟩)⟩, ⟨by (try simp only [hl467002_76, hl467003_76, hl467004_76]); (with_reducible repeat (first | apply Kd.R_alloc | apply Kd.R_drewN | apply Kd.R_drew)); exact rm HO_481002⟩, ⟨by (try simp only [hl467002_76, hl467003_76, hl467004_76]); (with_reducible repeat (first | apply Kd.R_alloc | apply Kd.R_drewN | apply Kd.R_drew)); exact rm HO_481003⟩, ⟨by (try simp only [hl467002_76, hl467003_76, hl467004_76]); (with_reducible repeat (first | apply Kd.Q_alloc | apply Kd.Q_drewN | apply Kd.Q_drew)); exact Kd.Q_mono HO_481004.out (fun _ hk => ⟨hk.1.1.1, ⟨hk.1.1.2, hk.2⟩⟩)⟩, ⟨by (try simp only [hl467002_76, hl467003_76, hl467004_76]); (with_reducible repeat (first | apply Kd.R_alloc | apply Kd.R_drewN | apply Kd.R_drew)); exact rm HO519⟩, ⟨by (try simp only [hl467002_76, hl467003_76, hl467004_76]); (with_reducible repeat (first | apply Kd.R_alloc | apply Kd.R_drewN | apply Kd.R_drew)); exact rm HO522⟩, ⟨Kd.Q_of_R (by (try simp only [hl467002_76, hl467003_76, hl467004_76]); (with_reducible repeat (first | apply Kd.R_alloc | apply Kd.R_drewN | apply Kd.R_drew)); exact rm HO525)⟩, ⟨by (try simp only [hl467002_76, hl467003_76, hl467004_76]); (with_reducible repeat (first | refine blk_drewN ?_ _ | refine blk_drew ?_ | refine blk_alloc ?_ _)); exact BK428.out⟩, ⟨by (try simp only [hl467002_76, hl467003_76, hl467004_76]); (with_reducible repeat (first | refine blk_drewN ?_ _ | refine blk_drew ?_ | refine blk_alloc ?_ _)); exact BK454.out⟩, ⟨by (try simp only [hl467002_76, hl467003_76, hl467004_76]); (with_reducible repeat (first | refine blk_drewN ?_ _ | refine blk_drew ?_ | refine blk_alloc ?_ _)); exact BK466.out⟩, ⟨by (try simp only [hl467002_76, hl467003_76, hl467004_76]); (with_reducible repeat (first | refine blk_drewN ?_ _ | refine blk_drew ?_ | refine blk_alloc ?_ _)); exact BK480.out⟩, ⟨by (try simp only [hl467002_76, hl467003_76, hl467004_76]); (with_reducible repeat (first | refine blk_drewN ?_ _ | refine blk_drew ?_ | refine blk_alloc ?_ _)); exact BK528.out⟩, ⟨be5 HB GE428 GE454 GE466 GE480 GE528⟩⟩
         rw [if_neg c151] at H
         have c151b0 : (t526.toList == t452.toList) = false := beq_eq_false_iff_ne.mpr c151
         have c151b1 : (t526.toList != t452.toList) = true := bne_iff_ne.mpr c151
         (first | rw [c151b0] | (simp only [i64_w, i32_w]; rw [c151b0]) | skip)
         have H' := Aside0.mk H
         clear H
         have hnb162 := NB528_428.out
         have hnc162 := NB428_528.out
         have hnb163 := NB528_454.out
         have hnc163 := NB454_528.out
         have hnb164 := NB528_466.out
         have hnc164 := NB466_528.out
         have hnb165 := NB528_480.out
         have hnc165 := NB480_528.out
         have hcz166_0 := bz5 BK528
         have hnb167 := NB454_428.out
         have hnc167 := NB428_454.out
         have hnb168 := NB454_466.out
         have hnc168 := NB466_454.out
         have hnb169 := NB454_480.out
         have hnc169 := NB480_454.out
         have hcz170_0 := bz5 BK454
         go_wp2_with (first | ((with_reducible refine gate_callee (f := 20) rfl ?_); refine gl 97 Try.func20 #[.agg #[.int .i64 t515, .int .i64 t516, .slice Ao146 t517.length co146, .slice Ao147 t520.length co147, .slice Ao148 t523.length co148], .agg #[.int .i64 t441, .int .i64 t442, .slice Ao24 t443.length co24, .slice Ao25 t446.length co25, .slice Ao26 t449.length co26]] ?_; (with_reducible refine (laws_eqThree.calls kj76 t515 t516 _ _ t517 _ _ t520 _ _ t523 t441 t442 _ _ t443 _ _ t446 _ _ t449 true _ ?side1 ((Kd.R_reads' HO519.out).2.1) ?side3 ((Kd.R_reads' HO522.out).2.1) ?side5 ((Kd.R_reads' HO525.out).2.1) ?side7 ((Kd.R_reads' HO_455002.out).2.1) ?side9 ((Kd.R_reads' HO_455003.out).2.1) ?side11 ?side12 A149.out).mono ?_); (case side1 => exact rfr _ HO519 BK528); (case side3 => exact rfr _ HO522 BK528); (case side5 => exact rfr _ HO525 BK528); (case side7 => exact rfr _ HO_455002 BK528); (case side9 => exact rfr _ HO_455003 BK528); (case side11 => refine (Kd.Q_reads' (e := 3) (base := w.heap.size) (ok := fun k_ => (((nb k_ Ao35 t497.length co35 ∧ nb k_ Ao44 t475.length co44) ∧ nb k_ Ao138 t512.length co138) ∧ nb k_ Ao148 t523.length co148)) (n := t449.length) (c := co26) ?_).2.2; exact (by (with_reducible repeat (first | apply Kd.Q_alloc | apply Kd.Q_drewN | apply Kd.Q_drew)); exact (Kd.Q_mono (Kd.Q_far (p := ⟨gb528, 4, none⟩) (Kd.Q_far (p := ⟨gb528, 3, none⟩) (Kd.Q_far (p := ⟨gb528, 2, none⟩) (Kd.Q_far (p := ⟨gb528, 1, none⟩) (Kd.Q_far (p := ⟨gb528, 0, none⟩) (Kd.Q_types HO_455004.out BK528.out (by decide)) (fun _ hk => hk.2) (.int .i64 t515)) (fun _ hk => hk.2) (.int .i64 t516)) (fun _ hk => hk.2) (.slice Ao146 t517.length co146)) (fun _ hk => hk.2) (.slice Ao147 t520.length co147)) (fun _ hk => hk.2) (.slice Ao148 t523.length co148)) (fun _ h_ => h_.1)))); (case side12 => exact (Kd.Q_reads' HO_455004.out).2.1); rintro e w171 ⟨rfl, hb⟩; refine ⟨_, rfl, ?_⟩; replace HO_455002 := Aside0.mk (Kd.R_below (rf HO_455002 BK528) hb); replace HO_455003 := Aside0.mk (Kd.R_below (rf HO_455003 BK528) hb); replace HO_455004 := Aside0.mk (Kd.Q_below (by (with_reducible repeat (first | apply Kd.Q_alloc | apply Kd.Q_drewN | apply Kd.Q_drew)); exact (Kd.Q_mono (Kd.Q_far (p := ⟨gb528, 4, none⟩) (Kd.Q_far (p := ⟨gb528, 3, none⟩) (Kd.Q_far (p := ⟨gb528, 2, none⟩) (Kd.Q_far (p := ⟨gb528, 1, none⟩) (Kd.Q_far (p := ⟨gb528, 0, none⟩) (Kd.Q_types HO_455004.out BK528.out (by decide)) (fun _ hk => hk.2) (.int .i64 t515)) (fun _ hk => hk.2) (.int .i64 t516)) (fun _ hk => hk.2) (.slice Ao146 t517.length co146)) (fun _ hk => hk.2) (.slice Ao147 t520.length co147)) (fun _ hk => hk.2) (.slice Ao148 t523.length co148)) (fun _ h_ => h_.1))) hb); replace HO_467002 := Aside0.mk (Kd.R_below (rf HO_467002 BK528) hb); replace HO_467003 := Aside0.mk (Kd.R_below (rf HO_467003 BK528) hb); replace HO_467004 := Aside0.mk (Kd.Q_below (by (with_reducible repeat (first | apply Kd.Q_alloc | apply Kd.Q_drewN | apply Kd.Q_drew)); exact (Kd.Q_mono (Kd.Q_far (p := ⟨gb528, 4, none⟩) (Kd.Q_far (p := ⟨gb528, 3, none⟩) (Kd.Q_far (p := ⟨gb528, 2, none⟩) (Kd.Q_far (p := ⟨gb528, 1, none⟩) (Kd.Q_far (p := ⟨gb528, 0, none⟩) (Kd.Q_types HO_467004.out BK528.out (by decide)) (fun _ hk => hk.2) (.int .i64 t515)) (fun _ hk => hk.2) (.int .i64 t516)) (fun _ hk => hk.2) (.slice Ao146 t517.length co146)) (fun _ hk => hk.2) (.slice Ao147 t520.length co147)) (fun _ hk => hk.2) (.slice Ao148 t523.length co148)) (fun _ h_ => h_.1))) hb); replace HO_481002 := Aside0.mk (Kd.R_below (rf HO_481002 BK528) hb); replace HO_481003 := Aside0.mk (Kd.R_below (rf HO_481003 BK528) hb); replace HO_481004 := Aside0.mk (Kd.Q_below (by (with_reducible repeat (first | apply Kd.Q_alloc | apply Kd.Q_drewN | apply Kd.Q_drew)); exact (Kd.Q_mono (Kd.Q_far (p := ⟨gb528, 4, none⟩) (Kd.Q_far (p := ⟨gb528, 3, none⟩) (Kd.Q_far (p := ⟨gb528, 2, none⟩) (Kd.Q_far (p := ⟨gb528, 1, none⟩) (Kd.Q_far (p := ⟨gb528, 0, none⟩) (Kd.Q_types HO_481004.out BK528.out (by decide)) (fun _ hk => hk.2) (.int .i64 t515)) (fun _ hk => hk.2) (.int .i64 t516)) (fun _ hk => hk.2) (.slice Ao146 t517.length co146)) (fun _ hk => hk.2) (.slice Ao147 t520.length co147)) (fun _ hk => hk.2) (.slice Ao148 t523.length co148)) (fun _ h_ => h_.1))) hb); replace HO508 := Aside0.mk (Kd.R_below (rf HO508 BK528) hb); replace HO511 := Aside0.mk (Kd.R_below (rf HO511 BK528) hb); replace HO514 := Aside0.mk (Kd.R_below (rf HO514 BK528) hb); replace HO519 := Aside0.mk (Kd.R_below (rf HO519 BK528) hb); replace HO522 := Aside0.mk (Kd.R_below (rf HO522 BK528) hb); replace HO525 := Aside0.mk (Kd.R_below (rf HO525 BK528) hb); replace BK428 := Aside0.mk (blk_below (g := gb428) (o := .cells #[.int .i64 a0_0, .int .i64 a0_1, .slice A0_2 l0_2.length c0_2, .slice A0_3 l0_3.length c0_3, .slice A0_4 l0_4.length c0_4] 25 (0, 0)) (bf1 BK428 NB428_528) hb); replace BK454 := Aside0.mk (blk_below (g := gb454) (o := .cells #[.int .i64 t441, .int .i64 t442, .slice Ao24 t443.length co24, .slice Ao25 t446.length co25, .slice Ao26 t449.length co26] 30 (0, 0)) (bf1 BK454 NB454_528) hb); replace BK466 := Aside0.mk (blk_below (g := gb466) (o := .cells #[.int .i64 t455, .int .i64 t456, .slice Ao33 t495.length co33, .slice Ao34 t496.length co34, .slice Ao35 t497.length co35] 30 (0, 0)) (bf1 BK466 NB466_528) hb); replace BK480 := Aside0.mk (blk_below (g := gb480) (o := .cells #[.int .i64 t467, .int .i64 t468, .slice Ao42 t469.length co42, .slice Ao43 t472.length co43, .slice Ao44 t475.length co44] 30 (0, 0)) (bf1 BK480 NB480_528) hb); replace BK528 := Aside0.mk (blk_below (g := gb528) (o := .cells #[.int .i64 t515, .int .i64 t516, .slice Ao146 t517.length co146, .slice Ao147 t520.length co147, .slice Ao148 t523.length co148] 30 (0, 0)) (by (with_reducible repeat (first | refine blk_drewN ?_ _ | refine blk_drew ?_ | refine blk_alloc ?_ _)); refine blk_put (cs := #[.int .i64 t515, .int .i64 t516, .slice Ao146 t517.length co146, .slice Ao147 t520.length co147, .slice none 0 0]) ?_ 4 _ rfl; (with_reducible repeat (first | refine blk_drewN ?_ _ | refine blk_drew ?_ | refine blk_alloc ?_ _)); refine blk_put (cs := #[.int .i64 t515, .int .i64 t516, .slice Ao146 t517.length co146, .slice none 0 0, .slice none 0 0]) ?_ 3 _ rfl; (with_reducible repeat (first | refine blk_drewN ?_ _ | refine blk_drew ?_ | refine blk_alloc ?_ _)); refine blk_put (cs := #[.int .i64 t515, .int .i64 t516, .slice none 0 0, .slice none 0 0, .slice none 0 0]) ?_ 2 _ rfl; (with_reducible repeat (first | refine blk_drewN ?_ _ | refine blk_drew ?_ | refine blk_alloc ?_ _)); refine blk_put (cs := #[.int .i64 t515, .int .i64 0, .slice none 0 0, .slice none 0 0, .slice none 0 0]) ?_ 1 _ rfl; (with_reducible repeat (first | refine blk_drewN ?_ _ | refine blk_drew ?_ | refine blk_alloc ?_ _)); refine blk_put (cs := #[.int .i64 0, .int .i64 0, .slice none 0 0, .slice none 0 0, .slice none 0 0]) ?_ 0 _ rfl; (with_reducible repeat (first | refine blk_drewN ?_ _ | refine blk_drew ?_ | refine blk_alloc ?_ _)); exact BK528.out) hb); replace HB := Aside0.mk (below_step (be5 HB GE428 GE454 GE466 GE480 GE528) hb); (try clear hb)))
         go_meet
         case rel => exact ⟨_, (true), rs, H', ⟨by have := HJ10.out; have := HJ76.out; first | omega | exact Nat.le_refl _⟩, ⟨by (try simp only [hl467002_76, hl467003_76, hl467004_76]); (with_reducible repeat (first | apply Kd.R_alloc | apply Kd.R_drewN | apply Kd.R_drew)); exact rm HO_455002⟩, ⟨by (try simp only [hl467002_76, hl467003_76, hl467004_76]); (with_reducible repeat (first | apply Kd.R_alloc | apply Kd.R_drewN | apply Kd.R_drew)); exact rm HO_455003⟩, ⟨by (try simp only [hl467002_76, hl467003_76, hl467004_76]); (with_reducible repeat (first | apply Kd.Q_alloc | apply Kd.Q_drewN | apply Kd.Q_drew)); exact Kd.Q_mono HO_455004.out (fun _ hk => ⟨hk.1.1.1, ⟨hk.1.1.2, hk.2⟩⟩)⟩, ⟨by (try simp only [hl467002_76, hl467003_76, hl467004_76]); (with_reducible repeat (first | apply Kd.R_alloc | apply Kd.R_drewN | apply Kd.R_drew)); exact rm HO_467002⟩, ⟨by (try simp only [hl467002_76, hl467003_76, hl467004_76]); (with_reducible repeat (first | apply Kd.R_alloc | apply Kd.R_drewN | apply Kd.R_drew)); exact rm HO_467003⟩, ⟨by (try simp only [hl467002_76, hl467003_76, hl467004_76]); (with_reducible repeat (first | apply Kd.Q_alloc | apply Kd.Q_drewN | apply Kd.Q_drew)); exact Kd.Q_mono HO_467004.out (fun _ hk => ⟨hk.1.1.1, ⟨hk.1.1.2, hk.2⟩⟩)⟩, ⟨by (try simp only [hl467002_76, hl467003_76, hl467004_76]); (with_reducible repeat (first | apply Kd.R_alloc | apply Kd.R_drewN | apply Kd.R_drew)); exact rm HO_481002⟩, ⟨by (try simp only [hl467002_76, hl467003_76, hl467004_76]); (with_reducible repeat (first | apply Kd.R_alloc | apply Kd.R_drewN | apply Kd.R_drew)); exact rm HO_481003⟩, ⟨by (try simp only [hl467002_76, hl467003_76, hl467004_76]); (with_reducible repeat (first | apply Kd.Q_alloc | apply Kd.Q_drewN | apply Kd.Q_drew)); exact Kd.Q_mono HO_481004.out (fun _ hk => ⟨hk.1.1.1, ⟨hk.1.1.2, hk.2⟩⟩)⟩, ⟨by (try simp only [hl467002_76, hl467003_76, hl467004_76]); (with_reducible repeat (first | apply Kd.R_alloc | apply Kd.R_drewN | apply Kd.R_drew)); exact rm HO519⟩, ⟨by (try simp only [hl467002_76, hl467003_76, hl467004_76]); (with_reducible repeat (first | apply Kd.R_alloc | apply Kd.R_drewN | apply Kd.R_drew)); exact rm HO522⟩, ⟨Kd.Q_of_R (by (try simp only [hl467002_76, hl467003_76, hl467004_76]); (with_reducible repeat (first | apply Kd.R_alloc | apply Kd.R_drewN | apply Kd.R_drew)); exact rm HO525)⟩, ⟨by (try simp only [hl467002_76, hl467003_76, hl467004_76]); (with_reducible repeat (first | refine blk_drewN ?_ _ | refine blk_drew ?_ | refine blk_alloc ?_ _)); exact BK428.out⟩, ⟨by (try simp only [hl467002_76, hl467003_76, hl467004_76]); (with_reducible repeat (first | refine blk_drewN ?_ _ | refine blk_drew ?_ | refine blk_alloc ?_ _)); exact BK454.out⟩, ⟨by (try simp only [hl467002_76, hl467003_76, hl467004_76]); (with_reducible repeat (first | refine blk_drewN ?_ _ | refine blk_drew ?_ | refine blk_alloc ?_ _)); exact BK466.out⟩, ⟨by (try simp only [hl467002_76, hl467003_76, hl467004_76]); (with_reducible repeat (first | refine blk_drewN ?_ _ | refine blk_drew ?_ | refine blk_alloc ?_ _)); exact BK480.out⟩, ⟨by (try simp only [hl467002_76, hl467003_76, hl467004_76]); (with_reducible repeat (first | refine blk_drewN ?_ _ | refine blk_drew ?_ | refine blk_alloc ?_ _)); exact BK528.out⟩, ⟨be5 HB GE428 GE454 GE466 GE480 GE528⟩⟩
        replace c150 := Bool.eq_false_iff.mpr c150
        subst c150
        rw [if_neg (show ¬ (false = true) by decide)] at H
        have H' := Aside0.mk H
        clear H
        have hnb172 := NB528_428.out
        have hnc172 := NB428_528.out
        have hnb173 := NB528_454.out
        have hnc173 := NB454_528.out
        have hnb174 := NB528_466.out
        have hnc174 := NB466_528.out
        have hnb175 := NB528_480.out
        have hnc175 := NB480_528.out
        have hcz176_0 := bz5 BK528
        have hnb177 := NB454_428.out
        have hnc177 := NB428_454.out
        have hnb178 := NB454_466.out
        have hnc178 := NB466_454.out
        have hnb179 := NB454_480.out
        have hnc179 := NB480_454.out
        have hcz180_0 := bz5 BK454
        go_wp2_with (first | ((with_reducible refine gate_callee (f := 20) rfl ?_); refine gl 97 Try.func20 #[.agg #[.int .i64 t515, .int .i64 t516, .slice Ao146 t517.length co146, .slice Ao147 t520.length co147, .slice Ao148 t523.length co148], .agg #[.int .i64 t441, .int .i64 t442, .slice Ao24 t443.length co24, .slice Ao25 t446.length co25, .slice Ao26 t449.length co26]] ?_; (with_reducible refine (laws_eqThree.calls kj76 t515 t516 _ _ t517 _ _ t520 _ _ t523 t441 t442 _ _ t443 _ _ t446 _ _ t449 false _ ?side1 ((Kd.R_reads' HO519.out).2.1) ?side3 ((Kd.R_reads' HO522.out).2.1) ?side5 ((Kd.R_reads' HO525.out).2.1) ?side7 ((Kd.R_reads' HO_455002.out).2.1) ?side9 ((Kd.R_reads' HO_455003.out).2.1) ?side11 ?side12 A149.out).mono ?_); (case side1 => exact rfr _ HO519 BK528); (case side3 => exact rfr _ HO522 BK528); (case side5 => exact rfr _ HO525 BK528); (case side7 => exact rfr _ HO_455002 BK528); (case side9 => exact rfr _ HO_455003 BK528); (case side11 => refine (Kd.Q_reads' (e := 3) (base := w.heap.size) (ok := fun k_ => (((nb k_ Ao35 t497.length co35 ∧ nb k_ Ao44 t475.length co44) ∧ nb k_ Ao138 t512.length co138) ∧ nb k_ Ao148 t523.length co148)) (n := t449.length) (c := co26) ?_).2.2; exact (by (with_reducible repeat (first | apply Kd.Q_alloc | apply Kd.Q_drewN | apply Kd.Q_drew)); exact (Kd.Q_mono (Kd.Q_far (p := ⟨gb528, 4, none⟩) (Kd.Q_far (p := ⟨gb528, 3, none⟩) (Kd.Q_far (p := ⟨gb528, 2, none⟩) (Kd.Q_far (p := ⟨gb528, 1, none⟩) (Kd.Q_far (p := ⟨gb528, 0, none⟩) (Kd.Q_types HO_455004.out BK528.out (by decide)) (fun _ hk => hk.2) (.int .i64 t515)) (fun _ hk => hk.2) (.int .i64 t516)) (fun _ hk => hk.2) (.slice Ao146 t517.length co146)) (fun _ hk => hk.2) (.slice Ao147 t520.length co147)) (fun _ hk => hk.2) (.slice Ao148 t523.length co148)) (fun _ h_ => h_.1)))); (case side12 => exact (Kd.Q_reads' HO_455004.out).2.1); rintro e w181 ⟨rfl, hb⟩; refine ⟨_, rfl, ?_⟩; replace HO_455002 := Aside0.mk (Kd.R_below (rf HO_455002 BK528) hb); replace HO_455003 := Aside0.mk (Kd.R_below (rf HO_455003 BK528) hb); replace HO_455004 := Aside0.mk (Kd.Q_below (by (with_reducible repeat (first | apply Kd.Q_alloc | apply Kd.Q_drewN | apply Kd.Q_drew)); exact (Kd.Q_mono (Kd.Q_far (p := ⟨gb528, 4, none⟩) (Kd.Q_far (p := ⟨gb528, 3, none⟩) (Kd.Q_far (p := ⟨gb528, 2, none⟩) (Kd.Q_far (p := ⟨gb528, 1, none⟩) (Kd.Q_far (p := ⟨gb528, 0, none⟩) (Kd.Q_types HO_455004.out BK528.out (by decide)) (fun _ hk => hk.2) (.int .i64 t515)) (fun _ hk => hk.2) (.int .i64 t516)) (fun _ hk => hk.2) (.slice Ao146 t517.length co146)) (fun _ hk => hk.2) (.slice Ao147 t520.length co147)) (fun _ hk => hk.2) (.slice Ao148 t523.length co148)) (fun _ h_ => h_.1))) hb); replace HO_467002 := Aside0.mk (Kd.R_below (rf HO_467002 BK528) hb); replace HO_467003 := Aside0.mk (Kd.R_below (rf HO_467003 BK528) hb); replace HO_467004 := Aside0.mk (Kd.Q_below (by (with_reducible repeat (first | apply Kd.Q_alloc | apply Kd.Q_drewN | apply Kd.Q_drew)); exact (Kd.Q_mono (Kd.Q_far (p := ⟨gb528, 4, none⟩) (Kd.Q_far (p := ⟨gb528, 3, none⟩) (Kd.Q_far (p := ⟨gb528, 2, none⟩) (Kd.Q_far (p := ⟨gb528, 1, none⟩) (Kd.Q_far (p := ⟨gb528, 0, none⟩) (Kd.Q_types HO_467004.out BK528.out (by decide)) (fun _ hk => hk.2) (.int .i64 t515)) (fun _ hk => hk.2) (.int .i64 t516)) (fun _ hk => hk.2) (.slice Ao146 t517.length co146)) (fun _ hk => hk.2) (.slice Ao147 t520.length co147)) (fun _ hk => hk.2) (.slice Ao148 t523.length co148)) (fun _ h_ => h_.1))) hb); replace HO_481002 := Aside0.mk (Kd.R_below (rf HO_481002 BK528) hb); replace HO_481003 := Aside0.mk (Kd.R_below (rf HO_481003 BK528) hb); replace HO_481004 := Aside0.mk (Kd.Q_below (by (with_reducible repeat (first | apply Kd.Q_alloc | apply Kd.Q_drewN | apply Kd.Q_drew)); exact (Kd.Q_mono (Kd.Q_far (p := ⟨gb528, 4, none⟩) (Kd.Q_far (p := ⟨gb528, 3, none⟩) (Kd.Q_far (p := ⟨gb528, 2, none⟩) (Kd.Q_far (p := ⟨gb528, 1, none⟩) (Kd.Q_far (p := ⟨gb528, 0, none⟩) (Kd.Q_types HO_481004.out BK528.out (by decide)) (fun _ hk => hk.2) (.int .i64 t515)) (fun _ hk => hk.2) (.int .i64 t516)) (fun _ hk => hk.2) (.slice Ao146 t517.length co146)) (fun _ hk => hk.2) (.slice Ao147 t520.length co147)) (fun _ hk => hk.2) (.slice Ao148 t523.length co148)) (fun _ h_ => h_.1))) hb); replace HO508 := Aside0.mk (Kd.R_below (rf HO508 BK528) hb); replace HO511 := Aside0.mk (Kd.R_below (rf HO511 BK528) hb); replace HO514 := Aside0.mk (Kd.R_below (rf HO514 BK528) hb); replace HO519 := Aside0.mk (Kd.R_below (rf HO519 BK528) hb); replace HO522 := Aside0.mk (Kd.R_below (rf HO522 BK528) hb); replace HO525 := Aside0.mk (Kd.R_below (rf HO525 BK528) hb); replace BK428 := Aside0.mk (blk_below (g := gb428) (o := .cells #[.int .i64 a0_0, .int .i64 a0_1, .slice A0_2 l0_2.length c0_2, .slice A0_3 l0_3.length c0_3, .slice A0_4 l0_4.length c0_4] 25 (0, 0)) (bf1 BK428 NB428_528) hb); replace BK454 := Aside0.mk (blk_below (g := gb454) (o := .cells #[.int .i64 t441, .int .i64 t442, .slice Ao24 t443.length co24, .slice Ao25 t446.length co25, .slice Ao26 t449.length co26] 30 (0, 0)) (bf1 BK454 NB454_528) hb); replace BK466 := Aside0.mk (blk_below (g := gb466) (o := .cells #[.int .i64 t455, .int .i64 t456, .slice Ao33 t495.length co33, .slice Ao34 t496.length co34, .slice Ao35 t497.length co35] 30 (0, 0)) (bf1 BK466 NB466_528) hb); replace BK480 := Aside0.mk (blk_below (g := gb480) (o := .cells #[.int .i64 t467, .int .i64 t468, .slice Ao42 t469.length co42, .slice Ao43 t472.length co43, .slice Ao44 t475.length co44] 30 (0, 0)) (bf1 BK480 NB480_528) hb); replace BK528 := Aside0.mk (blk_below (g := gb528) (o := .cells #[.int .i64 t515, .int .i64 t516, .slice Ao146 t517.length co146, .slice Ao147 t520.length co147, .slice Ao148 t523.length co148] 30 (0, 0)) (by (with_reducible repeat (first | refine blk_drewN ?_ _ | refine blk_drew ?_ | refine blk_alloc ?_ _)); refine blk_put (cs := #[.int .i64 t515, .int .i64 t516, .slice Ao146 t517.length co146, .slice Ao147 t520.length co147, .slice none 0 0]) ?_ 4 _ rfl; (with_reducible repeat (first | refine blk_drewN ?_ _ | refine blk_drew ?_ | refine blk_alloc ?_ _)); refine blk_put (cs := #[.int .i64 t515, .int .i64 t516, .slice Ao146 t517.length co146, .slice none 0 0, .slice none 0 0]) ?_ 3 _ rfl; (with_reducible repeat (first | refine blk_drewN ?_ _ | refine blk_drew ?_ | refine blk_alloc ?_ _)); refine blk_put (cs := #[.int .i64 t515, .int .i64 t516, .slice none 0 0, .slice none 0 0, .slice none 0 0]) ?_ 2 _ rfl; (with_reducible repeat (first | refine blk_drewN ?_ _ | refine blk_drew ?_ | refine blk_alloc ?_ _)); refine blk_put (cs := #[.int .i64 t515, .int .i64 0, .slice none 0 0, .slice none 0 0, .slice none 0 0]) ?_ 1 _ rfl; (with_reducible repeat (first | refine blk_drewN ?_ _ | refine blk_drew ?_ | refine blk_alloc ?_ _)); refine blk_put (cs := #[.int .i64 0, .int .i64 0, .slice none 0 0, .slice none 0 0, .slice none 0 0]) ?_ 0 _ rfl; (with_reducible repeat (first | refine blk_drewN ?_ _ | refine blk_drew ?_ | refine blk_alloc ?_ _)); exact BK528.out) hb); replace HB := Aside0.mk (below_step (be5 HB GE428 GE454 GE466 GE480 GE528) hb); (try clear hb)))
        go_meet
        case rel => exact ⟨_, (true), rs, H', ⟨by have := HJ10.out; have := HJ76.out; first | omega | exact Nat.le_refl _⟩, ⟨by (try simp only [hl467002_76, hl467003_76, hl467004_76]); (with_reducible repeat (first | apply Kd.R_alloc | apply Kd.R_drewN | apply Kd.R_drew)); exact rm HO_455002⟩, ⟨by (try simp only [hl467002_76, hl467003_76, hl467004_76]); (with_reducible repeat (first | apply Kd.R_alloc | apply Kd.R_drewN | apply Kd.R_drew)); exact rm HO_455003⟩, ⟨by (try simp only [hl467002_76, hl467003_76, hl467004_76]); (with_reducible repeat (first | apply Kd.Q_alloc | apply Kd.Q_drewN | apply Kd.Q_drew)); exact Kd.Q_mono HO_455004.out (fun _ hk => ⟨hk.1.1.1, ⟨hk.1.1.2, hk.2⟩⟩)⟩, ⟨by (try simp only [hl467002_76, hl467003_76, hl467004_76]); (with_reducible repeat (first | apply Kd.R_alloc | apply Kd.R_drewN | apply Kd.R_drew)); exact rm HO_467002⟩, ⟨by (try simp only [hl467002_76, hl467003_76, hl467004_76]); (with_reducible repeat (first | apply Kd.R_alloc | apply Kd.R_drewN | apply Kd.R_drew)); exact rm HO_467003⟩, ⟨by (try simp only [hl467002_76, hl467003_76, hl467004_76]); (with_reducible repeat (first | apply Kd.Q_alloc | apply Kd.Q_drewN | apply Kd.Q_drew)); exact Kd.Q_mono HO_467004.out (fun _ hk => ⟨hk.1.1.1, ⟨hk.1.1.2, hk.2⟩⟩)⟩, ⟨by (try simp only [hl467002_76, hl467003_76, hl467004_76]); (with_reducible repeat (first | apply Kd.R_alloc | apply Kd.R_drewN | apply Kd.R_drew)); exact rm HO_481002⟩, ⟨by (try simp only [hl467002_76, hl467003_76, hl467004_76]); (with_reducible repeat (first | apply Kd.R_alloc | apply Kd.R_drewN | apply Kd.R_drew)); exact rm HO_481003⟩, ⟨by (try simp only [hl467002_76, hl467003_76, hl467004_76]); (with_reducible repeat (first | apply Kd.Q_alloc | apply Kd.Q_drewN | apply Kd.Q_drew)); exact Kd.Q_mono HO_481004.out (fun _ hk => ⟨hk.1.1.1, ⟨hk.1.1.2, hk.2⟩⟩)⟩, ⟨by (try simp only [hl467002_76, hl467003_76, hl467004_76]); (with_reducible repeat (first | apply Kd.R_alloc | apply Kd.R_drewN | apply Kd.R_drew)); exact rm HO519⟩, ⟨by (try simp only [hl467002_76, hl467003_76, hl467004_76]); (with_reducible repeat (first | apply Kd.R_alloc | apply Kd.R_drewN | apply Kd.R_drew)); exact rm HO522⟩, ⟨Kd.Q_of_R (by (try simp only [hl467002_76, hl467003_76, hl467004_76]); (with_reducible repeat (first | apply Kd.R_alloc | apply Kd.R_drewN | apply Kd.R_drew)); exact rm HO525)⟩, ⟨by (try simp only [hl467002_76, hl467003_76, hl467004_76]); (with_reducible repeat (first | refine blk_drewN ?_ _ | refine blk_drew ?_ | refine blk_alloc ?_ _)); exact BK428.out⟩, ⟨by (try simp only [hl467002_76, hl467003_76, hl467004_76]); (with_reducible repeat (first | refine blk_drewN ?_ _ | refine blk_drew ?_ | refine blk_alloc ?_ _)); exact BK454.out⟩, ⟨by (try simp only [hl467002_76, hl467003_76, hl467004_76]); (with_reducible repeat (first | refine blk_drewN ?_ _ | refine blk_drew ?_ | refine blk_alloc ?_ _)); exact BK466.out⟩, ⟨by (try simp only [hl467002_76, hl467003_76, hl467004_76]); (with_reducible repeat (first | refine blk_drewN ?_ _ | refine blk_drew ?_ | refine blk_alloc ?_ _)); exact BK480.out⟩, ⟨by (try simp only [hl467002_76, hl467003_76, hl467004_76]); (with_reducible repeat (first | refine blk_drewN ?_ _ | refine blk_drew ?_ | refine blk_alloc ?_ _)); exact BK528.out⟩, ⟨be5 HB GE428 GE454 GE466 GE480 GE528⟩⟩
       case rest =>
        clear HC124
        try clear c1; try clear c2; try clear p2; try clear c3; try clear c4; try clear c5; try clear c6; try clear c7; try clear c8; try clear c9; try clear c10; try clear c11; try clear c12; try clear c13; try clear c14; try clear c15; try clear c16; try clear c17; try clear c18; try clear c20; try clear c22; try clear c23; try clear c24; try clear c30; try clear c31; try clear c37; try clear c38; try clear c39; try clear c40; try clear c46; try clear c47; try clear c47b0; try clear c47b1; try clear c48; try clear c49; try clear c50; try clear c52; try clear c53; try clear c56; try clear c57; try clear c58; try clear c60; try clear c61; try clear c64; try clear c65; try clear c66; try clear c68; try clear c69; try clear c72; try clear c75; try clear c84; try clear c85; try clear c86; try clear c89; try clear c89b0; try clear c91; try clear c92; try clear c92b0; try clear c92b1; try clear c93; try clear c94; try clear c95; try clear c97; try clear c98; try clear c101; try clear c102; try clear c103; try clear c105; try clear c106; try clear c109; try clear c110; try clear c111; try clear c113; try clear c114; try clear c117; try clear c120; try clear c120b0; try clear c121; try clear c121b0; try clear c121b1; try clear c125; try clear c126; try clear c127; try clear c132; try clear c133; try clear c141; try clear c142; try clear c143; try clear c144; try clear c150; try clear c151; try clear c151b0; try clear c151b1; try clear c152; try clear c153; try clear c154; try clear c155; try clear c157; try clear c158; try clear c159; try clear c162; try clear c163; try clear c164; try clear c165; try clear c167; try clear c168; try clear c169; try clear c172; try clear c173; try clear c174; try clear c175; try clear c177; try clear c178; try clear c179; try clear hcz104_0; try clear hcz107_0; try clear hcz112_0; try clear hcz115_0; try clear hcz128_0; try clear hcz130_0; try clear hcz134_0; try clear hcz13_0; try clear hcz145_0; try clear hcz156_0; try clear hcz15_0; try clear hcz160_0; try clear hcz166_0; try clear hcz170_0; try clear hcz176_0; try clear hcz180_0; try clear hcz23_0; try clear hcz27_0; try clear hcz32_0; try clear hcz41_0; try clear hcz51_0; try clear hcz54_0; try clear hcz59_0; try clear hcz5_0; try clear hcz62_0; try clear hcz67_0; try clear hcz70_0; try clear hcz87_0; try clear hcz96_0; try clear hcz99_0; try clear p2
        obtain ⟨kq, x108_123, rfl, HA, HJ123, HO_455002, HO_455003, HO_455004, HO_467002, HO_467003, HO_467004, HO_481002, HO_481003, HO_481004, HO_529002, HO_529003, HO_529004, BK428, BK454, BK466, BK480, BK528, HB⟩ := hcut
        have hl481002_123 := (Kd.R_reads' HO_481002.out).1
        rw [hl481002_123] at HO_481002
        (try simp only [hl481002_123])
        (try simp only [hl481002_123] at BK428)
        (try simp only [hl481002_123] at BK454)
        (try simp only [hl481002_123] at BK466)
        (try simp only [hl481002_123] at BK480)
        (try simp only [hl481002_123] at BK528)
        (try simp only [hl481002_123] at HO_455002)
        (try simp only [hl481002_123] at HO_455003)
        (try simp only [hl481002_123] at HO_455004)
        (try simp only [hl481002_123] at HO_467002)
        (try simp only [hl481002_123] at HO_467003)
        (try simp only [hl481002_123] at HO_467004)
        (try simp only [hl481002_123] at HO_481003)
        (try simp only [hl481002_123] at HO_481004)
        (try simp only [hl481002_123] at HO_529002)
        (try simp only [hl481002_123] at HO_529003)
        (try simp only [hl481002_123] at HO_529004)
        have hl481003_123 := (Kd.R_reads' HO_481003.out).1
        rw [hl481003_123] at HO_481003
        (try simp only [hl481003_123])
        (try simp only [hl481003_123] at BK428)
        (try simp only [hl481003_123] at BK454)
        (try simp only [hl481003_123] at BK466)
        (try simp only [hl481003_123] at BK480)
        (try simp only [hl481003_123] at BK528)
        (try simp only [hl481003_123] at HO_455002)
        (try simp only [hl481003_123] at HO_455003)
        (try simp only [hl481003_123] at HO_455004)
        (try simp only [hl481003_123] at HO_467002)
        (try simp only [hl481003_123] at HO_467003)
        (try simp only [hl481003_123] at HO_467004)
        (try simp only [hl481003_123] at HO_481002)
        (try simp only [hl481003_123] at HO_481004)
        (try simp only [hl481003_123] at HO_529002)
        (try simp only [hl481003_123] at HO_529003)
        (try simp only [hl481003_123] at HO_529004)
        have hl481004_123 := (Kd.Q_reads' HO_481004.out).1
        rw [hl481004_123] at HO_481004
        (try simp only [hl481004_123])
        (try simp only [hl481004_123] at BK428)
        (try simp only [hl481004_123] at BK454)
        (try simp only [hl481004_123] at BK466)
        (try simp only [hl481004_123] at BK480)
        (try simp only [hl481004_123] at BK528)
        (try simp only [hl481004_123] at HO_455002)
        (try simp only [hl481004_123] at HO_455003)
        (try simp only [hl481004_123] at HO_455004)
        (try simp only [hl481004_123] at HO_467002)
        (try simp only [hl481004_123] at HO_467003)
        (try simp only [hl481004_123] at HO_467004)
        (try simp only [hl481004_123] at HO_481002)
        (try simp only [hl481004_123] at HO_481003)
        (try simp only [hl481004_123] at HO_529002)
        (try simp only [hl481004_123] at HO_529003)
        (try simp only [hl481004_123] at HO_529004)
        cases kq with
        | zero => exact absurd HA.out (by simp [laws_FnExactEvictSmall.j2])
        | succ kj123 =>
         have H := HA.out
         clear HA
         simp only [laws_FnExactEvictSmall.j2] at H
         by_cases c182 : x108_123 = true
         ·subst c182
          rw [if_pos rfl] at H
          exact absurd ((Option.some.inj H).trans hrt_.out) (by decide)
         replace c182 := Bool.eq_false_iff.mpr c182
         subst c182
         rw [if_neg (show ¬ (false = true) by decide)] at H
         replace H := Option.bind_eq_some_iff.mp H
         obtain ⟨t530, A1830, H⟩ := H
         try dsimp only at H
         have A183 := Aside0.mk A1830
         clear A1830
         by_cases c184 : t530 < 0
         ·rw [if_pos c184] at H
          have c184b0 : decide (t530 < 0) = true := decide_eq_true c184
          clear c184
          exact absurd ((Option.some.inj H).trans hrt_.out) (by decide)
         rw [if_neg c184] at H
         have c184b0 : decide (t530 < 0) = false := decide_eq_false c184
         clear c184
         by_cases c185 : t530 = t499
         ·rw [if_pos c185] at H
          have c185b0 : (t530 == t499) = true := beq_iff_eq.mpr c185
          have c185b1 : (t530 != t499) = false := bne_eq_false_iff_eq.mpr c185
          clear c185
          obtain rfl := Option.some.inj H
          have hnb186 := NB480_428.out
          have hnc186 := NB428_480.out
          have hnb187 := NB480_454.out
          have hnc187 := NB454_480.out
          have hnb188 := NB480_466.out
          have hnc188 := NB466_480.out
          have hnb189 := NB480_528.out
          have hnc189 := NB528_480.out
          have hcz190_0 := bz5 BK480
          go_wp2_with (first | ((with_reducible refine gate_callee (f := 24) rfl ?_); refine gl 111 Try.func24 #[.agg #[.int .i64 t467, .int .i64 t468, .slice Ao42 t500.length co42, .slice Ao43 t501.length co43, .slice Ao44 t502.length co44], .int .i64 1] ?_; (with_reducible refine (laws_heldThree.calls kj123 t467 t468 _ _ t500 _ _ t501 _ _ t502 1 t530 _ (cr HO_481002) ((Kd.R_reads' HO_481002.out).2.1) (cr HO_481003) ((Kd.R_reads' HO_481003.out).2.1) ?side5 ?side6 A183.out).mono ?_); (case side5 => repeat (first | exact (Kd.Q_reads' HO_481004.out).2.2 | (with_reducible refine Kd.C_alloc ?_ _) | (with_reducible refine Kd.C_drewN ?_ _) | (with_reducible refine Kd.C_drew ?_))); (case side6 => exact (Kd.Q_reads' HO_481004.out).2.1); rintro e w191 ⟨rfl, hb⟩; refine ⟨_, rfl, ?_⟩; replace HO_455002 := rb HO_455002 hb; replace HO_455003 := rb HO_455003 hb; replace HO_455004 := Aside0.mk (Kd.Q_below (by (with_reducible repeat (first | apply Kd.Q_alloc | apply Kd.Q_drewN | apply Kd.Q_drew)); exact HO_455004.out) hb); replace HO_467002 := rb HO_467002 hb; replace HO_467003 := rb HO_467003 hb; replace HO_467004 := Aside0.mk (Kd.Q_below (by (with_reducible repeat (first | apply Kd.Q_alloc | apply Kd.Q_drewN | apply Kd.Q_drew)); exact HO_467004.out) hb); replace HO_481002 := rb HO_481002 hb; replace HO_481003 := rb HO_481003 hb; replace HO_481004 := Aside0.mk (Kd.Q_below (by (with_reducible repeat (first | apply Kd.Q_alloc | apply Kd.Q_drewN | apply Kd.Q_drew)); exact HO_481004.out) hb); replace HO_529002 := rb HO_529002 hb; replace HO_529003 := rb HO_529003 hb; replace HO_529004 := Aside0.mk (Kd.Q_below (by (with_reducible repeat (first | apply Kd.Q_alloc | apply Kd.Q_drewN | apply Kd.Q_drew)); exact HO_529004.out) hb); replace BK428 := bb BK428 hb; replace BK454 := bb BK454 hb; replace BK466 := bb BK466 hb; replace BK480 := bb BK480 hb; replace BK528 := bb BK528 hb; replace HB := Aside0.mk (below_step (be5 HB GE428 GE454 GE466 GE480 GE528) hb); (try clear hb)))
          go_ret
          exact ⟨er, be5 HB GE428 GE454 GE466 GE480 GE528⟩
         rw [if_neg c185] at H
         have c185b0 : (t530 == t499) = false := beq_eq_false_iff_ne.mpr c185
         have c185b1 : (t530 != t499) = true := bne_iff_ne.mpr c185
         exact absurd ((Option.some.inj H).trans hrt_.out) (by decide)
      rw [if_neg c121] at H
      have c121b0 : (t503 == t499) = false := beq_eq_false_iff_ne.mpr c121
      have c121b1 : (t503 != t499) = true := bne_iff_ne.mpr c121
      exact absurd ((Option.some.inj H).trans hrt_.out) (by decide)
   replace c75 := Bool.eq_false_iff.mpr c75
   subst c75
   rw [if_neg (show ¬ (false = true) by decide)] at H
   exact absurd ((Option.some.inj H).trans hrt_.out) (by decide)

end Go.Proofs.Ytfjhkediaholmaa.QFnExactEvictSmall
