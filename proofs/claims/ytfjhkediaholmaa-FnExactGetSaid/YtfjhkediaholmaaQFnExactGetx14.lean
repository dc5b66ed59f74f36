-- made by a program of this session (myprint.py)
import Derived.Test.YtfjhkediaholmaaQFnExactGetx0
import Derived.Test.YtfjhkediaholmaaQFnExactGetx1
import Derived.Test.YtfjhkediaholmaaQFnExactGetx2
import Derived.Test.YtfjhkediaholmaaQFnExactGetx3
import Derived.Test.YtfjhkediaholmaaQFnExactGetx5
import Derived.Test.YtfjhkediaholmaaQFnExactGetx10
import Derived.Test.YtfjhkediaholmaaQFnExactGetx13
namespace Go.Proofs.Ytfjhkediaholmaa.QFnExactGet
open Go.RowKit Go.Proofs.YtfjhkediaholmaaW.PrintWords Go.Proofs.YtfjhkediaholmaaW.PrintLast Go.Proofs.YtfjhkediaholmaaW.PrintMore
attribute [local go_sem] max2_int min2_int max_two min_two max_three min_three max_four min_four   -- for this text's walks alone
set_option linter.unusedVariables false
set_option linter.unusedSimpArgs false

/-! ### laws_FnExactGet: function 9 -/
mutual
def laws_FnExactGet.j0 : Nat → ByteArray → ByteArray → Bool → ByteArray → Bool → Bool → Int → Int → List (S125) → List (S125) → List Int → Int → Int → List (S68) → List (S68) → List Int → Int → Int → List (S68) → List (S68) → List Int → Int → Int → List (S68) → List (S68) → List Int → Option (Bool)
 | 0, _, _, _, _, _, _, _, _, _, _, _, _, _, _, _, _, _, _, _, _, _, _, _, _, _, _ => none
 | k + 1, x1, x7, x8, x11, x12, x57, x337000, x337001, x337002, x337003, x337004, x363000, x363001, x363002, x363003, x363004, x375000, x375001, x375002, x375003, x375004, x389000, x389001, x389002, x389003, x389004 => if x57 = true then (some false) else ((laws_toThree.f k x337000 x337001 x337002 x337003 x337004).bind fun bt390 => ((laws_eqThree.f k x375000 x375001 x375002 x375003 x375004 bt390.1 bt390.2.1 bt390.2.2.1 bt390.2.2.2.1 bt390.2.2.2.2).bind fun t401 => (if t401 = true then ((laws_markThree.f k x375000 x375001 x375002 x375003 x375004 1).bind fun bt402 => (if bt402.1 < 0 then (laws_FnExactGet.j1 k x1 x7 x8 true x337000 x337001 x337002 x337003 x337004 x363000 x363001 x363002 x363003 x363004 x389000 x389001 x389002 x389003 x389004) else ((laws_eqThree.f k x389000 x389001 x389002 x389003 x389004 x363000 x363001 x363002 x363003 x363004).bind fun t406 => (if t406 = true then (if x11.toList = x7.toList then (laws_FnExactGet.j1 k x1 x7 x8 (x12 != x8) x337000 x337001 x337002 x337003 x337004 x363000 x363001 x363002 x363003 x363004 x389000 x389001 x389002 x389003 x389004) else (laws_FnExactGet.j1 k x1 x7 x8 true x337000 x337001 x337002 x337003 x337004 x363000 x363001 x363002 x363003 x363004 x389000 x389001 x389002 x389003 x389004)) else (laws_FnExactGet.j1 k x1 x7 x8 true x337000 x337001 x337002 x337003 x337004 x363000 x363001 x363002 x363003 x363004 x389000 x389001 x389002 x389003 x389004))))) else (some false))))
def laws_FnExactGet.j1 : Nat → ByteArray → ByteArray → Bool → Bool → Int → Int → List (S125) → List (S125) → List Int → Int → Int → List (S68) → List (S68) → List Int → Int → Int → List (S68) → List (S68) → List Int → Option (Bool)
 | 0, _, _, _, _, _, _, _, _, _, _, _, _, _, _, _, _, _, _, _ => none
 | k + 1, x1, x7, x8, x83, x337000, x337001, x337002, x337003, x337004, x363000, x363001, x363002, x363003, x363004, x389000, x389001, x389002, x389003, x389004 => if x83 = true then (some false) else ((laws_markThree.f k x389000 x389001 x389002 x389003 x389004 1).bind fun bt407 => ((laws_heldThree.f k x389000 x389001 bt407.2.1 bt407.2.2.1 bt407.2.2.2 1).bind fun t411 => (if t411 < 0 then (some false) else (if t411 = bt407.1 then ((laws_toThree.f k x337000 x337001 x337002 x337003 x337004).bind fun bt412 => ((impl_Get.f k bt412.1 bt412.2.1 bt412.2.2.1 bt412.2.2.2.1 bt412.2.2.2.2 x1).bind fun bt423 => ((laws_eqThree.f k bt423.1 bt423.2.1 bt423.2.2.1 bt423.2.2.2.1 bt423.2.2.2.2.1 x363000 x363001 x363002 x363003 x363004).bind fun t437 => (if t437 = true then (if bt423.2.2.2.2.2.1.toList = x7.toList then (laws_FnExactGet.j2 k bt407.1 (bt423.2.2.2.2.2.2 != x8) x389000 x389001 bt407.2.1 bt407.2.2.1 bt407.2.2.2) else (laws_FnExactGet.j2 k bt407.1 true x389000 x389001 bt407.2.1 bt407.2.2.1 bt407.2.2.2)) else (laws_FnExactGet.j2 k bt407.1 true x389000 x389001 bt407.2.1 bt407.2.2.1 bt407.2.2.2))))) else (some false)))))
def laws_FnExactGet.j2 : Nat → Int → Bool → Int → Int → List (S68) → List (S68) → List Int → Option (Bool)
 | 0, _, _, _, _, _, _, _ => none
 | k + 1, x14, x116, x389000, x389001, x389002, x389003, x389004 => if x116 = true then (some false) else ((laws_heldThree.f k x389000 x389001 x389002 x389003 x389004 1).bind fun t438 => (if t438 < 0 then (some false) else (if t438 = x14 then (some true) else (some false))))
end
def laws_FnExactGet.f (k : Nat) (a0_0 : Int) (a0_1 : Int) (l0_2 : List (S125)) (l0_3 : List (S125)) (l0_4 : List Int) (a1 : ByteArray) : Option (Bool) := if (a1.size : Int) > 1048576 then (some true) else ((laws_szThree.f k a0_0 a0_1 l0_2 l0_3 l0_4 1048576).bind fun t337 => (if t337 < 0 then (some true) else ((laws_toThree.f k a0_0 a0_1 l0_2 l0_3 l0_4).bind fun bt338 => ((spec_Get.f k bt338.1 bt338.2.1 bt338.2.2.1 bt338.2.2.2.1 bt338.2.2.2.2 a1).bind fun bt349 => ((laws_toThree.f k a0_0 a0_1 l0_2 l0_3 l0_4).bind fun bt363 => ((impl_Get.f k bt363.1 bt363.2.1 bt363.2.2.1 bt363.2.2.2.1 bt363.2.2.2.2 a1).bind fun bt375 => ((laws_eqThree.f k bt375.1 bt375.2.1 bt375.2.2.1 bt375.2.2.2.1 bt375.2.2.2.2.1 bt349.1 bt349.2.1 bt349.2.2.1 bt349.2.2.2.1 bt349.2.2.2.2.1).bind fun t389 => (if t389 = true then (if bt375.2.2.2.2.2.1.toList = bt349.2.2.2.2.2.1.toList then (laws_FnExactGet.j0 k a1 bt349.2.2.2.2.2.1 bt349.2.2.2.2.2.2 bt375.2.2.2.2.2.1 bt375.2.2.2.2.2.2 (bt375.2.2.2.2.2.2 != bt349.2.2.2.2.2.2) a0_0 a0_1 l0_2 l0_3 l0_4 bt349.1 bt349.2.1 bt349.2.2.1 bt349.2.2.2.1 bt349.2.2.2.2.1 bt363.1 bt363.2.1 bt363.2.2.1 bt363.2.2.2.1 bt363.2.2.2.2 bt375.1 bt375.2.1 bt375.2.2.1 bt375.2.2.2.1 bt375.2.2.2.2.1) else (laws_FnExactGet.j0 k a1 bt349.2.2.2.2.2.1 bt349.2.2.2.2.2.2 bt375.2.2.2.2.2.1 bt375.2.2.2.2.2.2 true a0_0 a0_1 l0_2 l0_3 l0_4 bt349.1 bt349.2.1 bt349.2.2.1 bt349.2.2.2.1 bt349.2.2.2.2.1 bt363.1 bt363.2.1 bt363.2.2.1 bt363.2.2.2.1 bt363.2.2.2.2 bt375.1 bt375.2.1 bt375.2.2.1 bt375.2.2.2.1 bt375.2.2.2.2.1)) else (laws_FnExactGet.j0 k a1 bt349.2.2.2.2.2.1 bt349.2.2.2.2.2.2 bt375.2.2.2.2.2.1 bt375.2.2.2.2.2.2 true a0_0 a0_1 l0_2 l0_3 l0_4 bt349.1 bt349.2.1 bt349.2.2.1 bt349.2.2.2.1 bt349.2.2.2.2.1 bt363.1 bt363.2.1 bt363.2.2.1 bt363.2.2.2.1 bt363.2.2.2.2 bt375.1 bt375.2.1 bt375.2.2.1 bt375.2.2.2.1 bt375.2.2.2.2.1)))))))))
theorem laws_FnExactGet.mono_l : ∀ k, (∀ y0 y1 y2 y3 y4 y5 y6 y7 y8 y9 y10 y11 y12 y13 y14 y15 y16 y17 y18 y19 y20 y21 y22 y23 y24 y25, LeO (laws_FnExactGet.j0 k y0 y1 y2 y3 y4 y5 y6 y7 y8 y9 y10 y11 y12 y13 y14 y15 y16 y17 y18 y19 y20 y21 y22 y23 y24 y25) (laws_FnExactGet.j0 (k + 1) y0 y1 y2 y3 y4 y5 y6 y7 y8 y9 y10 y11 y12 y13 y14 y15 y16 y17 y18 y19 y20 y21 y22 y23 y24 y25)) ∧ (∀ y0 y1 y2 y3 y4 y5 y6 y7 y8 y9 y10 y11 y12 y13 y14 y15 y16 y17 y18, LeO (laws_FnExactGet.j1 k y0 y1 y2 y3 y4 y5 y6 y7 y8 y9 y10 y11 y12 y13 y14 y15 y16 y17 y18) (laws_FnExactGet.j1 (k + 1) y0 y1 y2 y3 y4 y5 y6 y7 y8 y9 y10 y11 y12 y13 y14 y15 y16 y17 y18)) ∧ (∀ y0 y1 y2 y3 y4 y5 y6, LeO (laws_FnExactGet.j2 k y0 y1 y2 y3 y4 y5 y6) (laws_FnExactGet.j2 (k + 1) y0 y1 y2 y3 y4 y5 y6))
 | 0 => ⟨fun _ _ _ _ _ _ _ _ _ _ _ _ _ _ _ _ _ _ _ _ _ _ _ _ _ _ r h => by simp [laws_FnExactGet.j0] at h, fun _ _ _ _ _ _ _ _ _ _ _ _ _ _ _ _ _ _ _ r h => by simp [laws_FnExactGet.j1] at h, fun _ _ _ _ _ _ _ r h => by simp [laws_FnExactGet.j2] at h⟩
 | k + 1 => by
  obtain ⟨ih0, ih1, ih2⟩ := laws_FnExactGet.mono_l k
  refine ⟨?_, ?_, ?_⟩
  ·intro y0 y1 y2 y3 y4 y5 y6 y7 y8 y9 y10 y11 y12 y13 y14 y15 y16 y17 y18 y19 y20 y21 y22 y23 y24 y25
   unfold laws_FnExactGet.j0
   repeat' first
   | (with_reducible exact ih0 _ _ _ _ _ _ _ _ _ _ _ _ _ _ _ _ _ _ _ _ _ _ _ _ _ _)
   | (with_reducible exact ih1 _ _ _ _ _ _ _ _ _ _ _ _ _ _ _ _ _ _ _)
   | (with_reducible exact ih2 _ _ _ _ _ _ _)
   | (with_reducible exact impl_Get.mono _ _ _ _ _ _ _)
   | (with_reducible exact laws_eqThree.mono _ _ _ _ _ _ _ _ _ _ _)
   | (with_reducible exact laws_heldThree.mono _ _ _ _ _ _ _)
   | (with_reducible exact laws_markThree.mono _ _ _ _ _ _ _)
   | (with_reducible exact laws_szThree.mono _ _ _ _ _ _ _)
   | (with_reducible exact laws_toThree.mono _ _ _ _ _ _)
   | (with_reducible exact spec_Get.mono _ _ _ _ _ _ _)
   | (with_reducible exact LeO.refl _)
   | (with_reducible exact LeO.none _)
   | (with_reducible refine LeO.ite ?_ ?_)
   | (with_reducible refine LeO.bind ?_ (fun _ => ?_))
   | exact ih0 _ _ _ _ _ _ _ _ _ _ _ _ _ _ _ _ _ _ _ _ _ _ _ _ _ _
   | exact ih1 _ _ _ _ _ _ _ _ _ _ _ _ _ _ _ _ _ _ _
   | exact ih2 _ _ _ _ _ _ _
   | exact impl_Get.mono _ _ _ _ _ _ _
   | exact laws_eqThree.mono _ _ _ _ _ _ _ _ _ _ _
   | exact laws_heldThree.mono _ _ _ _ _ _ _
   | exact laws_markThree.mono _ _ _ _ _ _ _
   | exact laws_szThree.mono _ _ _ _ _ _ _
   | exact laws_toThree.mono _ _ _ _ _ _
   | exact spec_Get.mono _ _ _ _ _ _ _
   | exact LeO.none _
   | refine LeO.ite ?_ ?_
   | refine LeO.bind ?_ (fun _ => ?_)
  ·intro y0 y1 y2 y3 y4 y5 y6 y7 y8 y9 y10 y11 y12 y13 y14 y15 y16 y17 y18
   unfold laws_FnExactGet.j1
   repeat' first
   | (with_reducible exact ih0 _ _ _ _ _ _ _ _ _ _ _ _ _ _ _ _ _ _ _ _ _ _ _ _ _ _)
   | (with_reducible exact ih1 _ _ _ _ _ _ _ _ _ _ _ _ _ _ _ _ _ _ _)
   | (with_reducible exact ih2 _ _ _ _ _ _ _)
   | (with_reducible exact impl_Get.mono _ _ _ _ _ _ _)
   | (with_reducible exact laws_eqThree.mono _ _ _ _ _ _ _ _ _ _ _)
   | (with_reducible exact laws_heldThree.mono _ _ _ _ _ _ _)
   | (with_reducible exact laws_markThree.mono _ _ _ _ _ _ _)
   | (with_reducible exact laws_szThree.mono _ _ _ _ _ _ _)
   | (with_reducible exact laws_toThree.mono _ _ _ _ _ _)
   | (with_reducible exact spec_Get.mono _ _ _ _ _ _ _)
   | (with_reducible exact LeO.refl _)
   | (with_reducible exact LeO.none _)
   | (with_reducible refine LeO.ite ?_ ?_)
   | (with_reducible refine LeO.bind ?_ (fun _ => ?_))
   | exact ih0 _ _ _ _ _ _ _ _ _ _ _ _ _ _ _ _ _ _ _ _ _ _ _ _ _ _
   | exact ih1 _ _ _ _ _ _ _ _ _ _ _ _ _ _ _ _ _ _ _
   | exact ih2 _ _ _ _ _ _ _
   | exact impl_Get.mono _ _ _ _ _ _ _
   | exact laws_eqThree.mono _ _ _ _ _ _ _ _ _ _ _
   | exact laws_heldThree.mono _ _ _ _ _ _ _
   | exact laws_markThree.mono _ _ _ _ _ _ _
   | exact laws_szThree.mono _ _ _ _ _ _ _
   | exact laws_toThree.mono _ _ _ _ _ _
   | exact spec_Get.mono _ _ _ _ _ _ _
   | exact LeO.none _
   | refine LeO.ite ?_ ?_
   | refine LeO.bind ?_ (fun _ => ?_)
  intro y0 y1 y2 y3 y4 y5 y6
  unfold laws_FnExactGet.j2
  repeat' first
  | (with_reducible exact ih0 _ _ _ _ _ _ _ _ _ _ _ _ _ _ _ _ _ _ _ _ _ _ _ _ _ _)
  | (with_reducible exact ih1 _ _ _ _ _ _ _ _ _ _ _ _ _ _ _ _ _ _ _)
  | (with_reducible exact ih2 _ _ _ _ _ _ _)
  | (with_reducible exact impl_Get.mono _ _ _ _ _ _ _)
  | (with_reducible exact laws_eqThree.mono _ _ _ _ _ _ _ _ _ _ _)
  | (with_reducible exact laws_heldThree.mono _ _ _ _ _ _ _)
  | (with_reducible exact laws_markThree.mono _ _ _ _ _ _ _)
  | (with_reducible exact laws_szThree.mono _ _ _ _ _ _ _)
  | (with_reducible exact laws_toThree.mono _ _ _ _ _ _)
  | (with_reducible exact spec_Get.mono _ _ _ _ _ _ _)
  | (with_reducible exact LeO.refl _)
  | (with_reducible exact LeO.none _)
  | (with_reducible refine LeO.ite ?_ ?_)
  | (with_reducible refine LeO.bind ?_ (fun _ => ?_))
  | exact ih0 _ _ _ _ _ _ _ _ _ _ _ _ _ _ _ _ _ _ _ _ _ _ _ _ _ _
  | exact ih1 _ _ _ _ _ _ _ _ _ _ _ _ _ _ _ _ _ _ _
  | exact ih2 _ _ _ _ _ _ _
  | exact impl_Get.mono _ _ _ _ _ _ _
  | exact laws_eqThree.mono _ _ _ _ _ _ _ _ _ _ _
  | exact laws_heldThree.mono _ _ _ _ _ _ _
  | exact laws_markThree.mono _ _ _ _ _ _ _
  | exact laws_szThree.mono _ _ _ _ _ _ _
  | exact laws_toThree.mono _ _ _ _ _ _
  | exact spec_Get.mono _ _ _ _ _ _ _
  | exact LeO.none _
  | refine LeO.ite ?_ ?_
  | refine LeO.bind ?_ (fun _ => ?_)
theorem laws_FnExactGet.mono : ∀ a0 a1 a2 a3 a4 a5 k, LeO (laws_FnExactGet.f k a0 a1 a2 a3 a4 a5) (laws_FnExactGet.f (k + 1) a0 a1 a2 a3 a4 a5) := by
 intro a0 a1 a2 a3 a4 a5 k
 obtain ⟨ih0, ih1, ih2⟩ := laws_FnExactGet.mono_l k
 unfold laws_FnExactGet.f
 repeat' first
   | (with_reducible exact ih0 _ _ _ _ _ _ _ _ _ _ _ _ _ _ _ _ _ _ _ _ _ _ _ _ _ _)
   | (with_reducible exact ih1 _ _ _ _ _ _ _ _ _ _ _ _ _ _ _ _ _ _ _)
   | (with_reducible exact ih2 _ _ _ _ _ _ _)
   | (with_reducible exact impl_Get.mono _ _ _ _ _ _ _)
   | (with_reducible exact laws_eqThree.mono _ _ _ _ _ _ _ _ _ _ _)
   | (with_reducible exact laws_heldThree.mono _ _ _ _ _ _ _)
   | (with_reducible exact laws_markThree.mono _ _ _ _ _ _ _)
   | (with_reducible exact laws_szThree.mono _ _ _ _ _ _ _)
   | (with_reducible exact laws_toThree.mono _ _ _ _ _ _)
   | (with_reducible exact spec_Get.mono _ _ _ _ _ _ _)
   | (with_reducible exact LeO.refl _)
   | (with_reducible exact LeO.none _)
   | (with_reducible refine LeO.ite ?_ ?_)
   | (with_reducible refine LeO.bind ?_ (fun _ => ?_))
   | exact ih0 _ _ _ _ _ _ _ _ _ _ _ _ _ _ _ _ _ _ _ _ _ _ _ _ _ _
   | exact ih1 _ _ _ _ _ _ _ _ _ _ _ _ _ _ _ _ _ _ _
   | exact ih2 _ _ _ _ _ _ _
   | exact impl_Get.mono _ _ _ _ _ _ _
   | exact laws_eqThree.mono _ _ _ _ _ _ _ _ _ _ _
   | exact laws_heldThree.mono _ _ _ _ _ _ _
   | exact laws_markThree.mono _ _ _ _ _ _ _
   | exact laws_szThree.mono _ _ _ _ _ _ _
   | exact laws_toThree.mono _ _ _ _ _ _
   | exact spec_Get.mono _ _ _ _ _ _ _
   | exact LeO.none _
   | refine LeO.ite ?_ ?_
   | refine LeO.bind ?_ (fun _ => ?_)
set_option maxHeartbeats 8000000 in
set_option maxRecDepth 100000 in
theorem laws_FnExactGet.calls (k : Nat) (a0_0 : Int) (a0_1 : Int) (A0_2 : Option Addr) (c0_2 : Nat) (l0_2 : List (S125)) (A0_3 : Option Addr) (c0_3 : Nat) (l0_3 : List (S125)) (A0_4 : Option Addr) (c0_4 : Nat) (l0_4 : List Int) (a1 : ByteArray) (r : Bool) (w : World) (hr0_2 : Kd.C k125 w A0_2 l0_2.length l0_2) (hc0_2 : l0_2.length ≤ c0_2) (hr0_3 : Kd.C k125 w A0_3 l0_3.length l0_3) (hc0_3 : l0_3.length ≤ c0_3) (hr0_4 : Kd.C (Kd.int .i64) w A0_4 l0_4.length l0_4) (hc0_4 : l0_4.length ≤ c0_4) (h : laws_FnExactGet.f k a0_0 a0_1 l0_2 l0_3 l0_4 a1 = some r) (hrt_ : Aside0 (r = true)) :
  Calls Try.prog 9 #[.agg #[.int .i64 a0_0, .int .i64 a0_1, .slice A0_2 l0_2.length c0_2, .slice A0_3 l0_3.length c0_3, .slice A0_4 l0_4.length c0_4], .string a1] w fun e w' => e = .returned (.bool r) ∧ Below w.heap.size w w' := by
 have hu25 := Try.underlying25
 have hu30 := Try.underlying30
 have HR0_2 := Aside0.mk hr0_2
 have HC0_2 := Aside0.mk hc0_2
 clear hr0_2 hc0_2
 have HR0_3 := Aside0.mk hr0_3
 have HC0_3 := Aside0.mk hc0_3
 clear hr0_3 hc0_3
 have HR0_4 := Aside0.mk hr0_4
 have HC0_4 := Aside0.mk hc0_4
 clear hr0_4 hc0_4
 have HB := Aside0.mk (Below.refl w.heap.size w)
 have H : (if (a1.size : Int) > 1048576 then (some true) else ((laws_szThree.f k a0_0 a0_1 l0_2 l0_3 l0_4 1048576).bind fun t337 => (if t337 < 0 then (some true) else ((laws_toThree.f k a0_0 a0_1 l0_2 l0_3 l0_4).bind fun bt338 => ((spec_Get.f k bt338.1 bt338.2.1 bt338.2.2.1 bt338.2.2.2.1 bt338.2.2.2.2 a1).bind fun bt349 => ((laws_toThree.f k a0_0 a0_1 l0_2 l0_3 l0_4).bind fun bt363 => ((impl_Get.f k bt363.1 bt363.2.1 bt363.2.2.1 bt363.2.2.2.1 bt363.2.2.2.2 a1).bind fun bt375 => ((laws_eqThree.f k bt375.1 bt375.2.1 bt375.2.2.1 bt375.2.2.2.1 bt375.2.2.2.2.1 bt349.1 bt349.2.1 bt349.2.2.1 bt349.2.2.2.1 bt349.2.2.2.2.1).bind fun t389 => (if t389 = true then (if bt375.2.2.2.2.2.1.toList = bt349.2.2.2.2.2.1.toList then (laws_FnExactGet.j0 k a1 bt349.2.2.2.2.2.1 bt349.2.2.2.2.2.2 bt375.2.2.2.2.2.1 bt375.2.2.2.2.2.2 (bt375.2.2.2.2.2.2 != bt349.2.2.2.2.2.2) a0_0 a0_1 l0_2 l0_3 l0_4 bt349.1 bt349.2.1 bt349.2.2.1 bt349.2.2.2.1 bt349.2.2.2.2.1 bt363.1 bt363.2.1 bt363.2.2.1 bt363.2.2.2.1 bt363.2.2.2.2 bt375.1 bt375.2.1 bt375.2.2.1 bt375.2.2.2.1 bt375.2.2.2.2.1) else (laws_FnExactGet.j0 k a1 bt349.2.2.2.2.2.1 bt349.2.2.2.2.2.2 bt375.2.2.2.2.2.1 bt375.2.2.2.2.2.2 true a0_0 a0_1 l0_2 l0_3 l0_4 bt349.1 bt349.2.1 bt349.2.2.1 bt349.2.2.2.1 bt349.2.2.2.2.1 bt363.1 bt363.2.1 bt363.2.2.1 bt363.2.2.2.1 bt363.2.2.2.2 bt375.1 bt375.2.1 bt375.2.2.1 bt375.2.2.2.1 bt375.2.2.2.2.1)) else (laws_FnExactGet.j0 k a1 bt349.2.2.2.2.2.1 bt349.2.2.2.2.2.2 bt375.2.2.2.2.2.1 bt375.2.2.2.2.2.2 true a0_0 a0_1 l0_2 l0_3 l0_4 bt349.1 bt349.2.1 bt349.2.2.1 bt349.2.2.2.1 bt349.2.2.2.2.1 bt363.1 bt363.2.1 bt363.2.2.1 bt363.2.2.2.1 bt363.2.2.2.2 bt375.1 bt375.2.1 bt375.2.2.1 bt375.2.2.2.1 bt375.2.2.2.2.1)))))))))) = some r := h
 clear h
 by_cases c3 : (a1.size : Int) > 1048576
 ·rw [if_pos c3] at H
  have c3b0 : decide (1048576 < (a1.size : Int)) = true := decide_eq_true c3
  have c3b1 : decide (1048576 < a1.size) = true := decide_eq_true (by omega)
  clear c3
  obtain rfl := Option.some.inj H
  go_enter Try.func9, Try.ntmps9
  go_wp2_with (first | ((with_reducible refine gate_dst (N := 2) rfl ?_); refine bx 2 #[.int .i64 a0_0, .int .i64 a0_1, .slice A0_2 l0_2.length c0_2, .slice A0_3 l0_3.length c0_3, .slice A0_4 l0_4.length c0_4] 25 ?_; intro gb336 hg w4 hbox hb; have BK336 := am hbox; have GW336 := gs0 hg HB; have GE336 := gs0 hg HB; replace HB := s0 HB hb; clear hb hbox hg))
  go_ret
  exact ⟨er, be1 HB GE336⟩
 rw [if_neg c3] at H
 have c3b0 : decide (1048576 < (a1.size : Int)) = false := decide_eq_false c3
 have c3b1 : decide (1048576 < a1.size) = false := decide_eq_false (by omega)
 clear c3
 replace H := Option.bind_eq_some_iff.mp H
 obtain ⟨t337, A50, H⟩ := H
 try dsimp only at H
 have A5 := Aside0.mk A50
 clear A50
 by_cases c6 : t337 < 0
 ·rw [if_pos c6] at H
  have c6b0 : decide (t337 < 0) = true := decide_eq_true c6
  clear c6
  obtain rfl := Option.some.inj H
  go_enter Try.func9, Try.ntmps9
  go_wp2_with (first | ((with_reducible refine gate_dst (N := 2) rfl ?_); refine bx 2 #[.int .i64 a0_0, .int .i64 a0_1, .slice A0_2 l0_2.length c0_2, .slice A0_3 l0_3.length c0_3, .slice A0_4 l0_4.length c0_4] 25 ?_; intro gb336 hg w7 hbox hb; have BK336 := am hbox; have GW336 := gs0 hg HB; have GE336 := gs0 hg HB; replace HB := s0 HB hb; clear hb hbox hg; have hcz8_0 := bz5 BK336) | ((with_reducible refine gate_callee (f := 16) rfl ?_); refine gl 24 Try.func16 #[.agg #[.int .i64 a0_0, .int .i64 a0_1, .slice A0_2 l0_2.length c0_2, .slice A0_3 l0_3.length c0_3, .slice A0_4 l0_4.length c0_4], .int .i64 1048576] ?_; (with_reducible refine (laws_szThree.calls k a0_0 a0_1 _ _ l0_2 _ _ l0_3 _ _ l0_4 1048576 t337 _ (cb HR0_2 HB) HC0_2.out (cb HR0_3 HB) HC0_3.out (cb HR0_4 HB) HC0_4.out A5.out).mono ?_); rintro e w9 ⟨rfl, hb⟩; refine ⟨_, rfl, ?_⟩; replace BK336 := bb BK336 hb; replace HB := Aside0.mk (below_step (be1 HB GE336) hb); (try clear hb)))
  go_ret
  exact ⟨er, be1 HB GE336⟩
 rw [if_neg c6] at H
 have c6b0 : decide (t337 < 0) = false := decide_eq_false c6
 clear c6
 replace H := Option.bind_eq_some_iff.mp H
 obtain ⟨⟨t338, t339, t340, t343, t346⟩, A100, H⟩ := H
 try dsimp only at H
 have A10 := Aside0.mk A100
 clear A100
 replace H := Option.bind_eq_some_iff.mp H
 obtain ⟨⟨t349, t350, t351, t354, t357, t360, t361⟩, A110, H⟩ := H
 try dsimp only at H
 have A11 := Aside0.mk A110
 clear A110
 replace H := Option.bind_eq_some_iff.mp H
 obtain ⟨⟨t363, t364, t365, t368, t371⟩, A120, H⟩ := H
 try dsimp only at H
 have A12 := Aside0.mk A120
 clear A120
 replace H := Option.bind_eq_some_iff.mp H
 obtain ⟨⟨t375, t376, t377, t380, t383, t386, t387⟩, A130, H⟩ := H
 try dsimp only at H
 have A13 := Aside0.mk A130
 clear A130
 have HC14 := Aside0.mk H
 clear H
 go_enter Try.func9, Try.ntmps9
 go_upto_region 10 with (first | ((with_reducible refine gate_dst (N := 2) rfl ?_); refine bx 2 #[.int .i64 a0_0, .int .i64 a0_1, .slice A0_2 l0_2.length c0_2, .slice A0_3 l0_3.length c0_3, .slice A0_4 l0_4.length c0_4] 25 ?_; intro gb336 hg w15 hbox hb; have BK336 := am hbox; have GW336 := gs0 hg HB; have GE336 := gs0 hg HB; replace HB := s0 HB hb; clear hb hbox hg; have hcz16_0 := bz5 BK336) | ((with_reducible refine gate_callee (f := 16) rfl ?_); refine gl 24 Try.func16 #[.agg #[.int .i64 a0_0, .int .i64 a0_1, .slice A0_2 l0_2.length c0_2, .slice A0_3 l0_3.length c0_3, .slice A0_4 l0_4.length c0_4], .int .i64 1048576] ?_; (with_reducible refine (laws_szThree.calls k a0_0 a0_1 _ _ l0_2 _ _ l0_3 _ _ l0_4 1048576 t337 _ (cb HR0_2 HB) HC0_2.out (cb HR0_3 HB) HC0_3.out (cb HR0_4 HB) HC0_4.out A5.out).mono ?_); rintro e w17 ⟨rfl, hb⟩; refine ⟨_, rfl, ?_⟩; replace BK336 := bb BK336 hb; replace HB := Aside0.mk (below_step (be1 HB GE336) hb); (try clear hb); have hcz18_0 := bz5 BK336) | ((with_reducible refine gate_callee (f := 18) rfl ?_); refine gl 29 Try.func18 #[.agg #[.int .i64 a0_0, .int .i64 a0_1, .slice A0_2 l0_2.length c0_2, .slice A0_3 l0_3.length c0_3, .slice A0_4 l0_4.length c0_4]] ?_; (with_reducible refine (laws_toThree.calls k a0_0 a0_1 _ _ l0_2 _ _ l0_3 _ _ l0_4 t338 t339 t340 t343 t346 _ (cb HR0_2 HB) HC0_2.out (cb HR0_3 HB) HC0_3.out (cb HR0_4 HB) HC0_4.out A10.out).mono ?_); rintro e w19 ⟨v341, v344, v347, rfl, ho0, ho1, ho2, hb⟩; refine ⟨_, rfl, ?_⟩; have HO342 := Aside0.mk (Kd.R_lower ho0 (below_size (be1 HB GE336))); have HO345 := Aside0.mk (Kd.R_lower ho1 (below_size (be1 HB GE336))); have HO348 := Aside0.mk (Kd.R_lower ho2 (below_size (be1 HB GE336))); replace BK336 := bb BK336 hb; replace HB := Aside0.mk (below_step (be1 HB GE336) hb); (try clear hb); (try clear ho0); (try clear ho1); (try clear ho2); obtain ⟨Ao20, co20, eo20⟩ := Kd.R_slice HO342.out; subst eo20; obtain ⟨Ao21, co21, eo21⟩ := Kd.R_slice HO345.out; subst eo21; obtain ⟨Ao22, co22, eo22⟩ := Kd.R_slice HO348.out; subst eo22) | ((with_reducible refine gate_callee (f := 35) rfl ?_); refine gl 31 Try.func35 #[.agg #[.int .i64 t338, .int .i64 t339, .slice Ao20 t340.length co20, .slice Ao21 t343.length co21, .slice Ao22 t346.length co22], .string a1] ?_; (with_reducible refine (spec_Get.calls k t338 t339 _ _ t340 _ _ t343 _ _ t346 a1 t349 t350 t351 t354 t357 t360 t361 _ (cr HO342) ((Kd.R_reads' HO342.out).2.1) (cr HO345) ((Kd.R_reads' HO345.out).2.1) (cr HO348) ((Kd.R_reads' HO348.out).2.1) A11.out).mono ?_); rintro e w23 ⟨v352, v355, v358, rfl, ho0, ho1, ho2, hb⟩; refine ⟨_, rfl, ?_⟩; have HO353 := Aside0.mk (Kd.R_lower (nw (nw ho0 HO342) HO345) (below_size (be1 HB GE336))); have HO356 := Aside0.mk (Kd.R_lower (nw (nw ho1 HO342) HO345) (below_size (be1 HB GE336))); replace HO342 := td2 (ro HO342) hb ho0 ho1; replace HO345 := td2 (ro HO345) hb ho0 ho1; have HO359 := Aside0.mk (Kd.R_lower (nw ho2 HO348) (below_size (be1 HB GE336))); replace HO348 := Aside0.mk (Kd.R_elder' (ro HO348) (Kd.R_base ho2) hb); replace BK336 := bb BK336 hb; replace HB := Aside0.mk (below_step (be1 HB GE336) hb); (try clear hb); (try clear ho0); (try clear ho1); (try clear ho2)) | ((with_reducible refine gate_dst (N := 6) rfl ?_); refine bx 6 #[.int .i64 0, .int .i64 0, .slice none 0 0, .slice none 0 0, .slice none 0 0] 30 ?_; intro gb362 hg w24 hbox hb; replace HO342 := rb HO342 hb; replace HO345 := rb HO345 hb; replace HO348 := rb HO348 hb; replace HO353 := rb HO353 hb; replace HO356 := rb HO356 hb; replace HO359 := rb HO359 hb; have BK362 := am hbox; have GW362 := gs1 hg HB GE336; have GE362 := gs1 hg HB GE336; replace HB := Aside0.mk (below_step (be1 HB GE336) hb); have NB336_362 := Aside0.mk ((by rw [hg]; exact Nat.ne_of_lt (bl BK336) : gb336 ≠ gb362)); have NB362_336 := Aside0.mk ((by rw [hg]; exact Nat.ne_of_gt (bl BK336) : gb362 ≠ gb336)); replace BK336 := bb BK336 hb; clear hb hbox hg; have hnb25 := NB362_336.out; have hnc25 := NB336_362.out; have hcz26_0 := bz5 BK362; obtain ⟨Ao27, co27, eo27⟩ := Kd.R_slice HO353.out; subst eo27; obtain ⟨Ao28, co28, eo28⟩ := Kd.R_slice HO356.out; subst eo28; obtain ⟨Ao29, co29, eo29⟩ := Kd.R_slice HO359.out; subst eo29; have hcz30_0 := bz5 BK336) | ((with_reducible refine gate_callee (f := 18) rfl ?_); refine gl 36 Try.func18 #[.agg #[.int .i64 a0_0, .int .i64 a0_1, .slice A0_2 l0_2.length c0_2, .slice A0_3 l0_3.length c0_3, .slice A0_4 l0_4.length c0_4]] ?_; (with_reducible refine (laws_toThree.calls k a0_0 a0_1 _ _ l0_2 _ _ l0_3 _ _ l0_4 t363 t364 t365 t368 t371 _ ?side1 HC0_2.out ?side3 HC0_3.out ?side5 HC0_4.out A12.out).mono ?_); (case side1 => exact Kd.C_below HR0_2.out (be2 HB GE336 GE362)); (case side3 => exact Kd.C_below HR0_3.out (be2 HB GE336 GE362)); (case side5 => exact Kd.C_below HR0_4.out (be2 HB GE336 GE362)); rintro e w31 ⟨v366, v369, v372, rfl, ho0, ho1, ho2, hb⟩; refine ⟨_, rfl, ?_⟩; have HO367 := Aside0.mk (Kd.R_lower (Kd.R_new' (Kd.R_new' (Kd.R_new' (Kd.R_new' ho0 (Kd.R_lt (rf HO342 BK362))) (Kd.R_lt (rf HO345 BK362))) (Kd.R_lt (rf HO353 BK362))) (Kd.R_lt (rf HO356 BK362))) (below_size (be2 HB GE336 GE362))); have HO370 := Aside0.mk (Kd.R_lower (Kd.R_new' (Kd.R_new' (Kd.R_new' (Kd.R_new' ho1 (Kd.R_lt (rf HO342 BK362))) (Kd.R_lt (rf HO345 BK362))) (Kd.R_lt (rf HO353 BK362))) (Kd.R_lt (rf HO356 BK362))) (below_size (be2 HB GE336 GE362))); replace HO342 := td2 (rf HO342 BK362) hb ho0 ho1; replace HO345 := td2 (rf HO345 BK362) hb ho0 ho1; replace HO353 := td2 (rf HO353 BK362) hb ho0 ho1; replace HO356 := td2 (rf HO356 BK362) hb ho0 ho1; have HO373 := Aside0.mk (Kd.R_lower (Kd.R_new' (Kd.R_new' ho2 (Kd.R_lt (rf HO348 BK362))) (Kd.R_lt (rf HO359 BK362))) (below_size (be2 HB GE336 GE362))); replace HO348 := Aside0.mk (Kd.R_elder' (rf HO348 BK362) (Kd.R_base ho2) hb); replace HO359 := Aside0.mk (Kd.R_elder' (rf HO359 BK362) (Kd.R_base ho2) hb); replace BK336 := Aside0.mk (blk_below (g := gb336) (o := .cells #[.int .i64 a0_0, .int .i64 a0_1, .slice A0_2 l0_2.length c0_2, .slice A0_3 l0_3.length c0_3, .slice A0_4 l0_4.length c0_4] 25 (0, 0)) (bf1 BK336 NB336_362) hb); replace BK362 := Aside0.mk (blk_below (g := gb362) (o := .cells #[.int .i64 t349, .int .i64 t350, .slice Ao27 t351.length co27, .slice Ao28 t354.length co28, .slice Ao29 t357.length co29] 30 (0, 0)) (by (with_reducible repeat (first | refine blk_drewN ?_ _ | refine blk_drew ?_ | refine blk_alloc ?_ _)); refine blk_put (cs := #[.int .i64 t349, .int .i64 t350, .slice Ao27 t351.length co27, .slice Ao28 t354.length co28, .slice none 0 0]) ?_ 4 _ rfl; (with_reducible repeat (first | refine blk_drewN ?_ _ | refine blk_drew ?_ | refine blk_alloc ?_ _)); refine blk_put (cs := #[.int .i64 t349, .int .i64 t350, .slice Ao27 t351.length co27, .slice none 0 0, .slice none 0 0]) ?_ 3 _ rfl; (with_reducible repeat (first | refine blk_drewN ?_ _ | refine blk_drew ?_ | refine blk_alloc ?_ _)); refine blk_put (cs := #[.int .i64 t349, .int .i64 t350, .slice none 0 0, .slice none 0 0, .slice none 0 0]) ?_ 2 _ rfl; (with_reducible repeat (first | refine blk_drewN ?_ _ | refine blk_drew ?_ | refine blk_alloc ?_ _)); refine blk_put (cs := #[.int .i64 t349, .int .i64 0, .slice none 0 0, .slice none 0 0, .slice none 0 0]) ?_ 1 _ rfl; (with_reducible repeat (first | refine blk_drewN ?_ _ | refine blk_drew ?_ | refine blk_alloc ?_ _)); refine blk_put (cs := #[.int .i64 0, .int .i64 0, .slice none 0 0, .slice none 0 0, .slice none 0 0]) ?_ 0 _ rfl; (with_reducible repeat (first | refine blk_drewN ?_ _ | refine blk_drew ?_ | refine blk_alloc ?_ _)); exact BK362.out) hb); replace HB := Aside0.mk (below_step (be2 HB GE336 GE362) hb); (try clear hb); (try clear ho0); (try clear ho1); (try clear ho2)) | ((with_reducible refine gate_dst (N := 9) rfl ?_); refine bx 9 #[.int .i64 0, .int .i64 0, .slice none 0 0, .slice none 0 0, .slice none 0 0] 30 ?_; intro gb374 hg w32 hbox hb; replace HO342 := rb HO342 hb; replace HO345 := rb HO345 hb; replace HO348 := rb HO348 hb; replace HO353 := rb HO353 hb; replace HO356 := rb HO356 hb; replace HO359 := rb HO359 hb; replace HO367 := rb HO367 hb; replace HO370 := rb HO370 hb; replace HO373 := rb HO373 hb; have BK374 := am hbox; have GW374 := gs2 hg HB GE336 GE362; have GE374 := gs2 hg HB GE336 GE362; replace HB := Aside0.mk (below_step (be2 HB GE336 GE362) hb); have NB336_374 := Aside0.mk ((by rw [hg]; exact Nat.ne_of_lt (bl BK336) : gb336 ≠ gb374)); have NB374_336 := Aside0.mk ((by rw [hg]; exact Nat.ne_of_gt (bl BK336) : gb374 ≠ gb336)); replace BK336 := bb BK336 hb; have NB362_374 := Aside0.mk ((by rw [hg]; exact Nat.ne_of_lt (bl BK362) : gb362 ≠ gb374)); have NB374_362 := Aside0.mk ((by rw [hg]; exact Nat.ne_of_gt (bl BK362) : gb374 ≠ gb362)); replace BK362 := bb BK362 hb; clear hb hbox hg; have hnb33 := NB374_336.out; have hnc33 := NB336_374.out; have hnb34 := NB374_362.out; have hnc34 := NB362_374.out; have hcz35_0 := bz5 BK374; obtain ⟨Ao36, co36, eo36⟩ := Kd.R_slice HO367.out; subst eo36; obtain ⟨Ao37, co37, eo37⟩ := Kd.R_slice HO370.out; subst eo37; obtain ⟨Ao38, co38, eo38⟩ := Kd.R_slice HO373.out; subst eo38) | ((with_reducible refine gate_callee (f := 36) rfl ?_); refine gl 40 Try.func36 #[.agg #[.int .i64 t363, .int .i64 t364, .slice Ao36 t365.length co36, .slice Ao37 t368.length co37, .slice Ao38 t371.length co38], .string a1] ?_; (with_reducible refine (impl_Get.calls k t363 t364 _ _ t365 _ _ t368 _ _ t371 a1 t375 t376 t377 t380 t383 t386 t387 _ ?side1 ((Kd.R_reads' HO367.out).2.1) ?side3 ((Kd.R_reads' HO370.out).2.1) ?side5 ((Kd.R_reads' HO373.out).2.1) A13.out).mono ?_); (case side1 => exact rfr _ HO367 BK374); (case side3 => exact rfr _ HO370 BK374); (case side5 => exact rfr _ HO373 BK374); rintro e w39 ⟨v378, v381, v384, rfl, ho0, ho1, ho2, hb⟩; refine ⟨_, rfl, ?_⟩; have HO379 := Aside0.mk (Kd.R_lower (Kd.R_new' (Kd.R_new' (Kd.R_new' (Kd.R_new' (Kd.R_new' (Kd.R_new' ho0 (Kd.R_lt (rf HO342 BK374))) (Kd.R_lt (rf HO345 BK374))) (Kd.R_lt (rf HO353 BK374))) (Kd.R_lt (rf HO356 BK374))) (Kd.R_lt (rf HO367 BK374))) (Kd.R_lt (rf HO370 BK374))) (below_size (be3 HB GE336 GE362 GE374))); have HO382 := Aside0.mk (Kd.R_lower (Kd.R_new' (Kd.R_new' (Kd.R_new' (Kd.R_new' (Kd.R_new' (Kd.R_new' ho1 (Kd.R_lt (rf HO342 BK374))) (Kd.R_lt (rf HO345 BK374))) (Kd.R_lt (rf HO353 BK374))) (Kd.R_lt (rf HO356 BK374))) (Kd.R_lt (rf HO367 BK374))) (Kd.R_lt (rf HO370 BK374))) (below_size (be3 HB GE336 GE362 GE374))); replace HO342 := td2 (rf HO342 BK374) hb ho0 ho1; replace HO345 := td2 (rf HO345 BK374) hb ho0 ho1; replace HO353 := td2 (rf HO353 BK374) hb ho0 ho1; replace HO356 := td2 (rf HO356 BK374) hb ho0 ho1; replace HO367 := td2 (rf HO367 BK374) hb ho0 ho1; replace HO370 := td2 (rf HO370 BK374) hb ho0 ho1; have HO385 := Aside0.mk (Kd.R_lower (Kd.R_new' (Kd.R_new' (Kd.R_new' ho2 (Kd.R_lt (rf HO348 BK374))) (Kd.R_lt (rf HO359 BK374))) (Kd.R_lt (rf HO373 BK374))) (below_size (be3 HB GE336 GE362 GE374))); replace HO348 := Aside0.mk (Kd.R_elder' (rf HO348 BK374) (Kd.R_base ho2) hb); replace HO359 := Aside0.mk (Kd.R_elder' (rf HO359 BK374) (Kd.R_base ho2) hb); replace HO373 := Aside0.mk (Kd.R_elder' (rf HO373 BK374) (Kd.R_base ho2) hb); replace BK336 := Aside0.mk (blk_below (g := gb336) (o := .cells #[.int .i64 a0_0, .int .i64 a0_1, .slice A0_2 l0_2.length c0_2, .slice A0_3 l0_3.length c0_3, .slice A0_4 l0_4.length c0_4] 25 (0, 0)) (bf1 BK336 NB336_374) hb); replace BK362 := Aside0.mk (blk_below (g := gb362) (o := .cells #[.int .i64 t349, .int .i64 t350, .slice Ao27 t351.length co27, .slice Ao28 t354.length co28, .slice Ao29 t357.length co29] 30 (0, 0)) (bf1 BK362 NB362_374) hb); replace BK374 := Aside0.mk (blk_below (g := gb374) (o := .cells #[.int .i64 t363, .int .i64 t364, .slice Ao36 t365.length co36, .slice Ao37 t368.length co37, .slice Ao38 t371.length co38] 30 (0, 0)) (by (with_reducible repeat (first | refine blk_drewN ?_ _ | refine blk_drew ?_ | refine blk_alloc ?_ _)); refine blk_put (cs := #[.int .i64 t363, .int .i64 t364, .slice Ao36 t365.length co36, .slice Ao37 t368.length co37, .slice none 0 0]) ?_ 4 _ rfl; (with_reducible repeat (first | refine blk_drewN ?_ _ | refine blk_drew ?_ | refine blk_alloc ?_ _)); refine blk_put (cs := #[.int .i64 t363, .int .i64 t364, .slice Ao36 t365.length co36, .slice none 0 0, .slice none 0 0]) ?_ 3 _ rfl; (with_reducible repeat (first | refine blk_drewN ?_ _ | refine blk_drew ?_ | refine blk_alloc ?_ _)); refine blk_put (cs := #[.int .i64 t363, .int .i64 t364, .slice none 0 0, .slice none 0 0, .slice none 0 0]) ?_ 2 _ rfl; (with_reducible repeat (first | refine blk_drewN ?_ _ | refine blk_drew ?_ | refine blk_alloc ?_ _)); refine blk_put (cs := #[.int .i64 t363, .int .i64 0, .slice none 0 0, .slice none 0 0, .slice none 0 0]) ?_ 1 _ rfl; (with_reducible repeat (first | refine blk_drewN ?_ _ | refine blk_drew ?_ | refine blk_alloc ?_ _)); refine blk_put (cs := #[.int .i64 0, .int .i64 0, .slice none 0 0, .slice none 0 0, .slice none 0 0]) ?_ 0 _ rfl; (with_reducible repeat (first | refine blk_drewN ?_ _ | refine blk_drew ?_ | refine blk_alloc ?_ _)); exact BK374.out) hb); replace HB := Aside0.mk (below_step (be3 HB GE336 GE362 GE374) hb); (try clear hb); (try clear ho0); (try clear ho1); (try clear ho2)) | ((with_reducible refine gate_dst (N := 10) rfl ?_); refine bx 10 #[.int .i64 0, .int .i64 0, .slice none 0 0, .slice none 0 0, .slice none 0 0] 30 ?_; intro gb388 hg w40 hbox hb; replace HO342 := rb HO342 hb; replace HO345 := rb HO345 hb; replace HO348 := rb HO348 hb; replace HO353 := rb HO353 hb; replace HO356 := rb HO356 hb; replace HO359 := rb HO359 hb; replace HO367 := rb HO367 hb; replace HO370 := rb HO370 hb; replace HO373 := rb HO373 hb; replace HO379 := rb HO379 hb; replace HO382 := rb HO382 hb; replace HO385 := rb HO385 hb; have BK388 := am hbox; have GW388 := Aside0.mk ((by rw [hg]; exact (below_size (be3 HB GE336 GE362 GE374)) : w.heap.size ≤ gb388)); have GE388 := Aside0.mk ((by rw [hg]; exact (below_size (be3 HB GE336 GE362 GE374)) : w.heap.size ≤ gb388)); replace HB := Aside0.mk (below_step (be3 HB GE336 GE362 GE374) hb); have NB336_388 := Aside0.mk ((by rw [hg]; exact Nat.ne_of_lt (bl BK336) : gb336 ≠ gb388)); have NB388_336 := Aside0.mk ((by rw [hg]; exact Nat.ne_of_gt (bl BK336) : gb388 ≠ gb336)); replace BK336 := bb BK336 hb; have NB362_388 := Aside0.mk ((by rw [hg]; exact Nat.ne_of_lt (bl BK362) : gb362 ≠ gb388)); have NB388_362 := Aside0.mk ((by rw [hg]; exact Nat.ne_of_gt (bl BK362) : gb388 ≠ gb362)); replace BK362 := bb BK362 hb; have NB374_388 := Aside0.mk ((by rw [hg]; exact Nat.ne_of_lt (bl BK374) : gb374 ≠ gb388)); have NB388_374 := Aside0.mk ((by rw [hg]; exact Nat.ne_of_gt (bl BK374) : gb388 ≠ gb374)); replace BK374 := bb BK374 hb; clear hb hbox hg; have hnb41 := NB388_336.out; have hnc41 := NB336_388.out; have hnb42 := NB388_362.out; have hnc42 := NB362_388.out; have hnb43 := NB388_374.out; have hnc43 := NB374_388.out; have hcz44_0 := bz5 BK388; obtain ⟨Ao45, co45, eo45⟩ := Kd.R_slice HO379.out; subst eo45; obtain ⟨Ao46, co46, eo46⟩ := Kd.R_slice HO382.out; subst eo46; obtain ⟨Ao47, co47, eo47⟩ := Kd.R_slice HO385.out; subst eo47))
 (try simp only [Act.put, List.setIfInBounds_toArray, List.set_cons_zero, List.set_cons_succ])
 go_cut [57] (fun v57 wc => ∃ (kq : Nat) (x57_13 : Bool), v57 = .bool x57_13 ∧ Aside0 (laws_FnExactGet.j0 kq a1 t360 t361 t386 t387 x57_13 a0_0 a0_1 l0_2 l0_3 l0_4 t349 t350 t351 t354 t357 t363 t364 t365 t368 t371 t375 t376 t377 t380 t383 = some r) ∧ Aside0 (kq ≤ k) ∧ Aside0 (Kd.R k68 68 wc w.heap.size (fun k_ => nb k_ Ao28 t354.length co28 ∧ nb k_ Ao36 t365.length co36 ∧ nb k_ Ao37 t368.length co37 ∧ nb k_ Ao45 t377.length co45 ∧ nb k_ Ao46 t380.length co46) (.slice Ao27 t351.length co27) t351) ∧ Aside0 (Kd.R k68 68 wc w.heap.size (fun k_ => nb k_ Ao27 t351.length co27 ∧ nb k_ Ao36 t365.length co36 ∧ nb k_ Ao37 t368.length co37 ∧ nb k_ Ao45 t377.length co45 ∧ nb k_ Ao46 t380.length co46) (.slice Ao28 t354.length co28) t354) ∧ Aside0 (Kd.R (Kd.int .i64) 3 wc w.heap.size (fun k_ => nb k_ Ao38 t371.length co38 ∧ nb k_ Ao47 t383.length co47) (.slice Ao29 t357.length co29) t357) ∧ Aside0 (Kd.R k68 68 wc w.heap.size (fun k_ => nb k_ Ao27 t351.length co27 ∧ nb k_ Ao28 t354.length co28 ∧ nb k_ Ao37 t368.length co37 ∧ nb k_ Ao45 t377.length co45 ∧ nb k_ Ao46 t380.length co46) (.slice Ao36 t365.length co36) t365) ∧ Aside0 (Kd.R k68 68 wc w.heap.size (fun k_ => nb k_ Ao27 t351.length co27 ∧ nb k_ Ao28 t354.length co28 ∧ nb k_ Ao36 t365.length co36 ∧ nb k_ Ao45 t377.length co45 ∧ nb k_ Ao46 t380.length co46) (.slice Ao37 t368.length co37) t368) ∧ Aside0 (Kd.R (Kd.int .i64) 3 wc w.heap.size (fun k_ => nb k_ Ao29 t357.length co29 ∧ nb k_ Ao47 t383.length co47) (.slice Ao38 t371.length co38) t371) ∧ Aside0 (Kd.R k68 68 wc w.heap.size (fun k_ => nb k_ Ao27 t351.length co27 ∧ nb k_ Ao28 t354.length co28 ∧ nb k_ Ao36 t365.length co36 ∧ nb k_ Ao37 t368.length co37 ∧ nb k_ Ao46 t380.length co46) (.slice Ao45 t377.length co45) t377) ∧ Aside0 (Kd.R k68 68 wc w.heap.size (fun k_ => nb k_ Ao27 t351.length co27 ∧ nb k_ Ao28 t354.length co28 ∧ nb k_ Ao36 t365.length co36 ∧ nb k_ Ao37 t368.length co37 ∧ nb k_ Ao45 t377.length co45) (.slice Ao46 t380.length co46) t380) ∧ Aside0 (Kd.R (Kd.int .i64) 3 wc w.heap.size (fun k_ => nb k_ Ao29 t357.length co29 ∧ nb k_ Ao38 t371.length co38) (.slice Ao47 t383.length co47) t383) ∧ Aside0 (wc.heap[gb336]? = some (.cells #[.int .i64 a0_0, .int .i64 a0_1, (.slice A0_2 l0_2.length c0_2), (.slice A0_3 l0_3.length c0_3), (.slice A0_4 l0_4.length c0_4)] 25 (0, 0))) ∧ Aside0 (wc.heap[gb362]? = some (.cells #[.int .i64 t349, .int .i64 t350, (.slice Ao27 t351.length co27), (.slice Ao28 t354.length co28), (.slice Ao29 t357.length co29)] 30 (0, 0))) ∧ Aside0 (wc.heap[gb374]? = some (.cells #[.int .i64 t363, .int .i64 t364, (.slice Ao36 t365.length co36), (.slice Ao37 t368.length co37), (.slice Ao38 t371.length co38)] 30 (0, 0))) ∧ Aside0 (wc.heap[gb388]? = some (.cells #[.int .i64 t375, .int .i64 t376, (.slice Ao45 t377.length co45), (.slice Ao46 t380.length co46), (.slice Ao47 t383.length co47)] 30 (0, 0))) ∧ Aside0 (Below w.heap.size w wc))
 case first =>
  have H := HC14.out
  clear HC14
  replace H := Option.bind_eq_some_iff.mp H
  obtain ⟨t389, A480, H⟩ := H
  try dsimp only at H
  have A48 := Aside0.mk A480
  clear A480
  by_cases c49 : t389 = true
  ·subst c49
   rw [if_pos rfl] at H
   by_cases c50 : t386.toList = t360.toList
   ·rw [if_pos c50] at H
    have c50b0 : (t386.toList == t360.toList) = true := beq_iff_eq.mpr c50
    have c50b1 : (t386.toList != t360.toList) = false := bne_eq_false_iff_eq.mpr c50
    clear c50
    (first | rw [c50b0] | (simp only [i64_w, i32_w]; rw [c50b0]) | skip)
    have H' := Aside0.mk H
    clear H
    have hnb51 := NB388_336.out
    have hnc51 := NB336_388.out
    have hnb52 := NB388_362.out
    have hnc52 := NB362_388.out
    have hnb53 := NB388_374.out
    have hnc53 := NB374_388.out
    have hcz54_0 := bz5 BK388
    have hnb55 := NB362_336.out
    have hnc55 := NB336_362.out
    have hnb56 := NB362_374.out
    have hnc56 := NB374_362.out
    have hcz57_0 := bz5 BK362
    go_wp2_with (first | ((with_reducible refine gate_callee (f := 20) rfl ?_); refine gl 46 Try.func20 #[.agg #[.int .i64 t375, .int .i64 t376, .slice Ao45 t377.length co45, .slice Ao46 t380.length co46, .slice Ao47 t383.length co47], .agg #[.int .i64 t349, .int .i64 t350, .slice Ao27 t351.length co27, .slice Ao28 t354.length co28, .slice Ao29 t357.length co29]] ?_; (with_reducible refine (laws_eqThree.calls k t375 t376 _ _ t377 _ _ t380 _ _ t383 t349 t350 _ _ t351 _ _ t354 _ _ t357 true _ ?side1 ((Kd.R_reads' HO379.out).2.1) ?side3 ((Kd.R_reads' HO382.out).2.1) ?side5 ((Kd.R_reads' HO385.out).2.1) ?side7 ((Kd.R_reads' HO353.out).2.1) ?side9 ((Kd.R_reads' HO356.out).2.1) ?side11 ((Kd.R_reads' HO359.out).2.1) A48.out).mono ?_); (case side1 => exact rfr _ HO379 BK388); (case side3 => exact rfr _ HO382 BK388); (case side5 => exact rfr _ HO385 BK388); (case side7 => exact rfr _ HO353 BK388); (case side9 => exact rfr _ HO356 BK388); (case side11 => exact rfr _ HO359 BK388); rintro e w58 ⟨rfl, hb⟩; refine ⟨_, rfl, ?_⟩; replace HO342 := Aside0.mk (Kd.R_below (rf HO342 BK388) hb); replace HO345 := Aside0.mk (Kd.R_below (rf HO345 BK388) hb); replace HO348 := Aside0.mk (Kd.R_below (rf HO348 BK388) hb); replace HO353 := Aside0.mk (Kd.R_below (rf HO353 BK388) hb); replace HO356 := Aside0.mk (Kd.R_below (rf HO356 BK388) hb); replace HO359 := Aside0.mk (Kd.R_below (rf HO359 BK388) hb); replace HO367 := Aside0.mk (Kd.R_below (rf HO367 BK388) hb); replace HO370 := Aside0.mk (Kd.R_below (rf HO370 BK388) hb); replace HO373 := Aside0.mk (Kd.R_below (rf HO373 BK388) hb); replace HO379 := Aside0.mk (Kd.R_below (rf HO379 BK388) hb); replace HO382 := Aside0.mk (Kd.R_below (rf HO382 BK388) hb); replace HO385 := Aside0.mk (Kd.R_below (rf HO385 BK388) hb); replace BK336 := Aside0.mk (blk_below (g := gb336) (o := .cells #[.int .i64 a0_0, .int .i64 a0_1, .slice A0_2 l0_2.length c0_2, .slice A0_3 l0_3.length c0_3, .slice A0_4 l0_4.length c0_4] 25 (0, 0)) (bf1 BK336 NB336_388) hb); replace BK362 := Aside0.mk (blk_below (g := gb362) (o := .cells #[.int .i64 t349, .int .i64 t350, .slice Ao27 t351.length co27, .slice Ao28 t354.length co28, .slice Ao29 t357.length co29] 30 (0, 0)) (bf1 BK362 NB362_388) hb); replace BK374 := Aside0.mk (blk_below (g := gb374) (o := .cells #[.int .i64 t363, .int .i64 t364, .slice Ao36 t365.length co36, .slice Ao37 t368.length co37, .slice Ao38 t371.length co38] 30 (0, 0)) (bf1 BK374 NB374_388) hb); replace BK388 := Aside0.mk (blk_below (g := gb388) (o := .cells #[.int .i64 t375, .int .i64 t376, .slice Ao45 t377.length co45, .slice Ao46 t380.length co46, .slice Ao47 t383.length co47] 30 (0, 0)) (by (with_reducible repeat (first | refine blk_drewN ?_ _ | refine blk_drew ?_ | refine blk_alloc ?_ _)); refine blk_put (cs := #[.int .i64 t375, .int .i64 t376, .slice Ao45 t377.length co45, .slice Ao46 t380.length co46, .slice none 0 0]) ?_ 4 _ rfl; (with_reducible repeat (first | refine blk_drewN ?_ _ | refine blk_drew ?_ | refine blk_alloc ?_ _)); refine blk_put (cs := #[.int .i64 t375, .int .i64 t376, .slice Ao45 t377.length co45, .slice none 0 0, .slice none 0 0]) ?_ 3 _ rfl; (with_reducible repeat (first | refine blk_drewN ?_ _ | refine blk_drew ?_ | refine blk_alloc ?_ _)); refine blk_put (cs := #[.int .i64 t375, .int .i64 t376, .slice none 0 0, .slice none 0 0, .slice none 0 0]) ?_ 2 _ rfl; (with_reducible repeat (first | refine blk_drewN ?_ _ | refine blk_drew ?_ | refine blk_alloc ?_ _)); refine blk_put (cs := #[.int .i64 t375, .int .i64 0, .slice none 0 0, .slice none 0 0, .slice none 0 0]) ?_ 1 _ rfl; (with_reducible repeat (first | refine blk_drewN ?_ _ | refine blk_drew ?_ | refine blk_alloc ?_ _)); refine blk_put (cs := #[.int .i64 0, .int .i64 0, .slice none 0 0, .slice none 0 0, .slice none 0 0]) ?_ 0 _ rfl; (with_reducible repeat (first | refine blk_drewN ?_ _ | refine blk_drew ?_ | refine blk_alloc ?_ _)); exact BK388.out) hb); replace HB := Aside0.mk (below_step (be4 HB GE336 GE362 GE374 GE388) hb); (try clear hb)))
    go_meet
    case rel => exact ⟨_, ((t387 != t361)), rs, H', ⟨by first | omega | exact Nat.le_refl _⟩, ⟨rom HO353⟩, ⟨rom HO356⟩, ⟨rom HO359⟩, ⟨rom HO367⟩, ⟨rom HO370⟩, ⟨rom HO373⟩, ⟨rom HO379⟩, ⟨rom HO382⟩, ⟨rom HO385⟩, ⟨bk BK336⟩, ⟨bk BK362⟩, ⟨bk BK374⟩, ⟨bk BK388⟩, ⟨be4 HB GE336 GE362 GE374 GE388⟩⟩
   rw [if_neg c50] at H
   have c50b0 : (t386.toList == t360.toList) = false := beq_eq_false_iff_ne.mpr c50
   have c50b1 : (t386.toList != t360.toList) = true := bne_iff_ne.mpr c50
   (first | rw [c50b0] | (simp only [i64_w, i32_w]; rw [c50b0]) | skip)
   have H' := Aside0.mk H
   clear H
   have hnb59 := NB388_336.out
   have hnc59 := NB336_388.out
   have hnb60 := NB388_362.out
   have hnc60 := NB362_388.out
   have hnb61 := NB388_374.out
   have hnc61 := NB374_388.out
   have hcz62_0 := bz5 BK388
   have hnb63 := NB362_336.out
   have hnc63 := NB336_362.out
   have hnb64 := NB362_374.out
   have hnc64 := NB374_362.out
   have hcz65_0 := bz5 BK362
   go_wp2_with (first | ((with_reducible refine gate_callee (f := 20) rfl ?_); refine gl 46 Try.func20 #[.agg #[.int .i64 t375, .int .i64 t376, .slice Ao45 t377.length co45, .slice Ao46 t380.length co46, .slice Ao47 t383.length co47], .agg #[.int .i64 t349, .int .i64 t350, .slice Ao27 t351.length co27, .slice Ao28 t354.length co28, .slice Ao29 t357.length co29]] ?_; (with_reducible refine (laws_eqThree.calls k t375 t376 _ _ t377 _ _ t380 _ _ t383 t349 t350 _ _ t351 _ _ t354 _ _ t357 true _ ?side1 ((Kd.R_reads' HO379.out).2.1) ?side3 ((Kd.R_reads' HO382.out).2.1) ?side5 ((Kd.R_reads' HO385.out).2.1) ?side7 ((Kd.R_reads' HO353.out).2.1) ?side9 ((Kd.R_reads' HO356.out).2.1) ?side11 ((Kd.R_reads' HO359.out).2.1) A48.out).mono ?_); (case side1 => exact rfr _ HO379 BK388); (case side3 => exact rfr _ HO382 BK388); (case side5 => exact rfr _ HO385 BK388); (case side7 => exact rfr _ HO353 BK388); (case side9 => exact rfr _ HO356 BK388); (case side11 => exact rfr _ HO359 BK388); rintro e w66 ⟨rfl, hb⟩; refine ⟨_, rfl, ?_⟩; replace HO342 := Aside0.mk (Kd.R_below (rf HO342 BK388) hb); replace HO345 := Aside0.mk (Kd.R_below (rf HO345 BK388) hb); replace HO348 := Aside0.mk (Kd.R_below (rf HO348 BK388) hb); replace HO353 := Aside0.mk (Kd.R_below (rf HO353 BK388) hb); replace HO356 := Aside0.mk (Kd.R_below (rf HO356 BK388) hb); replace HO359 := Aside0.mk (Kd.R_below (rf HO359 BK388) hb); replace HO367 := Aside0.mk (Kd.R_below (rf HO367 BK388) hb); replace HO370 := Aside0.mk (Kd.R_below (rf HO370 BK388) hb); replace HO373 := Aside0.mk (Kd.R_below (rf HO373 BK388) hb); replace HO379 := Aside0.mk (Kd.R_below (rf HO379 BK388) hb); replace HO382 := Aside0.mk (Kd.R_below (rf HO382 BK388) hb); replace HO385 := Aside0.mk (Kd.R_below (rf HO385 BK388) hb); replace BK336 := Aside0.mk (blk_below (g := gb336) (o := .cells #[.int .i64 a0_0, .int .i64 a0_1, .slice A0_2 l0_2.length c0_2, .slice A0_3 l0_3.length c0_3, .slice A0_4 l0_4.length c0_4] 25 (0, 0)) (bf1 BK336 NB336_388) hb); replace BK362 := Aside0.mk (blk_below (g := gb362) (o := .cells #[.int .i64 t349, .int .i64 t350, .slice Ao27 t351.length co27, .slice Ao28 t354.length co28, .slice Ao29 t357.length co29] 30 (0, 0)) (bf1 BK362 NB362_388) hb); replace BK374 := Aside0.mk (blk_below (g := gb374) (o := .cells #[.int .i64 t363, .int .i64 t364, .slice Ao36 t365.length co36, .slice Ao37 t368.length co37, .slice Ao38 t371.length co38] 30 (0, 0)) (bf1 BK374 NB374_388) hb); replace BK388 := Aside0.mk (blk_below (g := gb388) (o := .cells #[.int .i64 t375, .int .i64 t376, .slice Ao45 t377.length co45, .slice Ao46 t380.length co46, .slice Ao47 t383.length co47] 30 (0, 0)) (by (with_reducible repeat (first | refine blk_drewN ?_ _ | refine blk_drew ?_ | refine blk_alloc ?_ _)); refine blk_put (cs := #[.int .i64 t375, .int .i64 t376, .slice Ao45 t377.length co45, .slice Ao46 t380.length co46, .slice none 0 0]) ?_ 4 _ rfl; (with_reducible repeat (first | refine blk_drewN ?_ _ | refine blk_drew ?_ | refine blk_alloc ?_ _)); refine blk_put (cs := #[.int .i64 t375, .int .i64 t376, .slice Ao45 t377.length co45, .slice none 0 0, .slice none 0 0]) ?_ 3 _ rfl; (with_reducible repeat (first | refine blk_drewN ?_ _ | refine blk_drew ?_ | refine blk_alloc ?_ _)); refine blk_put (cs := #[.int .i64 t375, .int .i64 t376, .slice none 0 0, .slice none 0 0, .slice none 0 0]) ?_ 2 _ rfl; (with_reducible repeat (first | refine blk_drewN ?_ _ | refine blk_drew ?_ | refine blk_alloc ?_ _)); refine blk_put (cs := #[.int .i64 t375, .int .i64 0, .slice none 0 0, .slice none 0 0, .slice none 0 0]) ?_ 1 _ rfl; (with_reducible repeat (first | refine blk_drewN ?_ _ | refine blk_drew ?_ | refine blk_alloc ?_ _)); refine blk_put (cs := #[.int .i64 0, .int .i64 0, .slice none 0 0, .slice none 0 0, .slice none 0 0]) ?_ 0 _ rfl; (with_reducible repeat (first | refine blk_drewN ?_ _ | refine blk_drew ?_ | refine blk_alloc ?_ _)); exact BK388.out) hb); replace HB := Aside0.mk (below_step (be4 HB GE336 GE362 GE374 GE388) hb); (try clear hb)))
   go_meet
   case rel => exact ⟨_, (true), rs, H', ⟨by first | omega | exact Nat.le_refl _⟩, ⟨rom HO353⟩, ⟨rom HO356⟩, ⟨rom HO359⟩, ⟨rom HO367⟩, ⟨rom HO370⟩, ⟨rom HO373⟩, ⟨rom HO379⟩, ⟨rom HO382⟩, ⟨rom HO385⟩, ⟨bk BK336⟩, ⟨bk BK362⟩, ⟨bk BK374⟩, ⟨bk BK388⟩, ⟨be4 HB GE336 GE362 GE374 GE388⟩⟩
  replace c49 := Bool.eq_false_iff.mpr c49
  subst c49
  rw [if_neg (show ¬ (false = true) by decide)] at H
  have H' := Aside0.mk H
  clear H
  have hnb67 := NB388_336.out
  have hnc67 := NB336_388.out
  have hnb68 := NB388_362.out
  have hnc68 := NB362_388.out
  have hnb69 := NB388_374.out
  have hnc69 := NB374_388.out
  have hcz70_0 := bz5 BK388
  have hnb71 := NB362_336.out
  have hnc71 := NB336_362.out
  have hnb72 := NB362_374.out
  have hnc72 := NB374_362.out
  have hcz73_0 := bz5 BK362
  go_wp2_with (first | ((with_reducible refine gate_callee (f := 20) rfl ?_); refine gl 46 Try.func20 #[.agg #[.int .i64 t375, .int .i64 t376, .slice Ao45 t377.length co45, .slice Ao46 t380.length co46, .slice Ao47 t383.length co47], .agg #[.int .i64 t349, .int .i64 t350, .slice Ao27 t351.length co27, .slice Ao28 t354.length co28, .slice Ao29 t357.length co29]] ?_; (with_reducible refine (laws_eqThree.calls k t375 t376 _ _ t377 _ _ t380 _ _ t383 t349 t350 _ _ t351 _ _ t354 _ _ t357 false _ ?side1 ((Kd.R_reads' HO379.out).2.1) ?side3 ((Kd.R_reads' HO382.out).2.1) ?side5 ((Kd.R_reads' HO385.out).2.1) ?side7 ((Kd.R_reads' HO353.out).2.1) ?side9 ((Kd.R_reads' HO356.out).2.1) ?side11 ((Kd.R_reads' HO359.out).2.1) A48.out).mono ?_); (case side1 => exact rfr _ HO379 BK388); (case side3 => exact rfr _ HO382 BK388); (case side5 => exact rfr _ HO385 BK388); (case side7 => exact rfr _ HO353 BK388); (case side9 => exact rfr _ HO356 BK388); (case side11 => exact rfr _ HO359 BK388); rintro e w74 ⟨rfl, hb⟩; refine ⟨_, rfl, ?_⟩; replace HO342 := Aside0.mk (Kd.R_below (rf HO342 BK388) hb); replace HO345 := Aside0.mk (Kd.R_below (rf HO345 BK388) hb); replace HO348 := Aside0.mk (Kd.R_below (rf HO348 BK388) hb); replace HO353 := Aside0.mk (Kd.R_below (rf HO353 BK388) hb); replace HO356 := Aside0.mk (Kd.R_below (rf HO356 BK388) hb); replace HO359 := Aside0.mk (Kd.R_below (rf HO359 BK388) hb); replace HO367 := Aside0.mk (Kd.R_below (rf HO367 BK388) hb); replace HO370 := Aside0.mk (Kd.R_below (rf HO370 BK388) hb); replace HO373 := Aside0.mk (Kd.R_below (rf HO373 BK388) hb); replace HO379 := Aside0.mk (Kd.R_below (rf HO379 BK388) hb); replace HO382 := Aside0.mk (Kd.R_below (rf HO382 BK388) hb); replace HO385 := Aside0.mk (Kd.R_below (rf HO385 BK388) hb); replace BK336 := Aside0.mk (blk_below (g := gb336) (o := .cells #[.int .i64 a0_0, .int .i64 a0_1, .slice A0_2 l0_2.length c0_2, .slice A0_3 l0_3.length c0_3, .slice A0_4 l0_4.length c0_4] 25 (0, 0)) (bf1 BK336 NB336_388) hb); replace BK362 := Aside0.mk (blk_below (g := gb362) (o := .cells #[.int .i64 t349, .int .i64 t350, .slice Ao27 t351.length co27, .slice Ao28 t354.length co28, .slice Ao29 t357.length co29] 30 (0, 0)) (bf1 BK362 NB362_388) hb); replace BK374 := Aside0.mk (blk_below (g := gb374) (o := .cells #[.int .i64 t363, .int .i64 t364, .slice Ao36 t365.length co36, .slice Ao37 t368.length co37, .slice Ao38 t371.length co38] 30 (0, 0)) (bf1 BK374 NB374_388) hb); replace BK388 := Aside0.mk (blk_below (g := gb388) (o := .cells #[.int .i64 t375, .int .i64 t376, .slice Ao45 t377.length co45, .slice Ao46 t380.length co46, .slice Ao47 t383.length co47] 30 (0, 0)) (by (with_reducible repeat (first | refine blk_drewN ?_ _ | refine blk_drew ?_ | refine blk_alloc ?_ _)); refine blk_put (cs := #[.int .i64 t375, .int .i64 t376, .slice Ao45 t377.length co45, .slice Ao46 t380.length co46, .slice none 0 0]) ?_ 4 _ rfl; (with_reducible repeat (first | refine blk_drewN ?_ _ | refine blk_drew ?_ | refine blk_alloc ?_ _)); refine blk_put (cs := #[.int .i64 t375, .int .i64 t376, .slice Ao45 t377.length co45, .slice none 0 0, .slice none 0 0]) ?_ 3 _ rfl; (with_reducible repeat (first | refine blk_drewN ?_ _ | refine blk_drew ?_ | refine blk_alloc ?_ _)); refine blk_put (cs := #[.int .i64 t375, .int .i64 t376, .slice none 0 0, .slice none 0 0, .slice none 0 0]) ?_ 2 _ rfl; (with_reducible repeat (first | refine blk_drewN ?_ _ | refine blk_drew ?_ | refine blk_alloc ?_ _)); refine blk_put (cs := #[.int .i64 t375, .int .i64 0, .slice none 0 0, .slice none 0 0, .slice none 0 0]) ?_ 1 _ rfl; (with_reducible repeat (first | refine blk_drewN ?_ _ | refine blk_drew ?_ | refine blk_alloc ?_ _)); refine blk_put (cs := #[.int .i64 0, .int .i64 0, .slice none 0 0, .slice none 0 0, .slice none 0 0]) ?_ 0 _ rfl; (with_reducible repeat (first | refine blk_drewN ?_ _ | refine blk_drew ?_ | refine blk_alloc ?_ _)); exact BK388.out) hb); replace HB := Aside0.mk (below_step (be4 HB GE336 GE362 GE374 GE388) hb); (try clear hb)))
  go_meet
  case rel => exact ⟨_, (true), rs, H', ⟨by first | omega | exact Nat.le_refl _⟩, ⟨rom HO353⟩, ⟨rom HO356⟩, ⟨rom HO359⟩, ⟨rom HO367⟩, ⟨rom HO370⟩, ⟨rom HO373⟩, ⟨rom HO379⟩, ⟨rom HO382⟩, ⟨rom HO385⟩, ⟨bk BK336⟩, ⟨bk BK362⟩, ⟨bk BK374⟩, ⟨bk BK388⟩, ⟨be4 HB GE336 GE362 GE374 GE388⟩⟩
 case rest =>
  clear HC14
  try clear c1; try clear c2; try clear p2; try clear c3; try clear c3b0; try clear c3b1; try clear c4; try clear c5; try clear c6; try clear c6b0; try clear c7; try clear c9; try clear c16; try clear c18; try clear c20; try clear c25; try clear c33; try clear c34; try clear c35; try clear c36; try clear c41; try clear c42; try clear c43; try clear c49; try clear c50; try clear c50b0; try clear c50b1; try clear c51; try clear c52; try clear c53; try clear c55; try clear c56; try clear c59; try clear c60; try clear c61; try clear c63; try clear c64; try clear c67; try clear c68; try clear c69; try clear c71; try clear c72; try clear hcz16_0; try clear hcz18_0; try clear hcz26_0; try clear hcz30_0; try clear hcz35_0; try clear hcz44_0; try clear hcz54_0; try clear hcz57_0; try clear hcz62_0; try clear hcz65_0; try clear hcz70_0; try clear hcz73_0; try clear hcz8_0
  obtain ⟨kq, x57_13, rfl, HA, HJ13, HO_363002, HO_363003, HO_363004, HO_375002, HO_375003, HO_375004, HO_389002, HO_389003, HO_389004, BK336, BK362, BK374, BK388, HB⟩ := hcut
  cases kq with
  | zero => exact absurd HA.out (by simp [laws_FnExactGet.j0])
  | succ kj13 =>
   have H := HA.out
   clear HA
   simp only [laws_FnExactGet.j0] at H
   by_cases c75 : x57_13 = true
   ·subst c75
    rw [if_pos rfl] at H
    exact absurd ((Option.some.inj H).trans hrt_.out) (by decide)
   replace c75 := Bool.eq_false_iff.mpr c75
   subst c75
   rw [if_neg (show ¬ (false = true) by decide)] at H
   replace H := Option.bind_eq_some_iff.mp H
   obtain ⟨⟨t390, t391, t392, t395, t398⟩, A760, H⟩ := H
   try dsimp only at H
   have A76 := Aside0.mk A760
   clear A760
   replace H := Option.bind_eq_some_iff.mp H
   obtain ⟨t401, A770, H⟩ := H
   try dsimp only at H
   have A77 := Aside0.mk A770
   clear A770
   by_cases c78 : t401 = true
   ·subst c78
    rw [if_pos rfl] at H
    replace H := Option.bind_eq_some_iff.mp H
    obtain ⟨⟨t402, t403, t404, t405⟩, A790, H⟩ := H
    try dsimp only at H
    have A79 := Aside0.mk A790
    clear A790
    have HC80 := Aside0.mk H
    clear H
    try go_wp2
    have n0_ := Aside0.mk (Kd.R_drew HO_363002.out)
    have n1_ := Aside0.mk (Kd.R_drew HO_363003.out)
    have n2_ := Aside0.mk (Kd.R_drew HO_363004.out)
    have n3_ := Aside0.mk (Kd.R_drew HO_375002.out)
    have n4_ := Aside0.mk (Kd.R_drew HO_375003.out)
    have n5_ := Aside0.mk (Kd.R_drew HO_375004.out)
    have n6_ := Aside0.mk (Kd.R_drew HO_389002.out)
    have n7_ := Aside0.mk (Kd.R_drew HO_389003.out)
    have n8_ := Aside0.mk (Kd.R_drew HO_389004.out)
    have n9_ := Aside0.mk (blk_drew BK336.out)
    have n10_ := Aside0.mk (blk_drew BK362.out)
    have n11_ := Aside0.mk (blk_drew BK374.out)
    have n12_ := Aside0.mk (blk_drew BK388.out)
    have n13_ := Aside0.mk (below_drew1 HB.out)
    clear HO_363002
    clear HO_363003
    clear HO_363004
    clear HO_375002
    clear HO_375003
    clear HO_375004
    clear HO_389002
    clear HO_389003
    clear HO_389004
    clear BK336
    clear BK362
    clear BK374
    clear BK388
    clear HB
    have HO_363002 := n0_
    have HO_363003 := n1_
    have HO_363004 := n2_
    have HO_375002 := n3_
    have HO_375003 := n4_
    have HO_375004 := n5_
    have HO_389002 := n6_
    have HO_389003 := n7_
    have HO_389004 := n8_
    have BK336 := n9_
    have BK362 := n10_
    have BK374 := n11_
    have BK388 := n12_
    have HB := n13_
    clear n0_ n1_ n2_ n3_ n4_ n5_ n6_ n7_ n8_ n9_ n10_ n11_ n12_ n13_
    refine start_ (n := 5) (S := fun w' => w'.cell? ⟨gb374, 0, none⟩ = some (.int .i64 t363) ∧ w'.cell? ⟨gb374, 1, none⟩ = some (.int .i64 t364) ∧ w'.cell? ⟨gb374, 2, none⟩ = some (.slice Ao36 t365.length co36) ∧ w'.cell? ⟨gb374, 3, none⟩ = some (.slice Ao37 t368.length co37) ∧ w'.cell? ⟨gb374, 4, none⟩ = some (.slice Ao38 t371.length co38) ∧ w'.cell? ⟨gb336, 0, none⟩ = some (.int .i64 a0_0) ∧ w'.cell? ⟨gb336, 1, none⟩ = some (.int .i64 a0_1) ∧ w'.cell? ⟨gb336, 2, none⟩ = some (.slice A0_2 l0_2.length c0_2) ∧ w'.cell? ⟨gb336, 3, none⟩ = some (.slice A0_3 l0_3.length c0_3) ∧ w'.cell? ⟨gb336, 4, none⟩ = some (.slice A0_4 l0_4.length c0_4)) (ds := []) (bv 5 0x0) (by kernel_rfl) rfl rfl ⟨bc0 BK374, bc1 BK374, bc2 BK374, bc3 BK374, bc4 BK374, bc0 BK336, bc1 BK336, bc2 BK336, bc3 BK336, bc4 BK336⟩ (fun hHeld => ?_)
    generalize wc.drew = w81 at HO_363002 HO_363003 HO_363004 HO_375002 HO_375003 HO_375004 HO_389002 HO_389003 HO_389004 BK336 BK362 BK374 BK388 HB hHeld ⊢
    refine take_ (i := 0) (N := some 58) (v := ?_) (a' := ?_) (bv 5 0x1) rfl rfl (by kernel_rfl) (fun _ _ _ h => h) (Or.inl ⟨by rfl, ?_⟩) hHeld ?_ ?_
    rotate_left
    ·rintro w' ⟨s0, s1, s2, s3, s4, s5, s6, s7, s8, s9⟩
     go_simp
     with_reducible rfl
    rotate_left
    ·simp only [aP]
     rfl
    refine take_ (i := 1) (N := some 59) (v := ?_) (a' := ?_) (bv 5 0x3) rfl rfl (by kernel_rfl) (fun _ _ _ h => h) (Or.inl ⟨by rfl, ?_⟩) hHeld ?_ ?_
    rotate_left
    ·rintro w' ⟨s0, s1, s2, s3, s4, s5, s6, s7, s8, s9⟩
     go_simp
     with_reducible rfl
    rotate_left
    ·simp only [aP]
     rfl
    refine one_ (i := 2) (N := some 60) (bv 5 0x7) rfl rfl (by kernel_rfl) (by decide) (fun K hK => ?_)
    refine goes_ Try.func18 (by kernel_rfl) rfl #[.agg #[.int .i64 a0_0, .int .i64 a0_1, .slice A0_2 l0_2.length c0_2, .slice A0_3 l0_3.length c0_3, .slice A0_4 l0_4.length c0_4]] (by rfl) rfl rfl ml ?_
    with_reducible refine (laws_toThree.calls kj13 a0_0 a0_1 _ _ l0_2 _ _ l0_3 _ _ l0_4 t390 t391 t392 t395 t398 _ ?side1 ?side2 ?side3 ?side4 ?side5 ?side6 A76.out).mono ?_
    (case side1 => exact cb HR0_2 HB)
    (case side2 => exact HC0_2.out)
    (case side3 => exact cb HR0_3 HB)
    (case side4 => exact HC0_3.out)
    (case side5 => exact cb HR0_4 HB)
    (case side6 => exact HC0_4.out)
    rintro e w82 ⟨v393, v396, v399, rfl, ho0, ho1, ho2, hb⟩
    refine ⟨_, rfl, ?_⟩
    have n0_ := td2 (ro HO_363002) hb ho0 ho1
    have n1_ := td2 (ro HO_363003) hb ho0 ho1
    have n2_ := Aside0.mk (Kd.R_elder' (ro HO_363004) (Kd.R_base ho2) hb)
    have n3_ := td2 (ro HO_375002) hb ho0 ho1
    have n4_ := td2 (ro HO_375003) hb ho0 ho1
    have n5_ := Aside0.mk (Kd.R_elder' (ro HO_375004) (Kd.R_base ho2) hb)
    have n6_ := td2 (ro HO_389002) hb ho0 ho1
    have n7_ := td2 (ro HO_389003) hb ho0 ho1
    have n8_ := Aside0.mk (Kd.R_elder' (ro HO_389004) (Kd.R_base ho2) hb)
    have n9_ := Aside0.mk (Kd.R_lower (nw (nw (nw (nw (nw (nw ho0 HO_363002) HO_363003) HO_375002) HO_375003) HO_389002) HO_389003) (below_size (be4 HB GE336 GE362 GE374 GE388)))
    have n10_ := Aside0.mk (Kd.R_lower (nw (nw (nw (nw (nw (nw ho1 HO_363002) HO_363003) HO_375002) HO_375003) HO_389002) HO_389003) (below_size (be4 HB GE336 GE362 GE374 GE388)))
    have n11_ := Aside0.mk (Kd.R_lower (nw (nw (nw ho2 HO_363004) HO_375004) HO_389004) (below_size (be4 HB GE336 GE362 GE374 GE388)))
    have n12_ := bb BK336 hb
    have n13_ := bb BK362 hb
    have n14_ := bb BK374 hb
    have n15_ := bb BK388 hb
    have n16_ := Aside0.mk (below_step (be4 HB GE336 GE362 GE374 GE388) hb)
    clear HO_363002
    clear HO_363003
    clear HO_363004
    clear HO_375002
    clear HO_375003
    clear HO_375004
    clear HO_389002
    clear HO_389003
    clear HO_389004
    clear BK336
    clear BK362
    clear BK374
    clear BK388
    clear HB
    have HO_363002 := n0_
    have HO_363003 := n1_
    have HO_363004 := n2_
    have HO_375002 := n3_
    have HO_375003 := n4_
    have HO_375004 := n5_
    have HO_389002 := n6_
    have HO_389003 := n7_
    have HO_389004 := n8_
    have HO394 := n9_
    have HO397 := n10_
    have HO400 := n11_
    have BK336 := n12_
    have BK362 := n13_
    have BK374 := n14_
    have BK388 := n15_
    have HB := n16_
    clear n0_ n1_ n2_ n3_ n4_ n5_ n6_ n7_ n8_ n9_ n10_ n11_ n12_ n13_ n14_ n15_ n16_
    (try clear hb)
    (try clear hb2)
    (try clear hk)
    (try clear hi)
    (try clear ho0)
    (try clear ho1)
    (try clear ho2)
    obtain ⟨Ao83, co83, eo83⟩ := Kd.R_slice HO394.out
    (first | subst eo83 | (injection eo83 with f1_ f2_ f3_; have f4_ := f1_.symm; have f5_ := f3_.symm; clear f1_ f2_ f3_; subst f4_; subst f5_))
    obtain ⟨Ao84, co84, eo84⟩ := Kd.R_slice HO397.out
    (first | subst eo84 | (injection eo84 with f1_ f2_ f3_; have f4_ := f1_.symm; have f5_ := f3_.symm; clear f1_ f2_ f3_; subst f4_; subst f5_))
    obtain ⟨Ao85, co85, eo85⟩ := Kd.R_slice HO400.out
    (first | subst eo85 | (injection eo85 with f1_ f2_ f3_; have f4_ := f1_.symm; have f5_ := f3_.symm; clear f1_ f2_ f3_; subst f4_; subst f5_))
    refine hK.out _ _ ⟨bc0 BK374, bc1 BK374, bc2 BK374, bc3 BK374, bc4 BK374, bc0 BK336, bc1 BK336, bc2 BK336, bc3 BK336, bc4 BK336⟩ (fun hHeld => ?_)
    clear hK K
    refine norm_ (a' := ?_) ?_ ?_
    rotate_left
    ·show Act.put _ (some 60) _ = _
     simp only [aP]
     rfl
    refine one_ (i := 3) (N := some 61) (bv 5 0xf) rfl rfl (by kernel_rfl) (by decide) (fun K hK => ?_)
    refine goes_ Try.func20 (by kernel_rfl) rfl #[.agg #[.int .i64 t363, .int .i64 t364, .slice Ao36 t365.length co36, .slice Ao37 t368.length co37, .slice Ao38 t371.length co38], .agg #[.int .i64 t390, .int .i64 t391, .slice Ao83 t392.length co83, .slice Ao84 t395.length co84, .slice Ao85 t398.length co85]] (by rfl) rfl rfl ml ?_
    with_reducible refine (laws_eqThree.calls kj13 t363 t364 _ _ t365 _ _ t368 _ _ t371 t390 t391 _ _ t392 _ _ t395 _ _ t398 true _ ?side1 ?side2 ?side3 ?side4 ?side5 ?side6 ?side7 ?side8 ?side9 ?side10 ?side11 ?side12 A77.out).mono ?_
    (case side1 => exact cr HO_375002)
    (case side2 => exact (Kd.R_reads' HO_375002.out).2.1)
    (case side3 => exact cr HO_375003)
    (case side4 => exact (Kd.R_reads' HO_375003.out).2.1)
    (case side5 => exact cr HO_375004)
    (case side6 => exact (Kd.R_reads' HO_375004.out).2.1)
    (case side7 => exact cr HO394)
    (case side8 => exact (Kd.R_reads' HO394.out).2.1)
    (case side9 => exact cr HO397)
    (case side10 => exact (Kd.R_reads' HO397.out).2.1)
    (case side11 => exact cr HO400)
    (case side12 => exact (Kd.R_reads' HO400.out).2.1)
    rintro e w86 ⟨rfl, hb⟩
    refine ⟨_, rfl, ?_⟩
    have n0_ := rb HO_363002 hb
    have n1_ := rb HO_363003 hb
    have n2_ := rb HO_363004 hb
    have n3_ := rb HO_375002 hb
    have n4_ := rb HO_375003 hb
    have n5_ := rb HO_375004 hb
    have n6_ := rb HO_389002 hb
    have n7_ := rb HO_389003 hb
    have n8_ := rb HO_389004 hb
    have n9_ := rb HO394 hb
    have n10_ := rb HO397 hb
    have n11_ := rb HO400 hb
    have n12_ := bb BK336 hb
    have n13_ := bb BK362 hb
    have n14_ := bb BK374 hb
    have n15_ := bb BK388 hb
    have n16_ := Aside0.mk (below_step (be4 HB GE336 GE362 GE374 GE388) hb)
    clear HO_363002
    clear HO_363003
    clear HO_363004
    clear HO_375002
    clear HO_375003
    clear HO_375004
    clear HO_389002
    clear HO_389003
    clear HO_389004
    clear HO394
    clear HO397
    clear HO400
    clear BK336
    clear BK362
    clear BK374
    clear BK388
    clear HB
    have HO_363002 := n0_
    have HO_363003 := n1_
    have HO_363004 := n2_
    have HO_375002 := n3_
    have HO_375003 := n4_
    have HO_375004 := n5_
    have HO_389002 := n6_
    have HO_389003 := n7_
    have HO_389004 := n8_
    have HO394 := n9_
    have HO397 := n10_
    have HO400 := n11_
    have BK336 := n12_
    have BK362 := n13_
    have BK374 := n14_
    have BK388 := n15_
    have HB := n16_
    clear n0_ n1_ n2_ n3_ n4_ n5_ n6_ n7_ n8_ n9_ n10_ n11_ n12_ n13_ n14_ n15_ n16_
    (try clear hb)
    (try clear hb2)
    (try clear hk)
    (try clear hi)
    refine hK.out _ _ ⟨bc0 BK374, bc1 BK374, bc2 BK374, bc3 BK374, bc4 BK374, bc0 BK336, bc1 BK336, bc2 BK336, bc3 BK336, bc4 BK336⟩ (fun hHeld => ?_)
    clear hK K
    refine norm_ (a' := ?_) ?_ ?_
    rotate_left
    ·show Act.put _ (some 61) _ = _
     simp only [aP]
     rfl
    refine pure_ (i := 4) (N := some 62) (v := ?_) (a' := ?_) (bv 5 0x1f) rfl rfl (by kernel_rfl) (fun _ _ _ h => h) (Or.inl ⟨by rfl, ?_⟩) ?_ ?_
    rotate_left
    ·intro w'
     go_simp
     with_reducible rfl
    rotate_left
    ·simp only [aP]
     rfl
    refine done_ (by kernel_rfl) ?_
    have hnb87 := NB374_336.out
    have hnc87 := NB336_374.out
    have hnb88 := NB374_362.out
    have hnc88 := NB362_374.out
    have hnb89 := NB374_388.out
    have hnc89 := NB388_374.out
    have hcz90_0 := bz5 BK374
    go_upto_region 16 with (first | ((with_reducible refine gate_callee (f := 23) rfl ?_); refine gl 65 Try.func23 #[.agg #[.int .i64 t363, .int .i64 t364, .slice Ao36 t365.length co36, .slice Ao37 t368.length co37, .slice Ao38 t371.length co38], .int .i64 1] ?_; (with_reducible refine (laws_markThree.calls kj13 t363 t364 (fun k_ => some k_ = (.slice Ao36 t365.length co36 : Value).ownBlock) (.slice Ao36 t365.length co36) t365 (fun k_ => some k_ = (.slice Ao37 t368.length co37 : Value).ownBlock) (.slice Ao37 t368.length co37) t368 (fun k_ => some k_ = (.slice Ao38 t371.length co38 : Value).ownBlock) (.slice Ao38 t371.length co38) t371 1 t402 t403 t404 t405 w _ ?side1 ?side2 ?side3 ?side4 ?side5 ?side6 A79.out).mono ?_); (case side1 => repeat (first | (with_reducible first | exact HB.out | apply below_alloc | apply pw_below_drewN | apply below_drew1 | refine below_set ?_ GE336.out | refine below_set ?_ GE362.out | refine below_set ?_ GE374.out | refine below_set ?_ GE388.out) | exact HB.out)); (case side2 => exact Kd.R_tight rfl HO_375002.out); (case side3 => exact fun k_ e_ => (HO_375002.out.1 k_ e_.symm).1.1.2.2.1); (case side4 => exact Kd.R_tight rfl HO_375003.out); (case side5 => exact fun k_ e_ => (HO_375003.out.1 k_ e_.symm).1.1.2.2.1); (case side6 => exact Kd.R_tight rfl HO_375004.out); rintro e w91 ⟨rfl, hy0, hy1, hy2, hb, hkp⟩; refine ⟨_, rfl, ?_⟩; replace HO_363002 := Aside0.mk (Kd.R_mono (ok' := fun k_ => nb k_ Ao28 t354.length co28 ∧ nb k_ Ao36 t365.length co36 ∧ nb k_ Ao37 t368.length co37 ∧ nb k_ Ao45 t377.length co45 ∧ nb k_ Ao46 t380.length co46 ∧ nb k_ Ao83 t392.length co83 ∧ nb k_ Ao84 t395.length co84) (Kd.R_keptB ((Kd.R_apart' HO_363002.out (Kd.R_typed HO_375004.out) (by decide))) hkp (fun k_ hk_ hs_ => Or.elim hs_ (fun e_ => (hk_.1.1.1.2.1) e_) (fun e_ => Or.elim e_ (fun e_ => (hk_.1.1.1.2.2.1) e_) (fun e_ => (hk_.2) e_)))) cj); replace HO_363003 := Aside0.mk (Kd.R_mono (ok' := fun k_ => nb k_ Ao27 t351.length co27 ∧ nb k_ Ao36 t365.length co36 ∧ nb k_ Ao37 t368.length co37 ∧ nb k_ Ao45 t377.length co45 ∧ nb k_ Ao46 t380.length co46 ∧ nb k_ Ao83 t392.length co83 ∧ nb k_ Ao84 t395.length co84) (Kd.R_keptB ((Kd.R_apart' HO_363003.out (Kd.R_typed HO_375004.out) (by decide))) hkp (fun k_ hk_ hs_ => Or.elim hs_ (fun e_ => (hk_.1.1.1.2.1) e_) (fun e_ => Or.elim e_ (fun e_ => (hk_.1.1.1.2.2.1) e_) (fun e_ => (hk_.2) e_)))) cj); replace HO_363004 := Aside0.mk (Kd.R_mono (ok' := fun k_ => nb k_ Ao38 t371.length co38 ∧ nb k_ Ao47 t383.length co47 ∧ nb k_ Ao85 t398.length co85) (Kd.R_keptB ((Kd.R_apart' (Kd.R_apart' HO_363004.out (Kd.R_typed HO_375002.out) (by decide)) (Kd.R_typed HO_375003.out) (by decide))) hkp (fun k_ hk_ hs_ => Or.elim hs_ (fun e_ => (hk_.1.2) e_) (fun e_ => Or.elim e_ (fun e_ => (hk_.2) e_) (fun e_ => (hk_.1.1.1.1) e_)))) cj); replace HO_389002 := Aside0.mk (Kd.R_mono (ok' := fun k_ => nb k_ Ao27 t351.length co27 ∧ nb k_ Ao28 t354.length co28 ∧ nb k_ Ao36 t365.length co36 ∧ nb k_ Ao37 t368.length co37 ∧ nb k_ Ao46 t380.length co46 ∧ nb k_ Ao83 t392.length co83 ∧ nb k_ Ao84 t395.length co84) (Kd.R_keptB ((Kd.R_apart' HO_389002.out (Kd.R_typed HO_375004.out) (by decide))) hkp (fun k_ hk_ hs_ => Or.elim hs_ (fun e_ => (hk_.1.1.1.2.2.1) e_) (fun e_ => Or.elim e_ (fun e_ => (hk_.1.1.1.2.2.2.1) e_) (fun e_ => (hk_.2) e_)))) cj); replace HO_389003 := Aside0.mk (Kd.R_mono (ok' := fun k_ => nb k_ Ao27 t351.length co27 ∧ nb k_ Ao28 t354.length co28 ∧ nb k_ Ao36 t365.length co36 ∧ nb k_ Ao37 t368.length co37 ∧ nb k_ Ao45 t377.length co45 ∧ nb k_ Ao83 t392.length co83 ∧ nb k_ Ao84 t395.length co84) (Kd.R_keptB ((Kd.R_apart' HO_389003.out (Kd.R_typed HO_375004.out) (by decide))) hkp (fun k_ hk_ hs_ => Or.elim hs_ (fun e_ => (hk_.1.1.1.2.2.1) e_) (fun e_ => Or.elim e_ (fun e_ => (hk_.1.1.1.2.2.2.1) e_) (fun e_ => (hk_.2) e_)))) cj); replace HO_389004 := Aside0.mk (Kd.R_mono (ok' := fun k_ => nb k_ Ao29 t357.length co29 ∧ nb k_ Ao38 t371.length co38 ∧ nb k_ Ao85 t398.length co85) (Kd.R_keptB ((Kd.R_apart' (Kd.R_apart' HO_389004.out (Kd.R_typed HO_375002.out) (by decide)) (Kd.R_typed HO_375003.out) (by decide))) hkp (fun k_ hk_ hs_ => Or.elim hs_ (fun e_ => (hk_.1.2) e_) (fun e_ => Or.elim e_ (fun e_ => (hk_.2) e_) (fun e_ => (hk_.1.1.1.2) e_)))) cj); replace BK336 := Aside0.mk (blk_kept (bk BK336) hkp (fun hs_ => Or.elim hs_ (fun e_ => (fun e_ => (Kd.R_ne HO_375002.out BK336.out (by decide)) e_) e_) (fun e_ => Or.elim e_ (fun e_ => (fun e_ => (Kd.R_ne HO_375003.out BK336.out (by decide)) e_) e_) (fun e_ => (fun e_ => (Kd.R_ne HO_375004.out BK336.out (by decide)) e_) e_)))); replace BK362 := Aside0.mk (blk_kept (bk BK362) hkp (fun hs_ => Or.elim hs_ (fun e_ => (fun e_ => (Kd.R_ne HO_375002.out BK362.out (by decide)) e_) e_) (fun e_ => Or.elim e_ (fun e_ => (fun e_ => (Kd.R_ne HO_375003.out BK362.out (by decide)) e_) e_) (fun e_ => (fun e_ => (Kd.R_ne HO_375004.out BK362.out (by decide)) e_) e_)))); replace BK374 := Aside0.mk (blk_kept (bk BK374) hkp (fun hs_ => Or.elim hs_ (fun e_ => (fun e_ => (Kd.R_ne HO_375002.out BK374.out (by decide)) e_) e_) (fun e_ => Or.elim e_ (fun e_ => (fun e_ => (Kd.R_ne HO_375003.out BK374.out (by decide)) e_) e_) (fun e_ => (fun e_ => (Kd.R_ne HO_375004.out BK374.out (by decide)) e_) e_)))); replace BK388 := Aside0.mk (blk_kept (bk BK388) hkp (fun hs_ => Or.elim hs_ (fun e_ => (fun e_ => (Kd.R_ne HO_375002.out BK388.out (by decide)) e_) e_) (fun e_ => Or.elim e_ (fun e_ => (fun e_ => (Kd.R_ne HO_375003.out BK388.out (by decide)) e_) e_) (fun e_ => (fun e_ => (Kd.R_ne HO_375004.out BK388.out (by decide)) e_) e_)))); replace HO394 := Aside0.mk (Kd.R_mono (ok' := fun k_ => nb k_ Ao27 t351.length co27 ∧ nb k_ Ao28 t354.length co28 ∧ nb k_ Ao36 t365.length co36 ∧ nb k_ Ao37 t368.length co37 ∧ nb k_ Ao45 t377.length co45 ∧ nb k_ Ao46 t380.length co46 ∧ nb k_ Ao84 t395.length co84) (Kd.R_keptB ((Kd.R_apart' HO394.out (Kd.R_typed HO_375004.out) (by decide))) hkp (fun k_ hk_ hs_ => Or.elim hs_ (fun e_ => (hk_.1.1.1.1.2) e_) (fun e_ => Or.elim e_ (fun e_ => (hk_.1.1.1.2) e_) (fun e_ => (hk_.2) e_)))) cj); replace HO397 := Aside0.mk (Kd.R_mono (ok' := fun k_ => nb k_ Ao27 t351.length co27 ∧ nb k_ Ao28 t354.length co28 ∧ nb k_ Ao36 t365.length co36 ∧ nb k_ Ao37 t368.length co37 ∧ nb k_ Ao45 t377.length co45 ∧ nb k_ Ao46 t380.length co46 ∧ nb k_ Ao83 t392.length co83) (Kd.R_keptB ((Kd.R_apart' HO397.out (Kd.R_typed HO_375004.out) (by decide))) hkp (fun k_ hk_ hs_ => Or.elim hs_ (fun e_ => (hk_.1.1.1.1.2) e_) (fun e_ => Or.elim e_ (fun e_ => (hk_.1.1.1.2) e_) (fun e_ => (hk_.2) e_)))) cj); replace HO_375004 := Aside0.mk (Kd.R_reok rfl hy2 (fun k_ e_ => HO_375004.out.1 k_ e_)); replace HO400 := Aside0.mk (Kd.R_mono (ok' := fun k_ => nb k_ Ao29 t357.length co29 ∧ nb k_ Ao38 t371.length co38 ∧ nb k_ Ao47 t383.length co47) (Kd.R_keptB ((Kd.R_apart' (Kd.R_apart' HO400.out (Kd.R_typed HO_375002.out) (by decide)) (Kd.R_typed HO_375003.out) (by decide))) hkp (fun k_ hk_ hs_ => Or.elim hs_ (fun e_ => (hk_.1.2) e_) (fun e_ => Or.elim e_ (fun e_ => (hk_.2) e_) (fun e_ => (hk_.1.1.1.2) e_)))) cj); replace HO_375002 := Aside0.mk (Kd.R_reok rfl hy0 (fun k_ e_ => HO_375002.out.1 k_ e_)); replace HO_375003 := Aside0.mk (Kd.R_reok rfl hy1 (fun k_ e_ => HO_375003.out.1 k_ e_)); replace HB := Aside0.mk (hb); (try clear hb); (try clear hkp); (try clear hy0); (try clear hy1); (try clear hy2)))
    (try simp only [Act.put, List.setIfInBounds_toArray, List.set_cons_zero, List.set_cons_succ])
    go_cut [83] (fun v83 wc => ∃ (kq : Nat) (x83_79 : Bool), v83 = .bool x83_79 ∧ Aside0 (laws_FnExactGet.j1 kq a1 t360 t361 x83_79 a0_0 a0_1 l0_2 l0_3 l0_4 t349 t350 t351 t354 t357 t375 t376 t377 t380 t383 = some r) ∧ Aside0 (kq ≤ kj13) ∧ Aside0 (Kd.R k68 68 wc w.heap.size (fun k_ => nb k_ Ao28 t354.length co28 ∧ nb k_ Ao36 t365.length co36 ∧ nb k_ Ao37 t368.length co37 ∧ nb k_ Ao45 t377.length co45 ∧ nb k_ Ao46 t380.length co46) (.slice Ao27 t351.length co27) t351) ∧ Aside0 (Kd.R k68 68 wc w.heap.size (fun k_ => nb k_ Ao27 t351.length co27 ∧ nb k_ Ao36 t365.length co36 ∧ nb k_ Ao37 t368.length co37 ∧ nb k_ Ao45 t377.length co45 ∧ nb k_ Ao46 t380.length co46) (.slice Ao28 t354.length co28) t354) ∧ Aside0 (Kd.R (Kd.int .i64) 3 wc w.heap.size (fun k_ => nb k_ Ao38 t371.length co38 ∧ nb k_ Ao47 t383.length co47) (.slice Ao29 t357.length co29) t357) ∧ Aside0 (Kd.R k68 68 wc w.heap.size (fun k_ => nb k_ Ao27 t351.length co27 ∧ nb k_ Ao28 t354.length co28 ∧ nb k_ Ao37 t368.length co37 ∧ nb k_ Ao45 t377.length co45 ∧ nb k_ Ao46 t380.length co46) (.slice Ao36 t365.length co36) t403) ∧ Aside0 (Kd.R k68 68 wc w.heap.size (fun k_ => nb k_ Ao27 t351.length co27 ∧ nb k_ Ao28 t354.length co28 ∧ nb k_ Ao36 t365.length co36 ∧ nb k_ Ao45 t377.length co45 ∧ nb k_ Ao46 t380.length co46) (.slice Ao37 t368.length co37) t404) ∧ Aside0 (Kd.R (Kd.int .i64) 3 wc w.heap.size (fun k_ => nb k_ Ao29 t357.length co29 ∧ nb k_ Ao47 t383.length co47) (.slice Ao38 t371.length co38) t405) ∧ Aside0 (Kd.R k68 68 wc w.heap.size (fun k_ => nb k_ Ao27 t351.length co27 ∧ nb k_ Ao28 t354.length co28 ∧ nb k_ Ao36 t365.length co36 ∧ nb k_ Ao37 t368.length co37 ∧ nb k_ Ao46 t380.length co46) (.slice Ao45 t377.length co45) t377) ∧ Aside0 (Kd.R k68 68 wc w.heap.size (fun k_ => nb k_ Ao27 t351.length co27 ∧ nb k_ Ao28 t354.length co28 ∧ nb k_ Ao36 t365.length co36 ∧ nb k_ Ao37 t368.length co37 ∧ nb k_ Ao45 t377.length co45) (.slice Ao46 t380.length co46) t380) ∧ Aside0 (Kd.R (Kd.int .i64) 3 wc w.heap.size (fun k_ => nb k_ Ao29 t357.length co29 ∧ nb k_ Ao38 t371.length co38) (.slice Ao47 t383.length co47) t383) ∧ Aside0 (wc.heap[gb336]? = some (.cells #[.int .i64 a0_0, .int .i64 a0_1, (.slice A0_2 l0_2.length c0_2), (.slice A0_3 l0_3.length c0_3), (.slice A0_4 l0_4.length c0_4)] 25 (0, 0))) ∧ Aside0 (wc.heap[gb362]? = some (.cells #[.int .i64 t349, .int .i64 t350, (.slice Ao27 t351.length co27), (.slice Ao28 t354.length co28), (.slice Ao29 t357.length co29)] 30 (0, 0))) ∧ Aside0 (wc.heap[gb374]? = some (.cells #[.int .i64 t363, .int .i64 t364, (.slice Ao36 t365.length co36), (.slice Ao37 t368.length co37), (.slice Ao38 t371.length co38)] 30 (0, 0))) ∧ Aside0 (wc.heap[gb388]? = some (.cells #[.int .i64 t375, .int .i64 t376, (.slice Ao45 t377.length co45), (.slice Ao46 t380.length co46), (.slice Ao47 t383.length co47)] 30 (0, 0))) ∧ Aside0 (Below w.heap.size w wc))
    case first =>
     have H := HC80.out
     clear HC80
     by_cases c92 : t402 < 0
     ·rw [if_pos c92] at H
      have c92b0 : decide (t402 < 0) = true := decide_eq_true c92
      clear c92
      (first | rw [c92b0] | (simp only [i64_w, i32_w]; rw [c92b0]) | skip)
      have H' := Aside0.mk H
      clear H
      go_wp2
      go_meet
      case rel => exact ⟨_, (true), rs, H', ⟨by have := HJ13.out; first | omega | exact Nat.le_refl _⟩, ⟨rom HO_363002⟩, ⟨rom HO_363003⟩, ⟨rom HO_363004⟩, ⟨rom HO_375002⟩, ⟨rom HO_375003⟩, ⟨rom HO_375004⟩, ⟨rom HO_389002⟩, ⟨rom HO_389003⟩, ⟨rom HO_389004⟩, ⟨bk BK336⟩, ⟨bk BK362⟩, ⟨bk BK374⟩, ⟨bk BK388⟩, ⟨be4 HB GE336 GE362 GE374 GE388⟩⟩
     rw [if_neg c92] at H
     have c92b0 : decide (t402 < 0) = false := decide_eq_false c92
     clear c92
     (first | rw [c92b0] | (simp only [i64_w, i32_w]; rw [c92b0]) | skip)
     replace H := Option.bind_eq_some_iff.mp H
     obtain ⟨t406, A930, H⟩ := H
     try dsimp only at H
     have A93 := Aside0.mk A930
     clear A930
     by_cases c94 : t406 = true
     ·subst c94
      rw [if_pos rfl] at H
      by_cases c95 : t386.toList = t360.toList
      ·rw [if_pos c95] at H
       have c95b0 : (t386.toList == t360.toList) = true := beq_iff_eq.mpr c95
       have c95b1 : (t386.toList != t360.toList) = false := bne_eq_false_iff_eq.mpr c95
       clear c95
       have H' := Aside0.mk H
       clear H
       have hnb96 := NB388_336.out
       have hnc96 := NB336_388.out
       have hnb97 := NB388_362.out
       have hnc97 := NB362_388.out
       have hnb98 := NB388_374.out
       have hnc98 := NB374_388.out
       have hcz99_0 := bz5 BK388
       have hnb100 := NB362_336.out
       have hnc100 := NB336_362.out
       have hnb101 := NB362_374.out
       have hnc101 := NB374_362.out
       have hcz102_0 := bz5 BK362
       go_wp2_with (first | (go_at_call 20; (with_reducible refine (laws_eqThree.calls kj13 t375 t376 _ _ t377 _ _ t380 _ _ t383 t349 t350 _ _ t351 _ _ t354 _ _ t357 true _ (cr HO_389002) ((Kd.R_reads' HO_389002.out).2.1) (cr HO_389003) ((Kd.R_reads' HO_389003.out).2.1) (cr HO_389004) ((Kd.R_reads' HO_389004.out).2.1) (cr HO_363002) ((Kd.R_reads' HO_363002.out).2.1) (cr HO_363003) ((Kd.R_reads' HO_363003.out).2.1) (cr HO_363004) ((Kd.R_reads' HO_363004.out).2.1) A93.out).mono ?_); rintro e w103 ⟨rfl, hb⟩; replace HO_363002 := rb HO_363002 hb; replace HO_363003 := rb HO_363003 hb; replace HO_363004 := rb HO_363004 hb; replace HO_375002 := rb HO_375002 hb; replace HO_375003 := rb HO_375003 hb; replace HO_375004 := rb HO_375004 hb; replace HO_389002 := rb HO_389002 hb; replace HO_389003 := rb HO_389003 hb; replace HO_389004 := rb HO_389004 hb; replace HO394 := rb HO394 hb; replace HO397 := rb HO397 hb; replace HO400 := rb HO400 hb; replace BK336 := bb BK336 hb; replace BK362 := bb BK362 hb; replace BK374 := bb BK374 hb; replace BK388 := bb BK388 hb; replace HB := Aside0.mk (below_step (be4 HB GE336 GE362 GE374 GE388) hb); (try clear hb)))
       go_meet
       case rel => exact ⟨_, ((t387 != t361)), rs, H', ⟨by have := HJ13.out; first | omega | exact Nat.le_refl _⟩, ⟨rom HO_363002⟩, ⟨rom HO_363003⟩, ⟨rom HO_363004⟩, ⟨rom HO_375002⟩, ⟨rom HO_375003⟩, ⟨rom HO_375004⟩, ⟨rom HO_389002⟩, ⟨rom HO_389003⟩, ⟨rom HO_389004⟩, ⟨bk BK336⟩, ⟨bk BK362⟩, ⟨bk BK374⟩, ⟨bk BK388⟩, ⟨be4 HB GE336 GE362 GE374 GE388⟩⟩
      rw [if_neg c95] at H
      have c95b0 : (t386.toList == t360.toList) = false := beq_eq_false_iff_ne.mpr c95
      have c95b1 : (t386.toList != t360.toList) = true := bne_iff_ne.mpr c95
      have H' := Aside0.mk H
      clear H
      have hnb104 := NB388_336.out
      have hnc104 := NB336_388.out
      have hnb105 := NB388_362.out
      have hnc105 := NB362_388.out
      have hnb106 := NB388_374.out
      have hnc106 := NB374_388.out
      have hcz107_0 := bz5 BK388
      have hnb108 := NB362_336.out
      have hnc108 := NB336_362.out
      have hnb109 := NB362_374.out
      have hnc109 := NB374_362.out
      have hcz110_0 := bz5 BK362
      go_wp2_with (first | (go_at_call 20; (with_reducible refine (laws_eqThree.calls kj13 t375 t376 _ _ t377 _ _ t380 _ _ t383 t349 t350 _ _ t351 _ _ t354 _ _ t357 true _ (cr HO_389002) ((Kd.R_reads' HO_389002.out).2.1) (cr HO_389003) ((Kd.R_reads' HO_389003.out).2.1) (cr HO_389004) ((Kd.R_reads' HO_389004.out).2.1) (cr HO_363002) ((Kd.R_reads' HO_363002.out).2.1) (cr HO_363003) ((Kd.R_reads' HO_363003.out).2.1) (cr HO_363004) ((Kd.R_reads' HO_363004.out).2.1) A93.out).mono ?_); rintro e w111 ⟨rfl, hb⟩; replace HO_363002 := rb HO_363002 hb; replace HO_363003 := rb HO_363003 hb; replace HO_363004 := rb HO_363004 hb; replace HO_375002 := rb HO_375002 hb; replace HO_375003 := rb HO_375003 hb; replace HO_375004 := rb HO_375004 hb; replace HO_389002 := rb HO_389002 hb; replace HO_389003 := rb HO_389003 hb; replace HO_389004 := rb HO_389004 hb; replace HO394 := rb HO394 hb; replace HO397 := rb HO397 hb; replace HO400 := rb HO400 hb; replace BK336 := bb BK336 hb; replace BK362 := bb BK362 hb; replace BK374 := bb BK374 hb; replace BK388 := bb BK388 hb; replace HB := Aside0.mk (below_step (be4 HB GE336 GE362 GE374 GE388) hb); (try clear hb)))
      go_meet
      case rel => exact ⟨_, (true), rs, H', ⟨by have := HJ13.out; first | omega | exact Nat.le_refl _⟩, ⟨rom HO_363002⟩, ⟨rom HO_363003⟩, ⟨rom HO_363004⟩, ⟨rom HO_375002⟩, ⟨rom HO_375003⟩, ⟨rom HO_375004⟩, ⟨rom HO_389002⟩, ⟨rom HO_389003⟩, ⟨rom HO_389004⟩, ⟨bk BK336⟩, ⟨bk BK362⟩, ⟨bk BK374⟩, ⟨bk BK388⟩, ⟨be4 HB GE336 GE362 GE374 GE388⟩⟩
     replace c94 := Bool.eq_false_iff.mpr c94
     subst c94
     rw [if_neg (show ¬ (false = true) by decide)] at H
     have H' := Aside0.mk H
     clear H
     have hnb112 := NB388_336.out
     have hnc112 := NB336_388.out
     have hnb113 := NB388_362.out
     have hnc113 := NB362_388.out
     have hnb114 := NB388_374.out
     have hnc114 := NB374_388.out
     have hcz115_0 := bz5 BK388
     have hnb116 := NB362_336.out
     have hnc116 := NB336_362.out
     have hnb117 := NB362_374.out
     have hnc117 := NB374_362.out
     have hcz118_0 := bz5 BK362
     go_wp2_with (first | (go_at_call 20; (with_reducible refine (laws_eqThree.calls kj13 t375 t376 _ _ t377 _ _ t380 _ _ t383 t349 t350 _ _ t351 _ _ t354 _ _ t357 false _ (cr HO_389002) ((Kd.R_reads' HO_389002.out).2.1) (cr HO_389003) ((Kd.R_reads' HO_389003.out).2.1) (cr HO_389004) ((Kd.R_reads' HO_389004.out).2.1) (cr HO_363002) ((Kd.R_reads' HO_363002.out).2.1) (cr HO_363003) ((Kd.R_reads' HO_363003.out).2.1) (cr HO_363004) ((Kd.R_reads' HO_363004.out).2.1) A93.out).mono ?_); rintro e w119 ⟨rfl, hb⟩; replace HO_363002 := rb HO_363002 hb; replace HO_363003 := rb HO_363003 hb; replace HO_363004 := rb HO_363004 hb; replace HO_375002 := rb HO_375002 hb; replace HO_375003 := rb HO_375003 hb; replace HO_375004 := rb HO_375004 hb; replace HO_389002 := rb HO_389002 hb; replace HO_389003 := rb HO_389003 hb; replace HO_389004 := rb HO_389004 hb; replace HO394 := rb HO394 hb; replace HO397 := rb HO397 hb; replace HO400 := rb HO400 hb; replace BK336 := bb BK336 hb; replace BK362 := bb BK362 hb; replace BK374 := bb BK374 hb; replace BK388 := bb BK388 hb; replace HB := Aside0.mk (below_step (be4 HB GE336 GE362 GE374 GE388) hb); (try clear hb)))
     go_meet
     case rel => exact ⟨_, (true), rs, H', ⟨by have := HJ13.out; first | omega | exact Nat.le_refl _⟩, ⟨rom HO_363002⟩, ⟨rom HO_363003⟩, ⟨rom HO_363004⟩, ⟨rom HO_375002⟩, ⟨rom HO_375003⟩, ⟨rom HO_375004⟩, ⟨rom HO_389002⟩, ⟨rom HO_389003⟩, ⟨rom HO_389004⟩, ⟨bk BK336⟩, ⟨bk BK362⟩, ⟨bk BK374⟩, ⟨bk BK388⟩, ⟨be4 HB GE336 GE362 GE374 GE388⟩⟩
    case rest =>
     clear HC80
     try clear c1; try clear c2; try clear p2; try clear c3; try clear c4; try clear c5; try clear c6; try clear c7; try clear c8; try clear c9; try clear c10; try clear c11; try clear c18; try clear c20; try clear c23; try clear c25; try clear c33; try clear c34; try clear c35; try clear c36; try clear c41; try clear c42; try clear c43; try clear c49; try clear c50; try clear c50b0; try clear c50b1; try clear c51; try clear c52; try clear c53; try clear c55; try clear c56; try clear c59; try clear c60; try clear c61; try clear c63; try clear c64; try clear c67; try clear c68; try clear c69; try clear c71; try clear c72; try clear c75; try clear c78; try clear c87; try clear c88; try clear c89; try clear c92; try clear c92b0; try clear c94; try clear c95; try clear c95b0; try clear c95b1; try clear c96; try clear c97; try clear c98; try clear c100; try clear c101; try clear c104; try clear c105; try clear c106; try clear c108; try clear c109; try clear c112; try clear c113; try clear c114; try clear c116; try clear c117; try clear hcz102_0; try clear hcz107_0; try clear hcz110_0; try clear hcz115_0; try clear hcz118_0; try clear hcz16_0; try clear hcz18_0; try clear hcz26_0; try clear hcz30_0; try clear hcz35_0; try clear hcz44_0; try clear hcz54_0; try clear hcz57_0; try clear hcz62_0; try clear hcz65_0; try clear hcz70_0; try clear hcz73_0; try clear hcz8_0; try clear hcz90_0; try clear hcz99_0
     obtain ⟨kq, x83_79, rfl, HA, HJ79, HO_363002, HO_363003, HO_363004, HO_375002, HO_375003, HO_375004, HO_389002, HO_389003, HO_389004, BK336, BK362, BK374, BK388, HB⟩ := hcut
     have hl375002_79 := (Kd.R_reads' HO_375002.out).1
     rw [hl375002_79] at HO_375002
     (try simp only [hl375002_79])
     (try simp only [hl375002_79] at BK336)
     (try simp only [hl375002_79] at BK362)
     (try simp only [hl375002_79] at BK374)
     (try simp only [hl375002_79] at BK388)
     (try simp only [hl375002_79] at HO_363002)
     (try simp only [hl375002_79] at HO_363003)
     (try simp only [hl375002_79] at HO_363004)
     (try simp only [hl375002_79] at HO_375003)
     (try simp only [hl375002_79] at HO_375004)
     (try simp only [hl375002_79] at HO_389002)
     (try simp only [hl375002_79] at HO_389003)
     (try simp only [hl375002_79] at HO_389004)
     have hl375003_79 := (Kd.R_reads' HO_375003.out).1
     rw [hl375003_79] at HO_375003
     (try simp only [hl375003_79])
     (try simp only [hl375003_79] at BK336)
     (try simp only [hl375003_79] at BK362)
     (try simp only [hl375003_79] at BK374)
     (try simp only [hl375003_79] at BK388)
     (try simp only [hl375003_79] at HO_363002)
     (try simp only [hl375003_79] at HO_363003)
     (try simp only [hl375003_79] at HO_363004)
     (try simp only [hl375003_79] at HO_375002)
     (try simp only [hl375003_79] at HO_375004)
     (try simp only [hl375003_79] at HO_389002)
     (try simp only [hl375003_79] at HO_389003)
     (try simp only [hl375003_79] at HO_389004)
     have hl375004_79 := (Kd.R_reads' HO_375004.out).1
     rw [hl375004_79] at HO_375004
     (try simp only [hl375004_79])
     (try simp only [hl375004_79] at BK336)
     (try simp only [hl375004_79] at BK362)
     (try simp only [hl375004_79] at BK374)
     (try simp only [hl375004_79] at BK388)
     (try simp only [hl375004_79] at HO_363002)
     (try simp only [hl375004_79] at HO_363003)
     (try simp only [hl375004_79] at HO_363004)
     (try simp only [hl375004_79] at HO_375002)
     (try simp only [hl375004_79] at HO_375003)
     (try simp only [hl375004_79] at HO_389002)
     (try simp only [hl375004_79] at HO_389003)
     (try simp only [hl375004_79] at HO_389004)
     cases kq with
     | zero => exact absurd HA.out (by simp [laws_FnExactGet.j1])
     | succ kj79 =>
      have H := HA.out
      clear HA
      simp only [laws_FnExactGet.j1] at H
      by_cases c120 : x83_79 = true
      ·subst c120
       rw [if_pos rfl] at H
       exact absurd ((Option.some.inj H).trans hrt_.out) (by decide)
      replace c120 := Bool.eq_false_iff.mpr c120
      subst c120
      rw [if_neg (show ¬ (false = true) by decide)] at H
      replace H := Option.bind_eq_some_iff.mp H
      obtain ⟨⟨t407, t408, t409, t410⟩, A1210, H⟩ := H
      try dsimp only at H
      have A121 := Aside0.mk A1210
      clear A1210
      replace H := Option.bind_eq_some_iff.mp H
      obtain ⟨t411, A1220, H⟩ := H
      try dsimp only at H
      have A122 := Aside0.mk A1220
      clear A1220
      by_cases c123 : t411 < 0
      ·rw [if_pos c123] at H
       have c123b0 : decide (t411 < 0) = true := decide_eq_true c123
       clear c123
       exact absurd ((Option.some.inj H).trans hrt_.out) (by decide)
      rw [if_neg c123] at H
      have c123b0 : decide (t411 < 0) = false := decide_eq_false c123
      clear c123
      by_cases c124 : t411 = t407
      ·rw [if_pos c124] at H
       have c124b0 : (t411 == t407) = true := beq_iff_eq.mpr c124
       have c124b1 : (t411 != t407) = false := bne_eq_false_iff_eq.mpr c124
       clear c124
       replace H := Option.bind_eq_some_iff.mp H
       obtain ⟨⟨t412, t413, t414, t417, t420⟩, A1250, H⟩ := H
       try dsimp only at H
       have A125 := Aside0.mk A1250
       clear A1250
       replace H := Option.bind_eq_some_iff.mp H
       obtain ⟨⟨t423, t424, t425, t428, t431, t434, t435⟩, A1260, H⟩ := H
       try dsimp only at H
       have A126 := Aside0.mk A1260
       clear A1260
       have HC127 := Aside0.mk H
       clear H
       have hnb128 := NB388_336.out
       have hnc128 := NB336_388.out
       have hnb129 := NB388_362.out
       have hnc129 := NB362_388.out
       have hnb130 := NB388_374.out
       have hnc130 := NB374_388.out
       have hcz131_0 := bz5 BK388
       go_upto_region 27 with (first | ((with_reducible refine gate_callee (f := 23) rfl ?_); refine gl 86 Try.func23 #[.agg #[.int .i64 t375, .int .i64 t376, .slice Ao45 t377.length co45, .slice Ao46 t380.length co46, .slice Ao47 t383.length co47], .int .i64 1] ?_; (with_reducible refine (laws_markThree.calls kj79 t375 t376 (fun k_ => some k_ = (.slice Ao45 t377.length co45 : Value).ownBlock) (.slice Ao45 t377.length co45) t377 (fun k_ => some k_ = (.slice Ao46 t380.length co46 : Value).ownBlock) (.slice Ao46 t380.length co46) t380 (fun k_ => some k_ = (.slice Ao47 t383.length co47 : Value).ownBlock) (.slice Ao47 t383.length co47) t383 1 t407 t408 t409 t410 w _ ?side1 ?side2 ?side3 ?side4 ?side5 ?side6 A121.out).mono ?_); (case side1 => repeat (first | (with_reducible first | exact HB.out | apply below_alloc | apply pw_below_drewN | apply below_drew1 | refine below_set ?_ GE336.out | refine below_set ?_ GE362.out | refine below_set ?_ GE374.out | refine below_set ?_ GE388.out) | exact HB.out)); (case side2 => exact Kd.R_tight rfl HO_389002.out); (case side3 => exact fun k_ e_ => (HO_389002.out.1 k_ e_.symm).2.2.2.2); (case side4 => exact Kd.R_tight rfl HO_389003.out); (case side5 => exact fun k_ e_ => (HO_389003.out.1 k_ e_.symm).2.2.2.2); (case side6 => exact Kd.R_tight rfl HO_389004.out); rintro e w132 ⟨rfl, hy0, hy1, hy2, hb, hkp⟩; refine ⟨_, rfl, ?_⟩; replace HO_363002 := Aside0.mk (Kd.R_mono (ok' := fun k_ => nb k_ Ao28 t354.length co28 ∧ nb k_ Ao36 t403.length co36 ∧ nb k_ Ao37 t404.length co37 ∧ nb k_ Ao45 t377.length co45 ∧ nb k_ Ao46 t380.length co46) (Kd.R_keptB ((Kd.R_apart' HO_363002.out (Kd.R_typed HO_389004.out) (by decide))) hkp (fun k_ hk_ hs_ => Or.elim hs_ (fun e_ => (hk_.1.2.2.2.1) e_) (fun e_ => Or.elim e_ (fun e_ => (hk_.1.2.2.2.2) e_) (fun e_ => (hk_.2) e_)))) cj); replace HO_363003 := Aside0.mk (Kd.R_mono (ok' := fun k_ => nb k_ Ao27 t351.length co27 ∧ nb k_ Ao36 t403.length co36 ∧ nb k_ Ao37 t404.length co37 ∧ nb k_ Ao45 t377.length co45 ∧ nb k_ Ao46 t380.length co46) (Kd.R_keptB ((Kd.R_apart' HO_363003.out (Kd.R_typed HO_389004.out) (by decide))) hkp (fun k_ hk_ hs_ => Or.elim hs_ (fun e_ => (hk_.1.2.2.2.1) e_) (fun e_ => Or.elim e_ (fun e_ => (hk_.1.2.2.2.2) e_) (fun e_ => (hk_.2) e_)))) cj); replace HO_363004 := Aside0.mk (Kd.R_mono (ok' := fun k_ => nb k_ Ao38 t405.length co38 ∧ nb k_ Ao47 t383.length co47) (Kd.R_keptB ((Kd.R_apart' (Kd.R_apart' HO_363004.out (Kd.R_typed HO_389002.out) (by decide)) (Kd.R_typed HO_389003.out) (by decide))) hkp (fun k_ hk_ hs_ => Or.elim hs_ (fun e_ => (hk_.1.2) e_) (fun e_ => Or.elim e_ (fun e_ => (hk_.2) e_) (fun e_ => (hk_.1.1.2) e_)))) cj); replace HO_375002 := Aside0.mk (Kd.R_mono (ok' := fun k_ => nb k_ Ao27 t351.length co27 ∧ nb k_ Ao28 t354.length co28 ∧ nb k_ Ao37 t404.length co37 ∧ nb k_ Ao45 t377.length co45 ∧ nb k_ Ao46 t380.length co46) (Kd.R_keptB ((Kd.R_apart' HO_375002.out (Kd.R_typed HO_389004.out) (by decide))) hkp (fun k_ hk_ hs_ => Or.elim hs_ (fun e_ => (hk_.1.2.2.2.1) e_) (fun e_ => Or.elim e_ (fun e_ => (hk_.1.2.2.2.2) e_) (fun e_ => (hk_.2) e_)))) cj); replace HO_375003 := Aside0.mk (Kd.R_mono (ok' := fun k_ => nb k_ Ao27 t351.length co27 ∧ nb k_ Ao28 t354.length co28 ∧ nb k_ Ao36 t403.length co36 ∧ nb k_ Ao45 t377.length co45 ∧ nb k_ Ao46 t380.length co46) (Kd.R_keptB ((Kd.R_apart' HO_375003.out (Kd.R_typed HO_389004.out) (by decide))) hkp (fun k_ hk_ hs_ => Or.elim hs_ (fun e_ => (hk_.1.2.2.2.1) e_) (fun e_ => Or.elim e_ (fun e_ => (hk_.1.2.2.2.2) e_) (fun e_ => (hk_.2) e_)))) cj); replace HO_375004 := Aside0.mk (Kd.R_mono (ok' := fun k_ => nb k_ Ao29 t357.length co29 ∧ nb k_ Ao47 t383.length co47) (Kd.R_keptB ((Kd.R_apart' (Kd.R_apart' HO_375004.out (Kd.R_typed HO_389002.out) (by decide)) (Kd.R_typed HO_389003.out) (by decide))) hkp (fun k_ hk_ hs_ => Or.elim hs_ (fun e_ => (hk_.1.2) e_) (fun e_ => Or.elim e_ (fun e_ => (hk_.2) e_) (fun e_ => (hk_.1.1.2) e_)))) cj); replace BK336 := Aside0.mk (blk_kept (bk BK336) hkp (fun hs_ => Or.elim hs_ (fun e_ => (fun e_ => (Kd.R_ne HO_389002.out BK336.out (by decide)) e_) e_) (fun e_ => Or.elim e_ (fun e_ => (fun e_ => (Kd.R_ne HO_389003.out BK336.out (by decide)) e_) e_) (fun e_ => (fun e_ => (Kd.R_ne HO_389004.out BK336.out (by decide)) e_) e_)))); replace BK362 := Aside0.mk (blk_kept (bk BK362) hkp (fun hs_ => Or.elim hs_ (fun e_ => (fun e_ => (Kd.R_ne HO_389002.out BK362.out (by decide)) e_) e_) (fun e_ => Or.elim e_ (fun e_ => (fun e_ => (Kd.R_ne HO_389003.out BK362.out (by decide)) e_) e_) (fun e_ => (fun e_ => (Kd.R_ne HO_389004.out BK362.out (by decide)) e_) e_)))); replace BK374 := Aside0.mk (blk_kept (bk BK374) hkp (fun hs_ => Or.elim hs_ (fun e_ => (fun e_ => (Kd.R_ne HO_389002.out BK374.out (by decide)) e_) e_) (fun e_ => Or.elim e_ (fun e_ => (fun e_ => (Kd.R_ne HO_389003.out BK374.out (by decide)) e_) e_) (fun e_ => (fun e_ => (Kd.R_ne HO_389004.out BK374.out (by decide)) e_) e_)))); replace BK388 := Aside0.mk (blk_kept (bk BK388) hkp (fun hs_ => Or.elim hs_ (fun e_ => (fun e_ => (Kd.R_ne HO_389002.out BK388.out (by decide)) e_) e_) (fun e_ => Or.elim e_ (fun e_ => (fun e_ => (Kd.R_ne HO_389003.out BK388.out (by decide)) e_) e_) (fun e_ => (fun e_ => (Kd.R_ne HO_389004.out BK388.out (by decide)) e_) e_)))); replace HO_389002 := Aside0.mk (Kd.R_reok rfl hy0 (fun k_ e_ => HO_389002.out.1 k_ e_)); replace HO_389003 := Aside0.mk (Kd.R_reok rfl hy1 (fun k_ e_ => HO_389003.out.1 k_ e_)); replace HO_389004 := Aside0.mk (Kd.R_reok rfl hy2 (fun k_ e_ => HO_389004.out.1 k_ e_)); replace HB := Aside0.mk (hb); (try clear hb); (try clear hkp); (try clear hy0); (try clear hy1); (try clear hy2); have hcz133_0 := bz5 BK388) | ((with_reducible refine gate_callee (f := 24) rfl ?_); refine goesL_ (some 89) rfl rfl Try.func24 (by kernel_rfl) rfl #[.agg #[.int .i64 t375, .int .i64 t376, .slice Ao45 t408.length co45, .slice Ao46 t409.length co46, .slice Ao47 t410.length co47], .int .i64 1] rfl (by (try simp only [List.map_toArray, List.map_cons, List.map_nil]); first | done | (rw [show t408.length = t377.length from (Kd.R_reads' HO_389002.out).1.symm, show t409.length = t380.length from (Kd.R_reads' HO_389003.out).1.symm, show t410.length = t383.length from (Kd.R_reads' HO_389004.out).1.symm] <;> rfl) | rfl | (simp only [List.length_drop, List.length_take]; rfl)) ?_; (with_reducible refine (laws_heldThree.calls kj79 t375 t376 _ _ t408 _ _ t409 _ _ t410 1 t411 _ (cr HO_389002) ?side2 (cr HO_389003) ?side4 (cr HO_389004) ?side6 A122.out).mono ?_); (case side2 => rw [show t408.length = t377.length from (Kd.R_reads' HO_389002.out).1.symm]; exact (Kd.R_reads' HO_389002.out).2.1); (case side4 => rw [show t409.length = t380.length from (Kd.R_reads' HO_389003.out).1.symm]; exact (Kd.R_reads' HO_389003.out).2.1); (case side6 => rw [show t410.length = t383.length from (Kd.R_reads' HO_389004.out).1.symm]; exact (Kd.R_reads' HO_389004.out).2.1); rintro e w134 ⟨rfl, hb⟩; refine ⟨_, rfl, ?_⟩; replace HO_363002 := rb HO_363002 hb; replace HO_363003 := rb HO_363003 hb; replace HO_363004 := rb HO_363004 hb; replace HO_375002 := rb HO_375002 hb; replace HO_375003 := rb HO_375003 hb; replace HO_375004 := rb HO_375004 hb; replace HO_389002 := rb HO_389002 hb; replace HO_389003 := rb HO_389003 hb; replace HO_389004 := rb HO_389004 hb; replace BK336 := bb BK336 hb; replace BK362 := bb BK362 hb; replace BK374 := bb BK374 hb; replace BK388 := bb BK388 hb; replace HB := Aside0.mk (below_step (be4 HB GE336 GE362 GE374 GE388) hb); (try clear hb); have hnb135 := NB336_362.out; have hnc135 := NB362_336.out; have hnb136 := NB336_374.out; have hnc136 := NB374_336.out; have hcz137_0 := bz5 BK336) | ((with_reducible refine gate_callee (f := 18) rfl ?_); refine gl 97 Try.func18 #[.agg #[.int .i64 a0_0, .int .i64 a0_1, .slice A0_2 l0_2.length c0_2, .slice A0_3 l0_3.length c0_3, .slice A0_4 l0_4.length c0_4]] ?_; (with_reducible refine (laws_toThree.calls kj79 a0_0 a0_1 _ _ l0_2 _ _ l0_3 _ _ l0_4 t412 t413 t414 t417 t420 _ (cb HR0_2 HB) HC0_2.out (cb HR0_3 HB) HC0_3.out (cb HR0_4 HB) HC0_4.out A125.out).mono ?_); rintro e w138 ⟨v415, v418, v421, rfl, ho0, ho1, ho2, hb⟩; refine ⟨_, rfl, ?_⟩; have HO416 := Aside0.mk (Kd.R_lower (nw (nw (nw (nw (nw (nw ho0 HO_363002) HO_363003) HO_375002) HO_375003) HO_389002) HO_389003) (below_size (be4 HB GE336 GE362 GE374 GE388))); have HO419 := Aside0.mk (Kd.R_lower (nw (nw (nw (nw (nw (nw ho1 HO_363002) HO_363003) HO_375002) HO_375003) HO_389002) HO_389003) (below_size (be4 HB GE336 GE362 GE374 GE388))); replace HO_363002 := td2 (ro HO_363002) hb ho0 ho1; replace HO_363003 := td2 (ro HO_363003) hb ho0 ho1; replace HO_375002 := td2 (ro HO_375002) hb ho0 ho1; replace HO_375003 := td2 (ro HO_375003) hb ho0 ho1; replace HO_389002 := td2 (ro HO_389002) hb ho0 ho1; replace HO_389003 := td2 (ro HO_389003) hb ho0 ho1; have HO422 := Aside0.mk (Kd.R_lower (nw (nw (nw ho2 HO_363004) HO_375004) HO_389004) (below_size (be4 HB GE336 GE362 GE374 GE388))); replace HO_363004 := Aside0.mk (Kd.R_elder' (ro HO_363004) (Kd.R_base ho2) hb); replace HO_375004 := Aside0.mk (Kd.R_elder' (ro HO_375004) (Kd.R_base ho2) hb); replace HO_389004 := Aside0.mk (Kd.R_elder' (ro HO_389004) (Kd.R_base ho2) hb); replace BK336 := bb BK336 hb; replace BK362 := bb BK362 hb; replace BK374 := bb BK374 hb; replace BK388 := bb BK388 hb; replace HB := Aside0.mk (below_step (be4 HB GE336 GE362 GE374 GE388) hb); (try clear hb); (try clear ho0); (try clear ho1); (try clear ho2); obtain ⟨Ao139, co139, eo139⟩ := Kd.R_slice HO416.out; subst eo139; obtain ⟨Ao140, co140, eo140⟩ := Kd.R_slice HO419.out; subst eo140; obtain ⟨Ao141, co141, eo141⟩ := Kd.R_slice HO422.out; subst eo141) | ((with_reducible refine gate_callee (f := 36) rfl ?_); refine gl 99 Try.func36 #[.agg #[.int .i64 t412, .int .i64 t413, .slice Ao139 t414.length co139, .slice Ao140 t417.length co140, .slice Ao141 t420.length co141], .string a1] ?_; (with_reducible refine (impl_Get.calls kj79 t412 t413 _ _ t414 _ _ t417 _ _ t420 a1 t423 t424 t425 t428 t431 t434 t435 _ (cr HO416) ((Kd.R_reads' HO416.out).2.1) (cr HO419) ((Kd.R_reads' HO419.out).2.1) (cr HO422) ((Kd.R_reads' HO422.out).2.1) A126.out).mono ?_); rintro e w142 ⟨v426, v429, v432, rfl, ho0, ho1, ho2, hb⟩; refine ⟨_, rfl, ?_⟩; have HO427 := Aside0.mk (Kd.R_lower (nw (nw (nw (nw (nw (nw (nw (nw ho0 HO_363002) HO_363003) HO_375002) HO_375003) HO_389002) HO_389003) HO416) HO419) (below_size (be4 HB GE336 GE362 GE374 GE388))); have HO430 := Aside0.mk (Kd.R_lower (nw (nw (nw (nw (nw (nw (nw (nw ho1 HO_363002) HO_363003) HO_375002) HO_375003) HO_389002) HO_389003) HO416) HO419) (below_size (be4 HB GE336 GE362 GE374 GE388))); replace HO_363002 := td2 (ro HO_363002) hb ho0 ho1; replace HO_363003 := td2 (ro HO_363003) hb ho0 ho1; replace HO_375002 := td2 (ro HO_375002) hb ho0 ho1; replace HO_375003 := td2 (ro HO_375003) hb ho0 ho1; replace HO_389002 := td2 (ro HO_389002) hb ho0 ho1; replace HO_389003 := td2 (ro HO_389003) hb ho0 ho1; replace HO416 := td2 (ro HO416) hb ho0 ho1; replace HO419 := td2 (ro HO419) hb ho0 ho1; have HO433 := Aside0.mk (Kd.R_lower (nw (nw (nw (nw ho2 HO_363004) HO_375004) HO_389004) HO422) (below_size (be4 HB GE336 GE362 GE374 GE388))); replace HO_363004 := Aside0.mk (Kd.R_elder' (ro HO_363004) (Kd.R_base ho2) hb); replace HO_375004 := Aside0.mk (Kd.R_elder' (ro HO_375004) (Kd.R_base ho2) hb); replace HO_389004 := Aside0.mk (Kd.R_elder' (ro HO_389004) (Kd.R_base ho2) hb); replace HO422 := Aside0.mk (Kd.R_elder' (ro HO422) (Kd.R_base ho2) hb); replace BK336 := bb BK336 hb; replace BK362 := bb BK362 hb; replace BK374 := bb BK374 hb; replace BK388 := bb BK388 hb; replace HB := Aside0.mk (below_step (be4 HB GE336 GE362 GE374 GE388) hb); (try clear hb); (try clear ho0); (try clear ho1); (try clear ho2)) | ((with_reducible refine gate_dst (N := 16) rfl ?_); refine bx 16 #[.int .i64 0, .int .i64 0, .slice none 0 0, .slice none 0 0, .slice none 0 0] 30 ?_; intro gb436 hg w143 hbox hb; replace HO_363002 := rb HO_363002 hb; replace HO_363003 := rb HO_363003 hb; replace HO_363004 := rb HO_363004 hb; replace HO_375002 := rb HO_375002 hb; replace HO_375003 := rb HO_375003 hb; replace HO_375004 := rb HO_375004 hb; replace HO_389002 := rb HO_389002 hb; replace HO_389003 := rb HO_389003 hb; replace HO_389004 := rb HO_389004 hb; replace HO416 := rb HO416 hb; replace HO419 := rb HO419 hb; replace HO422 := rb HO422 hb; replace HO427 := rb HO427 hb; replace HO430 := rb HO430 hb; replace HO433 := rb HO433 hb; have BK436 := am hbox; have GW436 := Aside0.mk ((by rw [hg]; exact (below_size (be4 HB GE336 GE362 GE374 GE388)) : w.heap.size ≤ gb436)); have GE436 := Aside0.mk ((by rw [hg]; exact (below_size (be4 HB GE336 GE362 GE374 GE388)) : w.heap.size ≤ gb436)); replace HB := Aside0.mk (below_step (be4 HB GE336 GE362 GE374 GE388) hb); have NB336_436 := Aside0.mk ((by rw [hg]; exact Nat.ne_of_lt (bl BK336) : gb336 ≠ gb436)); have NB436_336 := Aside0.mk ((by rw [hg]; exact Nat.ne_of_gt (bl BK336) : gb436 ≠ gb336)); replace BK336 := bb BK336 hb; have NB362_436 := Aside0.mk ((by rw [hg]; exact Nat.ne_of_lt (bl BK362) : gb362 ≠ gb436)); have NB436_362 := Aside0.mk ((by rw [hg]; exact Nat.ne_of_gt (bl BK362) : gb436 ≠ gb362)); replace BK362 := bb BK362 hb; have NB374_436 := Aside0.mk ((by rw [hg]; exact Nat.ne_of_lt (bl BK374) : gb374 ≠ gb436)); have NB436_374 := Aside0.mk ((by rw [hg]; exact Nat.ne_of_gt (bl BK374) : gb436 ≠ gb374)); replace BK374 := bb BK374 hb; have NB388_436 := Aside0.mk ((by rw [hg]; exact Nat.ne_of_lt (bl BK388) : gb388 ≠ gb436)); have NB436_388 := Aside0.mk ((by rw [hg]; exact Nat.ne_of_gt (bl BK388) : gb436 ≠ gb388)); replace BK388 := bb BK388 hb; clear hb hbox hg; have hnb144 := NB436_336.out; have hnc144 := NB336_436.out; have hnb145 := NB436_362.out; have hnc145 := NB362_436.out; have hnb146 := NB436_374.out; have hnc146 := NB374_436.out; have hnb147 := NB436_388.out; have hnc147 := NB388_436.out; have hcz148_0 := bz5 BK436; obtain ⟨Ao149, co149, eo149⟩ := Kd.R_slice HO427.out; subst eo149; obtain ⟨Ao150, co150, eo150⟩ := Kd.R_slice HO430.out; subst eo150; obtain ⟨Ao151, co151, eo151⟩ := Kd.R_slice HO433.out; subst eo151))
       (try simp only [Act.put, List.setIfInBounds_toArray, List.set_cons_zero, List.set_cons_succ])
       go_cut [116] (fun v116 wc => ∃ (kq : Nat) (x116_126 : Bool), v116 = .bool x116_126 ∧ Aside0 (laws_FnExactGet.j2 kq t407 x116_126 t375 t376 t408 t409 t410 = some r) ∧ Aside0 (kq ≤ kj79) ∧ Aside0 (Kd.R k68 68 wc w.heap.size (fun k_ => nb k_ Ao28 t354.length co28 ∧ nb k_ Ao36 t403.length co36 ∧ nb k_ Ao37 t404.length co37 ∧ nb k_ Ao45 t377.length co45 ∧ nb k_ Ao46 t380.length co46 ∧ nb k_ Ao149 t425.length co149 ∧ nb k_ Ao150 t428.length co150) (.slice Ao27 t351.length co27) t351) ∧ Aside0 (Kd.R k68 68 wc w.heap.size (fun k_ => nb k_ Ao27 t351.length co27 ∧ nb k_ Ao36 t403.length co36 ∧ nb k_ Ao37 t404.length co37 ∧ nb k_ Ao45 t377.length co45 ∧ nb k_ Ao46 t380.length co46 ∧ nb k_ Ao149 t425.length co149 ∧ nb k_ Ao150 t428.length co150) (.slice Ao28 t354.length co28) t354) ∧ Aside0 (Kd.R (Kd.int .i64) 3 wc w.heap.size (fun k_ => nb k_ Ao38 t405.length co38 ∧ nb k_ Ao47 t383.length co47 ∧ nb k_ Ao151 t431.length co151) (.slice Ao29 t357.length co29) t357) ∧ Aside0 (Kd.R k68 68 wc w.heap.size (fun k_ => nb k_ Ao27 t351.length co27 ∧ nb k_ Ao28 t354.length co28 ∧ nb k_ Ao37 t404.length co37 ∧ nb k_ Ao45 t377.length co45 ∧ nb k_ Ao46 t380.length co46 ∧ nb k_ Ao149 t425.length co149 ∧ nb k_ Ao150 t428.length co150) (.slice Ao36 t403.length co36) t403) ∧ Aside0 (Kd.R k68 68 wc w.heap.size (fun k_ => nb k_ Ao27 t351.length co27 ∧ nb k_ Ao28 t354.length co28 ∧ nb k_ Ao36 t403.length co36 ∧ nb k_ Ao45 t377.length co45 ∧ nb k_ Ao46 t380.length co46 ∧ nb k_ Ao149 t425.length co149 ∧ nb k_ Ao150 t428.length co150) (.slice Ao37 t404.length co37) t404) ∧ Aside0 (Kd.R (Kd.int .i64) 3 wc w.heap.size (fun k_ => nb k_ Ao29 t357.length co29 ∧ nb k_ Ao47 t383.length co47 ∧ nb k_ Ao151 t431.length co151) (.slice Ao38 t405.length co38) t405) ∧ Aside0 (Kd.R k68 68 wc w.heap.size (fun k_ => nb k_ Ao27 t351.length co27 ∧ nb k_ Ao28 t354.length co28 ∧ nb k_ Ao36 t403.length co36 ∧ nb k_ Ao37 t404.length co37 ∧ nb k_ Ao46 t380.length co46 ∧ nb k_ Ao149 t425.length co149 ∧ nb k_ Ao150 t428.length co150) (.slice Ao45 t377.length co45) t408) ∧ Aside0 (Kd.R k68 68 wc w.heap.size (fun k_ => nb k_ Ao27 t351.length co27 ∧ nb k_ Ao28 t354.length co28 ∧ nb k_ Ao36 t403.length co36 ∧ nb k_ Ao37 t404.length co37 ∧ nb k_ Ao45 t377.length co45 ∧ nb k_ Ao149 t425.length co149 ∧ nb k_ Ao150 t428.length co150) (.slice Ao46 t380.length co46) t409) ∧ Aside0 (Kd.R (Kd.int .i64) 3 wc w.heap.size (fun k_ => nb k_ Ao29 t357.length co29 ∧ nb k_ Ao38 t405.length co38 ∧ nb k_ Ao151 t431.length co151) (.slice Ao47 t383.length co47) t410) ∧ Aside0 (Kd.R k68 68 wc w.heap.size (fun k_ => nb k_ Ao27 t351.length co27 ∧ nb k_ Ao28 t354.length co28 ∧ nb k_ Ao36 t403.length co36 ∧ nb k_ Ao37 t404.length co37 ∧ nb k_ Ao45 t377.length co45 ∧ nb k_ Ao46 t380.length co46 ∧ nb k_ Ao150 t428.length co150) (.slice Ao149 t425.length co149) t425) ∧ Aside0 (Kd.R k68 68 wc w.heap.size (fun k_ => nb k_ Ao27 t351.length co27 ∧ nb k_ Ao28 t354.length co28 ∧ nb k_ Ao36 t403.length co36 ∧ nb k_ Ao37 t404.length co37 ∧ nb k_ Ao45 t377.length co45 ∧ nb k_ Ao46 t380.length co46 ∧ nb k_ Ao149 t425.length co149) (.slice Ao150 t428.length co150) t428) ∧ Aside0 (Kd.R (Kd.int .i64) 3 wc w.heap.size (fun k_ => nb k_ Ao29 t357.length co29 ∧ nb k_ Ao38 t405.length co38 ∧ nb k_ Ao47 t383.length co47) (.slice Ao151 t431.length co151) t431) ∧ Aside0 (wc.heap[gb336]? = some (.cells #[.int .i64 a0_0, .int .i64 a0_1, (.slice A0_2 l0_2.length c0_2), (.slice A0_3 l0_3.length c0_3), (.slice A0_4 l0_4.length c0_4)] 25 (0, 0))) ∧ Aside0 (wc.heap[gb362]? = some (.cells #[.int .i64 t349, .int .i64 t350, (.slice Ao27 t351.length co27), (.slice Ao28 t354.length co28), (.slice Ao29 t357.length co29)] 30 (0, 0))) ∧ Aside0 (wc.heap[gb374]? = some (.cells #[.int .i64 t363, .int .i64 t364, (.slice Ao36 t403.length co36), (.slice Ao37 t404.length co37), (.slice Ao38 t405.length co38)] 30 (0, 0))) ∧ Aside0 (wc.heap[gb388]? = some (.cells #[.int .i64 t375, .int .i64 t376, (.slice Ao45 t377.length co45), (.slice Ao46 t380.length co46), (.slice Ao47 t383.length co47)] 30 (0, 0))) ∧ Aside0 (wc.heap[gb436]? = some (.cells #[.int .i64 t423, .int .i64 t424, (.slice Ao149 t425.length co149), (.slice Ao150 t428.length co150), (.slice Ao151 t431.length co151)] 30 (0, 0))) ∧ Aside0 (Below w.heap.size w wc))
       case first =>
        have H := HC127.out
        clear HC127
        replace H := Option.bind_eq_some_iff.mp H
        obtain ⟨t437, A1520, H⟩ := H
        try dsimp only at H
        have A152 := Aside0.mk A1520
        clear A1520
        by_cases c153 : t437 = true
        ·subst c153
         rw [if_pos rfl] at H
         by_cases c154 : t434.toList = t360.toList
         ·rw [if_pos c154] at H
          have c154b0 : (t434.toList == t360.toList) = true := beq_iff_eq.mpr c154
          have c154b1 : (t434.toList != t360.toList) = false := bne_eq_false_iff_eq.mpr c154
          clear c154
          (first | rw [c154b0] | (simp only [i64_w, i32_w]; rw [c154b0]) | skip)
          have H' := Aside0.mk H
          clear H
          have hnb155 := NB436_336.out
          have hnc155 := NB336_436.out
          have hnb156 := NB436_362.out
          have hnc156 := NB362_436.out
          have hnb157 := NB436_374.out
          have hnc157 := NB374_436.out
          have hnb158 := NB436_388.out
          have hnc158 := NB388_436.out
          have hcz159_0 := bz5 BK436
          have hnb160 := NB362_336.out
          have hnc160 := NB336_362.out
          have hnb161 := NB362_374.out
          have hnc161 := NB374_362.out
          have hnb162 := NB362_388.out
          have hnc162 := NB388_362.out
          have hcz163_0 := bz5 BK362
          go_wp2_with (first | ((with_reducible refine gate_callee (f := 20) rfl ?_); refine gl 105 Try.func20 #[.agg #[.int .i64 t423, .int .i64 t424, .slice Ao149 t425.length co149, .slice Ao150 t428.length co150, .slice Ao151 t431.length co151], .agg #[.int .i64 t349, .int .i64 t350, .slice Ao27 t351.length co27, .slice Ao28 t354.length co28, .slice Ao29 t357.length co29]] ?_; (with_reducible refine (laws_eqThree.calls kj79 t423 t424 _ _ t425 _ _ t428 _ _ t431 t349 t350 _ _ t351 _ _ t354 _ _ t357 true _ ?side1 ((Kd.R_reads' HO427.out).2.1) ?side3 ((Kd.R_reads' HO430.out).2.1) ?side5 ((Kd.R_reads' HO433.out).2.1) ?side7 ((Kd.R_reads' HO_363002.out).2.1) ?side9 ((Kd.R_reads' HO_363003.out).2.1) ?side11 ((Kd.R_reads' HO_363004.out).2.1) A152.out).mono ?_); (case side1 => exact rfr _ HO427 BK436); (case side3 => exact rfr _ HO430 BK436); (case side5 => exact rfr _ HO433 BK436); (case side7 => exact rfr _ HO_363002 BK436); (case side9 => exact rfr _ HO_363003 BK436); (case side11 => exact rfr _ HO_363004 BK436); rintro e w164 ⟨rfl, hb⟩; refine ⟨_, rfl, ?_⟩; replace HO_363002 := Aside0.mk (Kd.R_below (rf HO_363002 BK436) hb); replace HO_363003 := Aside0.mk (Kd.R_below (rf HO_363003 BK436) hb); replace HO_363004 := Aside0.mk (Kd.R_below (rf HO_363004 BK436) hb); replace HO_375002 := Aside0.mk (Kd.R_below (rf HO_375002 BK436) hb); replace HO_375003 := Aside0.mk (Kd.R_below (rf HO_375003 BK436) hb); replace HO_375004 := Aside0.mk (Kd.R_below (rf HO_375004 BK436) hb); replace HO_389002 := Aside0.mk (Kd.R_below (rf HO_389002 BK436) hb); replace HO_389003 := Aside0.mk (Kd.R_below (rf HO_389003 BK436) hb); replace HO_389004 := Aside0.mk (Kd.R_below (rf HO_389004 BK436) hb); replace HO416 := Aside0.mk (Kd.R_below (rf HO416 BK436) hb); replace HO419 := Aside0.mk (Kd.R_below (rf HO419 BK436) hb); replace HO422 := Aside0.mk (Kd.R_below (rf HO422 BK436) hb); replace HO427 := Aside0.mk (Kd.R_below (rf HO427 BK436) hb); replace HO430 := Aside0.mk (Kd.R_below (rf HO430 BK436) hb); replace HO433 := Aside0.mk (Kd.R_below (rf HO433 BK436) hb); replace BK336 := Aside0.mk (blk_below (g := gb336) (o := .cells #[.int .i64 a0_0, .int .i64 a0_1, .slice A0_2 l0_2.length c0_2, .slice A0_3 l0_3.length c0_3, .slice A0_4 l0_4.length c0_4] 25 (0, 0)) (bf1 BK336 NB336_436) hb); replace BK362 := Aside0.mk (blk_below (g := gb362) (o := .cells #[.int .i64 t349, .int .i64 t350, .slice Ao27 t351.length co27, .slice Ao28 t354.length co28, .slice Ao29 t357.length co29] 30 (0, 0)) (bf1 BK362 NB362_436) hb); replace BK374 := Aside0.mk (blk_below (g := gb374) (o := .cells #[.int .i64 t363, .int .i64 t364, .slice Ao36 t403.length co36, .slice Ao37 t404.length co37, .slice Ao38 t405.length co38] 30 (0, 0)) (bf1 BK374 NB374_436) hb); replace BK388 := Aside0.mk (blk_below (g := gb388) (o := .cells #[.int .i64 t375, .int .i64 t376, .slice Ao45 t377.length co45, .slice Ao46 t380.length co46, .slice Ao47 t383.length co47] 30 (0, 0)) (bf1 BK388 NB388_436) hb); replace BK436 := Aside0.mk (blk_below (g := gb436) (o := .cells #[.int .i64 t423, .int .i64 t424, .slice Ao149 t425.length co149, .slice Ao150 t428.length co150, .slice Ao151 t431.length co151] 30 (0, 0)) (by (with_reducible repeat (first | refine blk_drewN ?_ _ | refine blk_drew ?_ | refine blk_alloc ?_ _)); refine blk_put (cs := #[.int .i64 t423, .int .i64 t424, .slice Ao149 t425.length co149, .slice Ao150 t428.length co150, .slice none 0 0]) ?_ 4 _ rfl; (with_reducible repeat (first | refine blk_drewN ?_ _ | refine blk_drew ?_ | refine blk_alloc ?_ _)); refine blk_put (cs := #[.int .i64 t423, .int .i64 t424, .slice Ao149 t425.length co149, .slice none 0 0, .slice none 0 0]) ?_ 3 _ rfl; (with_reducible repeat (first | refine blk_drewN ?_ _ | refine blk_drew ?_ | refine blk_alloc ?_ _)); refine blk_put (cs := #[.int .i64 t423, .int .i64 t424, .slice none 0 0, .slice none 0 0, .slice none 0 0]) ?_ 2 _ rfl; (with_reducible repeat (first | refine blk_drewN ?_ _ | refine blk_drew ?_ | refine blk_alloc ?_ _)); refine blk_put (cs := #[.int .i64 t423, .int .i64 0, .slice none 0 0, .slice none 0 0, .slice none 0 0]) ?_ 1 _ rfl; (with_reducible repeat (first | refine blk_drewN ?_ _ | refine blk_drew ?_ | refine blk_alloc ?_ _)); refine blk_put (cs := #[.int .i64 0, .int .i64 0, .slice none 0 0, .slice none 0 0, .slice none 0 0]) ?_ 0 _ rfl; (with_reducible repeat (first | refine blk_drewN ?_ _ | refine blk_drew ?_ | refine blk_alloc ?_ _)); exact BK436.out) hb); replace HB := Aside0.mk (below_step (be5 HB GE336 GE362 GE374 GE388 GE436) hb); (try clear hb)))
          go_meet
          case rel => exact ⟨_, ((t435 != t361)), rs, H', ⟨by have := HJ13.out; have := HJ79.out; first | omega | exact Nat.le_refl _⟩, ⟨by (try simp only [hl375002_79, hl375003_79, hl375004_79]); (with_reducible repeat (first | apply Kd.R_alloc | apply Kd.R_drewN | apply Kd.R_drew)); exact rm HO_363002⟩, ⟨by (try simp only [hl375002_79, hl375003_79, hl375004_79]); (with_reducible repeat (first | apply Kd.R_alloc | apply Kd.R_drewN | apply Kd.R_drew)); exact rm HO_363003⟩, ⟨by (try simp only [hl375002_79, hl375003_79, hl375004_79]); (with_reducible repeat (first | apply Kd.R_alloc | apply Kd.R_drewN | apply Kd.R_drew)); exact rm HO_363004⟩, ⟨by (try simp only [hl375002_79, hl375003_79, hl375004_79]); (with_reducible repeat (first | apply Kd.R_alloc | apply Kd.R_drewN | apply Kd.R_drew)); exact rm HO_375002⟩, ⟨by (try simp only [hl375002_79, hl375003_79, hl375004_79]); (with_reducible repeat (first | apply Kd.R_alloc | apply Kd.R_drewN | apply Kd.R_drew)); exact rm HO_375003⟩, ⟨by (try simp only [hl375002_79, hl375003_79, hl375004_79]); (with_reducible repeat (first | apply Kd.R_alloc | apply Kd.R_drewN | apply Kd.R_drew)); exact rm HO_375004⟩, ⟨by (try simp only [hl375002_79, hl375003_79, hl375004_79]); (with_reducible repeat (first | apply Kd.R_alloc | apply Kd.R_drewN | apply Kd.R_drew)); exact rm HO_389002⟩, ⟨by (try simp only [hl375002_79, hl375003_79, hl375004_79]); (with_reducible repeat (first | apply Kd.R_alloc | apply Kd.R_drewN | apply Kd.R_drew)); exact rm HO_389003⟩, ⟨by (try simp only [hl375002_79, hl375003_79, hl375004_79]); (with_reducible repeat (first | apply Kd.R_alloc | apply Kd.R_drewN | apply Kd.R_drew)); exact rm HO_389004⟩, ⟨by (try simp only [hl375002_79, hl375003_79, hl375004_79]); (with_reducible repeat (first | apply Kd.R_alloc | apply Kd.R_drewN | apply Kd.R_drew)); exact rm HO427⟩, ⟨by (try simp only [hl375002_79, hl375003_79, hl375004_79]); (with_reducible repeat (first | apply Kd.R_alloc | apply Kd.R_drewN | apply Kd.R_drew)); exact rm HO430⟩, ⟨by (try simp only [hl375002_79, hl375003_79, hl375004_79]); (with_reducible repeat (first | apply Kd.R_alloc | apply Kd.R_drewN | apply Kd.R_drew)); exact rm HO433⟩, ⟨by (try simp only [hl375002_79, hl375003_79, hl375004_79]); (with_reducible repeat (first | refine blk_drewN ?_ _ | refine blk_drew ?_ | refine blk_alloc ?_ _)); exact BK336.out⟩, ⟨by (try simp only [hl375002_79, hl375003_79, hl375004_79]); (with_reducible repeat (first | refine blk_drewN ?_ _ | refine blk_drew ?_ | refine blk_alloc ?_ _)); exact BK362.out⟩, ⟨by (try simp only [hl375002_79, hl375003_79, hl375004_79]); (with_reducible repeat (first | refine blk_drewN ?_ _ | refine blk_drew ?_ | refine blk_alloc ?_ _)); exact BK374.out⟩, ⟨by (try simp only [hl375002_79, hl375003_79, hl375004_79]); (with_reducible repeat (first | refine blk_drewN ?_ _ | refine blk_drew ?_ | refine blk_alloc ?_ _)); exact BK388.out⟩, ⟨by (try simp only [hl375002_79, hl375003_79, hl375004_79]); (with_reducible repeat (first | refine blk_drewN ?_ _ | refine blk_drew ?_ | refine blk_alloc ?_ _)); exact BK436.out⟩, ⟨be5 HB GE336 GE362 GE374 GE388 GE436⟩⟩
         rw [if_neg c154] at H
         have c154b0 : (t434.toList == t360.toList) = false := beq_eq_false_iff_ne.mpr c154
         have c154b1 : (t434.toList != t360.toList) = true := bne_iff_ne.mpr c154
         (first | rw [c154b0] | (simp only [i64_w, i32_w]; rw [c154b0]) | skip)
         have H' := Aside0.mk H
         clear H
         have hnb165 := NB436_336.out
         have hnc165 := NB336_436.out
         have hnb166 := NB436_362.out
         have hnc166 := NB362_436.out
         have hnb167 := NB436_374.out
         have hnc167 := NB374_436.out
         have hnb168 := NB436_388.out
         have hnc168 := NB388_436.out
         have hcz169_0 := bz5 BK436
         have hnb170 := NB362_336.out
         have hnc170 := NB336_362.out
         have hnb171 := NB362_374.out
         have hnc171 := NB374_362.out
         have hnb172 := NB362_388.out
         have hnc172 := NB388_362.out
         have hcz173_0 := bz5 BK362
         go_wp2_with (first | ((with_reducible refine gate_callee (f := 20) rfl ?_); refine gl 105 Try.func20 #[.agg #[.int .i64 t423, .int .i64 t424, .slice Ao149 t425.length co149, .slice Ao150 t428.length co150, .slice Ao151 t431.length co151], .agg #[.int .i64 t349, .int .i64 t350, .slice Ao27 t351.length co27, .slice Ao28 t354.length co28, .slice Ao29 t357.length co29]] ?_; (with_reducible refine (laws_eqThree.calls kj79 t423 t424 _ _ t425 _ _ t428 _ _ t431 t349 t350 _ _ t351 _ _ t354 _ _ t357 true _ ?side1 ((Kd.R_reads' HO427.out).2.1) ?side3 ((Kd.R_reads' HO430.out).2.1) ?side5 ((Kd.R_reads' HO433.out).2.1) ?side7 ((Kd.R_reads' HO_363002.out).2.1) ?side9 ((Kd.R_reads' HO_363003.out).2.1) ?side11 ((Kd.R_reads' HO_363004.out).2.1) A152.out).mono ?_); (case side1 => exact rfr _ HO427 BK436); (case side3 => exact rfr _ HO430 BK436); (case side5 => exact rfr _ HO433 BK436); (case side7 => exact rfr _ HO_363002 BK436); (case side9 => exact rfr _ HO_363003 BK436); (case side11 => exact rfr _ HO_363004 BK436); rintro e w174 ⟨rfl, hb⟩; refine ⟨_, rfl, ?_⟩; replace HO_363002 := Aside0.mk (Kd.R_below (rf HO_363002 BK436) hb); replace HO_363003 := Aside0.mk (Kd.R_below (rf HO_363003 BK436) hb); replace HO_363004 := Aside0.mk (Kd.R_below (rf HO_363004 BK436) hb); replace HO_375002 := Aside0.mk (Kd.R_below (rf HO_375002 BK436) hb); replace HO_375003 := Aside0.mk (Kd.R_below (rf HO_375003 BK436) hb); replace HO_375004 := Aside0.mk (Kd.R_below (rf HO_375004 BK436) hb); replace HO_389002 := Aside0.mk (Kd.R_below (rf HO_389002 BK436) hb); replace HO_389003 := Aside0.mk (Kd.R_below (rf HO_389003 BK436) hb); replace HO_389004 := Aside0.mk (Kd.R_below (rf HO_389004 BK436) hb); replace HO416 := Aside0.mk (Kd.R_below (rf HO416 BK436) hb); replace HO419 := Aside0.mk (Kd.R_below (rf HO419 BK436) hb); replace HO422 := Aside0.mk (Kd.R_below (rf HO422 BK436) hb); replace HO427 := Aside0.mk (Kd.R_below (rf HO427 BK436) hb); replace HO430 := Aside0.mk (Kd.R_below (rf HO430 BK436) hb); replace HO433 := Aside0.mk (Kd.R_below (rf HO433 BK436) hb); replace BK336 := Aside0.mk (blk_below (g := gb336) (o := .cells #[.int .i64 a0_0, .int .i64 a0_1, .slice A0_2 l0_2.length c0_2, .slice A0_3 l0_3.length c0_3, .slice A0_4 l0_4.length c0_4] 25 (0, 0)) (bf1 BK336 NB336_436) hb); replace BK362 := Aside0.mk (blk_below (g := gb362) (o := .cells #[.int .i64 t349, .int .i64 t350, .slice Ao27 t351.length co27, .slice Ao28 t354.length co28, .slice Ao29 t357.length co29] 30 (0, 0)) (bf1 BK362 NB362_436) hb); replace BK374 := Aside0.mk (blk_below (g := gb374) (o := .cells #[.int .i64 t363, .int .i64 t364, .slice Ao36 t403.length co36, .slice Ao37 t404.length co37, .slice Ao38 t405.length co38] 30 (0, 0)) (bf1 BK374 NB374_436) hb); replace BK388 := Aside0.mk (blk_below (g := gb388) (o := .cells #[.int .i64 t375, .int .i64 t376, .slice Ao45 t377.length co45, .slice Ao46 t380.length co46, .slice Ao47 t383.length co47] 30 (0, 0)) (bf1 BK388 NB388_436) hb); replace BK436 := Aside0.mk (blk_below (g := gb436) (o := .cells #[.int .i64 t423, .int .i64 t424, .slice Ao149 t425.length co149, .slice Ao150 t428.length co150, .slice Ao151 t431.length co151] 30 (0, 0)) (by (with_reducible repeat (first | refine blk_drewN ?_ _ | refine blk_drew ?_ | refine blk_alloc ?_ _)); refine blk_put (cs := #[.int .i64 t423, .int .i64 t424, .slice Ao149 t425.length co149, .slice Ao150 t428.length co150, .slice none 0 0]) ?_ 4 _ rfl; (with_reducible repeat (first | refine blk_drewN ?_ _ | refine blk_drew ?_ | refine blk_alloc ?_ _)); refine blk_put (cs := #[.int .i64 t423, .int .i64 t424, .slice Ao149 t425.length co149, .slice none 0 0, .slice none 0 0]) ?_ 3 _ rfl; (with_reducible repeat (first | refine blk_drewN ?_ _ | refine blk_drew ?_ | refine blk_alloc ?_ _)); refine blk_put (cs := #[.int .i64 t423, .int .i64 t424, .slice none 0 0, .slice none 0 0, .slice none 0 0]) ?_ 2 _ rfl; (with_reducible repeat (first | refine blk_drewN ?_ _ | refine blk_drew ?_ | refine blk_alloc ?_ _)); refine blk_put (cs := #[.int .i64 t423, .int .i64 0, .slice none 0 0, .slice none 0 0, .slice none 0 0]) ?_ 1 _ rfl; (with_reducible repeat (first | refine blk_drewN ?_ _ | refine blk_drew ?_ | refine blk_alloc ?_ _)); refine blk_put (cs := #[.int .i64 0, .int .i64 0, .slice none 0 0, .slice none 0 0, .slice none 0 0]) ?_ 0 _ rfl; (with_reducible repeat (first | refine blk_drewN ?_ _ | refine blk_drew ?_ | refine blk_alloc ?_ _)); exact BK436.out) hb); replace HB := Aside0.mk (below_step (be5 HB GE336 GE362 GE374 GE388 GE436) hb); (try clear hb)))
         go_meet
         case rel => exact ⟨_, (true), rs, H', ⟨by have := HJ13.out; have := HJ79.out; first | omega | exact Nat.le_refl _⟩, ⟨by (try simp only [hl375002_79, hl375003_79, hl375004_79]); (with_reducible repeat (first | apply Kd.R_alloc | apply Kd.R_drewN | apply Kd.R_drew)); exact rm HO_363002⟩, ⟨by (try simp only [hl375002_79, hl375003_79, hl375004_79]); (with_reducible repeat (first | apply Kd.R_alloc | apply Kd.R_drewN | apply Kd.R_drew)); exact rm HO_363003⟩, ⟨by (try simp only [hl375002_79, hl375003_79, hl375004_79]); (with_reducible repeat (first | apply Kd.R_alloc | apply Kd.R_drewN | apply Kd.R_drew)); exact rm HO_363004⟩, ⟨by (try simp only [hl375002_79, hl375003_79, hl375004_79]); (with_reducible repeat (first | apply Kd.R_alloc | apply Kd.R_drewN | apply Kd.R_drew)); exact rm HO_375002⟩, ⟨by (try simp only [hl375002_79, hl375003_79, hl375004_79]); (with_reducible repeat (first | apply Kd.R_alloc | apply Kd.R_drewN | apply Kd.R_drew)); exact rm HO_375003⟩, ⟨by (try simp only [hl375002_79, hl375003_79, hl375004_79]); (with_reducible repeat (first | apply Kd.R_alloc | apply Kd.R_drewN | apply Kd.R_drew)); exact rm HO_375004⟩, ⟨by (try simp only [hl375002_79, hl375003_79, hl375004_79]); (with_reducible repeat (first | apply Kd.R_alloc | apply Kd.R_drewN | apply Kd.R_drew)); exact rm HO_389002⟩, ⟨by (try simp only [hl375002_79, hl375003_79, hl375004_79]); (with_reducible repeat (first | apply Kd.R_alloc | apply Kd.R_drewN | apply Kd.R_drew)); exact rm HO_389003⟩, ⟨by (try simp only [hl375002_79, hl375003_79, hl375004_79]); (with_reducible repeat (first | apply Kd.R_alloc | apply Kd.R_drewN | apply Kd.R_drew)); exact rm HO_389004⟩, ⟨by (try simp only [hl375002_79, hl375003_79, hl375004_79]); (with_reducible repeat (first | apply Kd.R_alloc | apply Kd.R_drewN | apply Kd.R_drew)); exact rm HO427⟩, ⟨by (try simp only [hl375002_79, hl375003_79, hl375004_79]); (with_reducible repeat (first | apply Kd.R_alloc | apply Kd.R_drewN | apply Kd.R_drew)); exact rm HO430⟩, ⟨by (try simp only [hl375002_79, hl375003_79, hl375004_79]); (with_reducible repeat (first | apply Kd.R_alloc | apply Kd.R_drewN | apply Kd.R_drew)); exact rm HO433⟩, ⟨by (try simp only [hl375002_79, hl375003_79, hl375004_79]); (with_reducible repeat (first | refine blk_drewN ?_ _ | refine blk_drew ?_ | refine blk_alloc ?_ _)); exact BK336.out⟩, ⟨by (try simp only [hl375002_79, hl375003_79, hl375004_79]); (with_reducible repeat (first | refine blk_drewN ?_ _ | refine blk_drew ?_ | refine blk_alloc ?_ _)); exact BK362.out⟩, ⟨by (try simp only [hl375002_79, hl375003_79, hl375004_79]); (with_reducible repeat (first | refine blk_drewN ?_ _ | refine blk_drew ?_ | refine blk_alloc ?_ _)); exact BK374.out⟩, ⟨by (try simp only [hl375002_79, hl375003_79, hl375004_79]); (with_reducible repeat (first | refine blk_drewN ?_ _ | refine blk_drew ?_ | refine blk_alloc ?_ _)); exact BK388.out⟩, ⟨by (try simp only [hl375002_79, hl375003_79, hl375004_79]); (with_reducible repeat (first | refine blk_drewN ?_ _ | refine blk_drew ?_ | refine blk_alloc ?_ _)); exact BK436.out⟩, ⟨be5 HB GE336 GE362 GE374 GE388 GE436⟩⟩
        replace c153 := Bool.eq_false_iff.mpr c153
        subst c153
        rw [if_neg (show ¬ (false = true) by decide)] at H
        have H' := Aside0.mk H
        clear H
        have hnb175 := NB436_336.out
        have hnc175 := NB336_436.out
        have hnb176 := NB436_362.out
        have hnc176 := NB362_436.out
        have hnb177 := NB436_374.out
        have hnc177 := NB374_436.out
        have hnb178 := NB436_388.out
        have hnc178 := NB388_436.out
        have hcz179_0 := bz5 BK436
        have hnb180 := NB362_336.out
        have hnc180 := NB336_362.out
        have hnb181 := NB362_374.out
        have hnc181 := NB374_362.out
        have hnb182 := NB362_388.out
        have hnc182 := NB388_362.out
        have hcz183_0 := bz5 BK362
        go_wp2_with (first | ((with_reducible refine gate_callee (f := 20) rfl ?_); refine gl 105 Try.func20 #[.agg #[.int .i64 t423, .int .i64 t424, .slice Ao149 t425.length co149, .slice Ao150 t428.length co150, .slice Ao151 t431.length co151], .agg #[.int .i64 t349, .int .i64 t350, .slice Ao27 t351.length co27, .slice Ao28 t354.length co28, .slice Ao29 t357.length co29]] ?_; (with_reducible refine (laws_eqThree.calls kj79 t423 t424 _ _ t425 _ _ t428 _ _ t431 t349 t350 _ _ t351 _ _ t354 _ _ t357 false _ ?side1 ((Kd.R_reads' HO427.out).2.1) ?side3 ((Kd.R_reads' HO430.out).2.1) ?side5 ((Kd.R_reads' HO433.out).2.1) ?side7 ((Kd.R_reads' HO_363002.out).2.1) ?side9 ((Kd.R_reads' HO_363003.out).2.1) ?side11 ((Kd.R_reads' HO_363004.out).2.1) A152.out).mono ?_); (case side1 => exact rfr _ HO427 BK436); (case side3 => exact rfr _ HO430 BK436); (case side5 => exact rfr _ HO433 BK436); (case side7 => exact rfr _ HO_363002 BK436); (case side9 => exact rfr _ HO_363003 BK436); (case side11 => exact rfr _ HO_363004 BK436); rintro e w184 ⟨rfl, hb⟩; refine ⟨_, rfl, ?_⟩; replace HO_363002 := Aside0.mk (Kd.R_below (rf HO_363002 BK436) hb); replace HO_363003 := Aside0.mk (Kd.R_below (rf HO_363003 BK436) hb); replace HO_363004 := Aside0.mk (Kd.R_below (rf HO_363004 BK436) hb); replace HO_375002 := Aside0.mk (Kd.R_below (rf HO_375002 BK436) hb); replace HO_375003 := Aside0.mk (Kd.R_below (rf HO_375003 BK436) hb); replace HO_375004 := Aside0.mk (Kd.R_below (rf HO_375004 BK436) hb); replace HO_389002 := Aside0.mk (Kd.R_below (rf HO_389002 BK436) hb); replace HO_389003 := Aside0.mk (Kd.R_below (rf HO_389003 BK436) hb); replace HO_389004 := Aside0.mk (Kd.R_below (rf HO_389004 BK436) hb); replace HO416 := Aside0.mk (Kd.R_below (rf HO416 BK436) hb); replace HO419 := Aside0.mk (Kd.R_below (rf HO419 BK436) hb); replace HO422 := Aside0.mk (Kd.R_below (rf HO422 BK436) hb); replace HO427 := Aside0.mk (Kd.R_below (rf HO427 BK436) hb); replace HO430 := Aside0.mk (Kd.R_below (rf HO430 BK436) hb); replace HO433 := Aside0.mk (Kd.R_below (rf HO433 BK436) hb); replace BK336 := Aside0.mk (blk_below (g := gb336) (o := .cells #[.int .i64 a0_0, .int .i64 a0_1, .slice A0_2 l0_2.length c0_2, .slice A0_3 l0_3.length c0_3, .slice A0_4 l0_4.length c0_4] 25 (0, 0)) (bf1 BK336 NB336_436) hb); replace BK362 := Aside0.mk (blk_below (g := gb362) (o := .cells #[.int .i64 t349, .int .i64 t350, .slice Ao27 t351.length co27, .slice Ao28 t354.length co28, .slice Ao29 t357.length co29] 30 (0, 0)) (bf1 BK362 NB362_436) hb); replace BK374 := Aside0.mk (blk_below (g := gb374) (o := .cells #[.int .i64 t363, .int .i64 t364, .slice Ao36 t403.length co36, .slice Ao37 t404.length co37, .slice Ao38 t405.length co38] 30 (0, 0)) (bf1 BK374 NB374_436) hb); replace BK388 := Aside0.mk (blk_below (g := gb388) (o := .cells #[.int .i64 t375, .int .i64 t376, .slice Ao45 t377.length co45, .slice Ao46 t380.length co46, .slice Ao47 t383.length co47] 30 (0, 0)) (bf1 BK388 NB388_436) hb); replace BK436 := Aside0.mk (blk_below (g := gb436) (o := .cells #[.int .i64 t423, .int .i64 t424, .slice Ao149 t425.length co149, .slice Ao150 t428.length co150, .slice Ao151 t431.length co151] 30 (0, 0)) (by (with_reducible repeat (first | refine blk_drewN ?_ _ | refine blk_drew ?_ | refine blk_alloc ?_ _)); refine blk_put (cs := #[.int .i64 t423, .int .i64 t424, .slice Ao149 t425.length co149, .slice Ao150 t428.length co150, .slice none 0 0]) ?_ 4 _ rfl; (with_reducible repeat (first | refine blk_drewN ?_ _ | refine blk_drew ?_ | refine blk_alloc ?_ _)); refine blk_put (cs := #[.int .i64 t423, .int .i64 t424, .slice Ao149 t425.length co149, .slice none 0 0, .slice none 0 0]) ?_ 3 _ rfl; (with_reducible repeat (first | refine blk_drewN ?_ _ | refine blk_drew ?_ | refine blk_alloc ?_ _)); refine blk_put (cs := #[.int .i64 t423, .int .i64 t424, .slice none 0 0, .slice none 0 0, .slice none 0 0]) ?_ 2 _ rfl; (with_reducible repeat (first | refine blk_drewN ?_ _ | refine blk_drew ?_ | refine blk_alloc ?_ _)); refine blk_put (cs := #[.int .i64 t423, .int .i64 0, .slice none 0 0, .slice none 0 0, .slice none 0 0]) ?_ 1 _ rfl; (with_reducible repeat (first | refine blk_drewN ?_ _ | refine blk_drew ?_ | refine blk_alloc ?_ _)); refine blk_put (cs := #[.int .i64 0, .int .i64 0, .slice none 0 0, .slice none 0 0, .slice none 0 0]) ?_ 0 _ rfl; (with_reducible repeat (first | refine blk_drewN ?_ _ | refine blk_drew ?_ | refine blk_alloc ?_ _)); exact BK436.out) hb); replace HB := Aside0.mk (below_step (be5 HB GE336 GE362 GE374 GE388 GE436) hb); (try clear hb)))
        go_meet
        case rel => exact ⟨_, (true), rs, H', ⟨by have := HJ13.out; have := HJ79.out; first | omega | exact Nat.le_refl _⟩, ⟨by (try simp only [hl375002_79, hl375003_79, hl375004_79]); (with_reducible repeat (first | apply Kd.R_alloc | apply Kd.R_drewN | apply Kd.R_drew)); exact rm HO_363002⟩, ⟨by (try simp only [hl375002_79, hl375003_79, hl375004_79]); (with_reducible repeat (first | apply Kd.R_alloc | apply Kd.R_drewN | apply Kd.R_drew)); exact rm HO_363003⟩, ⟨by (try simp only [hl375002_79, hl375003_79, hl375004_79]); (with_reducible repeat (first | apply Kd.R_alloc | apply Kd.R_drewN | apply Kd.R_drew)); exact rm HO_363004⟩, ⟨by (try simp only [hl375002_79, hl375003_79, hl375004_79]); (with_reducible repeat (first | apply Kd.R_alloc | apply Kd.R_drewN | apply Kd.R_drew)); exact rm HO_375002⟩, ⟨by (try simp only [hl375002_79, hl375003_79, hl375004_79]); (with_reducible repeat (first | apply Kd.R_alloc | apply Kd.R_drewN | apply Kd.R_drew)); exact rm HO_375003⟩, ⟨by (try simp only [hl375002_79, hl375003_79, hl375004_79]); (with_reducible repeat (first | apply Kd.R_alloc | apply Kd.R_drewN | apply Kd.R_drew)); exact rm HO_375004⟩, ⟨by (try simp only [hl375002_79, hl375003_79, hl375004_79]); (with_reducible repeat (first | apply Kd.R_alloc | apply Kd.R_drewN | apply Kd.R_drew)); exact rm HO_389002⟩, ⟨by (try simp only [hl375002_79, hl375003_79, hl375004_79]); (with_reducible repeat (first | apply Kd.R_alloc | apply Kd.R_drewN | apply Kd.R_drew)); exact rm HO_389003⟩, ⟨by (try simp only [hl375002_79, hl375003_79, hl375004_79]); (with_reducible repeat (first | apply Kd.R_alloc | apply Kd.R_drewN | apply Kd.R_drew)); exact rm HO_389004⟩, ⟨by (try simp only [hl375002_79, hl375003_79, hl375004_79]); (with_reducible repeat (first | apply Kd.R_alloc | apply Kd.R_drewN | apply Kd.R_drew)); exact rm HO427⟩, ⟨by (try simp only [hl375002_79, hl375003_79, hl375004_79]); (with_reducible repeat (first | apply Kd.R_alloc | apply Kd.R_drewN | apply Kd.R_drew)); exact rm HO430⟩, ⟨by (try simp only [hl375002_79, hl375003_79, hl375004_79]); (with_reducible repeat (first | apply Kd.R_alloc | apply Kd.R_drewN | apply Kd.R_drew)); exact rm HO433⟩, ⟨by (try simp only [hl375002_79, hl375003_79, hl375004_79]); (with_reducible repeat (first | refine blk_drewN ?_ _ | refine blk_drew ?_ | refine blk_alloc ?_ _)); exact BK336.out⟩, ⟨by (try simp only [hl375002_79, hl375003_79, hl375004_79]); (with_reducible repeat (first | refine blk_drewN ?_ _ | refine blk_drew ?_ | refine blk_alloc ?_ _)); exact BK362.out⟩, ⟨by (try simp only [hl375002_79, hl375003_79, hl375004_79]); (with_reducible repeat (first | refine blk_drewN ?_ _ | refine blk_drew ?_ | refine blk_alloc ?_ _)); exact BK374.out⟩, ⟨by (try simp only [hl375002_79, hl375003_79, hl375004_79]); (with_reducible repeat (first | refine blk_drewN ?_ _ | refine blk_drew ?_ | refine blk_alloc ?_ _)); exact BK388.out⟩, ⟨by (try simp only [hl375002_79, hl375003_79, hl375004_79]); (with_reducible repeat (first | refine blk_drewN ?_ _ | refine blk_drew ?_ | refine blk_alloc ?_ _)); exact BK436.out⟩, ⟨be5 HB GE336 GE362 GE374 GE388 GE436⟩⟩
       case rest =>
        clear HC127
        try clear c1; try clear c2; try clear p2; try clear c3; try clear c4; try clear c5; try clear c6; try clear c7; try clear c8; try clear c9; try clear c10; try clear c11; try clear c12; try clear c13; try clear c14; try clear c15; try clear c16; try clear c17; try clear c18; try clear c20; try clear c23; try clear c24; try clear c25; try clear c33; try clear c34; try clear c35; try clear c36; try clear c41; try clear c42; try clear c43; try clear c49; try clear c50; try clear c50b0; try clear c50b1; try clear c51; try clear c52; try clear c53; try clear c55; try clear c56; try clear c59; try clear c60; try clear c61; try clear c63; try clear c64; try clear c67; try clear c68; try clear c69; try clear c71; try clear c72; try clear c75; try clear c78; try clear c87; try clear c88; try clear c89; try clear c92; try clear c92b0; try clear c94; try clear c95; try clear c95b0; try clear c95b1; try clear c96; try clear c97; try clear c98; try clear c100; try clear c101; try clear c104; try clear c105; try clear c106; try clear c108; try clear c109; try clear c112; try clear c113; try clear c114; try clear c116; try clear c117; try clear c120; try clear c123; try clear c123b0; try clear c124; try clear c124b0; try clear c124b1; try clear c128; try clear c129; try clear c130; try clear c135; try clear c136; try clear c144; try clear c145; try clear c146; try clear c147; try clear c153; try clear c154; try clear c154b0; try clear c154b1; try clear c155; try clear c156; try clear c157; try clear c158; try clear c160; try clear c161; try clear c162; try clear c165; try clear c166; try clear c167; try clear c168; try clear c170; try clear c171; try clear c172; try clear c175; try clear c176; try clear c177; try clear c178; try clear c180; try clear c181; try clear c182; try clear hcz102_0; try clear hcz107_0; try clear hcz110_0; try clear hcz115_0; try clear hcz118_0; try clear hcz131_0; try clear hcz133_0; try clear hcz137_0; try clear hcz148_0; try clear hcz159_0; try clear hcz163_0; try clear hcz169_0; try clear hcz16_0; try clear hcz173_0; try clear hcz179_0; try clear hcz183_0; try clear hcz18_0; try clear hcz26_0; try clear hcz30_0; try clear hcz35_0; try clear hcz44_0; try clear hcz54_0; try clear hcz57_0; try clear hcz62_0; try clear hcz65_0; try clear hcz70_0; try clear hcz73_0; try clear hcz8_0; try clear hcz90_0; try clear hcz99_0; try clear p2
        obtain ⟨kq, x116_126, rfl, HA, HJ126, HO_363002, HO_363003, HO_363004, HO_375002, HO_375003, HO_375004, HO_389002, HO_389003, HO_389004, HO_437002, HO_437003, HO_437004, BK336, BK362, BK374, BK388, BK436, HB⟩ := hcut
        have hl389002_126 := (Kd.R_reads' HO_389002.out).1
        rw [hl389002_126] at HO_389002
        (try simp only [hl389002_126])
        (try simp only [hl389002_126] at BK336)
        (try simp only [hl389002_126] at BK362)
        (try simp only [hl389002_126] at BK374)
        (try simp only [hl389002_126] at BK388)
        (try simp only [hl389002_126] at BK436)
        (try simp only [hl389002_126] at HO_363002)
        (try simp only [hl389002_126] at HO_363003)
        (try simp only [hl389002_126] at HO_363004)
        (try simp only [hl389002_126] at HO_375002)
        (try simp only [hl389002_126] at HO_375003)
        (try simp only [hl389002_126] at HO_375004)
        (try simp only [hl389002_126] at HO_389003)
        (try simp only [hl389002_126] at HO_389004)
        (try simp only [hl389002_126] at HO_437002)
        (try simp only [hl389002_126] at HO_437003)
        (try simp only [hl389002_126] at HO_437004)
        have hl389003_126 := (Kd.R_reads' HO_389003.out).1
        rw [hl389003_126] at HO_389003
        (try simp only [hl389003_126])
        (try simp only [hl389003_126] at BK336)
        (try simp only [hl389003_126] at BK362)
        (try simp only [hl389003_126] at BK374)
        (try simp only [hl389003_126] at BK388)
        (try simp only [hl389003_126] at BK436)
        (try simp only [hl389003_126] at HO_363002)
        (try simp only [hl389003_126] at HO_363003)
        (try simp only [hl389003_126] at HO_363004)
        (try simp only [hl389003_126] at HO_375002)
        (try simp only [hl389003_126] at HO_375003)
        (try simp only [hl389003_126] at HO_375004)
        (try simp only [hl389003_126] at HO_389002)
        (try simp only [hl389003_126] at HO_389004)
        (try simp only [hl389003_126] at HO_437002)
        (try simp only [hl389003_126] at HO_437003)
        (try simp only [hl389003_126] at HO_437004)
        have hl389004_126 := (Kd.R_reads' HO_389004.out).1
        rw [hl389004_126] at HO_389004
        (try simp only [hl389004_126])
        (try simp only [hl389004_126] at BK336)
        (try simp only [hl389004_126] at BK362)
        (try simp only [hl389004_126] at BK374)
        (try simp only [hl389004_126] at BK388)
        (try simp only [hl389004_126] at BK436)
        (try simp only [hl389004_126] at HO_363002)
        (try simp only [hl389004_126] at HO_363003)
        (try simp only [hl389004_126] at HO_363004)
        (try simp only [hl389004_126] at HO_375002)
        (try simp only [hl389004_126] at HO_375003)
        (try simp only [hl389004_126] at HO_375004)
        (try simp only [hl389004_126] at HO_389002)
        (try simp only [hl389004_126] at HO_389003)
        (try simp only [hl389004_126] at HO_437002)
        (try simp only [hl389004_126] at HO_437003)
        (try simp only [hl389004_126] at HO_437004)
        cases kq with
        | zero => exact absurd HA.out (by simp [laws_FnExactGet.j2])
        | succ kj126 =>
         have H := HA.out
         clear HA
         simp only [laws_FnExactGet.j2] at H
         by_cases c185 : x116_126 = true
         ·subst c185
          rw [if_pos rfl] at H
          exact absurd ((Option.some.inj H).trans hrt_.out) (by decide)
         replace c185 := Bool.eq_false_iff.mpr c185
         subst c185
         rw [if_neg (show ¬ (false = true) by decide)] at H
         replace H := Option.bind_eq_some_iff.mp H
         obtain ⟨t438, A1860, H⟩ := H
         try dsimp only at H
         have A186 := Aside0.mk A1860
         clear A1860
         by_cases c187 : t438 < 0
         ·rw [if_pos c187] at H
          have c187b0 : decide (t438 < 0) = true := decide_eq_true c187
          clear c187
          exact absurd ((Option.some.inj H).trans hrt_.out) (by decide)
         rw [if_neg c187] at H
         have c187b0 : decide (t438 < 0) = false := decide_eq_false c187
         clear c187
         by_cases c188 : t438 = t407
         ·rw [if_pos c188] at H
          have c188b0 : (t438 == t407) = true := beq_iff_eq.mpr c188
          have c188b1 : (t438 != t407) = false := bne_eq_false_iff_eq.mpr c188
          clear c188
          obtain rfl := Option.some.inj H
          have hnb189 := NB388_336.out
          have hnc189 := NB336_388.out
          have hnb190 := NB388_362.out
          have hnc190 := NB362_388.out
          have hnb191 := NB388_374.out
          have hnc191 := NB374_388.out
          have hnb192 := NB388_436.out
          have hnc192 := NB436_388.out
          have hcz193_0 := bz5 BK388
          go_wp2_with (first | ((with_reducible refine gate_callee (f := 24) rfl ?_); refine gl 119 Try.func24 #[.agg #[.int .i64 t375, .int .i64 t376, .slice Ao45 t408.length co45, .slice Ao46 t409.length co46, .slice Ao47 t410.length co47], .int .i64 1] ?_; (with_reducible refine (laws_heldThree.calls kj126 t375 t376 _ _ t408 _ _ t409 _ _ t410 1 t438 _ (cr HO_389002) ((Kd.R_reads' HO_389002.out).2.1) (cr HO_389003) ((Kd.R_reads' HO_389003.out).2.1) (cr HO_389004) ((Kd.R_reads' HO_389004.out).2.1) A186.out).mono ?_); rintro e w194 ⟨rfl, hb⟩; refine ⟨_, rfl, ?_⟩; replace HO_363002 := rb HO_363002 hb; replace HO_363003 := rb HO_363003 hb; replace HO_363004 := rb HO_363004 hb; replace HO_375002 := rb HO_375002 hb; replace HO_375003 := rb HO_375003 hb; replace HO_375004 := rb HO_375004 hb; replace HO_389002 := rb HO_389002 hb; replace HO_389003 := rb HO_389003 hb; replace HO_389004 := rb HO_389004 hb; replace HO_437002 := rb HO_437002 hb; replace HO_437003 := rb HO_437003 hb; replace HO_437004 := rb HO_437004 hb; replace BK336 := bb BK336 hb; replace BK362 := bb BK362 hb; replace BK374 := bb BK374 hb; replace BK388 := bb BK388 hb; replace BK436 := bb BK436 hb; replace HB := Aside0.mk (below_step (be5 HB GE336 GE362 GE374 GE388 GE436) hb); (try clear hb)))
          go_ret
          exact ⟨er, be5 HB GE336 GE362 GE374 GE388 GE436⟩
         rw [if_neg c188] at H
         have c188b0 : (t438 == t407) = false := beq_eq_false_iff_ne.mpr c188
         have c188b1 : (t438 != t407) = true := bne_iff_ne.mpr c188
         exact absurd ((Option.some.inj H).trans hrt_.out) (by decide)
      rw [if_neg c124] at H
      have c124b0 : (t411 == t407) = false := beq_eq_false_iff_ne.mpr c124
      have c124b1 : (t411 != t407) = true := bne_iff_ne.mpr c124
      exact absurd ((Option.some.inj H).trans hrt_.out) (by decide)
   replace c78 := Bool.eq_false_iff.mpr c78
   subst c78
   rw [if_neg (show ¬ (false = true) by decide)] at H
   exact absurd ((Option.some.inj H).trans hrt_.out) (by decide)

end Go.Proofs.Ytfjhkediaholmaa.QFnExactGet
