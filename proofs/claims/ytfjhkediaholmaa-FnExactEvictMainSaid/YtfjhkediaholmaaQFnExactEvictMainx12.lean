-- made by a program of this session (myprint.py)
import Derived.Test.YtfjhkediaholmaaQFnExactEvictMainx0
import Derived.Test.YtfjhkediaholmaaQFnExactEvictMainx1
import Derived.Test.YtfjhkediaholmaaQFnExactEvictMainx2
import Derived.Test.YtfjhkediaholmaaQFnExactEvictMainx3
import Derived.Test.YtfjhkediaholmaaQFnExactEvictMainx5
import Derived.Test.YtfjhkediaholmaaQFnExactEvictMainx8
import Derived.Test.YtfjhkediaholmaaQFnExactEvictMainx11
namespace Go.Proofs.Ytfjhkediaholmaa.QFnExactEvictMain
open Go.RowKit Go.Proofs.YtfjhkediaholmaaW.PrintWords Go.Proofs.YtfjhkediaholmaaW.PrintLast Go.Proofs.YtfjhkediaholmaaW.PrintMore
attribute [local go_sem] max2_int min2_int max_two min_two max_three min_three max_four min_four   -- for this text's walks alone
set_option linter.unusedVariables false
set_option linter.unusedSimpArgs false

/-! ### laws_FnExactEvictMain: function 7 -/
mutual
def laws_FnExactEvictMain.j0 : Nat → ByteArray → Bool → ByteArray → Bool → Bool → Int → Int → List (S125) → List (S125) → List Int → Int → Int → List (S68) → List (S68) → List Int → Int → Int → List (S68) → List (S68) → List Int → Int → Int → List (S68) → List (S68) → List Int → Option (Bool)
 | 0, _, _, _, _, _, _, _, _, _, _, _, _, _, _, _, _, _, _, _, _, _, _, _, _, _ => none
 | k + 1, x5, x6, x9, x10, x50, x368000, x368001, x368002, x368003, x368004, x394000, x394001, x394002, x394003, x394004, x406000, x406001, x406002, x406003, x406004, x420000, x420001, x420002, x420003, x420004 => if x50 = true then (some false) else ((laws_toThree.f k x368000 x368001 x368002 x368003 x368004).bind fun bt421 => ((laws_eqThree.f k x406000 x406001 x406002 x406003 x406004 bt421.1 bt421.2.1 bt421.2.2.1 bt421.2.2.2.1 bt421.2.2.2.2).bind fun t432 => (if t432 = true then ((laws_markThree.f k x406000 x406001 x406002 x406003 x406004 1).bind fun bt433 => (if bt433.1 < 0 then (laws_FnExactEvictMain.j1 k x5 x6 true x368000 x368001 x368002 x368003 x368004 x394000 x394001 x394002 x394003 x394004 x420000 x420001 x420002 x420003 x420004) else ((laws_eqThree.f k x420000 x420001 x420002 x420003 x420004 x394000 x394001 x394002 x394003 x394004).bind fun t437 => (if t437 = true then (if x9.toList = x5.toList then (laws_FnExactEvictMain.j1 k x5 x6 (x10 != x6) x368000 x368001 x368002 x368003 x368004 x394000 x394001 x394002 x394003 x394004 x420000 x420001 x420002 x420003 x420004) else (laws_FnExactEvictMain.j1 k x5 x6 true x368000 x368001 x368002 x368003 x368004 x394000 x394001 x394002 x394003 x394004 x420000 x420001 x420002 x420003 x420004)) else (laws_FnExactEvictMain.j1 k x5 x6 true x368000 x368001 x368002 x368003 x368004 x394000 x394001 x394002 x394003 x394004 x420000 x420001 x420002 x420003 x420004))))) else (some false))))
def laws_FnExactEvictMain.j1 : Nat → ByteArray → Bool → Bool → Int → Int → List (S125) → List (S125) → List Int → Int → Int → List (S68) → List (S68) → List Int → Int → Int → List (S68) → List (S68) → List Int → Option (Bool)
 | 0, _, _, _, _, _, _, _, _, _, _, _, _, _, _, _, _, _, _ => none
 | k + 1, x5, x6, x76, x368000, x368001, x368002, x368003, x368004, x394000, x394001, x394002, x394003, x394004, x420000, x420001, x420002, x420003, x420004 => if x76 = true then (some false) else ((laws_markThree.f k x420000 x420001 x420002 x420003 x420004 1).bind fun bt438 => ((laws_heldThree.f k x420000 x420001 bt438.2.1 bt438.2.2.1 bt438.2.2.2 1).bind fun t442 => (if t442 < 0 then (some false) else (if t442 = bt438.1 then ((laws_toThree.f k x368000 x368001 x368002 x368003 x368004).bind fun bt443 => ((impl_EvictMain.f k bt443.1 bt443.2.1 bt443.2.2.1 bt443.2.2.2.1 bt443.2.2.2.2).bind fun bt454 => ((laws_eqThree.f k bt454.1 bt454.2.1 bt454.2.2.1 bt454.2.2.2.1 bt454.2.2.2.2.1 x394000 x394001 x394002 x394003 x394004).bind fun t468 => (if t468 = true then (if bt454.2.2.2.2.2.1.toList = x5.toList then (laws_FnExactEvictMain.j2 k bt438.1 (bt454.2.2.2.2.2.2 != x6) x420000 x420001 bt438.2.1 bt438.2.2.1 bt438.2.2.2) else (laws_FnExactEvictMain.j2 k bt438.1 true x420000 x420001 bt438.2.1 bt438.2.2.1 bt438.2.2.2)) else (laws_FnExactEvictMain.j2 k bt438.1 true x420000 x420001 bt438.2.1 bt438.2.2.1 bt438.2.2.2))))) else (some false)))))
def laws_FnExactEvictMain.j2 : Nat → Int → Bool → Int → Int → List (S68) → List (S68) → List Int → Option (Bool)
 | 0, _, _, _, _, _, _, _ => none
 | k + 1, x12, x108, x420000, x420001, x420002, x420003, x420004 => if x108 = true then (some false) else ((laws_heldThree.f k x420000 x420001 x420002 x420003 x420004 1).bind fun t469 => (if t469 < 0 then (some false) else (if t469 = x12 then (some true) else (some false))))
end
def laws_FnExactEvictMain.f (k : Nat) (a0_0 : Int) (a0_1 : Int) (l0_2 : List (S125)) (l0_3 : List (S125)) (l0_4 : List Int) : Option (Bool) := (laws_szThree.f k a0_0 a0_1 l0_2 l0_3 l0_4 1048576).bind fun t368 => (if t368 < 0 then (some true) else ((laws_toThree.f k a0_0 a0_1 l0_2 l0_3 l0_4).bind fun bt369 => ((spec_EvictMain.f k bt369.1 bt369.2.1 bt369.2.2.1 bt369.2.2.2.1 bt369.2.2.2.2).bind fun bt380 => ((laws_toThree.f k a0_0 a0_1 l0_2 l0_3 l0_4).bind fun bt394 => ((impl_EvictMain.f k bt394.1 bt394.2.1 bt394.2.2.1 bt394.2.2.2.1 bt394.2.2.2.2).bind fun bt406 => ((laws_eqThree.f k bt406.1 bt406.2.1 bt406.2.2.1 bt406.2.2.2.1 bt406.2.2.2.2.1 bt380.1 bt380.2.1 bt380.2.2.1 bt380.2.2.2.1 bt380.2.2.2.2.1).bind fun t420 => (if t420 = true then (if bt406.2.2.2.2.2.1.toList = bt380.2.2.2.2.2.1.toList then (laws_FnExactEvictMain.j0 k bt380.2.2.2.2.2.1 bt380.2.2.2.2.2.2 bt406.2.2.2.2.2.1 bt406.2.2.2.2.2.2 (bt406.2.2.2.2.2.2 != bt380.2.2.2.2.2.2) a0_0 a0_1 l0_2 l0_3 l0_4 bt380.1 bt380.2.1 bt380.2.2.1 bt380.2.2.2.1 bt380.2.2.2.2.1 bt394.1 bt394.2.1 bt394.2.2.1 bt394.2.2.2.1 bt394.2.2.2.2 bt406.1 bt406.2.1 bt406.2.2.1 bt406.2.2.2.1 bt406.2.2.2.2.1) else (laws_FnExactEvictMain.j0 k bt380.2.2.2.2.2.1 bt380.2.2.2.2.2.2 bt406.2.2.2.2.2.1 bt406.2.2.2.2.2.2 true a0_0 a0_1 l0_2 l0_3 l0_4 bt380.1 bt380.2.1 bt380.2.2.1 bt380.2.2.2.1 bt380.2.2.2.2.1 bt394.1 bt394.2.1 bt394.2.2.1 bt394.2.2.2.1 bt394.2.2.2.2 bt406.1 bt406.2.1 bt406.2.2.1 bt406.2.2.2.1 bt406.2.2.2.2.1)) else (laws_FnExactEvictMain.j0 k bt380.2.2.2.2.2.1 bt380.2.2.2.2.2.2 bt406.2.2.2.2.2.1 bt406.2.2.2.2.2.2 true a0_0 a0_1 l0_2 l0_3 l0_4 bt380.1 bt380.2.1 bt380.2.2.1 bt380.2.2.2.1 bt380.2.2.2.2.1 bt394.1 bt394.2.1 bt394.2.2.1 bt394.2.2.2.1 bt394.2.2.2.2 bt406.1 bt406.2.1 bt406.2.2.1 bt406.2.2.2.1 bt406.2.2.2.2.1))))))))
theorem laws_FnExactEvictMain.mono_l : ∀ k, (∀ y0 y1 y2 y3 y4 y5 y6 y7 y8 y9 y10 y11 y12 y13 y14 y15 y16 y17 y18 y19 y20 y21 y22 y23 y24, LeO (laws_FnExactEvictMain.j0 k y0 y1 y2 y3 y4 y5 y6 y7 y8 y9 y10 y11 y12 y13 y14 y15 y16 y17 y18 y19 y20 y21 y22 y23 y24) (laws_FnExactEvictMain.j0 (k + 1) y0 y1 y2 y3 y4 y5 y6 y7 y8 y9 y10 y11 y12 y13 y14 y15 y16 y17 y18 y19 y20 y21 y22 y23 y24)) ∧ (∀ y0 y1 y2 y3 y4 y5 y6 y7 y8 y9 y10 y11 y12 y13 y14 y15 y16 y17, LeO (laws_FnExactEvictMain.j1 k y0 y1 y2 y3 y4 y5 y6 y7 y8 y9 y10 y11 y12 y13 y14 y15 y16 y17) (laws_FnExactEvictMain.j1 (k + 1) y0 y1 y2 y3 y4 y5 y6 y7 y8 y9 y10 y11 y12 y13 y14 y15 y16 y17)) ∧ (∀ y0 y1 y2 y3 y4 y5 y6, LeO (laws_FnExactEvictMain.j2 k y0 y1 y2 y3 y4 y5 y6) (laws_FnExactEvictMain.j2 (k + 1) y0 y1 y2 y3 y4 y5 y6))
 | 0 => ⟨fun _ _ _ _ _ _ _ _ _ _ _ _ _ _ _ _ _ _ _ _ _ _ _ _ _ r h => by simp [laws_FnExactEvictMain.j0] at h, fun _ _ _ _ _ _ _ _ _ _ _ _ _ _ _ _ _ _ r h => by simp [laws_FnExactEvictMain.j1] at h, fun _ _ _ _ _ _ _ r h => by simp [laws_FnExactEvictMain.j2] at h⟩
 | k + 1 => by
  obtain ⟨ih0, ih1, ih2⟩ := laws_FnExactEvictMain.mono_l k
  refine ⟨?_, ?_, ?_⟩
  ·intro y0 y1 y2 y3 y4 y5 y6 y7 y8 y9 y10 y11 y12 y13 y14 y15 y16 y17 y18 y19 y20 y21 y22 y23 y24
   unfold laws_FnExactEvictMain.j0
   repeat' first
   | (with_reducible exact ih0 _ _ _ _ _ _ _ _ _ _ _ _ _ _ _ _ _ _ _ _ _ _ _ _ _)
   | (with_reducible exact ih1 _ _ _ _ _ _ _ _ _ _ _ _ _ _ _ _ _ _)
   | (with_reducible exact ih2 _ _ _ _ _ _ _)
   | (with_reducible exact impl_EvictMain.mono _ _ _ _ _ _)
   | (with_reducible exact laws_eqThree.mono _ _ _ _ _ _ _ _ _ _ _)
   | (with_reducible exact laws_heldThree.mono _ _ _ _ _ _ _)
   | (with_reducible exact laws_markThree.mono _ _ _ _ _ _ _)
   | (with_reducible exact laws_szThree.mono _ _ _ _ _ _ _)
   | (with_reducible exact laws_toThree.mono _ _ _ _ _ _)
   | (with_reducible exact spec_EvictMain.mono _ _ _ _ _ _)
   | (with_reducible exact LeO.refl _)
   | (with_reducible exact LeO.none _)
   | (with_reducible refine LeO.ite ?_ ?_)
   | (with_reducible refine LeO.bind ?_ (fun _ => ?_))
   | exact ih0 _ _ _ _ _ _ _ _ _ _ _ _ _ _ _ _ _ _ _ _ _ _ _ _ _
   | exact ih1 _ _ _ _ _ _ _ _ _ _ _ _ _ _ _ _ _ _
   | exact ih2 _ _ _ _ _ _ _
   | exact impl_EvictMain.mono _ _ _ _ _ _
   | exact laws_eqThree.mono _ _ _ _ _ _ _ _ _ _ _
   | exact laws_heldThree.mono _ _ _ _ _ _ _
   | exact laws_markThree.mono _ _ _ _ _ _ _
   | exact laws_szThree.mono _ _ _ _ _ _ _
   | exact laws_toThree.mono _ _ _ _ _ _
   | exact spec_EvictMain.mono _ _ _ _ _ _
   | exact LeO.none _
   | refine LeO.ite ?_ ?_
   | refine LeO.bind ?_ (fun _ => ?_)
  ·intro y0 y1 y2 y3 y4 y5 y6 y7 y8 y9 y10 y11 y12 y13 y14 y15 y16 y17
   unfold laws_FnExactEvictMain.j1
   repeat' first
   | (with_reducible exact ih0 _ _ _ _ _ _ _ _ _ _ _ _ _ _ _ _ _ _ _ _ _ _ _ _ _)
   | (with_reducible exact ih1 _ _ _ _ _ _ _ _ _ _ _ _ _ _ _ _ _ _)
   | (with_reducible exact ih2 _ _ _ _ _ _ _)
   | (with_reducible exact impl_EvictMain.mono _ _ _ _ _ _)
   | (with_reducible exact laws_eqThree.mono _ _ _ _ _ _ _ _ _ _ _)
   | (with_reducible exact laws_heldThree.mono _ _ _ _ _ _ _)
   | (with_reducible exact laws_markThree.mono _ _ _ _ _ _ _)
   | (with_reducible exact laws_szThree.mono _ _ _ _ _ _ _)
   | (with_reducible exact laws_toThree.mono _ _ _ _ _ _)
   | (with_reducible exact spec_EvictMain.mono _ _ _ _ _ _)
   | (with_reducible exact LeO.refl _)
   | (with_reducible exact LeO.none _)
   | (with_reducible refine LeO.ite ?_ ?_)
   | (with_reducible refine LeO.bind ?_ (fun _ => ?_))
   | exact ih0 _ _ _ _ _ _ _ _ _ _ _ _ _ _ _ _ _ _ _ _ _ _ _ _ _
   | exact ih1 _ _ _ _ _ _ _ _ _ _ _ _ _ _ _ _ _ _
   | exact ih2 _ _ _ _ _ _ _
   | exact impl_EvictMain.mono _ _ _ _ _ _
   | exact laws_eqThree.mono _ _ _ _ _ _ _ _ _ _ _
   | exact laws_heldThree.mono _ _ _ _ _ _ _
   | exact laws_markThree.mono _ _ _ _ _ _ _
   | exact laws_szThree.mono _ _ _ _ _ _ _
   | exact laws_toThree.mono _ _ _ _ _ _
   | exact spec_EvictMain.mono _ _ _ _ _ _
   | exact LeO.none _
   | refine LeO.ite ?_ ?_
   | refine LeO.bind ?_ (fun _ => ?_)
  intro y0 y1 y2 y3 y4 y5 y6
  unfold laws_FnExactEvictMain.j2
  repeat' first
  | (with_reducible exact ih0 _ _ _ _ _ _ _ _ _ _ _ _ _ _ _ _ _ _ _ _ _ _ _ _ _)
  | (with_reducible exact ih1 _ _ _ _ _ _ _ _ _ _ _ _ _ _ _ _ _ _)
  | (with_reducible exact ih2 _ _ _ _ _ _ _)
  | (with_reducible exact impl_EvictMain.mono _ _ _ _ _ _)
  | (with_reducible exact laws_eqThree.mono _ _ _ _ _ _ _ _ _ _ _)
  | (with_reducible exact laws_heldThree.mono _ _ _ _ _ _ _)
  | (with_reducible exact laws_markThree.mono _ _ _ _ _ _ _)
  | (with_reducible exact laws_szThree.mono _ _ _ _ _ _ _)
  | (with_reducible exact laws_toThree.mono _ _ _ _ _ _)
  | (with_reducible exact spec_EvictMain.mono _ _ _ _ _ _)
  | (with_reducible exact LeO.refl _)
  | (with_reducible exact LeO.none _)
  | (with_reducible refine LeO.ite ?_ ?_)
  | (with_reducible refine LeO.bind ?_ (fun _ => ?_))
  | exact ih0 _ _ _ _ _ _ _ _ _ _ _ _ _ _ _ _ _ _ _ _ _ _ _ _ _
  | exact ih1 _ _ _ _ _ _ _ _ _ _ _ _ _ _ _ _ _ _
  | exact ih2 _ _ _ _ _ _ _
  | exact impl_EvictMain.mono _ _ _ _ _ _
  | exact laws_eqThree.mono _ _ _ _ _ _ _ _ _ _ _
  | exact laws_heldThree.mono _ _ _ _ _ _ _
  | exact laws_markThree.mono _ _ _ _ _ _ _
  | exact laws_szThree.mono _ _ _ _ _ _ _
  | exact laws_toThree.mono _ _ _ _ _ _
  | exact spec_EvictMain.mono _ _ _ _ _ _
  | exact LeO.none _
  | refine LeO.ite ?_ ?_
  | refine LeO.bind ?_ (fun _ => ?_)
theorem laws_FnExactEvictMain.mono : ∀ a0 a1 a2 a3 a4 k, LeO (laws_FnExactEvictMain.f k a0 a1 a2 a3 a4) (laws_FnExactEvictMain.f (k + 1) a0 a1 a2 a3 a4) := by
 intro a0 a1 a2 a3 a4 k
 obtain ⟨ih0, ih1, ih2⟩ := laws_FnExactEvictMain.mono_l k
 unfold laws_FnExactEvictMain.f
 repeat' first
   | (with_reducible exact ih0 _ _ _ _ _ _ _ _ _ _ _ _ _ _ _ _ _ _ _ _ _ _ _ _ _)
   | (with_reducible exact ih1 _ _ _ _ _ _ _ _ _ _ _ _ _ _ _ _ _ _)
   | (with_reducible exact ih2 _ _ _ _ _ _ _)
   | (with_reducible exact impl_EvictMain.mono _ _ _ _ _ _)
   | (with_reducible exact laws_eqThree.mono _ _ _ _ _ _ _ _ _ _ _)
   | (with_reducible exact laws_heldThree.mono _ _ _ _ _ _ _)
   | (with_reducible exact laws_markThree.mono _ _ _ _ _ _ _)
   | (with_reducible exact laws_szThree.mono _ _ _ _ _ _ _)
   | (with_reducible exact laws_toThree.mono _ _ _ _ _ _)
   | (with_reducible exact spec_EvictMain.mono _ _ _ _ _ _)
   | (with_reducible exact LeO.refl _)
   | (with_reducible exact LeO.none _)
   | (with_reducible refine LeO.ite ?_ ?_)
   | (with_reducible refine LeO.bind ?_ (fun _ => ?_))
   | exact ih0 _ _ _ _ _ _ _ _ _ _ _ _ _ _ _ _ _ _ _ _ _ _ _ _ _
   | exact ih1 _ _ _ _ _ _ _ _ _ _ _ _ _ _ _ _ _ _
   | exact ih2 _ _ _ _ _ _ _
   | exact impl_EvictMain.mono _ _ _ _ _ _
   | exact laws_eqThree.mono _ _ _ _ _ _ _ _ _ _ _
   | exact laws_heldThree.mono _ _ _ _ _ _ _
   | exact laws_markThree.mono _ _ _ _ _ _ _
   | exact laws_szThree.mono _ _ _ _ _ _ _
   | exact laws_toThree.mono _ _ _ _ _ _
   | exact spec_EvictMain.mono _ _ _ _ _ _
   | exact LeO.none _
   | refine LeO.ite ?_ ?_
   | refine LeO.bind ?_ (fun _ => ?_)
set_option maxHeartbeats 8000000 in
set_option maxRecDepth 100000 in
theorem laws_FnExactEvictMain.calls (k : Nat) (a0_0 : Int) (a0_1 : Int) (A0_2 : Option Addr) (c0_2 : Nat) (l0_2 : List (S125)) (A0_3 : Option Addr) (c0_3 : Nat) (l0_3 : List (S125)) (A0_4 : Option Addr) (c0_4 : Nat) (l0_4 : List Int) (r : Bool) (w : World) (hr0_2 : Kd.C k125 w A0_2 l0_2.length l0_2) (hc0_2 : l0_2.length ≤ c0_2) (hr0_3 : Kd.C k125 w A0_3 l0_3.length l0_3) (hc0_3 : l0_3.length ≤ c0_3) (hr0_4 : Kd.C (Kd.int .i64) w A0_4 l0_4.length l0_4) (hc0_4 : l0_4.length ≤ c0_4) (h : laws_FnExactEvictMain.f k a0_0 a0_1 l0_2 l0_3 l0_4 = some r) (hrt_ : Aside0 (r = true)) :
  Calls Try.prog 7 #[.agg #[.int .i64 a0_0, .int .i64 a0_1, .slice A0_2 l0_2.length c0_2, .slice A0_3 l0_3.length c0_3, .slice A0_4 l0_4.length c0_4]] w fun e w' => e = .returned (.bool r) ∧ Below w.heap.size w w' := by
 have hu25 := Try.underlying25
 have hu30 := Try.underlying30
 have HR0_2 := Aside0.mk hr0_2
 have HC0_2 := Aside0.mk hc0_2
 clear hr0_2 hc0_2
 have HR0_3 := Aside0.mk hr0_3
 have HC0_3 := Aside0.mk hc0_3
 clear hr0_3 hc0_3
 have HR0_4 := Aside0.mk hr0_4
 have HC0_4 := Aside0.mk hc0_4
 clear hr0_4 hc0_4
 have HB := Aside0.mk (Below.refl w.heap.size w)
 have H : ((laws_szThree.f k a0_0 a0_1 l0_2 l0_3 l0_4 1048576).bind fun t368 => (if t368 < 0 then (some true) else ((laws_toThree.f k a0_0 a0_1 l0_2 l0_3 l0_4).bind fun bt369 => ((spec_EvictMain.f k bt369.1 bt369.2.1 bt369.2.2.1 bt369.2.2.2.1 bt369.2.2.2.2).bind fun bt380 => ((laws_toThree.f k a0_0 a0_1 l0_2 l0_3 l0_4).bind fun bt394 => ((impl_EvictMain.f k bt394.1 bt394.2.1 bt394.2.2.1 bt394.2.2.2.1 bt394.2.2.2.2).bind fun bt406 => ((laws_eqThree.f k bt406.1 bt406.2.1 bt406.2.2.1 bt406.2.2.2.1 bt406.2.2.2.2.1 bt380.1 bt380.2.1 bt380.2.2.1 bt380.2.2.2.1 bt380.2.2.2.2.1).bind fun t420 => (if t420 = true then (if bt406.2.2.2.2.2.1.toList = bt380.2.2.2.2.2.1.toList then (laws_FnExactEvictMain.j0 k bt380.2.2.2.2.2.1 bt380.2.2.2.2.2.2 bt406.2.2.2.2.2.1 bt406.2.2.2.2.2.2 (bt406.2.2.2.2.2.2 != bt380.2.2.2.2.2.2) a0_0 a0_1 l0_2 l0_3 l0_4 bt380.1 bt380.2.1 bt380.2.2.1 bt380.2.2.2.1 bt380.2.2.2.2.1 bt394.1 bt394.2.1 bt394.2.2.1 bt394.2.2.2.1 bt394.2.2.2.2 bt406.1 bt406.2.1 bt406.2.2.1 bt406.2.2.2.1 bt406.2.2.2.2.1) else (laws_FnExactEvictMain.j0 k bt380.2.2.2.2.2.1 bt380.2.2.2.2.2.2 bt406.2.2.2.2.2.1 bt406.2.2.2.2.2.2 true a0_0 a0_1 l0_2 l0_3 l0_4 bt380.1 bt380.2.1 bt380.2.2.1 bt380.2.2.2.1 bt380.2.2.2.2.1 bt394.1 bt394.2.1 bt394.2.2.1 bt394.2.2.2.1 bt394.2.2.2.2 bt406.1 bt406.2.1 bt406.2.2.1 bt406.2.2.2.1 bt406.2.2.2.2.1)) else (laws_FnExactEvictMain.j0 k bt380.2.2.2.2.2.1 bt380.2.2.2.2.2.2 bt406.2.2.2.2.2.1 bt406.2.2.2.2.2.2 true a0_0 a0_1 l0_2 l0_3 l0_4 bt380.1 bt380.2.1 bt380.2.2.1 bt380.2.2.2.1 bt380.2.2.2.2.1 bt394.1 bt394.2.1 bt394.2.2.1 bt394.2.2.2.1 bt394.2.2.2.2 bt406.1 bt406.2.1 bt406.2.2.1 bt406.2.2.2.1 bt406.2.2.2.2.1))))))))) = some r := h
 clear h
 replace H := Option.bind_eq_some_iff.mp H
 obtain ⟨t368, A20, H⟩ := H
 try dsimp only at H
 have A2 := Aside0.mk A20
 clear A20
 by_cases c3 : t368 < 0
 ·rw [if_pos c3] at H
  have c3b0 : decide (t368 < 0) = true := decide_eq_true c3
  clear c3
  obtain rfl := Option.some.inj H
  go_enter Try.func7, Try.ntmps7
  go_wp2_with (first | ((with_reducible refine gate_dst (N := 1) rfl ?_); refine bx 1 #[.int .i64 a0_0, .int .i64 a0_1, .slice A0_2 l0_2.length c0_2, .slice A0_3 l0_3.length c0_3, .slice A0_4 l0_4.length c0_4] 25 ?_; intro gb367 hg w4 hbox hb; have BK367 := am hbox; have GW367 := gs0 hg HB; have GE367 := gs0 hg HB; replace HB := s0 HB hb; clear hb hbox hg; have hcz5_0 := bz5 BK367) | ((with_reducible refine gate_callee (f := 16) rfl ?_); refine gl 19 Try.func16 #[.agg #[.int .i64 a0_0, .int .i64 a0_1, .slice A0_2 l0_2.length c0_2, .slice A0_3 l0_3.length c0_3, .slice A0_4 l0_4.length c0_4], .int .i64 1048576] ?_; (with_reducible refine (laws_szThree.calls k a0_0 a0_1 _ _ l0_2 _ _ l0_3 _ _ l0_4 1048576 t368 _ (cb HR0_2 HB) HC0_2.out (cb HR0_3 HB) HC0_3.out (cb HR0_4 HB) HC0_4.out A2.out).mono ?_); rintro e w6 ⟨rfl, hb⟩; refine ⟨_, rfl, ?_⟩; replace BK367 := bb BK367 hb; replace HB := Aside0.mk (below_step (be1 HB GE367) hb); (try clear hb)))
  go_ret
  exact ⟨er, be1 HB GE367⟩
 rw [if_neg c3] at H
 have c3b0 : decide (t368 < 0) = false := decide_eq_false c3
 clear c3
 replace H := Option.bind_eq_some_iff.mp H
 obtain ⟨⟨t369, t370, t371, t374, t377⟩, A70, H⟩ := H
 try dsimp only at H
 have A7 := Aside0.mk A70
 clear A70
 replace H := Option.bind_eq_some_iff.mp H
 obtain ⟨⟨t380, t381, t382, t385, t388, t391, t392⟩, A80, H⟩ := H
 try dsimp only at H
 have A8 := Aside0.mk A80
 clear A80
 replace H := Option.bind_eq_some_iff.mp H
 obtain ⟨⟨t394, t395, t396, t399, t402⟩, A90, H⟩ := H
 try dsimp only at H
 have A9 := Aside0.mk A90
 clear A90
 replace H := Option.bind_eq_some_iff.mp H
 obtain ⟨⟨t406, t407, t408, t411, t414, t417, t418⟩, A100, H⟩ := H
 try dsimp only at H
 have A10 := Aside0.mk A100
 clear A100
 have HC11 := Aside0.mk H
 clear H
 go_enter Try.func7, Try.ntmps7
 go_upto_region 8 with (first | ((with_reducible refine gate_dst (N := 1) rfl ?_); refine bx 1 #[.int .i64 a0_0, .int .i64 a0_1, .slice A0_2 l0_2.length c0_2, .slice A0_3 l0_3.length c0_3, .slice A0_4 l0_4.length c0_4] 25 ?_; intro gb367 hg w12 hbox hb; have BK367 := am hbox; have GW367 := gs0 hg HB; have GE367 := gs0 hg HB; replace HB := s0 HB hb; clear hb hbox hg; have hcz13_0 := bz5 BK367) | ((with_reducible refine gate_callee (f := 16) rfl ?_); refine gl 19 Try.func16 #[.agg #[.int .i64 a0_0, .int .i64 a0_1, .slice A0_2 l0_2.length c0_2, .slice A0_3 l0_3.length c0_3, .slice A0_4 l0_4.length c0_4], .int .i64 1048576] ?_; (with_reducible refine (laws_szThree.calls k a0_0 a0_1 _ _ l0_2 _ _ l0_3 _ _ l0_4 1048576 t368 _ (cb HR0_2 HB) HC0_2.out (cb HR0_3 HB) HC0_3.out (cb HR0_4 HB) HC0_4.out A2.out).mono ?_); rintro e w14 ⟨rfl, hb⟩; refine ⟨_, rfl, ?_⟩; replace BK367 := bb BK367 hb; replace HB := Aside0.mk (below_step (be1 HB GE367) hb); (try clear hb); have hcz15_0 := bz5 BK367) | ((with_reducible refine gate_callee (f := 18) rfl ?_); refine gl 24 Try.func18 #[.agg #[.int .i64 a0_0, .int .i64 a0_1, .slice A0_2 l0_2.length c0_2, .slice A0_3 l0_3.length c0_3, .slice A0_4 l0_4.length c0_4]] ?_; (with_reducible refine (laws_toThree.calls k a0_0 a0_1 _ _ l0_2 _ _ l0_3 _ _ l0_4 t369 t370 t371 t374 t377 _ (cb HR0_2 HB) HC0_2.out (cb HR0_3 HB) HC0_3.out (cb HR0_4 HB) HC0_4.out A7.out).mono ?_); rintro e w16 ⟨v372, v375, v378, rfl, ho0, ho1, ho2, hb⟩; refine ⟨_, rfl, ?_⟩; have HO373 := Aside0.mk (Kd.R_lower ho0 (below_size (be1 HB GE367))); have HO376 := Aside0.mk (Kd.R_lower ho1 (below_size (be1 HB GE367))); have HO379 := Aside0.mk (Kd.R_lower ho2 (below_size (be1 HB GE367))); replace BK367 := bb BK367 hb; replace HB := Aside0.mk (below_step (be1 HB GE367) hb); (try clear hb); (try clear ho0); (try clear ho1); (try clear ho2); obtain ⟨Ao17, co17, eo17⟩ := Kd.R_slice HO373.out; subst eo17; obtain ⟨Ao18, co18, eo18⟩ := Kd.R_slice HO376.out; subst eo18; obtain ⟨Ao19, co19, eo19⟩ := Kd.R_slice HO379.out; subst eo19) | ((with_reducible refine gate_callee (f := 31) rfl ?_); refine gl 25 Try.func31 #[.agg #[.int .i64 t369, .int .i64 t370, .slice Ao17 t371.length co17, .slice Ao18 t374.length co18, .slice Ao19 t377.length co19]] ?_; (with_reducible refine (spec_EvictMain.calls k t369 t370 _ _ t371 _ _ t374 _ _ t377 t380 t381 t382 t385 t388 t391 t392 _ (cr HO373) ((Kd.R_reads' HO373.out).2.1) (cr HO376) ((Kd.R_reads' HO376.out).2.1) (cr HO379) ((Kd.R_reads' HO379.out).2.1) A8.out).mono ?_); rintro e w20 ⟨v383, v386, v389, rfl, ho0, ho1, ho2, hb⟩; refine ⟨_, rfl, ?_⟩; have HO384 := Aside0.mk (Kd.R_lower (nw (nw ho0 HO373) HO376) (below_size (be1 HB GE367))); have HO387 := Aside0.mk (Kd.R_lower (nw (nw ho1 HO373) HO376) (below_size (be1 HB GE367))); replace HO373 := td2 (ro HO373) hb ho0 ho1; replace HO376 := td2 (ro HO376) hb ho0 ho1; have HO390 := Aside0.mk (Kd.R_lower (nw ho2 HO379) (below_size (be1 HB GE367))); replace HO379 := Aside0.mk (Kd.R_elder' (ro HO379) (Kd.R_base ho2) hb); replace BK367 := bb BK367 hb; replace HB := Aside0.mk (below_step (be1 HB GE367) hb); (try clear hb); (try clear ho0); (try clear ho1); (try clear ho2)) | ((with_reducible refine gate_dst (N := 4) rfl ?_); refine bx 4 #[.int .i64 0, .int .i64 0, .slice none 0 0, .slice none 0 0, .slice none 0 0] 30 ?_; intro gb393 hg w21 hbox hb; replace HO373 := rb HO373 hb; replace HO376 := rb HO376 hb; replace HO379 := rb HO379 hb; replace HO384 := rb HO384 hb; replace HO387 := rb HO387 hb; replace HO390 := rb HO390 hb; have BK393 := am hbox; have GW393 := gs1 hg HB GE367; have GE393 := gs1 hg HB GE367; replace HB := Aside0.mk (below_step (be1 HB GE367) hb); have NB367_393 := Aside0.mk ((by rw [hg]; exact Nat.ne_of_lt (bl BK367) : gb367 ≠ gb393)); have NB393_367 := Aside0.mk ((by rw [hg]; exact Nat.ne_of_gt (bl BK367) : gb393 ≠ gb367)); replace BK367 := bb BK367 hb; clear hb hbox hg; have hnb22 := NB393_367.out; have hnc22 := NB367_393.out; have hcz23_0 := bz5 BK393; obtain ⟨Ao24, co24, eo24⟩ := Kd.R_slice HO384.out; subst eo24; obtain ⟨Ao25, co25, eo25⟩ := Kd.R_slice HO387.out; subst eo25; obtain ⟨Ao26, co26, eo26⟩ := Kd.R_slice HO390.out; subst eo26; have hcz27_0 := bz5 BK367) | ((with_reducible refine gate_callee (f := 18) rfl ?_); refine gl 30 Try.func18 #[.agg #[.int .i64 a0_0, .int .i64 a0_1, .slice A0_2 l0_2.length c0_2, .slice A0_3 l0_3.length c0_3, .slice A0_4 l0_4.length c0_4]] ?_; (with_reducible refine (laws_toThree.calls k a0_0 a0_1 _ _ l0_2 _ _ l0_3 _ _ l0_4 t394 t395 t396 t399 t402 _ ?side1 HC0_2.out ?side3 HC0_3.out ?side5 HC0_4.out A9.out).mono ?_); (case side1 => exact Kd.C_below HR0_2.out (be2 HB GE367 GE393)); (case side3 => exact Kd.C_below HR0_3.out (be2 HB GE367 GE393)); (case side5 => exact Kd.C_below HR0_4.out (be2 HB GE367 GE393)); rintro e w28 ⟨v397, v400, v403, rfl, ho0, ho1, ho2, hb⟩; refine ⟨_, rfl, ?_⟩; have HO398 := Aside0.mk (Kd.R_lower (Kd.R_new' (Kd.R_new' (Kd.R_new' (Kd.R_new' ho0 (Kd.R_lt (rf HO373 BK393))) (Kd.R_lt (rf HO376 BK393))) (Kd.R_lt (rf HO384 BK393))) (Kd.R_lt (rf HO387 BK393))) (below_size (be2 HB GE367 GE393))); have HO401 := Aside0.mk (Kd.R_lower (Kd.R_new' (Kd.R_new' (Kd.R_new' (Kd.R_new' ho1 (Kd.R_lt (rf HO373 BK393))) (Kd.R_lt (rf HO376 BK393))) (Kd.R_lt (rf HO384 BK393))) (Kd.R_lt (rf HO387 BK393))) (below_size (be2 HB GE367 GE393))); replace HO373 := td2 (rf HO373 BK393) hb ho0 ho1; replace HO376 := td2 (rf HO376 BK393) hb ho0 ho1; replace HO384 := td2 (rf HO384 BK393) hb ho0 ho1; replace HO387 := td2 (rf HO387 BK393) hb ho0 ho1; have HO404 := Aside0.mk (Kd.R_lower (Kd.R_new' (Kd.R_new' ho2 (Kd.R_lt (rf HO379 BK393))) (Kd.R_lt (rf HO390 BK393))) (below_size (be2 HB GE367 GE393))); replace HO379 := Aside0.mk (Kd.R_elder' (rf HO379 BK393) (Kd.R_base ho2) hb); replace HO390 := Aside0.mk (Kd.R_elder' (rf HO390 BK393) (Kd.R_base ho2) hb); replace BK367 := Aside0.mk (blk_below (g := gb367) (o := .cells #[.int .i64 a0_0, .int .i64 a0_1, .slice A0_2 l0_2.length c0_2, .slice A0_3 l0_3.length c0_3, .slice A0_4 l0_4.length c0_4] 25 (0, 0)) (bf1 BK367 NB367_393) hb); replace BK393 := Aside0.mk (blk_below (g := gb393) (o := .cells #[.int .i64 t380, .int .i64 t381, .slice Ao24 t382.length co24, .slice Ao25 t385.length co25, .slice Ao26 t388.length co26] 30 (0, 0)) (by (with_reducible repeat (first | refine blk_drewN ?_ _ | refine blk_drew ?_ | refine blk_alloc ?_ _)); refine blk_put (cs := #[.int .i64 t380, .int .i64 t381, .slice Ao24 t382.length co24, .slice Ao25 t385.length co25, .slice none 0 0]) ?_ 4 _ rfl; (with_reducible repeat (first | refine blk_drewN ?_ _ | refine blk_drew ?_ | refine blk_alloc ?_ _)); refine blk_put (cs := #[.int .i64 t380, .int .i64 t381, .slice Ao24 t382.length co24, .slice none 0 0, .slice none 0 0]) ?_ 3 _ rfl; (with_reducible repeat (first | refine blk_drewN ?_ _ | refine blk_drew ?_ | refine blk_alloc ?_ _)); refine blk_put (cs := #[.int .i64 t380, .int .i64 t381, .slice none 0 0, .slice none 0 0, .slice none 0 0]) ?_ 2 _ rfl; (with_reducible repeat (first | refine blk_drewN ?_ _ | refine blk_drew ?_ | refine blk_alloc ?_ _)); refine blk_put (cs := #[.int .i64 t380, .int .i64 0, .slice none 0 0, .slice none 0 0, .slice none 0 0]) ?_ 1 _ rfl; (with_reducible repeat (first | refine blk_drewN ?_ _ | refine blk_drew ?_ | refine blk_alloc ?_ _)); refine blk_put (cs := #[.int .i64 0, .int .i64 0, .slice none 0 0, .slice none 0 0, .slice none 0 0]) ?_ 0 _ rfl; (with_reducible repeat (first | refine blk_drewN ?_ _ | refine blk_drew ?_ | refine blk_alloc ?_ _)); exact BK393.out) hb); replace HB := Aside0.mk (below_step (be2 HB GE367 GE393) hb); (try clear hb); (try clear ho0); (try clear ho1); (try clear ho2)) | ((with_reducible refine gate_dst (N := 7) rfl ?_); refine bx 7 #[.int .i64 0, .int .i64 0, .slice none 0 0, .slice none 0 0, .slice none 0 0] 30 ?_; intro gb405 hg w29 hbox hb; replace HO373 := rb HO373 hb; replace HO376 := rb HO376 hb; replace HO379 := rb HO379 hb; replace HO384 := rb HO384 hb; replace HO387 := rb HO387 hb; replace HO390 := rb HO390 hb; replace HO398 := rb HO398 hb; replace HO401 := rb HO401 hb; replace HO404 := rb HO404 hb; have BK405 := am hbox; have GW405 := gs2 hg HB GE367 GE393; have GE405 := gs2 hg HB GE367 GE393; replace HB := Aside0.mk (below_step (be2 HB GE367 GE393) hb); have NB367_405 := Aside0.mk ((by rw [hg]; exact Nat.ne_of_lt (bl BK367) : gb367 ≠ gb405)); have NB405_367 := Aside0.mk ((by rw [hg]; exact Nat.ne_of_gt (bl BK367) : gb405 ≠ gb367)); replace BK367 := bb BK367 hb; have NB393_405 := Aside0.mk ((by rw [hg]; exact Nat.ne_of_lt (bl BK393) : gb393 ≠ gb405)); have NB405_393 := Aside0.mk ((by rw [hg]; exact Nat.ne_of_gt (bl BK393) : gb405 ≠ gb393)); replace BK393 := bb BK393 hb; clear hb hbox hg; have hnb30 := NB405_367.out; have hnc30 := NB367_405.out; have hnb31 := NB405_393.out; have hnc31 := NB393_405.out; have hcz32_0 := bz5 BK405; obtain ⟨Ao33, co33, eo33⟩ := Kd.R_slice HO398.out; subst eo33; obtain ⟨Ao34, co34, eo34⟩ := Kd.R_slice HO401.out; subst eo34; obtain ⟨Ao35, co35, eo35⟩ := Kd.R_slice HO404.out; subst eo35) | ((with_reducible refine gate_callee (f := 32) rfl ?_); refine gl 33 Try.func32 #[.agg #[.int .i64 t394, .int .i64 t395, .slice Ao33 t396.length co33, .slice Ao34 t399.length co34, .slice Ao35 t402.length co35]] ?_; (with_reducible refine (impl_EvictMain.calls k t394 t395 _ _ t396 _ _ t399 _ _ t402 t406 t407 t408 t411 t414 t417 t418 _ ?side1 ((Kd.R_reads' HO398.out).2.1) ?side3 ((Kd.R_reads' HO401.out).2.1) ?side5 ((Kd.R_reads' HO404.out).2.1) A10.out).mono ?_); (case side1 => exact rfr _ HO398 BK405); (case side3 => exact rfr _ HO401 BK405); (case side5 => exact rfr _ HO404 BK405); rintro e w36 ⟨v409, v412, v415, rfl, ho0, ho1, ho2, hb⟩; refine ⟨_, rfl, ?_⟩; have HO410 := Aside0.mk (Kd.R_lower (Kd.R_new' (Kd.R_new' (Kd.R_new' (Kd.R_new' (Kd.R_new' (Kd.R_new' ho0 (Kd.R_lt (rf HO373 BK405))) (Kd.R_lt (rf HO376 BK405))) (Kd.R_lt (rf HO384 BK405))) (Kd.R_lt (rf HO387 BK405))) (Kd.R_lt (rf HO398 BK405))) (Kd.R_lt (rf HO401 BK405))) (below_size (be3 HB GE367 GE393 GE405))); have HO413 := Aside0.mk (Kd.R_lower (Kd.R_new' (Kd.R_new' (Kd.R_new' (Kd.R_new' (Kd.R_new' (Kd.R_new' ho1 (Kd.R_lt (rf HO373 BK405))) (Kd.R_lt (rf HO376 BK405))) (Kd.R_lt (rf HO384 BK405))) (Kd.R_lt (rf HO387 BK405))) (Kd.R_lt (rf HO398 BK405))) (Kd.R_lt (rf HO401 BK405))) (below_size (be3 HB GE367 GE393 GE405))); replace HO373 := td2 (rf HO373 BK405) hb ho0 ho1; replace HO376 := td2 (rf HO376 BK405) hb ho0 ho1; replace HO384 := td2 (rf HO384 BK405) hb ho0 ho1; replace HO387 := td2 (rf HO387 BK405) hb ho0 ho1; replace HO398 := td2 (rf HO398 BK405) hb ho0 ho1; replace HO401 := td2 (rf HO401 BK405) hb ho0 ho1; have HO416 := Aside0.mk (Kd.R_lower (Kd.R_new' (Kd.R_new' (Kd.R_new' ho2 (Kd.R_lt (rf HO379 BK405))) (Kd.R_lt (rf HO390 BK405))) (Kd.R_lt (rf HO404 BK405))) (below_size (be3 HB GE367 GE393 GE405))); replace HO379 := Aside0.mk (Kd.R_elder' (rf HO379 BK405) (Kd.R_base ho2) hb); replace HO390 := Aside0.mk (Kd.R_elder' (rf HO390 BK405) (Kd.R_base ho2) hb); replace HO404 := Aside0.mk (Kd.R_elder' (rf HO404 BK405) (Kd.R_base ho2) hb); replace BK367 := Aside0.mk (blk_below (g := gb367) (o := .cells #[.int .i64 a0_0, .int .i64 a0_1, .slice A0_2 l0_2.length c0_2, .slice A0_3 l0_3.length c0_3, .slice A0_4 l0_4.length c0_4] 25 (0, 0)) (bf1 BK367 NB367_405) hb); replace BK393 := Aside0.mk (blk_below (g := gb393) (o := .cells #[.int .i64 t380, .int .i64 t381, .slice Ao24 t382.length co24, .slice Ao25 t385.length co25, .slice Ao26 t388.length co26] 30 (0, 0)) (bf1 BK393 NB393_405) hb); replace BK405 := Aside0.mk (blk_below (g := gb405) (o := .cells #[.int .i64 t394, .int .i64 t395, .slice Ao33 t396.length co33, .slice Ao34 t399.length co34, .slice Ao35 t402.length co35] 30 (0, 0)) (by (with_reducible repeat (first | refine blk_drewN ?_ _ | refine blk_drew ?_ | refine blk_alloc ?_ _)); refine blk_put (cs := #[.int .i64 t394, .int .i64 t395, .slice Ao33 t396.length co33, .slice Ao34 t399.length co34, .slice none 0 0]) ?_ 4 _ rfl; (with_reducible repeat (first | refine blk_drewN ?_ _ | refine blk_drew ?_ | refine blk_alloc ?_ _)); refine blk_put (cs := #[.int .i64 t394, .int .i64 t395, .slice Ao33 t396.length co33, .slice none 0 0, .slice none 0 0]) ?_ 3 _ rfl; (with_reducible repeat (first | refine blk_drewN ?_ _ | refine blk_drew ?_ | refine blk_alloc ?_ _)); refine blk_put (cs := #[.int .i64 t394, .int .i64 t395, .slice none 0 0, .slice none 0 0, .slice none 0 0]) ?_ 2 _ rfl; (with_reducible repeat (first | refine blk_drewN ?_ _ | refine blk_drew ?_ | refine blk_alloc ?_ _)); refine blk_put (cs := #[.int .i64 t394, .int .i64 0, .slice none 0 0, .slice none 0 0, .slice none 0 0]) ?_ 1 _ rfl; (with_reducible repeat (first | refine blk_drewN ?_ _ | refine blk_drew ?_ | refine blk_alloc ?_ _)); refine blk_put (cs := #[.int .i64 0, .int .i64 0, .slice none 0 0, .slice none 0 0, .slice none 0 0]) ?_ 0 _ rfl; (with_reducible repeat (first | refine blk_drewN ?_ _ | refine blk_drew ?_ | refine blk_alloc ?_ _)); exact BK405.out) hb); replace HB := Aside0.mk (below_step (be3 HB GE367 GE393 GE405) hb); (try clear hb); (try clear ho0); (try clear ho1); (try clear ho2)) | ((with_reducible refine gate_dst (N := 8) rfl ?_); refine bx 8 #[.int .i64 0, .int .i64 0, .slice none 0 0, .slice none 0 0, .slice none 0 0] 30 ?_; intro gb419 hg w37 hbox hb; replace HO373 := rb HO373 hb; replace HO376 := rb HO376 hb; replace HO379 := rb HO379 hb; replace HO384 := rb HO384 hb; replace HO387 := rb HO387 hb; replace HO390 := rb HO390 hb; replace HO398 := rb HO398 hb; replace HO401 := rb HO401 hb; replace HO404 := rb HO404 hb; replace HO410 := rb HO410 hb; replace HO413 := rb HO413 hb; replace HO416 := rb HO416 hb; have BK419 := am hbox; have GW419 := Aside0.mk ((by rw [hg]; exact (below_size (be3 HB GE367 GE393 GE405)) : w.heap.size ≤ gb419)); have GE419 := Aside0.mk ((by rw [hg]; exact (below_size (be3 HB GE367 GE393 GE405)) : w.heap.size ≤ gb419)); replace HB := Aside0.mk (below_step (be3 HB GE367 GE393 GE405) hb); have NB367_419 := Aside0.mk ((by rw [hg]; exact Nat.ne_of_lt (bl BK367) : gb367 ≠ gb419)); have NB419_367 := Aside0.mk ((by rw [hg]; exact Nat.ne_of_gt (bl BK367) : gb419 ≠ gb367)); replace BK367 := bb BK367 hb; have NB393_419 := Aside0.mk ((by rw [hg]; exact Nat.ne_of_lt (bl BK393) : gb393 ≠ gb419)); have NB419_393 := Aside0.mk ((by rw [hg]; exact Nat.ne_of_gt (bl BK393) : gb419 ≠ gb393)); replace BK393 := bb BK393 hb; have NB405_419 := Aside0.mk ((by rw [hg]; exact Nat.ne_of_lt (bl BK405) : gb405 ≠ gb419)); have NB419_405 := Aside0.mk ((by rw [hg]; exact Nat.ne_of_gt (bl BK405) : gb419 ≠ gb405)); replace BK405 := bb BK405 hb; clear hb hbox hg; have hnb38 := NB419_367.out; have hnc38 := NB367_419.out; have hnb39 := NB419_393.out; have hnc39 := NB393_419.out; have hnb40 := NB419_405.out; have hnc40 := NB405_419.out; have hcz41_0 := bz5 BK419; obtain ⟨Ao42, co42, eo42⟩ := Kd.R_slice HO410.out; subst eo42; obtain ⟨Ao43, co43, eo43⟩ := Kd.R_slice HO413.out; subst eo43; obtain ⟨Ao44, co44, eo44⟩ := Kd.R_slice HO416.out; subst eo44))
 (try simp only [Act.put, List.setIfInBounds_toArray, List.set_cons_zero, List.set_cons_succ])
 go_cut [50] (fun v50 wc => ∃ (kq : Nat) (x50_10 : Bool), v50 = .bool x50_10 ∧ Aside0 (laws_FnExactEvictMain.j0 kq t391 t392 t417 t418 x50_10 a0_0 a0_1 l0_2 l0_3 l0_4 t380 t381 t382 t385 t388 t394 t395 t396 t399 t402 t406 t407 t408 t411 t414 = some r) ∧ Aside0 (kq ≤ k) ∧ Aside0 (Kd.R k68 68 wc w.heap.size (fun k_ => nb k_ Ao25 t385.length co25 ∧ nb k_ Ao33 t396.length co33 ∧ nb k_ Ao34 t399.length co34 ∧ nb k_ Ao42 t408.length co42 ∧ nb k_ Ao43 t411.length co43) (.slice Ao24 t382.length co24) t382) ∧ Aside0 (Kd.R k68 68 wc w.heap.size (fun k_ => nb k_ Ao24 t382.length co24 ∧ nb k_ Ao33 t396.length co33 ∧ nb k_ Ao34 t399.length co34 ∧ nb k_ Ao42 t408.length co42 ∧ nb k_ Ao43 t411.length co43) (.slice Ao25 t385.length co25) t385) ∧ Aside0 (Kd.R (Kd.int .i64) 3 wc w.heap.size (fun k_ => nb k_ Ao35 t402.length co35 ∧ nb k_ Ao44 t414.length co44) (.slice Ao26 t388.length co26) t388) ∧ Aside0 (Kd.R k68 68 wc w.heap.size (fun k_ => nb k_ Ao24 t382.length co24 ∧ nb k_ Ao25 t385.length co25 ∧ nb k_ Ao34 t399.length co34 ∧ nb k_ Ao42 t408.length co42 ∧ nb k_ Ao43 t411.length co43) (.slice Ao33 t396.length co33) t396) ∧ Aside0 (Kd.R k68 68 wc w.heap.size (fun k_ => nb k_ Ao24 t382.length co24 ∧ nb k_ Ao25 t385.length co25 ∧ nb k_ Ao33 t396.length co33 ∧ nb k_ Ao42 t408.length co42 ∧ nb k_ Ao43 t411.length co43) (.slice Ao34 t399.length co34) t399) ∧ Aside0 (Kd.R (Kd.int .i64) 3 wc w.heap.size (fun k_ => nb k_ Ao26 t388.length co26 ∧ nb k_ Ao44 t414.length co44) (.slice Ao35 t402.length co35) t402) ∧ Aside0 (Kd.R k68 68 wc w.heap.size (fun k_ => nb k_ Ao24 t382.length co24 ∧ nb k_ Ao25 t385.length co25 ∧ nb k_ Ao33 t396.length co33 ∧ nb k_ Ao34 t399.length co34 ∧ nb k_ Ao43 t411.length co43) (.slice Ao42 t408.length co42) t408) ∧ Aside0 (Kd.R k68 68 wc w.heap.size (fun k_ => nb k_ Ao24 t382.length co24 ∧ nb k_ Ao25 t385.length co25 ∧ nb k_ Ao33 t396.length co33 ∧ nb k_ Ao34 t399.length co34 ∧ nb k_ Ao42 t408.length co42) (.slice Ao43 t411.length co43) t411) ∧ Aside0 (Kd.R (Kd.int .i64) 3 wc w.heap.size (fun k_ => nb k_ Ao26 t388.length co26 ∧ nb k_ Ao35 t402.length co35) (.slice Ao44 t414.length co44) t414) ∧ Aside0 (wc.heap[gb367]? = some (.cells #[.int .i64 a0_0, .int .i64 a0_1, (.slice A0_2 l0_2.length c0_2), (.slice A0_3 l0_3.length c0_3), (.slice A0_4 l0_4.length c0_4)] 25 (0, 0))) ∧ Aside0 (wc.heap[gb393]? = some (.cells #[.int .i64 t380, .int .i64 t381, (.slice Ao24 t382.length co24), (.slice Ao25 t385.length co25), (.slice Ao26 t388.length co26)] 30 (0, 0))) ∧ Aside0 (wc.heap[gb405]? = some (.cells #[.int .i64 t394, .int .i64 t395, (.slice Ao33 t396.length co33), (.slice Ao34 t399.length co34), (.slice Ao35 t402.length co35)] 30 (0, 0))) ∧ Aside0 (wc.heap[gb419]? = some (.cells #[.int .i64 t406, .int .i64 t407, (.slice Ao42 t408.length co42), (.slice Ao43 t411.length co43), (.slice Ao44 t414.length co44)] 30 (0, 0))) ∧ Aside0 (Below w.heap.size w wc))
 case first =>
  have H := HC11.out
  clear HC11
  replace H := Option.bind_eq_some_iff.mp H
  obtain ⟨t420, A450, H⟩ := H
  try dsimp only at H
  have A45 := Aside0.mk A450
  clear A450
  by_cases c46 : t420 = true
  ·subst c46
   rw [if_pos rfl] at H
   by_cases c47 : t417.toList = t391.toList
   ·rw [if_pos c47] at H
    have c47b0 : (t417.toList == t391.toList) = true := beq_iff_eq.mpr c47
    have c47b1 : (t417.toList != t391.toList) = false := bne_eq_false_iff_eq.mpr c47
    clear c47
    (first | rw [c47b0] | (simp only [i64_w, i32_w]; rw [c47b0]) | skip)
    have H' := Aside0.mk H
    clear H
    have hnb48 := NB419_367.out
    have hnc48 := NB367_419.out
    have hnb49 := NB419_393.out
    have hnc49 := NB393_419.out
    have hnb50 := NB419_405.out
    have hnc50 := NB405_419.out
    have hcz51_0 := bz5 BK419
    have hnb52 := NB393_367.out
    have hnc52 := NB367_393.out
    have hnb53 := NB393_405.out
    have hnc53 := NB405_393.out
    have hcz54_0 := bz5 BK393
    go_wp2_with (first | ((with_reducible refine gate_callee (f := 20) rfl ?_); refine gl 39 Try.func20 #[.agg #[.int .i64 t406, .int .i64 t407, .slice Ao42 t408.length co42, .slice Ao43 t411.length co43, .slice Ao44 t414.length co44], .agg #[.int .i64 t380, .int .i64 t381, .slice Ao24 t382.length co24, .slice Ao25 t385.length co25, .slice Ao26 t388.length co26]] ?_; (with_reducible refine (laws_eqThree.calls k t406 t407 _ _ t408 _ _ t411 _ _ t414 t380 t381 _ _ t382 _ _ t385 _ _ t388 true _ ?side1 ((Kd.R_reads' HO410.out).2.1) ?side3 ((Kd.R_reads' HO413.out).2.1) ?side5 ((Kd.R_reads' HO416.out).2.1) ?side7 ((Kd.R_reads' HO384.out).2.1) ?side9 ((Kd.R_reads' HO387.out).2.1) ?side11 ((Kd.R_reads' HO390.out).2.1) A45.out).mono ?_); (case side1 => exact rfr _ HO410 BK419); (case side3 => exact rfr _ HO413 BK419); (case side5 => exact rfr _ HO416 BK419); (case side7 => exact rfr _ HO384 BK419); (case side9 => exact rfr _ HO387 BK419); (case side11 => exact rfr _ HO390 BK419); rintro e w55 ⟨rfl, hb⟩; refine ⟨_, rfl, ?_⟩; replace HO373 := Aside0.mk (Kd.R_below (rf HO373 BK419) hb); replace HO376 := Aside0.mk (Kd.R_below (rf HO376 BK419) hb); replace HO379 := Aside0.mk (Kd.R_below (rf HO379 BK419) hb); replace HO384 := Aside0.mk (Kd.R_below (rf HO384 BK419) hb); replace HO387 := Aside0.mk (Kd.R_below (rf HO387 BK419) hb); replace HO390 := Aside0.mk (Kd.R_below (rf HO390 BK419) hb); replace HO398 := Aside0.mk (Kd.R_below (rf HO398 BK419) hb); replace HO401 := Aside0.mk (Kd.R_below (rf HO401 BK419) hb); replace HO404 := Aside0.mk (Kd.R_below (rf HO404 BK419) hb); replace HO410 := Aside0.mk (Kd.R_below (rf HO410 BK419) hb); replace HO413 := Aside0.mk (Kd.R_below (rf HO413 BK419) hb); replace HO416 := Aside0.mk (Kd.R_below (rf HO416 BK419) hb); replace BK367 := Aside0.mk (blk_below (g := gb367) (o := .cells #[.int .i64 a0_0, .int .i64 a0_1, .slice A0_2 l0_2.length c0_2, .slice A0_3 l0_3.length c0_3, .slice A0_4 l0_4.length c0_4] 25 (0, 0)) (bf1 BK367 NB367_419) hb); replace BK393 := Aside0.mk (blk_below (g := gb393) (o := .cells #[.int .i64 t380, .int .i64 t381, .slice Ao24 t382.length co24, .slice Ao25 t385.length co25, .slice Ao26 t388.length co26] 30 (0, 0)) (bf1 BK393 NB393_419) hb); replace BK405 := Aside0.mk (blk_below (g := gb405) (o := .cells #[.int .i64 t394, .int .i64 t395, .slice Ao33 t396.length co33, .slice Ao34 t399.length co34, .slice Ao35 t402.length co35] 30 (0, 0)) (bf1 BK405 NB405_419) hb); replace BK419 := Aside0.mk (blk_below (g := gb419) (o := .cells #[.int .i64 t406, .int .i64 t407, .slice Ao42 t408.length co42, .slice Ao43 t411.length co43, .slice Ao44 t414.length co44] 30 (0, 0)) (by (with_reducible repeat (first | refine blk_drewN ?_ _ | refine blk_drew ?_ | refine blk_alloc ?_ _)); refine blk_put (cs := #[.int .i64 t406, .int .i64 t407, .slice Ao42 t408.length co42, .slice Ao43 t411.length co43, .slice none 0 0]) ?_ 4 _ rfl; (with_reducible repeat (first | refine blk_drewN ?_ _ | refine blk_drew ?_ | refine blk_alloc ?_ _)); refine blk_put (cs := #[.int .i64 t406, .int .i64 t407, .slice Ao42 t408.length co42, .slice none 0 0, .slice none 0 0]) ?_ 3 _ rfl; (with_reducible repeat (first | refine blk_drewN ?_ _ | refine blk_drew ?_ | refine blk_alloc ?_ _)); refine blk_put (cs := #[.int .i64 t406, .int .i64 t407, .slice none 0 0, .slice none 0 0, .slice none 0 0]) ?_ 2 _ rfl; (with_reducible repeat (first | refine blk_drewN ?_ _ | refine blk_drew ?_ | refine blk_alloc ?_ _)); refine blk_put (cs := #[.int .i64 t406, .int .i64 0, .slice none 0 0, .slice none 0 0, .slice none 0 0]) ?_ 1 _ rfl; (with_reducible repeat (first | refine blk_drewN ?_ _ | refine blk_drew ?_ | refine blk_alloc ?_ _)); refine blk_put (cs := #[.int .i64 0, .int .i64 0, .slice none 0 0, .slice none 0 0, .slice none 0 0]) ?_ 0 _ rfl; (with_reducible repeat (first | refine blk_drewN ?_ _ | refine blk_drew ?_ | refine blk_alloc ?_ _)); exact BK419.out) hb); replace HB := Aside0.mk (below_step (be4 HB GE367 GE393 GE405 GE419) hb); (try clear hb)))
    go_meet
    case rel => exact ⟨_, ((t418 != t392)), rs, H', ⟨by first | omega | exact Nat.le_refl _⟩, ⟨rom HO384⟩, ⟨rom HO387⟩, ⟨rom HO390⟩, ⟨rom HO398⟩, ⟨rom HO401⟩, ⟨rom HO404⟩, ⟨rom HO410⟩, ⟨rom HO413⟩, ⟨rom HO416⟩, ⟨bk BK367⟩, ⟨bk BK393⟩, ⟨bk BK405⟩, ⟨bk BK419⟩, ⟨be4 HB GE367 GE393 GE405 GE419⟩⟩
   rw [if_neg c47] at H
   have c47b0 : (t417.toList == t391.toList) = false := beq_eq_false_iff_ne.mpr c47
   have c47b1 : (t417.toList != t391.toList) = true := bne_iff_ne.mpr c47
   (first | rw [c47b0] | (simp only [i64_w, i32_w]; rw [c47b0]) | skip)
   have H' := Aside0.mk H
   clear H
   have hnb56 := NB419_367.out
   have hnc56 := NB367_419.out
   have hnb57 := NB419_393.out
   have hnc57 := NB393_419.out
   have hnb58 := NB419_405.out
   have hnc58 := NB405_419.out
   have hcz59_0 := bz5 BK419
   have hnb60 := NB393_367.out
   have hnc60 := NB367_393.out
   have hnb61 := NB393_405.out
   have hnc61 := NB405_393.out
   have hcz62_0 := bz5 BK393
   go_wp2_with (first | ((with_reducible refine gate_callee (f := 20) rfl ?_); refine gl 39 Try.func20 #[.agg #[.int .i64 t406, .int .i64 t407, .slice Ao42 t408.length co42, .slice Ao43 t411.length co43, .slice Ao44 t414.length co44], .agg #[.int .i64 t380, .int .i64 t381, .slice Ao24 t382.length co24, .slice Ao25 t385.length co25, .slice Ao26 t388.length co26]] ?_; (with_reducible refine (laws_eqThree.calls k t406 t407 _ _ t408 _ _ t411 _ _ t414 t380 t381 _ _ t382 _ _ t385 _ _ t388 true _ ?side1 ((Kd.R_reads' HO410.out).2.1) ?side3 ((Kd.R_reads' HO413.out).2.1) ?side5 ((Kd.R_reads' HO416.out).2.1) ?side7 ((Kd.R_reads' HO384.out).2.1) ?side9 ((Kd.R_reads' HO387.out).2.1) ?side11 ((Kd.R_reads' HO390.out).2.1) A45.out).mono ?_); (case side1 => exact rfr _ HO410 BK419); (case side3 => exact rfr _ HO413 BK419); (case side5 => exact rfr _ HO416 BK419); (case side7 => exact rfr _ HO384 BK419); (case side9 => exact rfr _ HO387 BK419); (case side11 => exact rfr _ HO390 BK419); rintro e w63 ⟨rfl, hb⟩; refine ⟨_, rfl, ?_⟩; replace HO373 := Aside0.mk (Kd.R_below (rf HO373 BK419) hb); replace HO376 := Aside0.mk (Kd.R_below (rf HO376 BK419) hb); replace HO379 := Aside0.mk (Kd.R_below (rf HO379 BK419) hb); replace HO384 := Aside0.mk (Kd.R_below (rf HO384 BK419) hb); replace HO387 := Aside0.mk (Kd.R_below (rf HO387 BK419) hb); replace HO390 := Aside0.mk (Kd.R_below (rf HO390 BK419) hb); replace HO398 := Aside0.mk (Kd.R_below (rf HO398 BK419) hb); replace HO401 := Aside0.mk (Kd.R_below (rf HO401 BK419) hb); replace HO404 := Aside0.mk (Kd.R_below (rf HO404 BK419) hb); replace HO410 := Aside0.mk (Kd.R_below (rf HO410 BK419) hb); replace HO413 := Aside0.mk (Kd.R_below (rf HO413 BK419) hb); replace HO416 := Aside0.mk (Kd.R_below (rf HO416 BK419) hb); replace BK367 := Aside0.mk (blk_below (g := gb367) (o := .cells #[.int .i64 a0_0, .int .i64 a0_1, .slice A0_2 l0_2.length c0_2, .slice A0_3 l0_3.length c0_3, .slice A0_4 l0_4.length c0_4] 25 (0, 0)) (bf1 BK367 NB367_419) hb); replace BK393 := Aside0.mk (blk_below (g := gb393) (o := .cells #[.int .i64 t380, .int .i64 t381, .slice Ao24 t382.length co24, .slice Ao25 t385.length co25, .slice Ao26 t388.length co26] 30 (0, 0)) (bf1 BK393 NB393_419) hb); replace BK405 := Aside0.mk (blk_below (g := gb405) (o := .cells #[.int .i64 t394, .int .i64 t395, .slice Ao33 t396.length co33, .slice Ao34 t399.length co34, .slice Ao35 t402.length co35] 30 (0, 0)) (bf1 BK405 NB405_419) hb); replace BK419 := Aside0.mk (blk_below (g := gb419) (o := .cells #[.int .i64 t406, .int .i64 t407, .slice Ao42 t408.length co42, .slice Ao43 t411.length co43, .slice Ao44 t414.length co44] 30 (0, 0)) (by (with_reducible repeat (first | refine blk_drewN ?_ _ | refine blk_drew ?_ | refine blk_alloc ?_ _)); refine blk_put (cs := #[.int .i64 t406, .int .i64 t407, .slice Ao42 t408.length co42, .slice Ao43 t411.length co43, .slice none 0 0]) ?_ 4 _ rfl; (with_reducible repeat (first | refine blk_drewN ?_ _ | refine blk_drew ?_ | refine blk_alloc ?_ _)); refine blk_put (cs := #[.int .i64 t406, .int .i64 t407, .slice Ao42 t408.length co42, .slice none 0 0, .slice none 0 0]) ?_ 3 _ rfl; (with_reducible repeat (first | refine blk_drewN ?_ _ | refine blk_drew ?_ | refine blk_alloc ?_ _)); refine blk_put (cs := #[.int .i64 t406, .int .i64 t407, .slice none 0 0, .slice none 0 0, .slice none 0 0]) ?_ 2 _ rfl; (with_reducible repeat (first | refine blk_drewN ?_ _ | refine blk_drew ?_ | refine blk_alloc ?_ _)); refine blk_put (cs := #[.int .i64 t406, .int .i64 0, .slice none 0 0, .slice none 0 0, .slice none 0 0]) ?_ 1 _ rfl; (with_reducible repeat (first | refine blk_drewN ?_ _ | refine blk_drew ?_ | refine blk_alloc ?_ _)); refine blk_put (cs := #[.int .i64 0, .int .i64 0, .slice none 0 0, .slice none 0 0, .slice none 0 0]) ?_ 0 _ rfl; (with_reducible repeat (first | refine blk_drewN ?_ _ | refine blk_drew ?_ | refine blk_alloc ?_ _)); exact BK419.out) hb); replace HB := Aside0.mk (below_step (be4 HB GE367 GE393 GE405 GE419) hb); (try clear hb)))
   go_meet
   case rel => exact ⟨_, (true), rs, H', ⟨by first | omega | exact Nat.le_refl _⟩, ⟨rom HO384⟩, ⟨rom HO387⟩, ⟨rom HO390⟩, ⟨rom HO398⟩, ⟨rom HO401⟩, ⟨rom HO404⟩, ⟨rom HO410⟩, ⟨rom HO413⟩, ⟨rom HO416⟩, ⟨bk BK367⟩, ⟨bk BK393⟩, ⟨bk BK405⟩, ⟨bk BK419⟩, ⟨be4 HB GE367 GE393 GE405 GE419⟩⟩
  replace c46 := Bool.eq_false_iff.mpr c46
  subst c46
  rw [if_neg (show ¬ (false = true) by decide)] at H
  have H' := Aside0.mk H
  clear H
  have hnb64 := NB419_367.out
  have hnc64 := NB367_419.out
  have hnb65 := NB419_393.out
  have hnc65 := NB393_419.out
  have hnb66 := NB419_405.out
  have hnc66 := NB405_419.out
  have hcz67_0 := bz5 BK419
  have hnb68 := NB393_367.out
  have hnc68 := NB367_393.out
  have hnb69 := NB393_405.out
  have hnc69 := NB405_393.out
  have hcz70_0 := bz5 BK393
  go_wp2_with (first | ((with_reducible refine gate_callee (f := 20) rfl ?_); refine gl 39 Try.func20 #[.agg #[.int .i64 t406, .int .i64 t407, .slice Ao42 t408.length co42, .slice Ao43 t411.length co43, .slice Ao44 t414.length co44], .agg #[.int .i64 t380, .int .i64 t381, .slice Ao24 t382.length co24, .slice Ao25 t385.length co25, .slice Ao26 t388.length co26]] ?_; (with_reducible refine (laws_eqThree.calls k t406 t407 _ _ t408 _ _ t411 _ _ t414 t380 t381 _ _ t382 _ _ t385 _ _ t388 false _ ?side1 ((Kd.R_reads' HO410.out).2.1) ?side3 ((Kd.R_reads' HO413.out).2.1) ?side5 ((Kd.R_reads' HO416.out).2.1) ?side7 ((Kd.R_reads' HO384.out).2.1) ?side9 ((Kd.R_reads' HO387.out).2.1) ?side11 ((Kd.R_reads' HO390.out).2.1) A45.out).mono ?_); (case side1 => exact rfr _ HO410 BK419); (case side3 => exact rfr _ HO413 BK419); (case side5 => exact rfr _ HO416 BK419); (case side7 => exact rfr _ HO384 BK419); (case side9 => exact rfr _ HO387 BK419); (case side11 => exact rfr _ HO390 BK419); rintro e w71 ⟨rfl, hb⟩; refine ⟨_, rfl, ?_⟩; replace HO373 := Aside0.mk (Kd.R_below (rf HO373 BK419) hb); replace HO376 := Aside0.mk (Kd.R_below (rf HO376 BK419) hb); replace HO379 := Aside0.mk (Kd.R_below (rf HO379 BK419) hb); replace HO384 := Aside0.mk (Kd.R_below (rf HO384 BK419) hb); replace HO387 := Aside0.mk (Kd.R_below (rf HO387 BK419) hb); replace HO390 := Aside0.mk (Kd.R_below (rf HO390 BK419) hb); replace HO398 := Aside0.mk (Kd.R_below (rf HO398 BK419) hb); replace HO401 := Aside0.mk (Kd.R_below (rf HO401 BK419) hb); replace HO404 := Aside0.mk (Kd.R_below (rf HO404 BK419) hb); replace HO410 := Aside0.mk (Kd.R_below (rf HO410 BK419) hb); replace HO413 := Aside0.mk (Kd.R_below (rf HO413 BK419) hb); replace HO416 := Aside0.mk (Kd.R_below (rf HO416 BK419) hb); replace BK367 := Aside0.mk (blk_below (g := gb367) (o := .cells #[.int .i64 a0_0, .int .i64 a0_1, .slice A0_2 l0_2.length c0_2, .slice A0_3 l0_3.length c0_3, .slice A0_4 l0_4.length c0_4] 25 (0, 0)) (bf1 BK367 NB367_419) hb); replace BK393 := Aside0.mk (blk_below (g := gb393) (o := .cells #[.int .i64 t380, .int .i64 t381, .slice Ao24 t382.length co24, .slice Ao25 t385.length co25, .slice Ao26 t388.length co26] 30 (0, 0)) (bf1 BK393 NB393_419) hb); replace BK405 := Aside0.mk (blk_below (g := gb405) (o := .cells #[.int .i64 t394, .int .i64 t395, .slice Ao33 t396.length co33, .slice Ao34 t399.length co34, .slice Ao35 t402.length co35] 30 (0, 0)) (bf1 BK405 NB405_419) hb); replace BK419 := Aside0.mk (blk_below (g := gb419) (o := .cells #[.int .i64 t406, .int .i64 t407, .slice Ao42 t408.length co42, .slice Ao43 t411.length co43, .slice Ao44 t414.length co44] 30 (0, 0)) (by (with_reducible repeat (first | refine blk_drewN ?_ _ | refine blk_drew ?_ | refine blk_alloc ?_ _)); refine blk_put (cs := #[.int .i64 t406, .int .i64 t407, .slice Ao42 t408.length co42, .slice Ao43 t411.length co43, .slice none 0 0]) ?_ 4 _ rfl; (with_reducible repeat (first | refine blk_drewN ?_ _ | refine blk_drew ?_ | refine blk_alloc ?_ _)); refine blk_put (cs := #[.int .i64 t406, .int .i64 t407, .slice Ao42 t408.length co42, .slice none 0 0, .slice none 0 0]) ?_ 3 _ rfl; (with_reducible repeat (first | refine blk_drewN ?_ _ | refine blk_drew ?_ | refine blk_alloc ?_ _)); refine blk_put (cs := #[.int .i64 t406, .int .i64 t407, .slice none 0 0, .slice none 0 0, .slice none 0 0]) ?_ 2 _ rfl; (with_reducible repeat (first | refine blk_drewN ?_ _ | refine blk_drew ?_ | refine blk_alloc ?_ _)); refine blk_put (cs := #[.int .i64 t406, .int .i64 0, .slice none 0 0, .slice none 0 0, .slice none 0 0]) ?_ 1 _ rfl; (with_reducible repeat (first | refine blk_drewN ?_ _ | refine blk_drew ?_ | refine blk_alloc ?_ _)); refine blk_put (cs := #[.int .i64 0, .int .i64 0, .slice none 0 0, .slice none 0 0, .slice none 0 0]) ?_ 0 _ rfl; (with_reducible repeat (first | refine blk_drewN ?_ _ | refine blk_drew ?_ | refine blk_alloc ?_ _)); exact BK419.out) hb); replace HB := Aside0.mk (below_step (be4 HB GE367 GE393 GE405 GE419) hb); (try clear hb)))
  go_meet
  case rel => exact ⟨_, (true), rs, H', ⟨by first | omega | exact Nat.le_refl _⟩, ⟨rom HO384⟩, ⟨rom HO387⟩, ⟨rom HO390⟩, ⟨rom HO398⟩, ⟨rom HO401⟩, ⟨rom HO404⟩, ⟨rom HO410⟩, ⟨rom HO413⟩, ⟨rom HO416⟩, ⟨bk BK367⟩, ⟨bk BK393⟩, ⟨bk BK405⟩, ⟨bk BK419⟩, ⟨be4 HB GE367 GE393 GE405 GE419⟩⟩
 case rest =>
  clear HC11
  try clear c1; try clear c2; try clear p2; try clear c3; try clear c3b0; try clear c4; try clear c5; try clear c6; try clear c7; try clear c16; try clear c18; try clear c20; try clear c22; try clear c30; try clear c31; try clear c32; try clear c38; try clear c39; try clear c40; try clear c46; try clear c47; try clear c47b0; try clear c47b1; try clear c48; try clear c49; try clear c50; try clear c52; try clear c53; try clear c56; try clear c57; try clear c58; try clear c60; try clear c61; try clear c64; try clear c65; try clear c66; try clear c68; try clear c69; try clear hcz13_0; try clear hcz15_0; try clear hcz23_0; try clear hcz27_0; try clear hcz32_0; try clear hcz41_0; try clear hcz51_0; try clear hcz54_0; try clear hcz59_0; try clear hcz5_0; try clear hcz62_0; try clear hcz67_0; try clear hcz70_0
  obtain ⟨kq, x50_10, rfl, HA, HJ10, HO_394002, HO_394003, HO_394004, HO_406002, HO_406003, HO_406004, HO_420002, HO_420003, HO_420004, BK367, BK393, BK405, BK419, HB⟩ := hcut
  cases kq with
  | zero => exact absurd HA.out (by simp [laws_FnExactEvictMain.j0])
  | succ kj10 =>
   have H := HA.out
   clear HA
   simp only [laws_FnExactEvictMain.j0] at H
   by_cases c72 : x50_10 = true
   ·subst c72
    rw [if_pos rfl] at H
    exact absurd ((Option.some.inj H).trans hrt_.out) (by decide)
   replace c72 := Bool.eq_false_iff.mpr c72
   subst c72
   rw [if_neg (show ¬ (false = true) by decide)] at H
   replace H := Option.bind_eq_some_iff.mp H
   obtain ⟨⟨t421, t422, t423, t426, t429⟩, A730, H⟩ := H
   try dsimp only at H
   have A73 := Aside0.mk A730
   clear A730
   replace H := Option.bind_eq_some_iff.mp H
   obtain ⟨t432, A740, H⟩ := H
   try dsimp only at H
   have A74 := Aside0.mk A740
   clear A740
   by_cases c75 : t432 = true
   ·subst c75
    rw [if_pos rfl] at H
    replace H := Option.bind_eq_some_iff.mp H
    obtain ⟨⟨t433, t434, t435, t436⟩, A760, H⟩ := H
    try dsimp only at H
    have A76 := Aside0.mk A760
    clear A760
    have HC77 := Aside0.mk H
    clear H
    try go_wp2
    have n0_ := Aside0.mk (Kd.R_drew HO_394002.out)
    have n1_ := Aside0.mk (Kd.R_drew HO_394003.out)
    have n2_ := Aside0.mk (Kd.R_drew HO_394004.out)
    have n3_ := Aside0.mk (Kd.R_drew HO_406002.out)
    have n4_ := Aside0.mk (Kd.R_drew HO_406003.out)
    have n5_ := Aside0.mk (Kd.R_drew HO_406004.out)
    have n6_ := Aside0.mk (Kd.R_drew HO_420002.out)
    have n7_ := Aside0.mk (Kd.R_drew HO_420003.out)
    have n8_ := Aside0.mk (Kd.R_drew HO_420004.out)
    have n9_ := Aside0.mk (blk_drew BK367.out)
    have n10_ := Aside0.mk (blk_drew BK393.out)
    have n11_ := Aside0.mk (blk_drew BK405.out)
    have n12_ := Aside0.mk (blk_drew BK419.out)
    have n13_ := Aside0.mk (below_drew1 HB.out)
    clear HO_394002
    clear HO_394003
    clear HO_394004
    clear HO_406002
    clear HO_406003
    clear HO_406004
    clear HO_420002
    clear HO_420003
    clear HO_420004
    clear BK367
    clear BK393
    clear BK405
    clear BK419
    clear HB
    have HO_394002 := n0_
    have HO_394003 := n1_
    have HO_394004 := n2_
    have HO_406002 := n3_
    have HO_406003 := n4_
    have HO_406004 := n5_
    have HO_420002 := n6_
    have HO_420003 := n7_
    have HO_420004 := n8_
    have BK367 := n9_
    have BK393 := n10_
    have BK405 := n11_
    have BK419 := n12_
    have HB := n13_
    clear n0_ n1_ n2_ n3_ n4_ n5_ n6_ n7_ n8_ n9_ n10_ n11_ n12_ n13_
    refine start_ (n := 5) (S := fun w' => w'.cell? ⟨gb405, 0, none⟩ = some (.int .i64 t394) ∧ w'.cell? ⟨gb405, 1, none⟩ = some (.int .i64 t395) ∧ w'.cell? ⟨gb405, 2, none⟩ = some (.slice Ao33 t396.length co33) ∧ w'.cell? ⟨gb405, 3, none⟩ = some (.slice Ao34 t399.length co34) ∧ w'.cell? ⟨gb405, 4, none⟩ = some (.slice Ao35 t402.length co35) ∧ w'.cell? ⟨gb367, 0, none⟩ = some (.int .i64 a0_0) ∧ w'.cell? ⟨gb367, 1, none⟩ = some (.int .i64 a0_1) ∧ w'.cell? ⟨gb367, 2, none⟩ = some (.slice A0_2 l0_2.length c0_2) ∧ w'.cell? ⟨gb367, 3, none⟩ = some (.slice A0_3 l0_3.length c0_3) ∧ w'.cell? ⟨gb367, 4, none⟩ = some (.slice A0_4 l0_4.length c0_4)) (ds := []) (bv 5 0x0) (by kernel_rfl) rfl rfl ⟨bc0 BK405, bc1 BK405, bc2 BK405, bc3 BK405, bc4 BK405, bc0 BK367, bc1 BK367, bc2 BK367, bc3 BK367, bc4 BK367⟩ (fun hHeld => ?_)
    generalize wc.drew = w78 at HO_394002 HO_394003 HO_394004 HO_406002 HO_406003 HO_406004 HO_420002 HO_420003 HO_420004 BK367 BK393 BK405 BK419 HB hHeld ⊢
    refine take_ (i := 0) (N := some 51) (v := ?_) (a' := ?_) (bv 5 0x1) rfl rfl (by kernel_rfl) (fun _ _ _ h => h) (Or.inl ⟨by rfl, ?_⟩) hHeld ?_ ?_
    rotate_left
    ·rintro w' ⟨s0, s1, s2, s3, s4, s5, s6, s7, s8, s9⟩
     go_simp
     with_reducible rfl
    rotate_left
    ·simp only [aP]
     rfl
    refine take_ (i := 1) (N := some 52) (v := ?_) (a' := ?_) (bv 5 0x3) rfl rfl (by kernel_rfl) (fun _ _ _ h => h) (Or.inl ⟨by rfl, ?_⟩) hHeld ?_ ?_
    rotate_left
    ·rintro w' ⟨s0, s1, s2, s3, s4, s5, s6, s7, s8, s9⟩
     go_simp
     with_reducible rfl
    rotate_left
    ·simp only [aP]
     rfl
    refine one_ (i := 2) (N := some 53) (bv 5 0x7) rfl rfl (by kernel_rfl) (by decide) (fun K hK => ?_)
    refine goes_ Try.func18 (by kernel_rfl) rfl #[.agg #[.int .i64 a0_0, .int .i64 a0_1, .slice A0_2 l0_2.length c0_2, .slice A0_3 l0_3.length c0_3, .slice A0_4 l0_4.length c0_4]] (by rfl) rfl rfl ml ?_
    with_reducible refine (laws_toThree.calls kj10 a0_0 a0_1 _ _ l0_2 _ _ l0_3 _ _ l0_4 t421 t422 t423 t426 t429 _ ?side1 ?side2 ?side3 ?side4 ?side5 ?side6 A73.out).mono ?_
    (case side1 => exact cb HR0_2 HB)
    (case side2 => exact HC0_2.out)
    (case side3 => exact cb HR0_3 HB)
    (case side4 => exact HC0_3.out)
    (case side5 => exact cb HR0_4 HB)
    (case side6 => exact HC0_4.out)
    rintro e w79 ⟨v424, v427, v430, rfl, ho0, ho1, ho2, hb⟩
    refine ⟨_, rfl, ?_⟩
    have n0_ := td2 (ro HO_394002) hb ho0 ho1
    have n1_ := td2 (ro HO_394003) hb ho0 ho1
    have n2_ := Aside0.mk (Kd.R_elder' (ro HO_394004) (Kd.R_base ho2) hb)
    have n3_ := td2 (ro HO_406002) hb ho0 ho1
    have n4_ := td2 (ro HO_406003) hb ho0 ho1
    have n5_ := Aside0.mk (Kd.R_elder' (ro HO_406004) (Kd.R_base ho2) hb)
    have n6_ := td2 (ro HO_420002) hb ho0 ho1
    have n7_ := td2 (ro HO_420003) hb ho0 ho1
    have n8_ := Aside0.mk (Kd.R_elder' (ro HO_420004) (Kd.R_base ho2) hb)
    have n9_ := Aside0.mk (Kd.R_lower (nw (nw (nw (nw (nw (nw ho0 HO_394002) HO_394003) HO_406002) HO_406003) HO_420002) HO_420003) (below_size (be4 HB GE367 GE393 GE405 GE419)))
    have n10_ := Aside0.mk (Kd.R_lower (nw (nw (nw (nw (nw (nw ho1 HO_394002) HO_394003) HO_406002) HO_406003) HO_420002) HO_420003) (below_size (be4 HB GE367 GE393 GE405 GE419)))
    have n11_ := Aside0.mk (Kd.R_lower (nw (nw (nw ho2 HO_394004) HO_406004) HO_420004) (below_size (be4 HB GE367 GE393 GE405 GE419)))
    have n12_ := bb BK367 hb
    have n13_ := bb BK393 hb
    have n14_ := bb BK405 hb
    have n15_ := bb BK419 hb
    have n16_ := Aside0.mk (below_step (be4 HB GE367 GE393 GE405 GE419) hb)
    clear HO_394002
    clear HO_394003
    clear HO_394004
    clear HO_406002
    clear HO_406003
    clear HO_406004
    clear HO_420002
    clear HO_420003
    clear HO_420004
    clear BK367
    clear BK393
    clear BK405
    clear BK419
    clear HB
    have HO_394002 := n0_
    have HO_394003 := n1_
    have HO_394004 := n2_
    have HO_406002 := n3_
    have HO_406003 := n4_
    have HO_406004 := n5_
    have HO_420002 := n6_
    have HO_420003 := n7_
    have HO_420004 := n8_
    have HO425 := n9_
    have HO428 := n10_
    have HO431 := n11_
    have BK367 := n12_
    have BK393 := n13_
    have BK405 := n14_
    have BK419 := n15_
    have HB := n16_
    clear n0_ n1_ n2_ n3_ n4_ n5_ n6_ n7_ n8_ n9_ n10_ n11_ n12_ n13_ n14_ n15_ n16_
    (try clear hb)
    (try clear hb2)
    (try clear hk)
    (try clear hi)
    (try clear ho0)
    (try clear ho1)
    (try clear ho2)
    obtain ⟨Ao80, co80, eo80⟩ := Kd.R_slice HO425.out
    (first | subst eo80 | (injection eo80 with f1_ f2_ f3_; have f4_ := f1_.symm; have f5_ := f3_.symm; clear f1_ f2_ f3_; subst f4_; subst f5_))
    obtain ⟨Ao81, co81, eo81⟩ := Kd.R_slice HO428.out
    (first | subst eo81 | (injection eo81 with f1_ f2_ f3_; have f4_ := f1_.symm; have f5_ := f3_.symm; clear f1_ f2_ f3_; subst f4_; subst f5_))
    obtain ⟨Ao82, co82, eo82⟩ := Kd.R_slice HO431.out
    (first | subst eo82 | (injection eo82 with f1_ f2_ f3_; have f4_ := f1_.symm; have f5_ := f3_.symm; clear f1_ f2_ f3_; subst f4_; subst f5_))
    refine hK.out _ _ ⟨bc0 BK405, bc1 BK405, bc2 BK405, bc3 BK405, bc4 BK405, bc0 BK367, bc1 BK367, bc2 BK367, bc3 BK367, bc4 BK367⟩ (fun hHeld => ?_)
    clear hK K
    refine norm_ (a' := ?_) ?_ ?_
    rotate_left
    ·show Act.put _ (some 53) _ = _
     simp only [aP]
     rfl
    refine one_ (i := 3) (N := some 54) (bv 5 0xf) rfl rfl (by kernel_rfl) (by decide) (fun K hK => ?_)
    refine goes_ Try.func20 (by kernel_rfl) rfl #[.agg #[.int .i64 t394, .int .i64 t395, .slice Ao33 t396.length co33, .slice Ao34 t399.length co34, .slice Ao35 t402.length co35], .agg #[.int .i64 t421, .int .i64 t422, .slice Ao80 t423.length co80, .slice Ao81 t426.length co81, .slice Ao82 t429.length co82]] (by rfl) rfl rfl ml ?_
    with_reducible refine (laws_eqThree.calls kj10 t394 t395 _ _ t396 _ _ t399 _ _ t402 t421 t422 _ _ t423 _ _ t426 _ _ t429 true _ ?side1 ?side2 ?side3 ?side4 ?side5 ?side6 ?side7 ?side8 ?side9 ?side10 ?side11 ?side12 A74.out).mono ?_
    (case side1 => exact cr HO_406002)
    (case side2 => exact (Kd.R_reads' HO_406002.out).2.1)
    (case side3 => exact cr HO_406003)
    (case side4 => exact (Kd.R_reads' HO_406003.out).2.1)
    (case side5 => exact cr HO_406004)
    (case side6 => exact (Kd.R_reads' HO_406004.out).2.1)
    (case side7 => exact cr HO425)
    (case side8 => exact (Kd.R_reads' HO425.out).2.1)
    (case side9 => exact cr HO428)
    (case side10 => exact (Kd.R_reads' HO428.out).2.1)
    (case side11 => exact cr HO431)
    (case side12 => exact (Kd.R_reads' HO431.out).2.1)
    rintro e w83 ⟨rfl, hb⟩
    refine ⟨_, rfl, ?_⟩
    have n0_ := rb HO_394002 hb
    have n1_ := rb HO_394003 hb
    have n2_ := rb HO_394004 hb
    have n3_ := rb HO_406002 hb
    have n4_ := rb HO_406003 hb
    have n5_ := rb HO_406004 hb
    have n6_ := rb HO_420002 hb
    have n7_ := rb HO_420003 hb
    have n8_ := rb HO_420004 hb
    have n9_ := rb HO425 hb
    have n10_ := rb HO428 hb
    have n11_ := rb HO431 hb
    have n12_ := bb BK367 hb
    have n13_ := bb BK393 hb
    have n14_ := bb BK405 hb
    have n15_ := bb BK419 hb
    have n16_ := Aside0.mk (below_step (be4 HB GE367 GE393 GE405 GE419) hb)
    clear HO_394002
    clear HO_394003
    clear HO_394004
    clear HO_406002
    clear HO_406003
    clear HO_406004
    clear HO_420002
    clear HO_420003
    clear HO_420004
    clear HO425
    clear HO428
    clear HO431
    clear BK367
    clear BK393
    clear BK405
    clear BK419
    clear HB
    have HO_394002 := n0_
    have HO_394003 := n1_
    have HO_394004 := n2_
    have HO_406002 := n3_
    have HO_406003 := n4_
    have HO_406004 := n5_
    have HO_420002 := n6_
    have HO_420003 := n7_
    have HO_420004 := n8_
    have HO425 := n9_
    have HO428 := n10_
    have HO431 := n11_
    have BK367 := n12_
    have BK393 := n13_
    have BK405 := n14_
    have BK419 := n15_
    have HB := n16_
    clear n0_ n1_ n2_ n3_ n4_ n5_ n6_ n7_ n8_ n9_ n10_ n11_ n12_ n13_ n14_ n15_ n16_
    (try clear hb)
    (try clear hb2)
    (try clear hk)
    (try clear hi)
    refine hK.out _ _ ⟨bc0 BK405, bc1 BK405, bc2 BK405, bc3 BK405, bc4 BK405, bc0 BK367, bc1 BK367, bc2 BK367, bc3 BK367, bc4 BK367⟩ (fun hHeld => ?_)
    clear hK K
    refine norm_ (a' := ?_) ?_ ?_
    rotate_left
    ·show Act.put _ (some 54) _ = _
     simp only [aP]
     rfl
    refine pure_ (i := 4) (N := some 55) (v := ?_) (a' := ?_) (bv 5 0x1f) rfl rfl (by kernel_rfl) (fun _ _ _ h => h) (Or.inl ⟨by rfl, ?_⟩) ?_ ?_
    rotate_left
    ·intro w'
     go_simp
     with_reducible rfl
    rotate_left
    ·simp only [aP]
     rfl
    refine done_ (by kernel_rfl) ?_
    have hnb84 := NB405_367.out
    have hnc84 := NB367_405.out
    have hnb85 := NB405_393.out
    have hnc85 := NB393_405.out
    have hnb86 := NB405_419.out
    have hnc86 := NB419_405.out
    have hcz87_0 := bz5 BK405
    go_upto_region 14 with (first | ((with_reducible refine gate_callee (f := 23) rfl ?_); refine gl 58 Try.func23 #[.agg #[.int .i64 t394, .int .i64 t395, .slice Ao33 t396.length co33, .slice Ao34 t399.length co34, .slice Ao35 t402.length co35], .int .i64 1] ?_; (with_reducible refine (laws_markThree.calls kj10 t394 t395 (fun k_ => some k_ = (.slice Ao33 t396.length co33 : Value).ownBlock) (.slice Ao33 t396.length co33) t396 (fun k_ => some k_ = (.slice Ao34 t399.length co34 : Value).ownBlock) (.slice Ao34 t399.length co34) t399 (fun k_ => some k_ = (.slice Ao35 t402.length co35 : Value).ownBlock) (.slice Ao35 t402.length co35) t402 1 t433 t434 t435 t436 w _ ?side1 ?side2 ?side3 ?side4 ?side5 ?side6 A76.out).mono ?_); (case side1 => repeat (first | (with_reducible first | exact HB.out | apply below_alloc | apply pw_below_drewN | apply below_drew1 | refine below_set ?_ GE367.out | refine below_set ?_ GE393.out | refine below_set ?_ GE405.out | refine below_set ?_ GE419.out) | exact HB.out)); (case side2 => exact Kd.R_tight rfl HO_406002.out); (case side3 => exact fun k_ e_ => (HO_406002.out.1 k_ e_.symm).1.1.2.2.1); (case side4 => exact Kd.R_tight rfl HO_406003.out); (case side5 => exact fun k_ e_ => (HO_406003.out.1 k_ e_.symm).1.1.2.2.1); (case side6 => exact Kd.R_tight rfl HO_406004.out); rintro e w88 ⟨rfl, hy0, hy1, hy2, hb, hkp⟩; refine ⟨_, rfl, ?_⟩; replace HO_394002 := Aside0.mk (Kd.R_mono (ok' := fun k_ => nb k_ Ao25 t385.length co25 ∧ nb k_ Ao33 t396.length co33 ∧ nb k_ Ao34 t399.length co34 ∧ nb k_ Ao42 t408.length co42 ∧ nb k_ Ao43 t411.length co43 ∧ nb k_ Ao80 t423.length co80 ∧ nb k_ Ao81 t426.length co81) (Kd.R_keptB ((Kd.R_apart' HO_394002.out (Kd.R_typed HO_406004.out) (by decide))) hkp (fun k_ hk_ hs_ => Or.elim hs_ (fun e_ => (hk_.1.1.1.2.1) e_) (fun e_ => Or.elim e_ (fun e_ => (hk_.1.1.1.2.2.1) e_) (fun e_ => (hk_.2) e_)))) cj); replace HO_394003 := Aside0.mk (Kd.R_mono (ok' := fun k_ => nb k_ Ao24 t382.length co24 ∧ nb k_ Ao33 t396.length co33 ∧ nb k_ Ao34 t399.length co34 ∧ nb k_ Ao42 t408.length co42 ∧ nb k_ Ao43 t411.length co43 ∧ nb k_ Ao80 t423.length co80 ∧ nb k_ Ao81 t426.length co81) (Kd.R_keptB ((Kd.R_apart' HO_394003.out (Kd.R_typed HO_406004.out) (by decide))) hkp (fun k_ hk_ hs_ => Or.elim hs_ (fun e_ => (hk_.1.1.1.2.1) e_) (fun e_ => Or.elim e_ (fun e_ => (hk_.1.1.1.2.2.1) e_) (fun e_ => (hk_.2) e_)))) cj); replace HO_394004 := Aside0.mk (Kd.R_mono (ok' := fun k_ => nb k_ Ao35 t402.length co35 ∧ nb k_ Ao44 t414.length co44 ∧ nb k_ Ao82 t429.length co82) (Kd.R_keptB ((Kd.R_apart' (Kd.R_apart' HO_394004.out (Kd.R_typed HO_406002.out) (by decide)) (Kd.R_typed HO_406003.out) (by decide))) hkp (fun k_ hk_ hs_ => Or.elim hs_ (fun e_ => (hk_.1.2) e_) (fun e_ => Or.elim e_ (fun e_ => (hk_.2) e_) (fun e_ => (hk_.1.1.1.1) e_)))) cj); replace HO_420002 := Aside0.mk (Kd.R_mono (ok' := fun k_ => nb k_ Ao24 t382.length co24 ∧ nb k_ Ao25 t385.length co25 ∧ nb k_ Ao33 t396.length co33 ∧ nb k_ Ao34 t399.length co34 ∧ nb k_ Ao43 t411.length co43 ∧ nb k_ Ao80 t423.length co80 ∧ nb k_ Ao81 t426.length co81) (Kd.R_keptB ((Kd.R_apart' HO_420002.out (Kd.R_typed HO_406004.out) (by decide))) hkp (fun k_ hk_ hs_ => Or.elim hs_ (fun e_ => (hk_.1.1.1.2.2.1) e_) (fun e_ => Or.elim e_ (fun e_ => (hk_.1.1.1.2.2.2.1) e_) (fun e_ => (hk_.2) e_)))) cj); replace HO_420003 := Aside0.mk (Kd.R_mono (ok' := fun k_ => nb k_ Ao24 t382.length co24 ∧ nb k_ Ao25 t385.length co25 ∧ nb k_ Ao33 t396.length co33 ∧ nb k_ Ao34 t399.length co34 ∧ nb k_ Ao42 t408.length co42 ∧ nb k_ Ao80 t423.length co80 ∧ nb k_ Ao81 t426.length co81) (Kd.R_keptB ((Kd.R_apart' HO_420003.out (Kd.R_typed HO_406004.out) (by decide))) hkp (fun k_ hk_ hs_ => Or.elim hs_ (fun e_ => (hk_.1.1.1.2.2.1) e_) (fun e_ => Or.elim e_ (fun e_ => (hk_.1.1.1.2.2.2.1) e_) (fun e_ => (hk_.2) e_)))) cj); replace HO_420004 := Aside0.mk (Kd.R_mono (ok' := fun k_ => nb k_ Ao26 t388.length co26 ∧ nb k_ Ao35 t402.length co35 ∧ nb k_ Ao82 t429.length co82) (Kd.R_keptB ((Kd.R_apart' (Kd.R_apart' HO_420004.out (Kd.R_typed HO_406002.out) (by decide)) (Kd.R_typed HO_406003.out) (by decide))) hkp (fun k_ hk_ hs_ => Or.elim hs_ (fun e_ => (hk_.1.2) e_) (fun e_ => Or.elim e_ (fun e_ => (hk_.2) e_) (fun e_ => (hk_.1.1.1.2) e_)))) cj); replace BK367 := Aside0.mk (blk_kept (bk BK367) hkp (fun hs_ => Or.elim hs_ (fun e_ => (fun e_ => (Kd.R_ne HO_406002.out BK367.out (by decide)) e_) e_) (fun e_ => Or.elim e_ (fun e_ => (fun e_ => (Kd.R_ne HO_406003.out BK367.out (by decide)) e_) e_) (fun e_ => (fun e_ => (Kd.R_ne HO_406004.out BK367.out (by decide)) e_) e_)))); replace BK393 := Aside0.mk (blk_kept (bk BK393) hkp (fun hs_ => Or.elim hs_ (fun e_ => (fun e_ => (Kd.R_ne HO_406002.out BK393.out (by decide)) e_) e_) (fun e_ => Or.elim e_ (fun e_ => (fun e_ => (Kd.R_ne HO_406003.out BK393.out (by decide)) e_) e_) (fun e_ => (fun e_ => (Kd.R_ne HO_406004.out BK393.out (by decide)) e_) e_)))); replace BK405 := Aside0.mk (blk_kept (bk BK405) hkp (fun hs_ => Or.elim hs_ (fun e_ => (fun e_ => (Kd.R_ne HO_406002.out BK405.out (by decide)) e_) e_) (fun e_ => Or.elim e_ (fun e_ => (fun e_ => (Kd.R_ne HO_406003.out BK405.out (by decide)) e_) e_) (fun e_ => (fun e_ => (Kd.R_ne HO_406004.out BK405.out (by decide)) e_) e_)))); replace BK419 := Aside0.mk (blk_kept (bk BK419) hkp (fun hs_ => Or.elim hs_ (fun e_ => (fun e_ => (Kd.R_ne HO_406002.out BK419.out (by decide)) e_) e_) (fun e_ => Or.elim e_ (fun e_ => (fun e_ => (Kd.R_ne HO_406003.out BK419.out (by decide)) e_) e_) (fun e_ => (fun e_ => (Kd.R_ne HO_406004.out BK419.out (by decide)) e_) e_)))); replace HO425 := Aside0.mk (Kd.R_mono (ok' := fun k_ => nb k_ Ao24 t382.length co24 ∧ nb k_ Ao25 t385.length co25 ∧ nb k_ Ao33 t396.length co33 ∧ nb k_ Ao34 t399.length co34 ∧ nb k_ Ao42 t408.length co42 ∧ nb k_ Ao43 t411.length co43 ∧ nb k_ Ao81 t426.length co81) (Kd.R_keptB ((Kd.R_apart' HO425.out (Kd.R_typed HO_406004.out) (by decide))) hkp (fun k_ hk_ hs_ => Or.elim hs_ (fun e_ => (hk_.1.1.1.1.2) e_) (fun e_ => Or.elim e_ (fun e_ => (hk_.1.1.1.2) e_) (fun e_ => (hk_.2) e_)))) cj); replace HO428 := Aside0.mk (Kd.R_mono (ok' := fun k_ => nb k_ Ao24 t382.length co24 ∧ nb k_ Ao25 t385.length co25 ∧ nb k_ Ao33 t396.length co33 ∧ nb k_ Ao34 t399.length co34 ∧ nb k_ Ao42 t408.length co42 ∧ nb k_ Ao43 t411.length co43 ∧ nb k_ Ao80 t423.length co80) (Kd.R_keptB ((Kd.R_apart' HO428.out (Kd.R_typed HO_406004.out) (by decide))) hkp (fun k_ hk_ hs_ => Or.elim hs_ (fun e_ => (hk_.1.1.1.1.2) e_) (fun e_ => Or.elim e_ (fun e_ => (hk_.1.1.1.2) e_) (fun e_ => (hk_.2) e_)))) cj); replace HO_406004 := Aside0.mk (Kd.R_reok rfl hy2 (fun k_ e_ => HO_406004.out.1 k_ e_)); replace HO431 := Aside0.mk (Kd.R_mono (ok' := fun k_ => nb k_ Ao26 t388.length co26 ∧ nb k_ Ao35 t402.length co35 ∧ nb k_ Ao44 t414.length co44) (Kd.R_keptB ((Kd.R_apart' (Kd.R_apart' HO431.out (Kd.R_typed HO_406002.out) (by decide)) (Kd.R_typed HO_406003.out) (by decide))) hkp (fun k_ hk_ hs_ => Or.elim hs_ (fun e_ => (hk_.1.2) e_) (fun e_ => Or.elim e_ (fun e_ => (hk_.2) e_) (fun e_ => (hk_.1.1.1.2) e_)))) cj); replace HO_406002 := Aside0.mk (Kd.R_reok rfl hy0 (fun k_ e_ => HO_406002.out.1 k_ e_)); replace HO_406003 := Aside0.mk (Kd.R_reok rfl hy1 (fun k_ e_ => HO_406003.out.1 k_ e_)); replace HB := Aside0.mk (hb); (try clear hb); (try clear hkp); (try clear hy0); (try clear hy1); (try clear hy2)))
    (try simp only [Act.put, List.setIfInBounds_toArray, List.set_cons_zero, List.set_cons_succ])
    go_cut [76] (fun v76 wc => ∃ (kq : Nat) (x76_76 : Bool), v76 = .bool x76_76 ∧ Aside0 (laws_FnExactEvictMain.j1 kq t391 t392 x76_76 a0_0 a0_1 l0_2 l0_3 l0_4 t380 t381 t382 t385 t388 t406 t407 t408 t411 t414 = some r) ∧ Aside0 (kq ≤ kj10) ∧ Aside0 (Kd.R k68 68 wc w.heap.size (fun k_ => nb k_ Ao25 t385.length co25 ∧ nb k_ Ao33 t396.length co33 ∧ nb k_ Ao34 t399.length co34 ∧ nb k_ Ao42 t408.length co42 ∧ nb k_ Ao43 t411.length co43) (.slice Ao24 t382.length co24) t382) ∧ Aside0 (Kd.R k68 68 wc w.heap.size (fun k_ => nb k_ Ao24 t382.length co24 ∧ nb k_ Ao33 t396.length co33 ∧ nb k_ Ao34 t399.length co34 ∧ nb k_ Ao42 t408.length co42 ∧ nb k_ Ao43 t411.length co43) (.slice Ao25 t385.length co25) t385) ∧ Aside0 (Kd.R (Kd.int .i64) 3 wc w.heap.size (fun k_ => nb k_ Ao35 t402.length co35 ∧ nb k_ Ao44 t414.length co44) (.slice Ao26 t388.length co26) t388) ∧ Aside0 (Kd.R k68 68 wc w.heap.size (fun k_ => nb k_ Ao24 t382.length co24 ∧ nb k_ Ao25 t385.length co25 ∧ nb k_ Ao34 t399.length co34 ∧ nb k_ Ao42 t408.length co42 ∧ nb k_ Ao43 t411.length co43) (.slice Ao33 t396.length co33) t434) ∧ Aside0 (Kd.R k68 68 wc w.heap.size (fun k_ => nb k_ Ao24 t382.length co24 ∧ nb k_ Ao25 t385.length co25 ∧ nb k_ Ao33 t396.length co33 ∧ nb k_ Ao42 t408.length co42 ∧ nb k_ Ao43 t411.length co43) (.slice Ao34 t399.length co34) t435) ∧ Aside0 (Kd.R (Kd.int .i64) 3 wc w.heap.size (fun k_ => nb k_ Ao26 t388.length co26 ∧ nb k_ Ao44 t414.length co44) (.slice Ao35 t402.length co35) t436) ∧ Aside0 (Kd.R k68 68 wc w.heap.size (fun k_ => nb k_ Ao24 t382.length co24 ∧ nb k_ Ao25 t385.length co25 ∧ nb k_ Ao33 t396.length co33 ∧ nb k_ Ao34 t399.length co34 ∧ nb k_ Ao43 t411.length co43) (.slice Ao42 t408.length co42) t408) ∧ Aside0 (Kd.R k68 68 wc w.heap.size (fun k_ => nb k_ Ao24 t382.length co24 ∧ nb k_ Ao25 t385.length co25 ∧ nb k_ Ao33 t396.length co33 ∧ nb k_ Ao34 t399.length co34 ∧ nb k_ Ao42 t408.length co42) (.slice Ao43 t411.length co43) t411) ∧ Aside0 (Kd.R (Kd.int .i64) 3 wc w.heap.size (fun k_ => nb k_ Ao26 t388.length co26 ∧ nb k_ Ao35 t402.length co35) (.slice Ao44 t414.length co44) t414) ∧ Aside0 (wc.heap[gb367]? = some (.cells #[.int .i64 a0_0, .int .i64 a0_1, (.slice A0_2 l0_2.length c0_2), (.slice A0_3 l0_3.length c0_3), (.slice A0_4 l0_4.length c0_4)] 25 (0, 0))) ∧ Aside0 (wc.heap[gb393]? = some (.cells #[.int .i64 t380, .int .i64 t381, (.slice Ao24 t382.length co24), (.slice Ao25 t385.length co25), (.slice Ao26 t388.length co26)] 30 (0, 0))) ∧ Aside0 (wc.heap[gb405]? = some (.cells #[.int .i64 t394, .int .i64 t395, (.slice Ao33 t396.length co33), (.slice Ao34 t399.length co34), (.slice Ao35 t402.length co35)] 30 (0, 0))) ∧ Aside0 (wc.heap[gb419]? = some (.cells #[.int .i64 t406, .int .i64 t407, (.slice Ao42 t408.length co42), (.slice Ao43 t411.length co43), (.slice Ao44 t414.length co44)] 30 (0, 0))) ∧ Aside0 (Below w.heap.size w wc))
    case first =>
     have H := HC77.out
     clear HC77
     by_cases c89 : t433 < 0
     ·rw [if_pos c89] at H
      have c89b0 : decide (t433 < 0) = true := decide_eq_true c89
      clear c89
      (first | rw [c89b0] | (simp only [i64_w, i32_w]; rw [c89b0]) | skip)
      have H' := Aside0.mk H
      clear H
      go_wp2
      go_meet
      case rel => exact ⟨_, (true), rs, H', ⟨by have := HJ10.out; first | omega | exact Nat.le_refl _⟩, ⟨rom HO_394002⟩, ⟨rom HO_394003⟩, ⟨rom HO_394004⟩, ⟨rom HO_406002⟩, ⟨rom HO_406003⟩, ⟨rom HO_406004⟩, ⟨rom HO_420002⟩, ⟨rom HO_420003⟩, ⟨rom HO_420004⟩, ⟨bk BK367⟩, ⟨bk BK393⟩, ⟨bk BK405⟩, ⟨bk BK419⟩, ⟨be4 HB GE367 GE393 GE405 GE419⟩⟩
     rw [if_neg c89] at H
     have c89b0 : decide (t433 < 0) = false := decide_eq_false c89
     clear c89
     (first | rw [c89b0] | (simp only [i64_w, i32_w]; rw [c89b0]) | skip)
     replace H := Option.bind_eq_some_iff.mp H
     obtain ⟨t437, A900, H⟩ := H
     try dsimp only at H
     have A90 := Aside0.mk A900
     clear A900
     by_cases c91 : t437 = true
     ·subst c91
      rw [if_pos rfl] at H
      by_cases c92 : t417.toList = t391.toList
      ·rw [if_pos c92] at H
       have c92b0 : (t417.toList == t391.toList) = true := beq_iff_eq.mpr c92
       have c92b1 : (t417.toList != t391.toList) = false := bne_eq_false_iff_eq.mpr c92
       clear c92
       have H' := Aside0.mk H
       clear H
       have hnb93 := NB419_367.out
       have hnc93 := NB367_419.out
       have hnb94 := NB419_393.out
       have hnc94 := NB393_419.out
       have hnb95 := NB419_405.out
       have hnc95 := NB405_419.out
       have hcz96_0 := bz5 BK419
       have hnb97 := NB393_367.out
       have hnc97 := NB367_393.out
       have hnb98 := NB393_405.out
       have hnc98 := NB405_393.out
       have hcz99_0 := bz5 BK393
       go_wp2_with (first | (go_at_call 20; (with_reducible refine (laws_eqThree.calls kj10 t406 t407 _ _ t408 _ _ t411 _ _ t414 t380 t381 _ _ t382 _ _ t385 _ _ t388 true _ (cr HO_420002) ((Kd.R_reads' HO_420002.out).2.1) (cr HO_420003) ((Kd.R_reads' HO_420003.out).2.1) (cr HO_420004) ((Kd.R_reads' HO_420004.out).2.1) (cr HO_394002) ((Kd.R_reads' HO_394002.out).2.1) (cr HO_394003) ((Kd.R_reads' HO_394003.out).2.1) (cr HO_394004) ((Kd.R_reads' HO_394004.out).2.1) A90.out).mono ?_); rintro e w100 ⟨rfl, hb⟩; replace HO_394002 := rb HO_394002 hb; replace HO_394003 := rb HO_394003 hb; replace HO_394004 := rb HO_394004 hb; replace HO_406002 := rb HO_406002 hb; replace HO_406003 := rb HO_406003 hb; replace HO_406004 := rb HO_406004 hb; replace HO_420002 := rb HO_420002 hb; replace HO_420003 := rb HO_420003 hb; replace HO_420004 := rb HO_420004 hb; replace HO425 := rb HO425 hb; replace HO428 := rb HO428 hb; replace HO431 := rb HO431 hb; replace BK367 := bb BK367 hb; replace BK393 := bb BK393 hb; replace BK405 := bb BK405 hb; replace BK419 := bb BK419 hb; replace HB := Aside0.mk (below_step (be4 HB GE367 GE393 GE405 GE419) hb); (try clear hb)))
       go_meet
       case rel => exact ⟨_, ((t418 != t392)), rs, H', ⟨by have := HJ10.out; first | omega | exact Nat.le_refl _⟩, ⟨rom HO_394002⟩, ⟨rom HO_394003⟩, ⟨rom HO_394004⟩, ⟨rom HO_406002⟩, ⟨rom HO_406003⟩, ⟨rom HO_406004⟩, ⟨rom HO_420002⟩, ⟨rom HO_420003⟩, ⟨rom HO_420004⟩, ⟨bk BK367⟩, ⟨bk BK393⟩, ⟨bk BK405⟩, ⟨bk BK419⟩, ⟨be4 HB GE367 GE393 GE405 GE419⟩⟩
      rw [if_neg c92] at H
      have c92b0 : (t417.toList == t391.toList) = false := beq_eq_false_iff_ne.mpr c92
      have c92b1 : (t417.toList != t391.toList) = true := bne_iff_ne.mpr c92
      have H' := Aside0.mk H
      clear H
      have hnb101 := NB419_367.out
      have hnc101 := NB367_419.out
      have hnb102 := NB419_393.out
      have hnc102 := NB393_419.out
      have hnb103 := NB419_405.out
      have hnc103 := NB405_419.out
      have hcz104_0 := bz5 BK419
      have hnb105 := NB393_367.out
      have hnc105 := NB367_393.out
      have hnb106 := NB393_405.out
      have hnc106 := NB405_393.out
      have hcz107_0 := bz5 BK393
      go_wp2_with (first | (go_at_call 20; (with_reducible refine (laws_eqThree.calls kj10 t406 t407 _ _ t408 _ _ t411 _ _ t414 t380 t381 _ _ t382 _ _ t385 _ _ t388 true _ (cr HO_420002) ((Kd.R_reads' HO_420002.out).2.1) (cr HO_420003) ((Kd.R_reads' HO_420003.out).2.1) (cr HO_420004) ((Kd.R_reads' HO_420004.out).2.1) (cr HO_394002) ((Kd.R_reads' HO_394002.out).2.1) (cr HO_394003) ((Kd.R_reads' HO_394003.out).2.1) (cr HO_394004) ((Kd.R_reads' HO_394004.out).2.1) A90.out).mono ?_); rintro e w108 ⟨rfl, hb⟩; replace HO_394002 := rb HO_394002 hb; replace HO_394003 := rb HO_394003 hb; replace HO_394004 := rb HO_394004 hb; replace HO_406002 := rb HO_406002 hb; replace HO_406003 := rb HO_406003 hb; replace HO_406004 := rb HO_406004 hb; replace HO_420002 := rb HO_420002 hb; replace HO_420003 := rb HO_420003 hb; replace HO_420004 := rb HO_420004 hb; replace HO425 := rb HO425 hb; replace HO428 := rb HO428 hb; replace HO431 := rb HO431 hb; replace BK367 := bb BK367 hb; replace BK393 := bb BK393 hb; replace BK405 := bb BK405 hb; replace BK419 := bb BK419 hb; replace HB := Aside0.mk (below_step (be4 HB GE367 GE393 GE405 GE419) hb); (try clear hb)))
      go_meet
      case rel => exact ⟨_, (true), rs, H', ⟨by have := HJ10.out; first | omega | exact Nat.le_refl _⟩, ⟨rom HO_394002⟩, ⟨rom HO_394003⟩, ⟨rom HO_394004⟩, ⟨rom HO_406002⟩, ⟨rom HO_406003⟩, ⟨rom HO_406004⟩, ⟨rom HO_420002⟩, ⟨rom HO_420003⟩, ⟨rom HO_420004⟩, ⟨bk BK367⟩, ⟨bk BK393⟩, ⟨bk BK405⟩, ⟨bk BK419⟩, ⟨be4 HB GE367 GE393 GE405 GE419⟩⟩
     replace c91 := Bool.eq_false_iff.mpr c91
     subst c91
     rw [if_neg (show ¬ (false = true) by decide)] at H
     have H' := Aside0.mk H
     clear H
     have hnb109 := NB419_367.out
     have hnc109 := NB367_419.out
     have hnb110 := NB419_393.out
     have hnc110 := NB393_419.out
     have hnb111 := NB419_405.out
     have hnc111 := NB405_419.out
     have hcz112_0 := bz5 BK419
     have hnb113 := NB393_367.out
     have hnc113 := NB367_393.out
     have hnb114 := NB393_405.out
     have hnc114 := NB405_393.out
     have hcz115_0 := bz5 BK393
     go_wp2_with (first | (go_at_call 20; (with_reducible refine (laws_eqThree.calls kj10 t406 t407 _ _ t408 _ _ t411 _ _ t414 t380 t381 _ _ t382 _ _ t385 _ _ t388 false _ (cr HO_420002) ((Kd.R_reads' HO_420002.out).2.1) (cr HO_420003) ((Kd.R_reads' HO_420003.out).2.1) (cr HO_420004) ((Kd.R_reads' HO_420004.out).2.1) (cr HO_394002) ((Kd.R_reads' HO_394002.out).2.1) (cr HO_394003) ((Kd.R_reads' HO_394003.out).2.1) (cr HO_394004) ((Kd.R_reads' HO_394004.out).2.1) A90.out).mono ?_); rintro e w116 ⟨rfl, hb⟩; replace HO_394002 := rb HO_394002 hb; replace HO_394003 := rb HO_394003 hb; replace HO_394004 := rb HO_394004 hb; replace HO_406002 := rb HO_406002 hb; replace HO_406003 := rb HO_406003 hb; replace HO_406004 := rb HO_406004 hb; replace HO_420002 := rb HO_420002 hb; replace HO_420003 := rb HO_420003 hb; replace HO_420004 := rb HO_420004 hb; replace HO425 := rb HO425 hb; replace HO428 := rb HO428 hb; replace HO431 := rb HO431 hb; replace BK367 := bb BK367 hb; replace BK393 := bb BK393 hb; replace BK405 := bb BK405 hb; replace BK419 := bb BK419 hb; replace HB := Aside0.mk (below_step (be4 HB GE367 GE393 GE405 GE419) hb); (try clear hb)))
     go_meet
     case rel => exact ⟨_, (true), rs, H', ⟨by have := HJ10.out; first | omega | exact Nat.le_refl _⟩, ⟨rom HO_394002⟩, ⟨rom HO_394003⟩, ⟨rom HO_394004⟩, ⟨rom HO_406002⟩, ⟨rom HO_406003⟩, ⟨rom HO_406004⟩, ⟨rom HO_420002⟩, ⟨rom HO_420003⟩, ⟨rom HO_420004⟩, ⟨bk BK367⟩, ⟨bk BK393⟩, ⟨bk BK405⟩, ⟨bk BK419⟩, ⟨be4 HB GE367 GE393 GE405 GE419⟩⟩
    case rest =>
     clear HC77
     try clear c1; try clear c2; try clear p2; try clear c3; try clear c4; try clear c5; try clear c6; try clear c7; try clear c8; try clear c9; try clear c10; try clear c11; try clear c18; try clear c20; try clear c22; try clear c23; try clear c30; try clear c31; try clear c32; try clear c38; try clear c39; try clear c40; try clear c46; try clear c47; try clear c47b0; try clear c47b1; try clear c48; try clear c49; try clear c50; try clear c52; try clear c53; try clear c56; try clear c57; try clear c58; try clear c60; try clear c61; try clear c64; try clear c65; try clear c66; try clear c68; try clear c69; try clear c72; try clear c75; try clear c84; try clear c85; try clear c86; try clear c89; try clear c89b0; try clear c91; try clear c92; try clear c92b0; try clear c92b1; try clear c93; try clear c94; try clear c95; try clear c97; try clear c98; try clear c101; try clear c102; try clear c103; try clear c105; try clear c106; try clear c109; try clear c110; try clear c111; try clear c113; try clear c114; try clear hcz104_0; try clear hcz107_0; try clear hcz112_0; try clear hcz115_0; try clear hcz13_0; try clear hcz15_0; try clear hcz23_0; try clear hcz27_0; try clear hcz32_0; try clear hcz41_0; try clear hcz51_0; try clear hcz54_0; try clear hcz59_0; try clear hcz5_0; try clear hcz62_0; try clear hcz67_0; try clear hcz70_0; try clear hcz87_0; try clear hcz96_0; try clear hcz99_0
     obtain ⟨kq, x76_76, rfl, HA, HJ76, HO_394002, HO_394003, HO_394004, HO_406002, HO_406003, HO_406004, HO_420002, HO_420003, HO_420004, BK367, BK393, BK405, BK419, HB⟩ := hcut
     have hl406002_76 := (Kd.R_reads' HO_406002.out).1
     rw [hl406002_76] at HO_406002
     (try simp only [hl406002_76])
     (try simp only [hl406002_76] at BK367)
     (try simp only [hl406002_76] at BK393)
     (try simp only [hl406002_76] at BK405)
     (try simp only [hl406002_76] at BK419)
     (try simp only [hl406002_76] at HO_394002)
     (try simp only [hl406002_76] at HO_394003)
     (try simp only [hl406002_76] at HO_394004)
     (try simp only [hl406002_76] at HO_406003)
     (try simp only [hl406002_76] at HO_406004)
     (try simp only [hl406002_76] at HO_420002)
     (try simp only [hl406002_76] at HO_420003)
     (try simp only [hl406002_76] at HO_420004)
     have hl406003_76 := (Kd.R_reads' HO_406003.out).1
     rw [hl406003_76] at HO_406003
     (try simp only [hl406003_76])
     (try simp only [hl406003_76] at BK367)
     (try simp only [hl406003_76] at BK393)
     (try simp only [hl406003_76] at BK405)
     (try simp only [hl406003_76] at BK419)
     (try simp only [hl406003_76] at HO_394002)
     (try simp only [hl406003_76] at HO_394003)
     (try simp only [hl406003_76] at HO_394004)
     (try simp only [hl406003_76] at HO_406002)
     (try simp only [hl406003_76] at HO_406004)
     (try simp only [hl406003_76] at HO_420002)
     (try simp only [hl406003_76] at HO_420003)
     (try simp only [hl406003_76] at HO_420004)
     have hl406004_76 := (Kd.R_reads' HO_406004.out).1
     rw [hl406004_76] at HO_406004
     (try simp only [hl406004_76])
     (try simp only [hl406004_76] at BK367)
     (try simp only [hl406004_76] at BK393)
     (try simp only [hl406004_76] at BK405)
     (try simp only [hl406004_76] at BK419)
     (try simp only [hl406004_76] at HO_394002)
     (try simp only [hl406004_76] at HO_394003)
     (try simp only [hl406004_76] at HO_394004)
     (try simp only [hl406004_76] at HO_406002)
     (try simp only [hl406004_76] at HO_406003)
     (try simp only [hl406004_76] at HO_420002)
     (try simp only [hl406004_76] at HO_420003)
     (try simp only [hl406004_76] at HO_420004)
     cases kq with
     | zero => exact absurd HA.out (by simp [laws_FnExactEvictMain.j1])
     | succ kj76 =>
      have H := HA.out
      clear HA
      simp only [laws_FnExactEvictMain.j1] at H
      by_cases c117 : x76_76 = true
      ·subst c117
       rw [if_pos rfl] at H
       exact absurd ((Option.some.inj H).trans hrt_.out) (by decide)
      replace c117 := Bool.eq_false_iff.mpr c117
      subst c117
      rw [if_neg (show ¬ (false = true) by decide)] at H
      replace H := Option.bind_eq_some_iff.mp H
      obtain ⟨⟨t438, t439, t440, t441⟩, A1180, H⟩ := H
      try dsimp only at H
      have A118 := Aside0.mk A1180
      clear A1180
      replace H := Option.bind_eq_some_iff.mp H
      obtain ⟨t442, A1190, H⟩ := H
      try dsimp only at H
      have A119 := Aside0.mk A1190
      clear A1190
      by_cases c120 : t442 < 0
      ·rw [if_pos c120] at H
       have c120b0 : decide (t442 < 0) = true := decide_eq_true c120
       clear c120
       exact absurd ((Option.some.inj H).trans hrt_.out) (by decide)
      rw [if_neg c120] at H
      have c120b0 : decide (t442 < 0) = false := decide_eq_false c120
      clear c120
      by_cases c121 : t442 = t438
      ·rw [if_pos c121] at H
       have c121b0 : (t442 == t438) = true := beq_iff_eq.mpr c121
       have c121b1 : (t442 != t438) = false := bne_eq_false_iff_eq.mpr c121
       clear c121
       replace H := Option.bind_eq_some_iff.mp H
       obtain ⟨⟨t443, t444, t445, t448, t451⟩, A1220, H⟩ := H
       try dsimp only at H
       have A122 := Aside0.mk A1220
       clear A1220
       replace H := Option.bind_eq_some_iff.mp H
       obtain ⟨⟨t454, t455, t456, t459, t462, t465, t466⟩, A1230, H⟩ := H
       try dsimp only at H
       have A123 := Aside0.mk A1230
       clear A1230
       have HC124 := Aside0.mk H
       clear H
       have hnb125 := NB419_367.out
       have hnc125 := NB367_419.out
       have hnb126 := NB419_393.out
       have hnc126 := NB393_419.out
       have hnb127 := NB419_405.out
       have hnc127 := NB405_419.out
       have hcz128_0 := bz5 BK419
       go_upto_region 25 with (first | ((with_reducible refine gate_callee (f := 23) rfl ?_); refine gl 79 Try.func23 #[.agg #[.int .i64 t406, .int .i64 t407, .slice Ao42 t408.length co42, .slice Ao43 t411.length co43, .slice Ao44 t414.length co44], .int .i64 1] ?_; (with_reducible refine (laws_markThree.calls kj76 t406 t407 (fun k_ => some k_ = (.slice Ao42 t408.length co42 : Value).ownBlock) (.slice Ao42 t408.length co42) t408 (fun k_ => some k_ = (.slice Ao43 t411.length co43 : Value).ownBlock) (.slice Ao43 t411.length co43) t411 (fun k_ => some k_ = (.slice Ao44 t414.length co44 : Value).ownBlock) (.slice Ao44 t414.length co44) t414 1 t438 t439 t440 t441 w _ ?side1 ?side2 ?side3 ?side4 ?side5 ?side6 A118.out).mono ?_); (case side1 => repeat (first | (with_reducible first | exact HB.out | apply below_alloc | apply pw_below_drewN | apply below_drew1 | refine below_set ?_ GE367.out | refine below_set ?_ GE393.out | refine below_set ?_ GE405.out | refine below_set ?_ GE419.out) | exact HB.out)); (case side2 => exact Kd.R_tight rfl HO_420002.out); (case side3 => exact fun k_ e_ => (HO_420002.out.1 k_ e_.symm).2.2.2.2); (case side4 => exact Kd.R_tight rfl HO_420003.out); (case side5 => exact fun k_ e_ => (HO_420003.out.1 k_ e_.symm).2.2.2.2); (case side6 => exact Kd.R_tight rfl HO_420004.out); rintro e w129 ⟨rfl, hy0, hy1, hy2, hb, hkp⟩; refine ⟨_, rfl, ?_⟩; replace HO_394002 := Aside0.mk (Kd.R_mono (ok' := fun k_ => nb k_ Ao25 t385.length co25 ∧ nb k_ Ao33 t434.length co33 ∧ nb k_ Ao34 t435.length co34 ∧ nb k_ Ao42 t408.length co42 ∧ nb k_ Ao43 t411.length co43) (Kd.R_keptB ((Kd.R_apart' HO_394002.out (Kd.R_typed HO_420004.out) (by decide))) hkp (fun k_ hk_ hs_ => Or.elim hs_ (fun e_ => (hk_.1.2.2.2.1) e_) (fun e_ => Or.elim e_ (fun e_ => (hk_.1.2.2.2.2) e_) (fun e_ => (hk_.2) e_)))) cj); replace HO_394003 := Aside0.mk (Kd.R_mono (ok' := fun k_ => nb k_ Ao24 t382.length co24 ∧ nb k_ Ao33 t434.length co33 ∧ nb k_ Ao34 t435.length co34 ∧ nb k_ Ao42 t408.length co42 ∧ nb k_ Ao43 t411.length co43) (Kd.R_keptB ((Kd.R_apart' HO_394003.out (Kd.R_typed HO_420004.out) (by decide))) hkp (fun k_ hk_ hs_ => Or.elim hs_ (fun e_ => (hk_.1.2.2.2.1) e_) (fun e_ => Or.elim e_ (fun e_ => (hk_.1.2.2.2.2) e_) (fun e_ => (hk_.2) e_)))) cj); replace HO_394004 := Aside0.mk (Kd.R_mono (ok' := fun k_ => nb k_ Ao35 t436.length co35 ∧ nb k_ Ao44 t414.length co44) (Kd.R_keptB ((Kd.R_apart' (Kd.R_apart' HO_394004.out (Kd.R_typed HO_420002.out) (by decide)) (Kd.R_typed HO_420003.out) (by decide))) hkp (fun k_ hk_ hs_ => Or.elim hs_ (fun e_ => (hk_.1.2) e_) (fun e_ => Or.elim e_ (fun e_ => (hk_.2) e_) (fun e_ => (hk_.1.1.2) e_)))) cj); replace HO_406002 := Aside0.mk (Kd.R_mono (ok' := fun k_ => nb k_ Ao24 t382.length co24 ∧ nb k_ Ao25 t385.length co25 ∧ nb k_ Ao34 t435.length co34 ∧ nb k_ Ao42 t408.length co42 ∧ nb k_ Ao43 t411.length co43) (Kd.R_keptB ((Kd.R_apart' HO_406002.out (Kd.R_typed HO_420004.out) (by decide))) hkp (fun k_ hk_ hs_ => Or.elim hs_ (fun e_ => (hk_.1.2.2.2.1) e_) (fun e_ => Or.elim e_ (fun e_ => (hk_.1.2.2.2.2) e_) (fun e_ => (hk_.2) e_)))) cj); replace HO_406003 := Aside0.mk (Kd.R_mono (ok' := fun k_ => nb k_ Ao24 t382.length co24 ∧ nb k_ Ao25 t385.length co25 ∧ nb k_ Ao33 t434.length co33 ∧ nb k_ Ao42 t408.length co42 ∧ nb k_ Ao43 t411.length co43) (Kd.R_keptB ((Kd.R_apart' HO_406003.out (Kd.R_typed HO_420004.out) (by decide))) hkp (fun k_ hk_ hs_ => Or.elim hs_ (fun e_ => (hk_.1.2.2.2.1) e_) (fun e_ => Or.elim e_ (fun e_ => (hk_.1.2.2.2.2) e_) (fun e_ => (hk_.2) e_)))) cj); replace HO_406004 := Aside0.mk (Kd.R_mono (ok' := fun k_ => nb k_ Ao26 t388.length co26 ∧ nb k_ Ao44 t414.length co44) (Kd.R_keptB ((Kd.R_apart' (Kd.R_apart' HO_406004.out (Kd.R_typed HO_420002.out) (by decide)) (Kd.R_typed HO_420003.out) (by decide))) hkp (fun k_ hk_ hs_ => Or.elim hs_ (fun e_ => (hk_.1.2) e_) (fun e_ => Or.elim e_ (fun e_ => (hk_.2) e_) (fun e_ => (hk_.1.1.2) e_)))) cj); replace BK367 := Aside0.mk (blk_kept (bk BK367) hkp (fun hs_ => Or.elim hs_ (fun e_ => (fun e_ => (Kd.R_ne HO_420002.out BK367.out (by decide)) e_) e_) (fun e_ => Or.elim e_ (fun e_ => (fun e_ => (Kd.R_ne HO_420003.out BK367.out (by decide)) e_) e_) (fun e_ => (fun e_ => (Kd.R_ne HO_420004.out BK367.out (by decide)) e_) e_)))); replace BK393 := Aside0.mk (blk_kept (bk BK393) hkp (fun hs_ => Or.elim hs_ (fun e_ => (fun e_ => (Kd.R_ne HO_420002.out BK393.out (by decide)) e_) e_) (fun e_ => Or.elim e_ (fun e_ => (fun e_ => (Kd.R_ne HO_420003.out BK393.out (by decide)) e_) e_) (fun e_ => (fun e_ => (Kd.R_ne HO_420004.out BK393.out (by decide)) e_) e_)))); replace BK405 := Aside0.mk (blk_kept (bk BK405) hkp (fun hs_ => Or.elim hs_ (fun e_ => (fun e_ => (Kd.R_ne HO_420002.out BK405.out (by decide)) e_) e_) (fun e_ => Or.elim e_ (fun e_ => (fun e_ => (Kd.R_ne HO_420003.out BK405.out (by decide)) e_) e_) (fun e_ => (fun e_ => (Kd.R_ne HO_420004.out BK405.out (by decide)) e_) e_)))); replace BK419 := Aside0.mk (blk_kept (bk BK419) hkp (fun hs_ => Or.elim hs_ (fun e_ => (fun e_ => (Kd.R_ne HO_420002.out BK419.out (by decide)) e_) e_) (fun e_ => Or.elim e_ (fun e_ => (fun e_ => (Kd.R_ne HO_420003.out BK419.out (by decide)) e_) e_) (fun e_ => (fun e_ => (Kd.R_ne HO_420004.out BK419.out (by decide)) e_) e_)))); replace HO_420002 := Aside0.mk (Kd.R_reok rfl hy0 (fun k_ e_ => HO_420002.out.1 k_ e_)); replace HO_420003 := Aside0.mk (Kd.R_reok rfl hy1 (fun k_ e_ => HO_420003.out.1 k_ e_)); replace HO_420004 := Aside0.mk (Kd.R_reok rfl hy2 (fun k_ e_ => HO_420004.out.1 k_ e_)); replace HB := Aside0.mk (hb); (try clear hb); (try clear hkp); (try clear hy0); (try clear hy1); (try clear hy2); have hcz130_0 := bz5 BK419) | ((with_reducible refine gate_callee (f := 24) rfl ?_); refine goesL_ (some 82) rfl rfl Try.func24 (by kernel_rfl) rfl #[.agg #[.int .i64 t406, .int .i64 t407, .slice Ao42 t439.length co42, .slice Ao43 t440.length co43, .slice Ao44 t441.length co44], .int .i64 1] rfl (by (try simp only [List.map_toArray, List.map_cons, List.map_nil]); first | done | (rw [show t439.length = t408.length from (Kd.R_reads' HO_420002.out).1.symm, show t440.length = t411.length from (Kd.R_reads' HO_420003.out).1.symm, show t441.length = t414.length from (Kd.R_reads' HO_420004.out).1.symm] <;> rfl) | rfl | (simp only [List.length_drop, List.length_take]; rfl)) ?_; (with_reducible refine (laws_heldThree.calls kj76 t406 t407 _ _ t439 _ _ t440 _ _ t441 1 t442 _ (cr HO_420002) ?side2 (cr HO_420003) ?side4 (cr HO_420004) ?side6 A119.out).mono ?_); (case side2 => rw [show t439.length = t408.length from (Kd.R_reads' HO_420002.out).1.symm]; exact (Kd.R_reads' HO_420002.out).2.1); (case side4 => rw [show t440.length = t411.length from (Kd.R_reads' HO_420003.out).1.symm]; exact (Kd.R_reads' HO_420003.out).2.1); (case side6 => rw [show t441.length = t414.length from (Kd.R_reads' HO_420004.out).1.symm]; exact (Kd.R_reads' HO_420004.out).2.1); rintro e w131 ⟨rfl, hb⟩; refine ⟨_, rfl, ?_⟩; replace HO_394002 := rb HO_394002 hb; replace HO_394003 := rb HO_394003 hb; replace HO_394004 := rb HO_394004 hb; replace HO_406002 := rb HO_406002 hb; replace HO_406003 := rb HO_406003 hb; replace HO_406004 := rb HO_406004 hb; replace HO_420002 := rb HO_420002 hb; replace HO_420003 := rb HO_420003 hb; replace HO_420004 := rb HO_420004 hb; replace BK367 := bb BK367 hb; replace BK393 := bb BK393 hb; replace BK405 := bb BK405 hb; replace BK419 := bb BK419 hb; replace HB := Aside0.mk (below_step (be4 HB GE367 GE393 GE405 GE419) hb); (try clear hb); have hnb132 := NB367_393.out; have hnc132 := NB393_367.out; have hnb133 := NB367_405.out; have hnc133 := NB405_367.out; have hcz134_0 := bz5 BK367) | ((with_reducible refine gate_callee (f := 18) rfl ?_); refine gl 90 Try.func18 #[.agg #[.int .i64 a0_0, .int .i64 a0_1, .slice A0_2 l0_2.length c0_2, .slice A0_3 l0_3.length c0_3, .slice A0_4 l0_4.length c0_4]] ?_; (with_reducible refine (laws_toThree.calls kj76 a0_0 a0_1 _ _ l0_2 _ _ l0_3 _ _ l0_4 t443 t444 t445 t448 t451 _ (cb HR0_2 HB) HC0_2.out (cb HR0_3 HB) HC0_3.out (cb HR0_4 HB) HC0_4.out A122.out).mono ?_); rintro e w135 ⟨v446, v449, v452, rfl, ho0, ho1, ho2, hb⟩; refine ⟨_, rfl, ?_⟩; have HO447 := Aside0.mk (Kd.R_lower (nw (nw (nw (nw (nw (nw ho0 HO_394002) HO_394003) HO_406002) HO_406003) HO_420002) HO_420003) (below_size (be4 HB GE367 GE393 GE405 GE419))); have HO450 := Aside0.mk (Kd.R_lower (nw (nw (nw (nw (nw (nw ho1 HO_394002) HO_394003) HO_406002) HO_406003) HO_420002) HO_420003) (below_size (be4 HB GE367 GE393 GE405 GE419))); replace HO_394002 := td2 (ro HO_394002) hb ho0 ho1; replace HO_394003 := td2 (ro HO_394003) hb ho0 ho1; replace HO_406002 := td2 (ro HO_406002) hb ho0 ho1; replace HO_406003 := td2 (ro HO_406003) hb ho0 ho1; replace HO_420002 := td2 (ro HO_420002) hb ho0 ho1; replace HO_420003 := td2 (ro HO_420003) hb ho0 ho1; have HO453 := Aside0.mk (Kd.R_lower (nw (nw (nw ho2 HO_394004) HO_406004) HO_420004) (below_size (be4 HB GE367 GE393 GE405 GE419))); replace HO_394004 := Aside0.mk (Kd.R_elder' (ro HO_394004) (Kd.R_base ho2) hb); replace HO_406004 := Aside0.mk (Kd.R_elder' (ro HO_406004) (Kd.R_base ho2) hb); replace HO_420004 := Aside0.mk (Kd.R_elder' (ro HO_420004) (Kd.R_base ho2) hb); replace BK367 := bb BK367 hb; replace BK393 := bb BK393 hb; replace BK405 := bb BK405 hb; replace BK419 := bb BK419 hb; replace HB := Aside0.mk (below_step (be4 HB GE367 GE393 GE405 GE419) hb); (try clear hb); (try clear ho0); (try clear ho1); (try clear ho2); obtain ⟨Ao136, co136, eo136⟩ := Kd.R_slice HO447.out; subst eo136; obtain ⟨Ao137, co137, eo137⟩ := Kd.R_slice HO450.out; subst eo137; obtain ⟨Ao138, co138, eo138⟩ := Kd.R_slice HO453.out; subst eo138) | ((with_reducible refine gate_callee (f := 32) rfl ?_); refine gl 91 Try.func32 #[.agg #[.int .i64 t443, .int .i64 t444, .slice Ao136 t445.length co136, .slice Ao137 t448.length co137, .slice Ao138 t451.length co138]] ?_; (with_reducible refine (impl_EvictMain.calls kj76 t443 t444 _ _ t445 _ _ t448 _ _ t451 t454 t455 t456 t459 t462 t465 t466 _ (cr HO447) ((Kd.R_reads' HO447.out).2.1) (cr HO450) ((Kd.R_reads' HO450.out).2.1) (cr HO453) ((Kd.R_reads' HO453.out).2.1) A123.out).mono ?_); rintro e w139 ⟨v457, v460, v463, rfl, ho0, ho1, ho2, hb⟩; refine ⟨_, rfl, ?_⟩; have HO458 := Aside0.mk (Kd.R_lower (nw (nw (nw (nw (nw (nw (nw (nw ho0 HO_394002) HO_394003) HO_406002) HO_406003) HO_420002) HO_420003) HO447) HO450) (below_size (be4 HB GE367 GE393 GE405 GE419))); have HO461 := Aside0.mk (Kd.R_lower (nw (nw (nw (nw (nw (nw (nw (nw ho1 HO_394002) HO_394003) HO_406002) HO_406003) HO_420002) HO_420003) HO447) HO450) (below_size (be4 HB GE367 GE393 GE405 GE419))); replace HO_394002 := td2 (ro HO_394002) hb ho0 ho1; replace HO_394003 := td2 (ro HO_394003) hb ho0 ho1; replace HO_406002 := td2 (ro HO_406002) hb ho0 ho1; replace HO_406003 := td2 (ro HO_406003) hb ho0 ho1; replace HO_420002 := td2 (ro HO_420002) hb ho0 ho1; replace HO_420003 := td2 (ro HO_420003) hb ho0 ho1; replace HO447 := td2 (ro HO447) hb ho0 ho1; replace HO450 := td2 (ro HO450) hb ho0 ho1; have HO464 := Aside0.mk (Kd.R_lower (nw (nw (nw (nw ho2 HO_394004) HO_406004) HO_420004) HO453) (below_size (be4 HB GE367 GE393 GE405 GE419))); replace HO_394004 := Aside0.mk (Kd.R_elder' (ro HO_394004) (Kd.R_base ho2) hb); replace HO_406004 := Aside0.mk (Kd.R_elder' (ro HO_406004) (Kd.R_base ho2) hb); replace HO_420004 := Aside0.mk (Kd.R_elder' (ro HO_420004) (Kd.R_base ho2) hb); replace HO453 := Aside0.mk (Kd.R_elder' (ro HO453) (Kd.R_base ho2) hb); replace BK367 := bb BK367 hb; replace BK393 := bb BK393 hb; replace BK405 := bb BK405 hb; replace BK419 := bb BK419 hb; replace HB := Aside0.mk (below_step (be4 HB GE367 GE393 GE405 GE419) hb); (try clear hb); (try clear ho0); (try clear ho1); (try clear ho2)) | ((with_reducible refine gate_dst (N := 14) rfl ?_); refine bx 14 #[.int .i64 0, .int .i64 0, .slice none 0 0, .slice none 0 0, .slice none 0 0] 30 ?_; intro gb467 hg w140 hbox hb; replace HO_394002 := rb HO_394002 hb; replace HO_394003 := rb HO_394003 hb; replace HO_394004 := rb HO_394004 hb; replace HO_406002 := rb HO_406002 hb; replace HO_406003 := rb HO_406003 hb; replace HO_406004 := rb HO_406004 hb; replace HO_420002 := rb HO_420002 hb; replace HO_420003 := rb HO_420003 hb; replace HO_420004 := rb HO_420004 hb; replace HO447 := rb HO447 hb; replace HO450 := rb HO450 hb; replace HO453 := rb HO453 hb; replace HO458 := rb HO458 hb; replace HO461 := rb HO461 hb; replace HO464 := rb HO464 hb; have BK467 := am hbox; have GW467 := Aside0.mk ((by rw [hg]; exact (below_size (be4 HB GE367 GE393 GE405 GE419)) : w.heap.size ≤ gb467)); have GE467 := Aside0.mk ((by rw [hg]; exact (below_size (be4 HB GE367 GE393 GE405 GE419)) : w.heap.size ≤ gb467)); replace HB := Aside0.mk (below_step (be4 HB GE367 GE393 GE405 GE419) hb); have NB367_467 := Aside0.mk ((by rw [hg]; exact Nat.ne_of_lt (bl BK367) : gb367 ≠ gb467)); have NB467_367 := Aside0.mk ((by rw [hg]; exact Nat.ne_of_gt (bl BK367) : gb467 ≠ gb367)); replace BK367 := bb BK367 hb; have NB393_467 := Aside0.mk ((by rw [hg]; exact Nat.ne_of_lt (bl BK393) : gb393 ≠ gb467)); have NB467_393 := Aside0.mk ((by rw [hg]; exact Nat.ne_of_gt (bl BK393) : gb467 ≠ gb393)); replace BK393 := bb BK393 hb; have NB405_467 := Aside0.mk ((by rw [hg]; exact Nat.ne_of_lt (bl BK405) : gb405 ≠ gb467)); have NB467_405 := Aside0.mk ((by rw [hg]; exact Nat.ne_of_gt (bl BK405) : gb467 ≠ gb405)); replace BK405 := bb BK405 hb; have NB419_467 := Aside0.mk ((by rw [hg]; exact Nat.ne_of_lt (bl BK419) : gb419 ≠ gb467)); have NB467_419 := Aside0.mk ((by rw [hg]; exact Nat.ne_of_gt (bl BK419) : gb467 ≠ gb419)); replace BK419 := bb BK419 hb; clear hb hbox hg; have hnb141 := NB467_367.out; have hnc141 := NB367_467.out; have hnb142 := NB467_393.out; have hnc142 := NB393_467.out; have hnb143 := NB467_405.out; have hnc143 := NB405_467.out; have hnb144 := NB467_419.out; have hnc144 := NB419_467.out; have hcz145_0 := bz5 BK467; obtain ⟨Ao146, co146, eo146⟩ := Kd.R_slice HO458.out; subst eo146; obtain ⟨Ao147, co147, eo147⟩ := Kd.R_slice HO461.out; subst eo147; obtain ⟨Ao148, co148, eo148⟩ := Kd.R_slice HO464.out; subst eo148))
       (try simp only [Act.put, List.setIfInBounds_toArray, List.set_cons_zero, List.set_cons_succ])
       go_cut [108] (fun v108 wc => ∃ (kq : Nat) (x108_123 : Bool), v108 = .bool x108_123 ∧ Aside0 (laws_FnExactEvictMain.j2 kq t438 x108_123 t406 t407 t439 t440 t441 = some r) ∧ Aside0 (kq ≤ kj76) ∧ Aside0 (Kd.R k68 68 wc w.heap.size (fun k_ => nb k_ Ao25 t385.length co25 ∧ nb k_ Ao33 t434.length co33 ∧ nb k_ Ao34 t435.length co34 ∧ nb k_ Ao42 t408.length co42 ∧ nb k_ Ao43 t411.length co43 ∧ nb k_ Ao146 t456.length co146 ∧ nb k_ Ao147 t459.length co147) (.slice Ao24 t382.length co24) t382) ∧ Aside0 (Kd.R k68 68 wc w.heap.size (fun k_ => nb k_ Ao24 t382.length co24 ∧ nb k_ Ao33 t434.length co33 ∧ nb k_ Ao34 t435.length co34 ∧ nb k_ Ao42 t408.length co42 ∧ nb k_ Ao43 t411.length co43 ∧ nb k_ Ao146 t456.length co146 ∧ nb k_ Ao147 t459.length co147) (.slice Ao25 t385.length co25) t385) ∧ Aside0 (Kd.R (Kd.int .i64) 3 wc w.heap.size (fun k_ => nb k_ Ao35 t436.length co35 ∧ nb k_ Ao44 t414.length co44 ∧ nb k_ Ao148 t462.length co148) (.slice Ao26 t388.length co26) t388) ∧ Aside0 (Kd.R k68 68 wc w.heap.size (fun k_ => nb k_ Ao24 t382.length co24 ∧ nb k_ Ao25 t385.length co25 ∧ nb k_ Ao34 t435.length co34 ∧ nb k_ Ao42 t408.length co42 ∧ nb k_ Ao43 t411.length co43 ∧ nb k_ Ao146 t456.length co146 ∧ nb k_ Ao147 t459.length co147) (.slice Ao33 t434.length co33) t434) ∧ Aside0 (Kd.R k68 68 wc w.heap.size (fun k_ => nb k_ Ao24 t382.length co24 ∧ nb k_ Ao25 t385.length co25 ∧ nb k_ Ao33 t434.length co33 ∧ nb k_ Ao42 t408.length co42 ∧ nb k_ Ao43 t411.length co43 ∧ nb k_ Ao146 t456.length co146 ∧ nb k_ Ao147 t459.length co147) (.slice Ao34 t435.length co34) t435) ∧ Aside0 (Kd.R (Kd.int .i64) 3 wc w.heap.size (fun k_ => nb k_ Ao26 t388.length co26 ∧ nb k_ Ao44 t414.length co44 ∧ nb k_ Ao148 t462.length co148) (.slice Ao35 t436.length co35) t436) ∧ Aside0 (Kd.R k68 68 wc w.heap.size (fun k_ => nb k_ Ao24 t382.length co24 ∧ nb k_ Ao25 t385.length co25 ∧ nb k_ Ao33 t434.length co33 ∧ nb k_ Ao34 t435.length co34 ∧ nb k_ Ao43 t411.length co43 ∧ nb k_ Ao146 t456.length co146 ∧ nb k_ Ao147 t459.length co147) (.slice Ao42 t408.length co42) t439) ∧ Aside0 (Kd.R k68 68 wc w.heap.size (fun k_ => nb k_ Ao24 t382.length co24 ∧ nb k_ Ao25 t385.length co25 ∧ nb k_ Ao33 t434.length co33 ∧ nb k_ Ao34 t435.length co34 ∧ nb k_ Ao42 t408.length co42 ∧ nb k_ Ao146 t456.length co146 ∧ nb k_ Ao147 t459.length co147) (.slice Ao43 t411.length co43) t440) ∧ Aside0 (Kd.R (Kd.int .i64) 3 wc w.heap.size (fun k_ => nb k_ Ao26 t388.length co26 ∧ nb k_ Ao35 t436.length co35 ∧ nb k_ Ao148 t462.length co148) (.slice Ao44 t414.length co44) t441) ∧ Aside0 (Kd.R k68 68 wc w.heap.size (fun k_ => nb k_ Ao24 t382.length co24 ∧ nb k_ Ao25 t385.length co25 ∧ nb k_ Ao33 t434.length co33 ∧ nb k_ Ao34 t435.length co34 ∧ nb k_ Ao42 t408.length co42 ∧ nb k_ Ao43 t411.length co43 ∧ nb k_ Ao147 t459.length co147) (.slice Ao146 t456.length co146) t456) ∧ Aside0 (Kd.R k68 68 wc w.heap.size (fun k_ => nb k_ Ao24 t382.length co24 ∧ nb k_ Ao25 t385.length co25 ∧ nb k_ Ao33 t434.length co33 ∧ nb k_ Ao34 t435.length co34 ∧ nb k_ Ao42 t408.length co42 ∧ nb k_ Ao43 t411.length co43 ∧ nb k_ Ao146 t456.length co146) (.slice Ao147 t459.length co147) t459) ∧ Aside0 (Kd.R (Kd.int .i64) 3 wc w.heap.size (fun k_ => nb k_ Ao26 t388.length co26 ∧ nb k_ Ao35 t436.length co35 ∧ nb k_ Ao44 t414.length co44) (.slice Ao148 t462.length co148) t462) ∧ Aside0 (wc.heap[gb367]? = some (.cells #[.int .i64 a0_0, .int .i64 a0_1, (.slice A0_2 l0_2.length c0_2), (.slice A0_3 l0_3.length c0_3), (.slice A0_4 l0_4.length c0_4)] 25 (0, 0))) ∧ Aside0 (wc.heap[gb393]? = some (.cells #[.int .i64 t380, .int .i64 t381, (.slice Ao24 t382.length co24), (.slice Ao25 t385.length co25), (.slice Ao26 t388.length co26)] 30 (0, 0))) ∧ Aside0 (wc.heap[gb405]? = some (.cells #[.int .i64 t394, .int .i64 t395, (.slice Ao33 t434.length co33), (.slice Ao34 t435.length co34), (.slice Ao35 t436.length co35)] 30 (0, 0))) ∧ Aside0 (wc.heap[gb419]? = some (.cells #[.int .i64 t406, .int .i64 t407, (.slice Ao42 t408.length co42), (.slice Ao43 t411.length co43), (.slice Ao44 t414.length co44)] 30 (0, 0))) ∧ Aside0 (wc.heap[gb467]? = some (.cells #[.int .i64 t454, .int .i64 t455, (.slice Ao146 t456.length co146), (.slice Ao147 t459.length co147), (.slice Ao148 t462.length co148)] 30 (0, 0))) ∧ Aside0 (Below w.heap.size w wc))
       case first =>
        have H := HC124.out
        clear HC124
        replace H := Option.bind_eq_some_iff.mp H
        obtain ⟨t468, A1490, H⟩ := H
        try dsimp only at H
        have A149 := Aside0.mk A1490
        clear A1490
        by_cases c150 : t468 = true
        ·subst c150
         rw [if_pos rfl] at H
         by_cases c151 : t465.toList = t391.toList
         ·rw [if_pos c151] at H
          have c151b0 : (t465.toList == t391.toList) = true := beq_iff_eq.mpr c151
          have c151b1 : (t465.toList != t391.toList) = false := bne_eq_false_iff_eq.mpr c151
          clear c151
          (first | rw [c151b0] | (simp only [i64_w, i32_w]; rw [c151b0]) | skip)
          have H' := Aside0.mk H
          clear H
          have hnb152 := NB467_367.out
          have hnc152 := NB367_467.out
          have hnb153 := NB467_393.out
          have hnc153 := NB393_467.out
          have hnb154 := NB467_405.out
          have hnc154 := NB405_467.out
          have hnb155 := NB467_419.out
          have hnc155 := NB419_467.out
          have hcz156_0 := bz5 BK467
          have hnb157 := NB393_367.out
          have hnc157 := NB367_393.out
          have hnb158 := NB393_405.out
          have hnc158 := NB405_393.out
          have hnb159 := NB393_419.out
          have hnc159 := NB419_393.out
          have hcz160_0 := bz5 BK393
          go_wp2_with (first | ((with_reducible refine gate_callee (f := 20) rfl ?_); refine gl 97 Try.func20 #[.agg #[.int .i64 t454, .int .i64 t455, .slice Ao146 t456.length co146, .slice Ao147 t459.length co147, .slice Ao148 t462.length co148], .agg #[.int .i64 t380, .int .i64 t381, .slice Ao24 t382.length co24, .slice Ao25 t385.length co25, .slice Ao26 t388.length co26]] ?_; (with_reducible refine (laws_eqThree.calls kj76 t454 t455 _ _ t456 _ _ t459 _ _ t462 t380 t381 _ _ t382 _ _ t385 _ _ t388 true _ ?side1 ((Kd.R_reads' HO458.out).2.1) ?side3 ((Kd.R_reads' HO461.out).2.1) ?side5 ((Kd.R_reads' HO464.out).2.1) ?side7 ((Kd.R_reads' HO_394002.out).2.1) ?side9 ((Kd.R_reads' HO_394003.out).2.1) ?side11 ((Kd.R_reads' HO_394004.out).2.1) A149.out).mono ?_); (case side1 => exact rfr _ HO458 BK467); (case side3 => exact rfr _ HO461 BK467); (case side5 => exact rfr _ HO464 BK467); (case side7 => exact rfr _ HO_394002 BK467); (case side9 => exact rfr _ HO_394003 BK467); (case side11 => exact rfr _ HO_394004 BK467); rintro e w161 ⟨rfl, hb⟩; refine ⟨_, rfl, ?_⟩; replace HO_394002 := Aside0.mk (Kd.R_below (rf HO_394002 BK467) hb); replace HO_394003 := Aside0.mk (Kd.R_below (rf HO_394003 BK467) hb); replace HO_394004 := Aside0.mk (Kd.R_below (rf HO_394004 BK467) hb); replace HO_406002 := Aside0.mk (Kd.R_below (rf HO_406002 BK467) hb); replace HO_406003 := Aside0.mk (Kd.R_below (rf HO_406003 BK467) hb); replace HO_406004 := Aside0.mk (Kd.R_below (rf HO_406004 BK467) hb); replace HO_420002 := Aside0.mk (Kd.R_below (rf HO_420002 BK467) hb); replace HO_420003 := Aside0.mk (Kd.R_below (rf HO_420003 BK467) hb); replace HO_420004 := Aside0.mk (Kd.R_below (rf HO_420004 BK467) hb); replace HO447 := Aside0.mk (Kd.R_below (rf HO447 BK467) hb); replace HO450 := Aside0.mk (Kd.R_below (rf HO450 BK467) hb); replace HO453 := Aside0.mk (Kd.R_below (rf HO453 BK467) hb); replace HO458 := Aside0.mk (Kd.R_below (rf HO458 BK467) hb); replace HO461 := Aside0.mk (Kd.R_below (rf HO461 BK467) hb); replace HO464 := Aside0.mk (Kd.R_below (rf HO464 BK467) hb); replace BK367 := Aside0.mk (blk_below (g := gb367) (o := .cells #[.int .i64 a0_0, .int .i64 a0_1, .slice A0_2 l0_2.length c0_2, .slice A0_3 l0_3.length c0_3, .slice A0_4 l0_4.length c0_4] 25 (0, 0)) (bf1 BK367 NB367_467) hb); replace BK393 := Aside0.mk (blk_below (g := gb393) (o := .cells #[.int .i64 t380, .int .i64 t381, .slice Ao24 t382.length co24, .slice Ao25 t385.length co25, .slice Ao26 t388.length co26] 30 (0, 0)) (bf1 BK393 NB393_467) hb); replace BK405 := Aside0.mk (blk_below (g := gb405) (o := .cells #[.int .i64 t394, .int .i64 t395, .slice Ao33 t434.length co33, .slice Ao34 t435.length co34, .slice Ao35 t436.length co35] 30 (0, 0)) (bf1 BK405 NB405_467) hb); replace BK419 := Aside0.mk (blk_below (g := gb419) (o := .cells #[.int .i64 t406, .int .i64 t407, .slice Ao42 t408.length co42, .slice Ao43 t411.length co43, .slice Ao44 t414.length co44] 30 (0, 0)) (bf1 BK419 NB419_467) hb); replace BK467 := Aside0.mk (blk_below (g := gb467) (o := .cells #[.int .i64 t454, .int .i64 t455, .slice Ao146 t456.length co146, .slice Ao147 t459.length co147, .slice Ao148 t462.length co148] 30 (0, 0)) (by (with_reducible repeat (first | refine blk_drewN ?_ _ | refine blk_drew ?_ | refine blk_alloc ?_ _)); refine blk_put (cs := #[.int .i64 t454, .int .i64 t455, .slice Ao146 t456.length co146, .slice Ao147 t459.length co147, .slice none 0 0]) ?_ 4 _ rfl; (with_reducible repeat (first | refine blk_drewN ?_ _ | refine blk_drew ?_ | refine blk_alloc ?_ _)); refine blk_put (cs := #[.int .i64 t454, .int .i64 t455, .slice Ao146 t456.length co146, .slice none 0 0, .slice none 0 0]) ?_ 3 _ rfl; (with_reducible repeat (first | refine blk_drewN ?_ _ | refine blk_drew ?_ | refine blk_alloc ?_ _)); refine blk_put (cs := #[.int .i64 t454, .int .i64 t455, .slice none 0 0, .slice none 0 0, .slice none 0 0]) ?_ 2 _ rfl; (with_reducible repeat (first | refine blk_drewN ?_ _ | refine blk_drew ?_ | refine blk_alloc ?_ _)); refine blk_put (cs := #[.int .i64 t454, .int .i64 0, .slice none 0 0, .slice none 0 0, .slice none 0 0]) ?_ 1 _ rfl; (with_reducible repeat (first | refine blk_drewN ?_ _ | refine blk_drew ?_ | refine blk_alloc ?_ _)); refine blk_put (cs := #[.int .i64 0, .int .i64 0, .slice none 0 0, .slice none 0 0, .slice none 0 0]) ?_ 0 _ rfl; (with_reducible repeat (first | refine blk_drewN ?_ _ | refine blk_drew ?_ | refine blk_alloc ?_ _)); exact BK467.out) hb); replace HB := Aside0.mk (below_step (be5 HB GE367 GE393 GE405 GE419 GE467) hb); (try clear hb)))
          go_meet
          case rel => exact ⟨_, ((t466 != t392)), rs, H', ⟨by have := HJ10.out; have := HJ76.out; first | omega | exact Nat.le_refl _⟩, ⟨by (try simp only [hl406002_76, hl406003_76, hl406004_76]); (with_reducible repeat (first | apply Kd.R_alloc | apply Kd.R_drewN | apply Kd.R_drew)); exact rm HO_394002⟩, ⟨by (try simp only [hl406002_76, hl406003_76, hl406004_76]); (with_reducible repeat (first | apply Kd.R_alloc | apply Kd.R_drewN | apply Kd.R_drew)); exact rm HO_394003⟩, ⟨by (try simp only [hl406002_76, hl406003_76, hl406004_76]); (with_reducible repeat (first | apply Kd.R_alloc | apply Kd.R_drewN | apply Kd.R_drew)); exact rm HO_394004⟩, ⟨by (try simp only [hl406002_76, hl406003_76, hl406004_76]); (with_reducible repeat (first | apply Kd.R_alloc | apply Kd.R_drewN | apply Kd.R_drew)); exact rm HO_406002⟩, ⟨by (try simp only [hl406002_76, hl406003_76, hl406004_76]); (with_reducible repeat (first | apply Kd.R_alloc | apply Kd.R_drewN | apply Kd.R_drew)); exact rm HO_406003⟩, ⟨by (try simp only [hl406002_76, hl406003_76, hl406004_76]); (with_reducible repeat (first | apply Kd.R_alloc | apply Kd.R_drewN | apply Kd.R_drew)); exact rm HO_406004⟩, ⟨by (try simp only [hl406002_76, hl406003_76, hl406004_76]); (with_reducible repeat (first | apply Kd.R_alloc | apply Kd.R_drewN | apply Kd.R_drew)); exact rm HO_420002⟩, ⟨by (try simp only [hl406002_76, hl406003_76, hl406004_76]); (with_reducible repeat (first | apply Kd.R_alloc | apply Kd.R_drewN | apply Kd.R_drew)); exact rm HO_420003⟩, ⟨by (try simp only [hl406002_76, hl406003_76, hl406004_76]); (with_reducible repeat (first | apply Kd.R_alloc | apply Kd.R_drewN | apply Kd.R_drew)); exact rm HO_420004⟩, ⟨by (try simp only [hl406002_76, hl406003_76, hl406004_76]); (with_reducible repeat (first | apply Kd.R_alloc | apply Kd.R_drewN | apply Kd.R_drew)); exact rm HO458⟩, ⟨by (try simp only [hl406002_76, hl406003_76, hl406004_76]); (with_reducible repeat (first | apply Kd.R_alloc | apply Kd.R_drewN | apply Kd.R_drew)); exact rm HO461⟩, ⟨by (try simp only [hl406002_76, hl406003_76, hl406004_76]); (with_reducible repeat (first | apply Kd.R_alloc | apply Kd.R_drewN | apply Kd.R_drew)); exact rm HO464⟩, ⟨by (try simp only [hl406002_76, hl406003_76, hl406004_76]); (with_reducible repeat (first | refine blk_drewN ?_ _ | refine blk_drew ?_ | refine blk_alloc ?_ _)); exact BK367.out⟩, ⟨by (try simp only [hl406002_76, hl406003_76, hl406004_76]); (with_reducible repeat (first | refine blk_drewN ?_ _ | refine blk_drew ?_ | refine blk_alloc ?_ _)); exact BK393.out⟩, ⟨by (try simp only [hl406002_76, hl406003_76, hl406004_76]); (with_reducible repeat (first | refine blk_drewN ?_ _ | refine blk_drew ?_ | refine blk_alloc ?_ _)); exact BK405.out⟩, ⟨by (try simp only [hl406002_76, hl406003_76, hl406004_76]); (with_reducible repeat (first | refine blk_drewN ?_ _ | refine blk_drew ?_ | refine blk_alloc ?_ _)); exact BK419.out⟩, ⟨by (try simp only [hl406002_76, hl406003_76, hl406004_76]); (with_reducible repeat (first | refine blk_drewN ?_ _ | refine blk_drew ?_ | refine blk_alloc ?_ _)); exact BK467.out⟩, ⟨be5 HB GE367 GE393 GE405 GE419 GE467⟩⟩
         rw [if_neg c151] at H
         have c151b0 : (t465.toList == t391.toList) = false := beq_eq_false_iff_ne.mpr c151
         have c151b1 : (t465.toList != t391.toList) = true := bne_iff_ne.mpr c151
         (first | rw [c151b0] | (simp only [i64_w, i32_w]; rw [c151b0]) | skip)
         have H' := Aside0.mk H
         clear H
         have hnb162 := NB467_367.out
         have hnc162 := NB367_467.out
         have hnb163 := NB467_393.out
         have hnc163 := NB393_467.out
         have hnb164 := NB467_405.out
         have hnc164 := NB405_467.out
         have hnb165 := NB467_419.out
         have hnc165 := NB419_467.out
         have hcz166_0 := bz5 BK467
         have hnb167 := NB393_367.out
         have hnc167 := NB367_393.out
         have hnb168 := NB393_405.out
         have hnc168 := NB405_393.out
         have hnb169 := NB393_419.out
         have hnc169 := NB419_393.out
         have hcz170_0 := bz5 BK393
         go_wp2_with (first | ((with_reducible refine gate_callee (f := 20) rfl ?_); refine gl 97 Try.func20 #[.agg #[.int .i64 t454, .int .i64 t455, .slice Ao146 t456.length co146, .slice Ao147 t459.length co147, .slice Ao148 t462.length co148], .agg #[.int .i64 t380, .int .i64 t381, .slice Ao24 t382.length co24, .slice Ao25 t385.length co25, .slice Ao26 t388.length co26]] ?_; (with_reducible refine (laws_eqThree.calls kj76 t454 t455 _ _ t456 _ _ t459 _ _ t462 t380 t381 _ _ t382 _ _ t385 _ _ t388 true _ ?side1 ((Kd.R_reads' HO458.out).2.1) ?side3 ((Kd.R_reads' HO461.out).2.1) ?side5 ((Kd.R_reads' HO464.out).2.1) ?side7 ((Kd.R_reads' HO_394002.out).2.1) ?side9 ((Kd.R_reads' HO_394003.out).2.1) ?side11 ((Kd.R_reads' HO_394004.out).2.1) A149.out).mono ?_); (case side1 => exact rfr _ HO458 BK467); (case side3 => exact rfr _ HO461 BK467); (case side5 => exact rfr _ HO464 BK467); (case side7 => exact rfr _ HO_394002 BK467); (case side9 => exact rfr _ HO_394003 BK467); (case side11 => exact rfr _ HO_394004 BK467); rintro e w171 ⟨rfl, hb⟩; refine ⟨_, rfl, ?_⟩; replace HO_394002 := Aside0.mk (Kd.R_below (rf HO_394002 BK467) hb); replace HO_394003 := Aside0.mk (Kd.R_below (rf HO_394003 BK467) hb); replace HO_394004 := Aside0.mk (Kd.R_below (rf HO_394004 BK467) hb); replace HO_406002 := Aside0.mk (Kd.R_below (rf HO_406002 BK467) hb); replace HO_406003 := Aside0.mk (Kd.R_below (rf HO_406003 BK467) hb); replace HO_406004 := Aside0.mk (Kd.R_below (rf HO_406004 BK467) hb); replace HO_420002 := Aside0.mk (Kd.R_below (rf HO_420002 BK467) hb); replace HO_420003 := Aside0.mk (Kd.R_below (rf HO_420003 BK467) hb); replace HO_420004 := Aside0.mk (Kd.R_below (rf HO_420004 BK467) hb); replace HO447 := Aside0.mk (Kd.R_below (rf HO447 BK467) hb); replace HO450 := Aside0.mk (Kd.R_below (rf HO450 BK467) hb); replace HO453 := Aside0.mk (Kd.R_below (rf HO453 BK467) hb); replace HO458 := Aside0.mk (Kd.R_below (rf HO458 BK467) hb); replace HO461 := Aside0.mk (Kd.R_below (rf HO461 BK467) hb); replace HO464 := Aside0.mk (Kd.R_below (rf HO464 BK467) hb); replace BK367 := Aside0.mk (blk_below (g := gb367) (o := .cells #[.int .i64 a0_0, .int .i64 a0_1, .slice A0_2 l0_2.length c0_2, .slice A0_3 l0_3.length c0_3, .slice A0_4 l0_4.length c0_4] 25 (0, 0)) (bf1 BK367 NB367_467) hb); replace BK393 := Aside0.mk (blk_below (g := gb393) (o := .cells #[.int .i64 t380, .int .i64 t381, .slice Ao24 t382.length co24, .slice Ao25 t385.length co25, .slice Ao26 t388.length co26] 30 (0, 0)) (bf1 BK393 NB393_467) hb); replace BK405 := Aside0.mk (blk_below (g := gb405) (o := .cells #[.int .i64 t394, .int .i64 t395, .slice Ao33 t434.length co33, .slice Ao34 t435.length co34, .slice Ao35 t436.length co35] 30 (0, 0)) (bf1 BK405 NB405_467) hb); replace BK419 := Aside0.mk (blk_below (g := gb419) (o := .cells #[.int .i64 t406, .int .i64 t407, .slice Ao42 t408.length co42, .slice Ao43 t411.length co43, .slice Ao44 t414.length co44] 30 (0, 0)) (bf1 BK419 NB419_467) hb); replace BK467 := Aside0.mk (blk_below (g := gb467) (o := .cells #[.int .i64 t454, .int .i64 t455, .slice Ao146 t456.length co146, .slice Ao147 t459.length co147, .slice Ao148 t462.length co148] 30 (0, 0)) (by (with_reducible repeat (first | refine blk_drewN ?_ _ | refine blk_drew ?_ | refine blk_alloc ?_ _)); refine blk_put (cs := #[.int .i64 t454, .int .i64 t455, .slice Ao146 t456.length co146, .slice Ao147 t459.length co147, .slice none 0 0]) ?_ 4 _ rfl; (with_reducible repeat (first | refine blk_drewN ?_ _ | refine blk_drew ?_ | refine blk_alloc ?_ _)); refine blk_put (cs := #[.int .i64 t454, .int .i64 t455, .slice Ao146 t456.length co146, .slice none 0 0, .slice none 0 0]) ?_ 3 _ rfl; (with_reducible repeat (first | refine blk_drewN ?_ _ | refine blk_drew ?_ | refine blk_alloc ?_ _)); refine blk_put (cs := #[.int .i64 t454, .int .i64 t455, .slice none 0 0, .slice none 0 0, .slice none 0 0]) ?_ 2 _ rfl; (with_reducible repeat (first | refine blk_drewN ?_ _ | refine blk_drew ?_ | refine blk_alloc ?_ _)); refine blk_put (cs := #[.int .i64 t454, .int .i64 0, .slice none 0 0, .slice none 0 0, .slice none 0 0]) ?_ 1 _ rfl; (with_reducible repeat (first | refine blk_drewN ?_ _ | refine blk_drew ?_ | refine blk_alloc ?_ _)); refine blk_put (cs := #[.int .i64 0, .int .i64 0, .slice none 0 0, .slice none 0 0, .slice none 0 0]) ?_ 0 _ rfl; (with_reducible repeat (first | refine blk_drewN ?_ _ | refine blk_drew ?_ | refine blk_alloc ?_ _)); exact BK467.out) hb); replace HB := Aside0.mk (below_step (be5 HB GE367 GE393 GE405 GE419 GE467) hb); (try clear hb)))
         go_meet
         case rel => exact ⟨_, (true), rs, H', ⟨by have := HJ10.out; have := HJ76.out; first | omega | exact Nat.le_refl _⟩, ⟨by (try simp only [hl406002_76, hl406003_76, hl406004_76]); (with_reducible repeat (first | apply Kd.R_alloc | apply Kd.R_drewN | apply Kd.R_drew)); exact rm HO_394002⟩, ⟨by (try simp only [hl406002_76, hl406003_76, hl406004_76]); (with_reducible repeat (first | apply Kd.R_alloc | apply Kd.R_drewN | apply Kd.R_drew)); exact rm HO_394003⟩, ⟨by (try simp only [hl406002_76, hl406003_76, hl406004_76]); (with_reducible repeat (first | apply Kd.R_alloc | apply Kd.R_drewN | apply Kd.R_drew)); exact rm HO_394004⟩, ⟨by (try simp only [hl406002_76, hl406003_76, hl406004_76]); (with_reducible repeat (first | apply Kd.R_alloc | apply Kd.R_drewN | apply Kd.R_drew)); exact rm HO_406002⟩, ⟨by (try simp only [hl406002_76, hl406003_76, hl406004_76]); (with_reducible repeat (first | apply Kd.R_alloc | apply Kd.R_drewN | apply Kd.R_drew)); exact rm HO_406003⟩, ⟨by (try simp only [hl406002_76, hl406003_76, hl406004_76]); (with_reducible repeat (first | apply Kd.R_alloc | apply Kd.R_drewN | apply Kd.R_drew)); exact rm HO_406004⟩, ⟨by (try simp only [hl406002_76, hl406003_76, hl406004_76]); (with_reducible repeat (first | apply Kd.R_alloc | apply Kd.R_drewN | apply Kd.R_drew)); exact rm HO_420002⟩, ⟨by (try simp only [hl406002_76, hl406003_76, hl406004_76]); (with_reducible repeat (first | apply Kd.R_alloc | apply Kd.R_drewN | apply Kd.R_drew)); exact rm HO_420003⟩, ⟨by (try simp only [hl406002_76, hl406003_76, hl406004_76]); (with_reducible repeat (first | apply Kd.R_alloc | apply Kd.R_drewN | apply Kd.R_drew)); exact rm HO_420004⟩, ⟨by (try simp only [hl406002_76, hl406003_76, hl406004_76]); (with_reducible repeat (first | apply Kd.R_alloc | apply Kd.R_drewN | apply Kd.R_drew)); exact rm HO458⟩, ⟨by (try simp only [hl406002_76, hl406003_76, hl406004_76]); (with_reducible repeat (first | apply Kd.R_alloc | apply Kd.R_drewN | apply Kd.R_drew)); exact rm HO461⟩, ⟨by (try simp only [hl406002_76, hl406003_76, hl406004_76]); (with_reducible repeat (first | apply Kd.R_alloc | apply Kd.R_drewN | apply Kd.R_drew)); exact rm HO464⟩, ⟨by (try simp only [hl406002_76, hl406003_76, hl406004_76]); (with_reducible repeat (first | refine blk_drewN ?_ _ | refine blk_drew ?_ | refine blk_alloc ?_ _)); exact BK367.out⟩, ⟨by (try simp only [hl406002_76, hl406003_76, hl406004_76]); (with_reducible repeat (first | refine blk_drewN ?_ _ | refine blk_drew ?_ | refine blk_alloc ?_ _)); exact BK393.out⟩, ⟨by (try simp only [hl406002_76, hl406003_76, hl406004_76]); (with_reducible repeat (first | refine blk_drewN ?_ _ | refine blk_drew ?_ | refine blk_alloc ?_ _)); exact BK405.out⟩, ⟨by (try simp only [hl406002_76, hl406003_76, hl406004_76]); (with_reducible repeat (first | refine blk_drewN ?_ _ | refine blk_drew ?_ | refine blk_alloc ?_ _)); exact BK419.out⟩, ⟨by (try simp only [hl406002_76, hl406003_76, hl406004_76]); (with_reducible repeat (first | refine blk_drewN ?_ _ | refine blk_drew ?_ | refine blk_alloc ?_ _)); exact BK467.out⟩, ⟨be5 HB GE367 GE393 GE405 GE419 GE467⟩⟩
        replace c150 := Bool.eq_false_iff.mpr c150
        subst c150
        rw [if_neg (show ¬ (false = true) by decide)] at H
        have H' := Aside0.mk H
        clear H
        have hnb172 := NB467_367.out
        have hnc172 := NB367_467.out
        have hnb173 := NB467_393.out
        have hnc173 := NB393_467.out
        have hnb174 := NB467_405.out
        have hnc174 := NB405_467.out
        have hnb175 := NB467_419.out
        have hnc175 := NB419_467.out
        have hcz176_0 := bz5 BK467
        have hnb177 := NB393_367.out
        have hnc177 := NB367_393.out
        have hnb178 := NB393_405.out
        have hnc178 := NB405_393.out
        have hnb179 := NB393_419.out
        have hnc179 := NB419_393.out
        have hcz180_0 := bz5 BK393
        go_wp2_with (first | ((with_reducible refine gate_callee (f := 20) rfl ?_); refine gl 97 Try.func20 #[.agg #[.int .i64 t454, .int .i64 t455, .slice Ao146 t456.length co146, .slice Ao147 t459.length co147, .slice Ao148 t462.length co148], .agg #[.int .i64 t380, .int .i64 t381, .slice Ao24 t382.length co24, .slice Ao25 t385.length co25, .slice Ao26 t388.length co26]] ?_; (with_reducible refine (laws_eqThree.calls kj76 t454 t455 _ _ t456 _ _ t459 _ _ t462 t380 t381 _ _ t382 _ _ t385 _ _ t388 false _ ?side1 ((Kd.R_reads' HO458.out).2.1) ?side3 ((Kd.R_reads' HO461.out).2.1) ?side5 ((Kd.R_reads' HO464.out).2.1) ?side7 ((Kd.R_reads' HO_394002.out).2.1) ?side9 ((Kd.R_reads' HO_394003.out).2.1) ?side11 ((Kd.R_reads' HO_394004.out).2.1) A149.out).mono ?_); (case side1 => exact rfr _ HO458 BK467); (case side3 => exact rfr _ HO461 BK467); (case side5 => exact rfr _ HO464 BK467); (case side7 => exact rfr _ HO_394002 BK467); (case side9 => exact rfr _ HO_394003 BK467); (case side11 => exact rfr _ HO_394004 BK467); rintro e w181 ⟨rfl, hb⟩; refine ⟨_, rfl, ?_⟩; replace HO_394002 := Aside0.mk (Kd.R_below (rf HO_394002 BK467) hb); replace HO_394003 := Aside0.mk (Kd.R_below (rf HO_394003 BK467) hb); replace HO_394004 := Aside0.mk (Kd.R_below (rf HO_394004 BK467) hb); replace HO_406002 := Aside0.mk (Kd.R_below (rf HO_406002 BK467) hb); replace HO_406003 := Aside0.mk (Kd.R_below (rf HO_406003 BK467) hb); replace HO_406004 := Aside0.mk (Kd.R_below (rf HO_406004 BK467) hb); replace HO_420002 := Aside0.mk (Kd.R_below (rf HO_420002 BK467) hb); replace HO_420003 := Aside0.mk (Kd.R_below (rf HO_420003 BK467) hb); replace HO_420004 := Aside0.mk (Kd.R_below (rf HO_420004 BK467) hb); replace HO447 := Aside0.mk (Kd.R_below (rf HO447 BK467) hb); replace HO450 := Aside0.mk (Kd.R_below (rf HO450 BK467) hb); replace HO453 := Aside0.mk (Kd.R_below (rf HO453 BK467) hb); replace HO458 := Aside0.mk (Kd.R_below (rf HO458 BK467) hb); replace HO461 := Aside0.mk (Kd.R_below (rf HO461 BK467) hb); replace HO464 := Aside0.mk (Kd.R_below (rf HO464 BK467) hb); replace BK367 := Aside0.mk (blk_below (g := gb367) (o := .cells #[.int .i64 a0_0, .int .i64 a0_1, .slice A0_2 l0_2.length c0_2, .slice A0_3 l0_3.length c0_3, .slice A0_4 l0_4.length c0_4] 25 (0, 0)) (bf1 BK367 NB367_467) hb); replace BK393 := Aside0.mk (blk_below (g := gb393) (o := .cells #[.int .i64 t380, .int .i64 t381, .slice Ao24 t382.length co24, .slice Ao25 t385.length co25, .slice Ao26 t388.length co26] 30 (0, 0)) (bf1 BK393 NB393_467) hb); replace BK405 := Aside0.mk (blk_below (g := gb405) (o := .cells #[.int .i64 t394, .int .i64 t395, .slice Ao33 t434.length co33, .slice Ao34 t435.length co34, .slice Ao35 t436.length co35] 30 (0, 0)) (bf1 BK405 NB405_467) hb); replace BK419 := Aside0.mk (blk_below (g := gb419) (o := .cells #[.int .i64 t406, .int .i64 t407, .slice Ao42 t408.length co42, .slice Ao43 t411.length co43, .slice Ao44 t414.length co44] 30 (0, 0)) (bf1 BK419 NB419_467) hb); replace BK467 := Aside0.mk (blk_below (g := gb467) (o := .cells #[.int .i64 t454, .int .i64 t455, .slice Ao146 t456.length co146, .slice Ao147 t459.length co147, .slice Ao148 t462.length co148] 30 (0, 0)) (by (with_reducible repeat (first | refine blk_drewN ?_ _ | refine blk_drew ?_ | refine blk_alloc ?_ _)); refine blk_put (cs := #[.int .i64 t454, .int .i64 t455, .slice Ao146 t456.length co146, .slice Ao147 t459.length co147, .slice none 0 0]) ?_ 4 _ rfl; (with_reducible repeat (first | refine blk_drewN ?_ _ | refine blk_drew ?_ | refine blk_alloc ?_ _)); refine blk_put (cs := #[.int .i64 t454, .int .i64 t455, .slice Ao146 t456.length co146, .slice none 0 0, .slice none 0 0]) ?_ 3 _ rfl; (with_reducible repeat (first | refine blk_drewN ?_ _ | refine blk_drew ?_ | refine blk_alloc ?_ _)); refine blk_put (cs := #[.int .i64 t454, .int .i64 t455, .slice none 0 0, .slice none 0 0, .slice none 0 0]) ?_ 2 _ rfl; (with_reducible repeat (first | refine blk_drewN ?_ _ | refine blk_drew ?_ | refine blk_alloc ?_ _)); refine blk_put (cs := #[.int .i64 t454, .int .i64 0, .slice none 0 0, .slice none 0 0, .slice none 0 0]) ?_ 1 _ rfl; (with_reducible repeat (first | refine blk_drewN ?_ _ | refine blk_drew ?_ | refine blk_alloc ?_ _)); refine blk_put (cs := #[.int .i64 0, .int .i64 0, .slice none 0 0, .slice none 0 0, .slice none 0 0]) ?_ 0 _ rfl; (with_reducible repeat (first | refine blk_drewN ?_ _ | refine blk_drew ?_ | refine blk_alloc ?_ _)); exact BK467.out) hb); replace HB := Aside0.mk (below_step (be5 HB GE367 GE393 GE405 GE419 GE467) hb); (try clear hb)))
        go_meet
        case rel => exact ⟨_, (true), rs, H', ⟨by have := HJ10.out; have := HJ76.out; first | omega | exact Nat.le_refl _⟩, ⟨by (try simp only [hl406002_76, hl406003_76, hl406004_76]); (with_reducible repeat (first | apply Kd.R_alloc | apply Kd.R_drewN | apply Kd.R_drew)); exact rm HO_394002⟩, ⟨by (try simp only [hl406002_76, hl406003_76, hl406004_76]); (with_reducible repeat (first | apply Kd.R_alloc | apply Kd.R_drewN | apply Kd.R_drew)); exact rm HO_394003⟩, ⟨by (try simp only [hl406002_76, hl406003_76, hl406004_76]); (with_reducible repeat (first | apply Kd.R_alloc | apply Kd.R_drewN | apply Kd.R_drew)); exact rm HO_394004⟩, ⟨by (try simp only [hl406002_76, hl406003_76, hl406004_76]); (with_reducible repeat (first | apply Kd.R_alloc | apply Kd.R_drewN | apply Kd.R_drew)); exact rm HO_406002⟩, ⟨by (try simp only [hl406002_76, hl406003_76, hl406004_76]); (with_reducible repeat (first | apply Kd.R_alloc | apply Kd.R_drewN | apply Kd.R_drew)); exact rm HO_406003⟩, ⟨by (try simp only [hl406002_76, hl406003_76, hl406004_76]); (with_reducible repeat (first | apply Kd.R_alloc | apply Kd.R_drewN | apply Kd.R_drew)); exact rm HO_406004⟩, ⟨by (try simp only [hl406002_76, hl406003_76, hl406004_76]); (with_reducible repeat (first | apply Kd.R_alloc | apply Kd.R_drewN | apply Kd.R_drew)); exact rm HO_420002⟩, ⟨by (try simp only [hl406002_76, hl406003_76, hl406004_76]); (with_reducible repeat (first | apply Kd.R_alloc | apply Kd.R_drewN | apply Kd.R_drew)); exact rm HO_420003⟩, ⟨by (try simp only [hl406002_76, hl406003_76, hl406004_76]); (with_reducible repeat (first | apply Kd.R_alloc | apply Kd.R_drewN | apply Kd.R_drew)); exact rm HO_420004⟩, ⟨by (try simp only [hl406002_76, hl406003_76, hl406004_76]); (with_reducible repeat (first | apply Kd.R_alloc | apply Kd.R_drewN | apply Kd.R_drew)); exact rm HO458⟩, ⟨by (try simp only [hl406002_76, hl406003_76, hl406004_76]); (with_reducible repeat (first | apply Kd.R_alloc | apply Kd.R_drewN | apply Kd.R_drew)); exact rm HO461⟩, ⟨by (try simp only [hl406002_76, hl406003_76, hl406004_76]); (with_reducible repeat (first | apply Kd.R_alloc | apply Kd.R_drewN | apply Kd.R_drew)); exact rm HO464⟩, ⟨by (try simp only [hl406002_76, hl406003_76, hl406004_76]); (with_reducible repeat (first | refine blk_drewN ?_ _ | refine blk_drew ?_ | refine blk_alloc ?_ _)); exact BK367.out⟩, ⟨by (try simp only [hl406002_76, hl406003_76, hl406004_76]); (with_reducible repeat (first | refine blk_drewN ?_ _ | refine blk_drew ?_ | refine blk_alloc ?_ _)); exact BK393.out⟩, ⟨by (try simp only [hl406002_76, hl406003_76, hl406004_76]); (with_reducible repeat (first | refine blk_drewN ?_ _ | refine blk_drew ?_ | refine blk_alloc ?_ _)); exact BK405.out⟩, ⟨by (try simp only [hl406002_76, hl406003_76, hl406004_76]); (with_reducible repeat (first | refine blk_drewN ?_ _ | refine blk_drew ?_ | refine blk_alloc ?_ _)); exact BK419.out⟩, ⟨by (try simp only [hl406002_76, hl406003_76, hl406004_76]); (with_reducible repeat (first | refine blk_drewN ?_ _ | refine blk_drew ?_ | refine blk_alloc ?_ _)); exact BK467.out⟩, ⟨be5 HB GE367 GE393 GE405 GE419 GE467⟩⟩
       case rest =>
        clear HC124
        try clear c1; try clear c2; try clear p2; try clear c3; try clear c4; try clear c5; try clear c6; try clear c7; try clear c8; try clear c9; try clear c10; try clear c11; try clear c12; try clear c13; try clear c14; try clear c15; try clear c16; try clear c17; try clear c18; try clear c20; try clear c22; try clear c23; try clear c24; try clear c30; try clear c31; try clear c32; try clear c38; try clear c39; try clear c40; try clear c46; try clear c47; try clear c47b0; try clear c47b1; try clear c48; try clear c49; try clear c50; try clear c52; try clear c53; try clear c56; try clear c57; try clear c58; try clear c60; try clear c61; try clear c64; try clear c65; try clear c66; try clear c68; try clear c69; try clear c72; try clear c75; try clear c84; try clear c85; try clear c86; try clear c89; try clear c89b0; try clear c91; try clear c92; try clear c92b0; try clear c92b1; try clear c93; try clear c94; try clear c95; try clear c97; try clear c98; try clear c101; try clear c102; try clear c103; try clear c105; try clear c106; try clear c109; try clear c110; try clear c111; try clear c113; try clear c114; try clear c117; try clear c120; try clear c120b0; try clear c121; try clear c121b0; try clear c121b1; try clear c125; try clear c126; try clear c127; try clear c132; try clear c133; try clear c141; try clear c142; try clear c143; try clear c144; try clear c150; try clear c151; try clear c151b0; try clear c151b1; try clear c152; try clear c153; try clear c154; try clear c155; try clear c157; try clear c158; try clear c159; try clear c162; try clear c163; try clear c164; try clear c165; try clear c167; try clear c168; try clear c169; try clear c172; try clear c173; try clear c174; try clear c175; try clear c177; try clear c178; try clear c179; try clear hcz104_0; try clear hcz107_0; try clear hcz112_0; try clear hcz115_0; try clear hcz128_0; try clear hcz130_0; try clear hcz134_0; try clear hcz13_0; try clear hcz145_0; try clear hcz156_0; try clear hcz15_0; try clear hcz160_0; try clear hcz166_0; try clear hcz170_0; try clear hcz176_0; try clear hcz180_0; try clear hcz23_0; try clear hcz27_0; try clear hcz32_0; try clear hcz41_0; try clear hcz51_0; try clear hcz54_0; try clear hcz59_0; try clear hcz5_0; try clear hcz62_0; try clear hcz67_0; try clear hcz70_0; try clear hcz87_0; try clear hcz96_0; try clear hcz99_0; try clear p2
        obtain ⟨kq, x108_123, rfl, HA, HJ123, HO_394002, HO_394003, HO_394004, HO_406002, HO_406003, HO_406004, HO_420002, HO_420003, HO_420004, HO_468002, HO_468003, HO_468004, BK367, BK393, BK405, BK419, BK467, HB⟩ := hcut
        have hl420002_123 := (Kd.R_reads' HO_420002.out).1
        rw [hl420002_123] at HO_420002
        (try simp only [hl420002_123])
        (try simp only [hl420002_123] at BK367)
        (try simp only [hl420002_123] at BK393)
        (try simp only [hl420002_123] at BK405)
        (try simp only [hl420002_123] at BK419)
        (try simp only [hl420002_123] at BK467)
        (try simp only [hl420002_123] at HO_394002)
        (try simp only [hl420002_123] at HO_394003)
        (try simp only [hl420002_123] at HO_394004)
        (try simp only [hl420002_123] at HO_406002)
        (try simp only [hl420002_123] at HO_406003)
        (try simp only [hl420002_123] at HO_406004)
        (try simp only [hl420002_123] at HO_420003)
        (try simp only [hl420002_123] at HO_420004)
        (try simp only [hl420002_123] at HO_468002)
        (try simp only [hl420002_123] at HO_468003)
        (try simp only [hl420002_123] at HO_468004)
        have hl420003_123 := (Kd.R_reads' HO_420003.out).1
        rw [hl420003_123] at HO_420003
        (try simp only [hl420003_123])
        (try simp only [hl420003_123] at BK367)
        (try simp only [hl420003_123] at BK393)
        (try simp only [hl420003_123] at BK405)
        (try simp only [hl420003_123] at BK419)
        (try simp only [hl420003_123] at BK467)
        (try simp only [hl420003_123] at HO_394002)
        (try simp only [hl420003_123] at HO_394003)
        (try simp only [hl420003_123] at HO_394004)
        (try simp only [hl420003_123] at HO_406002)
        (try simp only [hl420003_123] at HO_406003)
        (try simp only [hl420003_123] at HO_406004)
        (try simp only [hl420003_123] at HO_420002)
        (try simp only [hl420003_123] at HO_420004)
        (try simp only [hl420003_123] at HO_468002)
        (try simp only [hl420003_123] at HO_468003)
        (try simp only [hl420003_123] at HO_468004)
        have hl420004_123 := (Kd.R_reads' HO_420004.out).1
        rw [hl420004_123] at HO_420004
        (try simp only [hl420004_123])
        (try simp only [hl420004_123] at BK367)
        (try simp only [hl420004_123] at BK393)
        (try simp only [hl420004_123] at BK405)
        (try simp only [hl420004_123] at BK419)
        (try simp only [hl420004_123] at BK467)
        (try simp only [hl420004_123] at HO_394002)
        (try simp only [hl420004_123] at HO_394003)
        (try simp only [hl420004_123] at HO_394004)
        (try simp only [hl420004_123] at HO_406002)
        (try simp only [hl420004_123] at HO_406003)
        (try simp only [hl420004_123] at HO_406004)
        (try simp only [hl420004_123] at HO_420002)
        (try simp only [hl420004_123] at HO_420003)
        (try simp only [hl420004_123] at HO_468002)
        (try simp only [hl420004_123] at HO_468003)
        (try simp only [hl420004_123] at HO_468004)
        cases kq with
        | zero => exact absurd HA.out (by simp [laws_FnExactEvictMain.j2])
        | succ kj123 =>
         have H := HA.out
         clear HA
         simp only [laws_FnExactEvictMain.j2] at H
         by_cases c182 : x108_123 = true
         ·subst c182
          rw [if_pos rfl] at H
          exact absurd ((Option.some.inj H).trans hrt_.out) (by decide)
         replace c182 := Bool.eq_false_iff.mpr c182
         subst c182
         rw [if_neg (show ¬ (false = true) by decide)] at H
         replace H := Option.bind_eq_some_iff.mp H
         obtain ⟨t469, A1830, H⟩ := H
         try dsimp only at H
         have A183 := Aside0.mk A1830
         clear A1830
         by_cases c184 : t469 < 0
         ·rw [if_pos c184] at H
          have c184b0 : decide (t469 < 0) = true := decide_eq_true c184
          clear c184
          exact absurd ((Option.some.inj H).trans hrt_.out) (by decide)
         rw [if_neg c184] at H
         have c184b0 : decide (t469 < 0) = false := decide_eq_false c184
         clear c184
         by_cases c185 : t469 = t438
         ·rw [if_pos c185] at H
          have c185b0 : (t469 == t438) = true := beq_iff_eq.mpr c185
          have c185b1 : (t469 != t438) = false := bne_eq_false_iff_eq.mpr c185
          clear c185
          obtain rfl := Option.some.inj H
          have hnb186 := NB419_367.out
          have hnc186 := NB367_419.out
          have hnb187 := NB419_393.out
          have hnc187 := NB393_419.out
          have hnb188 := NB419_405.out
          have hnc188 := NB405_419.out
          have hnb189 := NB419_467.out
          have hnc189 := NB467_419.out
          have hcz190_0 := bz5 BK419
          go_wp2_with (first | ((with_reducible refine gate_callee (f := 24) rfl ?_); refine gl 111 Try.func24 #[.agg #[.int .i64 t406, .int .i64 t407, .slice Ao42 t439.length co42, .slice Ao43 t440.length co43, .slice Ao44 t441.length co44], .int .i64 1] ?_; (with_reducible refine (laws_heldThree.calls kj123 t406 t407 _ _ t439 _ _ t440 _ _ t441 1 t469 _ (cr HO_420002) ((Kd.R_reads' HO_420002.out).2.1) (cr HO_420003) ((Kd.R_reads' HO_420003.out).2.1) (cr HO_420004) ((Kd.R_reads' HO_420004.out).2.1) A183.out).mono ?_); rintro e w191 ⟨rfl, hb⟩; refine ⟨_, rfl, ?_⟩; replace HO_394002 := rb HO_394002 hb; replace HO_394003 := rb HO_394003 hb; replace HO_394004 := rb HO_394004 hb; replace HO_406002 := rb HO_406002 hb; replace HO_406003 := rb HO_406003 hb; replace HO_406004 := rb HO_406004 hb; replace HO_420002 := rb HO_420002 hb; replace HO_420003 := rb HO_420003 hb; replace HO_420004 := rb HO_420004 hb; replace HO_468002 := rb HO_468002 hb; replace HO_468003 := rb HO_468003 hb; replace HO_468004 := rb HO_468004 hb; replace BK367 := bb BK367 hb; replace BK393 := bb BK393 hb; replace BK405 := bb BK405 hb; replace BK419 := bb BK419 hb; replace BK467 := bb BK467 hb; replace HB := Aside0.mk (below_step (be5 HB GE367 GE393 GE405 GE419 GE467) hb); (try clear hb)))
          go_ret
          exact ⟨er, be5 HB GE367 GE393 GE405 GE419 GE467⟩
         rw [if_neg c185] at H
         have c185b0 : (t469 == t438) = false := beq_eq_false_iff_ne.mpr c185
         have c185b1 : (t469 != t438) = true := bne_iff_ne.mpr c185
         exact absurd ((Option.some.inj H).trans hrt_.out) (by decide)
      rw [if_neg c121] at H
      have c121b0 : (t442 == t438) = false := beq_eq_false_iff_ne.mpr c121
      have c121b1 : (t442 != t438) = true := bne_iff_ne.mpr c121
      exact absurd ((Option.some.inj H).trans hrt_.out) (by decide)
   replace c75 := Bool.eq_false_iff.mpr c75
   subst c75
   rw [if_neg (show ¬ (false = true) by decide)] at H
   exact absurd ((Option.some.inj H).trans hrt_.out) (by decide)

end Go.Proofs.Ytfjhkediaholmaa.QFnExactEvictMain
