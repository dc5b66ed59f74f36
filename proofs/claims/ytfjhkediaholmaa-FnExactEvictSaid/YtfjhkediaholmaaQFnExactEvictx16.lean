-- made by a program of this session (myprint.py)
import Derived.Test.YtfjhkediaholmaaQFnExactEvictx0
import Derived.Test.YtfjhkediaholmaaQFnExactEvictx1
import Derived.Test.YtfjhkediaholmaaQFnExactEvictx2
import Derived.Test.YtfjhkediaholmaaQFnExactEvictx3
import Derived.Test.YtfjhkediaholmaaQFnExactEvictx5
import Derived.Test.YtfjhkediaholmaaQFnExactEvictx10
import Derived.Test.YtfjhkediaholmaaQFnExactEvictx15
namespace Go.Proofs.Ytfjhkediaholmaa.QFnExactEvict
open Go.RowKit Go.Proofs.YtfjhkediaholmaaW.PrintWords Go.Proofs.YtfjhkediaholmaaW.PrintLast Go.Proofs.YtfjhkediaholmaaW.PrintMore
attribute [local go_sem] max2_int min2_int max_two min_two max_three min_three max_four min_four   -- for this text's walks alone
set_option linter.unusedVariables false
set_option linter.unusedSimpArgs false

/-! ### laws_FnExactEvict: function 11 -/
mutual
def laws_FnExactEvict.j0 : Nat → ByteArray → Bool → ByteArray → Bool → Bool → Int → Int → List (S125) → List (S125) → List Int → Int → Int → List (S68) → List (S68) → List Int → Int → Int → List (S68) → List (S68) → List Int → Int → Int → List (S68) → List (S68) → List Int → Option (Bool)
 | 0, _, _, _, _, _, _, _, _, _, _, _, _, _, _, _, _, _, _, _, _, _, _, _, _, _ => none
 | k + 1, x5, x6, x9, x10, x50, x551000, x551001, x551002, x551003, x551004, x577000, x577001, x577002, x577003, x577004, x589000, x589001, x589002, x589003, x589004, x603000, x603001, x603002, x603003, x603004 => if x50 = true then (some false) else ((laws_toThree.f k x551000 x551001 x551002 x551003 x551004).bind fun bt604 => ((laws_eqThree.f k x589000 x589001 x589002 x589003 x589004 bt604.1 bt604.2.1 bt604.2.2.1 bt604.2.2.2.1 bt604.2.2.2.2).bind fun t615 => (if t615 = true then ((laws_markThree.f k x589000 x589001 x589002 x589003 x589004 1).bind fun bt616 => (if bt616.1 < 0 then (laws_FnExactEvict.j1 k x5 x6 true x551000 x551001 x551002 x551003 x551004 x577000 x577001 x577002 x577003 x577004 x603000 x603001 x603002 x603003 x603004) else ((laws_eqThree.f k x603000 x603001 x603002 x603003 x603004 x577000 x577001 x577002 x577003 x577004).bind fun t620 => (if t620 = true then (if x9.toList = x5.toList then (laws_FnExactEvict.j1 k x5 x6 (x10 != x6) x551000 x551001 x551002 x551003 x551004 x577000 x577001 x577002 x577003 x577004 x603000 x603001 x603002 x603003 x603004) else (laws_FnExactEvict.j1 k x5 x6 true x551000 x551001 x551002 x551003 x551004 x577000 x577001 x577002 x577003 x577004 x603000 x603001 x603002 x603003 x603004)) else (laws_FnExactEvict.j1 k x5 x6 true x551000 x551001 x551002 x551003 x551004 x577000 x577001 x577002 x577003 x577004 x603000 x603001 x603002 x603003 x603004))))) else (some false))))
def laws_FnExactEvict.j1 : Nat → ByteArray → Bool → Bool → Int → Int → List (S125) → List (S125) → List Int → Int → Int → List (S68) → List (S68) → List Int → Int → Int → List (S68) → List (S68) → List Int → Option (Bool)
 | 0, _, _, _, _, _, _, _, _, _, _, _, _, _, _, _, _, _, _ => none
 | k + 1, x5, x6, x76, x551000, x551001, x551002, x551003, x551004, x577000, x577001, x577002, x577003, x577004, x603000, x603001, x603002, x603003, x603004 => if x76 = true then (some false) else ((laws_markThree.f k x603000 x603001 x603002 x603003 x603004 1).bind fun bt621 => ((laws_heldThree.f k x603000 x603001 bt621.2.1 bt621.2.2.1 bt621.2.2.2 1).bind fun t625 => (if t625 < 0 then (some false) else (if t625 = bt621.1 then ((laws_toThree.f k x551000 x551001 x551002 x551003 x551004).bind fun bt626 => ((impl_Evict.f k bt626.1 bt626.2.1 bt626.2.2.1 bt626.2.2.2.1 bt626.2.2.2.2).bind fun bt637 => ((laws_eqThree.f k bt637.1 bt637.2.1 bt637.2.2.1 bt637.2.2.2.1 bt637.2.2.2.2.1 x577000 x577001 x577002 x577003 x577004).bind fun t651 => (if t651 = true then (if bt637.2.2.2.2.2.1.toList = x5.toList then (laws_FnExactEvict.j2 k bt621.1 (bt637.2.2.2.2.2.2 != x6) x603000 x603001 bt621.2.1 bt621.2.2.1 bt621.2.2.2) else (laws_FnExactEvict.j2 k bt621.1 true x603000 x603001 bt621.2.1 bt621.2.2.1 bt621.2.2.2)) else (laws_FnExactEvict.j2 k bt621.1 true x603000 x603001 bt621.2.1 bt621.2.2.1 bt621.2.2.2))))) else (some false)))))
def laws_FnExactEvict.j2 : Nat → Int → Bool → Int → Int → List (S68) → List (S68) → List Int → Option (Bool)
 | 0, _, _, _, _, _, _, _ => none
 | k + 1, x12, x108, x603000, x603001, x603002, x603003, x603004 => if x108 = true then (some false) else ((laws_heldThree.f k x603000 x603001 x603002 x603003 x603004 1).bind fun t652 => (if t652 < 0 then (some false) else (if t652 = x12 then (some true) else (some false))))
end
def laws_FnExactEvict.f (k : Nat) (a0_0 : Int) (a0_1 : Int) (l0_2 : List (S125)) (l0_3 : List (S125)) (l0_4 : List Int) : Option (Bool) := (laws_szThree.f k a0_0 a0_1 l0_2 l0_3 l0_4 1048576).bind fun t551 => (if t551 < 0 then (some true) else ((laws_toThree.f k a0_0 a0_1 l0_2 l0_3 l0_4).bind fun bt552 => ((spec_Evict.f k bt552.1 bt552.2.1 bt552.2.2.1 bt552.2.2.2.1 bt552.2.2.2.2).bind fun bt563 => ((laws_toThree.f k a0_0 a0_1 l0_2 l0_3 l0_4).bind fun bt577 => ((impl_Evict.f k bt577.1 bt577.2.1 bt577.2.2.1 bt577.2.2.2.1 bt577.2.2.2.2).bind fun bt589 => ((laws_eqThree.f k bt589.1 bt589.2.1 bt589.2.2.1 bt589.2.2.2.1 bt589.2.2.2.2.1 bt563.1 bt563.2.1 bt563.2.2.1 bt563.2.2.2.1 bt563.2.2.2.2.1).bind fun t603 => (if t603 = true then (if bt589.2.2.2.2.2.1.toList = bt563.2.2.2.2.2.1.toList then (laws_FnExactEvict.j0 k bt563.2.2.2.2.2.1 bt563.2.2.2.2.2.2 bt589.2.2.2.2.2.1 bt589.2.2.2.2.2.2 (bt589.2.2.2.2.2.2 != bt563.2.2.2.2.2.2) a0_0 a0_1 l0_2 l0_3 l0_4 bt563.1 bt563.2.1 bt563.2.2.1 bt563.2.2.2.1 bt563.2.2.2.2.1 bt577.1 bt577.2.1 bt577.2.2.1 bt577.2.2.2.1 bt577.2.2.2.2 bt589.1 bt589.2.1 bt589.2.2.1 bt589.2.2.2.1 bt589.2.2.2.2.1) else (laws_FnExactEvict.j0 k bt563.2.2.2.2.2.1 bt563.2.2.2.2.2.2 bt589.2.2.2.2.2.1 bt589.2.2.2.2.2.2 true a0_0 a0_1 l0_2 l0_3 l0_4 bt563.1 bt563.2.1 bt563.2.2.1 bt563.2.2.2.1 bt563.2.2.2.2.1 bt577.1 bt577.2.1 bt577.2.2.1 bt577.2.2.2.1 bt577.2.2.2.2 bt589.1 bt589.2.1 bt589.2.2.1 bt589.2.2.2.1 bt589.2.2.2.2.1)) else (laws_FnExactEvict.j0 k bt563.2.2.2.2.2.1 bt563.2.2.2.2.2.2 bt589.2.2.2.2.2.1 bt589.2.2.2.2.2.2 true a0_0 a0_1 l0_2 l0_3 l0_4 bt563.1 bt563.2.1 bt563.2.2.1 bt563.2.2.2.1 bt563.2.2.2.2.1 bt577.1 bt577.2.1 bt577.2.2.1 bt577.2.2.2.1 bt577.2.2.2.2 bt589.1 bt589.2.1 bt589.2.2.1 bt589.2.2.2.1 bt589.2.2.2.2.1))))))))
theorem laws_FnExactEvict.mono_l : ∀ k, (∀ y0 y1 y2 y3 y4 y5 y6 y7 y8 y9 y10 y11 y12 y13 y14 y15 y16 y17 y18 y19 y20 y21 y22 y23 y24, LeO (laws_FnExactEvict.j0 k y0 y1 y2 y3 y4 y5 y6 y7 y8 y9 y10 y11 y12 y13 y14 y15 y16 y17 y18 y19 y20 y21 y22 y23 y24) (laws_FnExactEvict.j0 (k + 1) y0 y1 y2 y3 y4 y5 y6 y7 y8 y9 y10 y11 y12 y13 y14 y15 y16 y17 y18 y19 y20 y21 y22 y23 y24)) ∧ (∀ y0 y1 y2 y3 y4 y5 y6 y7 y8 y9 y10 y11 y12 y13 y14 y15 y16 y17, LeO (laws_FnExactEvict.j1 k y0 y1 y2 y3 y4 y5 y6 y7 y8 y9 y10 y11 y12 y13 y14 y15 y16 y17) (laws_FnExactEvict.j1 (k + 1) y0 y1 y2 y3 y4 y5 y6 y7 y8 y9 y10 y11 y12 y13 y14 y15 y16 y17)) ∧ (∀ y0 y1 y2 y3 y4 y5 y6, LeO (laws_FnExactEvict.j2 k y0 y1 y2 y3 y4 y5 y6) (laws_FnExactEvict.j2 (k + 1) y0 y1 y2 y3 y4 y5 y6))
 | 0 => ⟨fun _ _ _ _ _ _ _ _ _ _ _ _ _ _ _ _ _ _ _ _ _ _ _ _ _ r h => by simp [laws_FnExactEvict.j0] at h, fun _ _ _ _ _ _ _ _ _ _ _ _ _ _ _ _ _ _ r h => by simp [laws_FnExactEvict.j1] at h, fun _ _ _ _ _ _ _ r h => by simp [laws_FnExactEvict.j2] at h⟩
 | k + 1 => by
  obtain ⟨ih0, ih1, ih2⟩ := laws_FnExactEvict.mono_l k
  refine ⟨?_, ?_, ?_⟩
  ·intro y0 y1 y2 y3 y4 y5 y6 y7 y8 y9 y10 y11 y12 y13 y14 y15 y16 y17 y18 y19 y20 y21 y22 y23 y24
   unfold laws_FnExactEvict.j0
   repeat' first
   | (with_reducible exact ih0 _ _ _ _ _ _ _ _ _ _ _ _ _ _ _ _ _ _ _ _ _ _ _ _ _)
   | (with_reducible exact ih1 _ _ _ _ _ _ _ _ _ _ _ _ _ _ _ _ _ _)
   | (with_reducible exact ih2 _ _ _ _ _ _ _)
   | (with_reducible exact impl_Evict.mono _ _ _ _ _ _)
   | (with_reducible exact laws_eqThree.mono _ _ _ _ _ _ _ _ _ _ _)
   | (with_reducible exact laws_heldThree.mono _ _ _ _ _ _ _)
   | (with_reducible exact laws_markThree.mono _ _ _ _ _ _ _)
   | (with_reducible exact laws_szThree.mono _ _ _ _ _ _ _)
   | (with_reducible exact laws_toThree.mono _ _ _ _ _ _)
   | (with_reducible exact spec_Evict.mono _ _ _ _ _ _)
   | (with_reducible exact LeO.refl _)
   | (with_reducible exact LeO.none _)
   | (with_reducible refine LeO.ite ?_ ?_)
   | (with_reducible refine LeO.bind ?_ (fun _ => ?_))
   | exact ih0 _ _ _ _ _ _ _ _ _ _ _ _ _ _ _ _ _ _ _ _ _ _ _ _ _
   | exact ih1 _ _ _ _ _ _ _ _ _ _ _ _ _ _ _ _ _ _
   | exact ih2 _ _ _ _ _ _ _
   | exact impl_Evict.mono _ _ _ _ _ _
   | exact laws_eqThree.mono _ _ _ _ _ _ _ _ _ _ _
   | exact laws_heldThree.mono _ _ _ _ _ _ _
   | exact laws_markThree.mono _ _ _ _ _ _ _
   | exact laws_szThree.mono _ _ _ _ _ _ _
   | exact laws_toThree.mono _ _ _ _ _ _
   | exact spec_Evict.mono _ _ _ _ _ _
   | exact LeO.none _
   | refine LeO.ite ?_ ?_
   | refine LeO.bind ?_ (fun _ => ?_)
  ·intro y0 y1 y2 y3 y4 y5 y6 y7 y8 y9 y10 y11 y12 y13 y14 y15 y16 y17
   unfold laws_FnExactEvict.j1
   repeat' first
   | (with_reducible exact ih0 _ _ _ _ _ _ _ _ _ _ _ _ _ _ _ _ _ _ _ _ _ _ _ _ _)
   | (with_reducible exact ih1 _ _ _ _ _ _ _ _ _ _ _ _ _ _ _ _ _ _)
   | (with_reducible exact ih2 _ _ _ _ _ _ _)
   | (with_reducible exact impl_Evict.mono _ _ _ _ _ _)
   | (with_reducible exact laws_eqThree.mono _ _ _ _ _ _ _ _ _ _ _)
   | (with_reducible exact laws_heldThree.mono _ _ _ _ _ _ _)
   | (with_reducible exact laws_markThree.mono _ _ _ _ _ _ _)
   | (with_reducible exact laws_szThree.mono _ _ _ _ _ _ _)
   | (with_reducible exact laws_toThree.mono _ _ _ _ _ _)
   | (with_reducible exact spec_Evict.mono _ _ _ _ _ _)
   | (with_reducible exact LeO.refl _)
   | (with_reducible exact LeO.none _)
   | (with_reducible refine LeO.ite ?_ ?_)
   | (with_reducible refine LeO.bind ?_ (fun _ => ?_))
   | exact ih0 _ _ _ _ _ _ _ _ _ _ _ _ _ _ _ _ _ _ _ _ _ _ _ _ _
   | exact ih1 _ _ _ _ _ _ _ _ _ _ _ _ _ _ _ _ _ _
   | exact ih2 _ _ _ _ _ _ _
   | exact impl_Evict.mono _ _ _ _ _ _
   | exact laws_eqThree.mono _ _ _ _ _ _ _ _ _ _ _
   | exact laws_heldThree.mono _ _ _ _ _ _ _
   | exact laws_markThree.mono _ _ _ _ _ _ _
   | exact laws_szThree.mono _ _ _ _ _ _ _
   | exact laws_toThree.mono _ _ _ _ _ _
   | exact spec_Evict.mono _ _ _ _ _ _
   | exact LeO.none _
   | refine LeO.ite ?_ ?_
   | refine LeO.bind ?_ (fun _ => ?_)
  intro y0 y1 y2 y3 y4 y5 y6
  unfold laws_FnExactEvict.j2
  repeat' first
  | (with_reducible exact ih0 _ _ _ _ _ _ _ _ _ _ _ _ _ _ _ _ _ _ _ _ _ _ _ _ _)
  | (with_reducible exact ih1 _ _ _ _ _ _ _ _ _ _ _ _ _ _ _ _ _ _)
  | (with_reducible exact ih2 _ _ _ _ _ _ _)
  | (with_reducible exact impl_Evict.mono _ _ _ _ _ _)
  | (with_reducible exact laws_eqThree.mono _ _ _ _ _ _ _ _ _ _ _)
  | (with_reducible exact laws_heldThree.mono _ _ _ _ _ _ _)
  | (with_reducible exact laws_markThree.mono _ _ _ _ _ _ _)
  | (with_reducible exact laws_szThree.mono _ _ _ _ _ _ _)
  | (with_reducible exact laws_toThree.mono _ _ _ _ _ _)
  | (with_reducible exact spec_Evict.mono _ _ _ _ _ _)
  | (with_reducible exact LeO.refl _)
  | (with_reducible exact LeO.none _)
  | (with_reducible refine LeO.ite ?_ ?_)
  | (with_reducible refine LeO.bind ?_ (fun _ => ?_))
  | exact ih0 _ _ _ _ _ _ _ _ _ _ _ _ _ _ _ _ _ _ _ _ _ _ _ _ _
  | exact ih1 _ _ _ _ _ _ _ _ _ _ _ _ _ _ _ _ _ _
  | exact ih2 _ _ _ _ _ _ _
  | exact impl_Evict.mono _ _ _ _ _ _
  | exact laws_eqThree.mono _ _ _ _ _ _ _ _ _ _ _
  | exact laws_heldThree.mono _ _ _ _ _ _ _
  | exact laws_markThree.mono _ _ _ _ _ _ _
  | exact laws_szThree.mono _ _ _ _ _ _ _
  | exact laws_toThree.mono _ _ _ _ _ _
  | exact spec_Evict.mono _ _ _ _ _ _
  | exact LeO.none _
  | refine LeO.ite ?_ ?_
  | refine LeO.bind ?_ (fun _ => ?_)
theorem laws_FnExactEvict.mono : ∀ a0 a1 a2 a3 a4 k, LeO (laws_FnExactEvict.f k a0 a1 a2 a3 a4) (laws_FnExactEvict.f (k + 1) a0 a1 a2 a3 a4) := by
 intro a0 a1 a2 a3 a4 k
 obtain ⟨ih0, ih1, ih2⟩ := laws_FnExactEvict.mono_l k
 unfold laws_FnExactEvict.f
 repeat' first
   | (with_reducible exact ih0 _ _ _ _ _ _ _ _ _ _ _ _ _ _ _ _ _ _ _ _ _ _ _ _ _)
   | (with_reducible exact ih1 _ _ _ _ _ _ _ _ _ _ _ _ _ _ _ _ _ _)
   | (with_reducible exact ih2 _ _ _ _ _ _ _)
   | (with_reducible exact impl_Evict.mono _ _ _ _ _ _)
   | (with_reducible exact laws_eqThree.mono _ _ _ _ _ _ _ _ _ _ _)
   | (with_reducible exact laws_heldThree.mono _ _ _ _ _ _ _)
   | (with_reducible exact laws_markThree.mono _ _ _ _ _ _ _)
   | (with_reducible exact laws_szThree.mono _ _ _ _ _ _ _)
   | (with_reducible exact laws_toThree.mono _ _ _ _ _ _)
   | (with_reducible exact spec_Evict.mono _ _ _ _ _ _)
   | (with_reducible exact LeO.refl _)
   | (with_reducible exact LeO.none _)
   | (with_reducible refine LeO.ite ?_ ?_)
   | (with_reducible refine LeO.bind ?_ (fun _ => ?_))
   | exact ih0 _ _ _ _ _ _ _ _ _ _ _ _ _ _ _ _ _ _ _ _ _ _ _ _ _
   | exact ih1 _ _ _ _ _ _ _ _ _ _ _ _ _ _ _ _ _ _
   | exact ih2 _ _ _ _ _ _ _
   | exact impl_Evict.mono _ _ _ _ _ _
   | exact laws_eqThree.mono _ _ _ _ _ _ _ _ _ _ _
   | exact laws_heldThree.mono _ _ _ _ _ _ _
   | exact laws_markThree.mono _ _ _ _ _ _ _
   | exact laws_szThree.mono _ _ _ _ _ _ _
   | exact laws_toThree.mono _ _ _ _ _ _
   | exact spec_Evict.mono _ _ _ _ _ _
   | exact LeO.none _
   | refine LeO.ite ?_ ?_
   | refine LeO.bind ?_ (fun _ => ?_)
set_option maxHeartbeats 8000000 in
set_option maxRecDepth 100000 in
theorem laws_FnExactEvict.calls (k : Nat) (a0_0 : Int) (a0_1 : Int) (A0_2 : Option Addr) (c0_2 : Nat) (l0_2 : List (S125)) (A0_3 : Option Addr) (c0_3 : Nat) (l0_3 : List (S125)) (A0_4 : Option Addr) (c0_4 : Nat) (l0_4 : List Int) (r : Bool) (w : World) (hr0_2 : Kd.C k125 w A0_2 l0_2.length l0_2) (hc0_2 : l0_2.length ≤ c0_2) (hr0_3 : Kd.C k125 w A0_3 l0_3.length l0_3) (hc0_3 : l0_3.length ≤ c0_3) (hr0_4 : Kd.C (Kd.int .i64) w A0_4 l0_4.length l0_4) (hc0_4 : l0_4.length ≤ c0_4) (h : laws_FnExactEvict.f k a0_0 a0_1 l0_2 l0_3 l0_4 = some r) (hrt_ : Aside0 (r = true)) :
  Calls Try.prog 11 #[.agg #[.int .i64 a0_0, .int .i64 a0_1, .slice A0_2 l0_2.length c0_2, .slice A0_3 l0_3.length c0_3, .slice A0_4 l0_4.length c0_4]] w fun e w' => e = .returned (.bool r) ∧ Below w.heap.size w w' := by
 have hu25 := Try.underlying25
 have hu30 := Try.underlying30
 have HR0_2 := Aside0.mk hr0_2
 have HC0_2 := Aside0.mk hc0_2
 clear hr0_2 hc0_2
 have HR0_3 := Aside0.mk hr0_3
 have HC0_3 := Aside0.mk hc0_3
 clear hr0_3 hc0_3
 have HR0_4 := Aside0.mk hr0_4
 have HC0_4 := Aside0.mk hc0_4
 clear hr0_4 hc0_4
 have HB := Aside0.mk (Below.refl w.heap.size w)
 have H : ((laws_szThree.f k a0_0 a0_1 l0_2 l0_3 l0_4 1048576).bind fun t551 => (if t551 < 0 then (some true) else ((laws_toThree.f k a0_0 a0_1 l0_2 l0_3 l0_4).bind fun bt552 => ((spec_Evict.f k bt552.1 bt552.2.1 bt552.2.2.1 bt552.2.2.2.1 bt552.2.2.2.2).bind fun bt563 => ((laws_toThree.f k a0_0 a0_1 l0_2 l0_3 l0_4).bind fun bt577 => ((impl_Evict.f k bt577.1 bt577.2.1 bt577.2.2.1 bt577.2.2.2.1 bt577.2.2.2.2).bind fun bt589 => ((laws_eqThree.f k bt589.1 bt589.2.1 bt589.2.2.1 bt589.2.2.2.1 bt589.2.2.2.2.1 bt563.1 bt563.2.1 bt563.2.2.1 bt563.2.2.2.1 bt563.2.2.2.2.1).bind fun t603 => (if t603 = true then (if bt589.2.2.2.2.2.1.toList = bt563.2.2.2.2.2.1.toList then (laws_FnExactEvict.j0 k bt563.2.2.2.2.2.1 bt563.2.2.2.2.2.2 bt589.2.2.2.2.2.1 bt589.2.2.2.2.2.2 (bt589.2.2.2.2.2.2 != bt563.2.2.2.2.2.2) a0_0 a0_1 l0_2 l0_3 l0_4 bt563.1 bt563.2.1 bt563.2.2.1 bt563.2.2.2.1 bt563.2.2.2.2.1 bt577.1 bt577.2.1 bt577.2.2.1 bt577.2.2.2.1 bt577.2.2.2.2 bt589.1 bt589.2.1 bt589.2.2.1 bt589.2.2.2.1 bt589.2.2.2.2.1) else (laws_FnExactEvict.j0 k bt563.2.2.2.2.2.1 bt563.2.2.2.2.2.2 bt589.2.2.2.2.2.1 bt589.2.2.2.2.2.2 true a0_0 a0_1 l0_2 l0_3 l0_4 bt563.1 bt563.2.1 bt563.2.2.1 bt563.2.2.2.1 bt563.2.2.2.2.1 bt577.1 bt577.2.1 bt577.2.2.1 bt577.2.2.2.1 bt577.2.2.2.2 bt589.1 bt589.2.1 bt589.2.2.1 bt589.2.2.2.1 bt589.2.2.2.2.1)) else (laws_FnExactEvict.j0 k bt563.2.2.2.2.2.1 bt563.2.2.2.2.2.2 bt589.2.2.2.2.2.1 bt589.2.2.2.2.2.2 true a0_0 a0_1 l0_2 l0_3 l0_4 bt563.1 bt563.2.1 bt563.2.2.1 bt563.2.2.2.1 bt563.2.2.2.2.1 bt577.1 bt577.2.1 bt577.2.2.1 bt577.2.2.2.1 bt577.2.2.2.2 bt589.1 bt589.2.1 bt589.2.2.1 bt589.2.2.2.1 bt589.2.2.2.2.1))))))))) = some r := h
 clear h
 replace H := Option.bind_eq_some_iff.mp H
 obtain ⟨t551, A20, H⟩ := H
 try dsimp only at H
 have A2 := Aside0.mk A20
 clear A20
 by_cases c3 : t551 < 0
 ·rw [if_pos c3] at H
  have c3b0 : decide (t551 < 0) = true := decide_eq_true c3
  clear c3
  obtain rfl := Option.some.inj H
  go_enter Try.func11, Try.ntmps11
  go_wp2_with (first | ((with_reducible refine gate_dst (N := 1) rfl ?_); refine bx 1 #[.int .i64 a0_0, .int .i64 a0_1, .slice A0_2 l0_2.length c0_2, .slice A0_3 l0_3.length c0_3, .slice A0_4 l0_4.length c0_4] 25 ?_; intro gb550 hg w4 hbox hb; have BK550 := am hbox; have GW550 := gs0 hg HB; have GE550 := gs0 hg HB; replace HB := s0 HB hb; clear hb hbox hg; have hcz5_0 := bz5 BK550) | ((with_reducible refine gate_callee (f := 16) rfl ?_); refine gl 19 Try.func16 #[.agg #[.int .i64 a0_0, .int .i64 a0_1, .slice A0_2 l0_2.length c0_2, .slice A0_3 l0_3.length c0_3, .slice A0_4 l0_4.length c0_4], .int .i64 1048576] ?_; (with_reducible refine (laws_szThree.calls k a0_0 a0_1 _ _ l0_2 _ _ l0_3 _ _ l0_4 1048576 t551 _ (cb HR0_2 HB) HC0_2.out (cb HR0_3 HB) HC0_3.out (cb HR0_4 HB) HC0_4.out A2.out).mono ?_); rintro e w6 ⟨rfl, hb⟩; refine ⟨_, rfl, ?_⟩; replace BK550 := bb BK550 hb; replace HB := Aside0.mk (below_step (be1 HB GE550) hb); (try clear hb)))
  go_ret
  exact ⟨er, be1 HB GE550⟩
 rw [if_neg c3] at H
 have c3b0 : decide (t551 < 0) = false := decide_eq_false c3
 clear c3
 replace H := Option.bind_eq_some_iff.mp H
 obtain ⟨⟨t552, t553, t554, t557, t560⟩, A70, H⟩ := H
 try dsimp only at H
 have A7 := Aside0.mk A70
 clear A70
 replace H := Option.bind_eq_some_iff.mp H
 obtain ⟨⟨t563, t564, t565, t568, t571, t574, t575⟩, A80, H⟩ := H
 try dsimp only at H
 have A8 := Aside0.mk A80
 clear A80
 replace H := Option.bind_eq_some_iff.mp H
 obtain ⟨⟨t577, t578, t579, t582, t585⟩, A90, H⟩ := H
 try dsimp only at H
 have A9 := Aside0.mk A90
 clear A90
 replace H := Option.bind_eq_some_iff.mp H
 obtain ⟨⟨t589, t590, t591, t594, t597, t600, t601⟩, A100, H⟩ := H
 try dsimp only at H
 have A10 := Aside0.mk A100
 clear A100
 have HC11 := Aside0.mk H
 clear H
 go_enter Try.func11, Try.ntmps11
 go_upto_region 8 with (first | ((with_reducible refine gate_dst (N := 1) rfl ?_); refine bx 1 #[.int .i64 a0_0, .int .i64 a0_1, .slice A0_2 l0_2.length c0_2, .slice A0_3 l0_3.length c0_3, .slice A0_4 l0_4.length c0_4] 25 ?_; intro gb550 hg w12 hbox hb; have BK550 := am hbox; have GW550 := gs0 hg HB; have GE550 := gs0 hg HB; replace HB := s0 HB hb; clear hb hbox hg; have hcz13_0 := bz5 BK550) | ((with_reducible refine gate_callee (f := 16) rfl ?_); refine gl 19 Try.func16 #[.agg #[.int .i64 a0_0, .int .i64 a0_1, .slice A0_2 l0_2.length c0_2, .slice A0_3 l0_3.length c0_3, .slice A0_4 l0_4.length c0_4], .int .i64 1048576] ?_; (with_reducible refine (laws_szThree.calls k a0_0 a0_1 _ _ l0_2 _ _ l0_3 _ _ l0_4 1048576 t551 _ (cb HR0_2 HB) HC0_2.out (cb HR0_3 HB) HC0_3.out (cb HR0_4 HB) HC0_4.out A2.out).mono ?_); rintro e w14 ⟨rfl, hb⟩; refine ⟨_, rfl, ?_⟩; replace BK550 := bb BK550 hb; replace HB := Aside0.mk (below_step (be1 HB GE550) hb); (try clear hb); have hcz15_0 := bz5 BK550) | ((with_reducible refine gate_callee (f := 18) rfl ?_); refine gl 24 Try.func18 #[.agg #[.int .i64 a0_0, .int .i64 a0_1, .slice A0_2 l0_2.length c0_2, .slice A0_3 l0_3.length c0_3, .slice A0_4 l0_4.length c0_4]] ?_; (with_reducible refine (laws_toThree.calls k a0_0 a0_1 _ _ l0_2 _ _ l0_3 _ _ l0_4 t552 t553 t554 t557 t560 _ (cb HR0_2 HB) HC0_2.out (cb HR0_3 HB) HC0_3.out (cb HR0_4 HB) HC0_4.out A7.out).mono ?_); rintro e w16 ⟨v555, v558, v561, rfl, ho0, ho1, ho2, hb⟩; refine ⟨_, rfl, ?_⟩; have HO556 := Aside0.mk (Kd.R_lower ho0 (below_size (be1 HB GE550))); have HO559 := Aside0.mk (Kd.R_lower ho1 (below_size (be1 HB GE550))); have HO562 := Aside0.mk (Kd.R_lower ho2 (below_size (be1 HB GE550))); replace BK550 := bb BK550 hb; replace HB := Aside0.mk (below_step (be1 HB GE550) hb); (try clear hb); (try clear ho0); (try clear ho1); (try clear ho2); obtain ⟨Ao17, co17, eo17⟩ := Kd.R_slice HO556.out; subst eo17; obtain ⟨Ao18, co18, eo18⟩ := Kd.R_slice HO559.out; subst eo18; obtain ⟨Ao19, co19, eo19⟩ := Kd.R_slice HO562.out; subst eo19) | ((with_reducible refine gate_callee (f := 39) rfl ?_); refine gl 25 Try.func39 #[.agg #[.int .i64 t552, .int .i64 t553, .slice Ao17 t554.length co17, .slice Ao18 t557.length co18, .slice Ao19 t560.length co19]] ?_; (with_reducible refine (spec_Evict.calls k t552 t553 _ _ t554 _ _ t557 _ _ t560 t563 t564 t565 t568 t571 t574 t575 _ (cr HO556) ((Kd.R_reads' HO556.out).2.1) (cr HO559) ((Kd.R_reads' HO559.out).2.1) (cr HO562) ((Kd.R_reads' HO562.out).2.1) A8.out).mono ?_); rintro e w20 ⟨v566, v569, v572, rfl, ho0, ho1, ho2, hb⟩; refine ⟨_, rfl, ?_⟩; have HO567 := Aside0.mk (Kd.R_lower (nw (nw ho0 HO556) HO559) (below_size (be1 HB GE550))); have HO570 := Aside0.mk (Kd.R_lower (nw (nw ho1 HO556) HO559) (below_size (be1 HB GE550))); replace HO556 := td2 (ro HO556) hb ho0 ho1; replace HO559 := td2 (ro HO559) hb ho0 ho1; have HO573 := Aside0.mk (Kd.Q_lower (Kd.Q_new' ho2 (Kd.R_lt (ro HO562))) (below_size (be1 HB GE550))); replace HO562 := Aside0.mk (Kd.R_elder' (ro HO562) (Kd.Q_base ho2) hb); replace BK550 := bb BK550 hb; replace HB := Aside0.mk (below_step (be1 HB GE550) hb); (try clear hb); (try clear ho0); (try clear ho1); (try clear ho2)) | ((with_reducible refine gate_dst (N := 4) rfl ?_); refine bx 4 #[.int .i64 0, .int .i64 0, .slice none 0 0, .slice none 0 0, .slice none 0 0] 30 ?_; intro gb576 hg w21 hbox hb; replace HO556 := rb HO556 hb; replace HO559 := rb HO559 hb; replace HO562 := rb HO562 hb; replace HO567 := rb HO567 hb; replace HO570 := rb HO570 hb; replace HO573 := Aside0.mk (Kd.Q_below (qo HO573) hb); have BK576 := am hbox; have GW576 := gs1 hg HB GE550; have GE576 := gs1 hg HB GE550; replace HB := Aside0.mk (below_step (be1 HB GE550) hb); have NB550_576 := nl hg BK550; have NB576_550 := ng hg BK550; replace BK550 := bb BK550 hb; clear hb hbox hg; have hnb22 := NB576_550.out; have hnc22 := NB550_576.out; have hcz23_0 := bz5 BK576; obtain ⟨Ao24, co24, eo24⟩ := Kd.R_slice HO567.out; subst eo24; obtain ⟨Ao25, co25, eo25⟩ := Kd.R_slice HO570.out; subst eo25; obtain ⟨Ao26, co26, eo26, _⟩ := Kd.Q_slice HO573.out; subst eo26; have hcz27_0 := bz5 BK550) | ((with_reducible refine gate_callee (f := 18) rfl ?_); refine gl 30 Try.func18 #[.agg #[.int .i64 a0_0, .int .i64 a0_1, .slice A0_2 l0_2.length c0_2, .slice A0_3 l0_3.length c0_3, .slice A0_4 l0_4.length c0_4]] ?_; (with_reducible refine (laws_toThree.calls k a0_0 a0_1 _ _ l0_2 _ _ l0_3 _ _ l0_4 t577 t578 t579 t582 t585 _ ?side1 HC0_2.out ?side3 HC0_3.out ?side5 HC0_4.out A9.out).mono ?_); (case side1 => exact Kd.C_below HR0_2.out (be2 HB GE550 GE576)); (case side3 => exact Kd.C_below HR0_3.out (be2 HB GE550 GE576)); (case side5 => exact Kd.C_below HR0_4.out (be2 HB GE550 GE576)); rintro e w28 ⟨v580, v583, v586, rfl, ho0, ho1, ho2, hb⟩; refine ⟨_, rfl, ?_⟩; have HO581 := Aside0.mk (Kd.R_lower (Kd.R_new' (Kd.R_new' (Kd.R_new' (Kd.R_new' ho0 (Kd.R_lt (rf HO556 BK576))) (Kd.R_lt (rf HO559 BK576))) (Kd.R_lt (rf HO567 BK576))) (Kd.R_lt (rf HO570 BK576))) (below_size (be2 HB GE550 GE576))); have HO584 := Aside0.mk (Kd.R_lower (Kd.R_new' (Kd.R_new' (Kd.R_new' (Kd.R_new' ho1 (Kd.R_lt (rf HO556 BK576))) (Kd.R_lt (rf HO559 BK576))) (Kd.R_lt (rf HO567 BK576))) (Kd.R_lt (rf HO570 BK576))) (below_size (be2 HB GE550 GE576))); replace HO556 := td2 (rf HO556 BK576) hb ho0 ho1; replace HO559 := td2 (rf HO559 BK576) hb ho0 ho1; replace HO567 := td2 (rf HO567 BK576) hb ho0 ho1; replace HO570 := td2 (rf HO570 BK576) hb ho0 ho1; have HO587 := Aside0.mk (Kd.R_lower (Kd.R_new' (Kd.R_new' ho2 (Kd.R_lt (rf HO562 BK576))) (Kd.Q_lt (qf HO573 BK576))) (below_size (be2 HB GE550 GE576))); replace HO562 := Aside0.mk (Kd.R_elder' (rf HO562 BK576) (Kd.R_base ho2) hb); replace HO573 := Aside0.mk (Kd.Q_elder' (qf HO573 BK576) (Kd.R_base ho2) hb); replace BK550 := Aside0.mk (blk_below (g := gb550) (o := .cells #[.int .i64 a0_0, .int .i64 a0_1, .slice A0_2 l0_2.length c0_2, .slice A0_3 l0_3.length c0_3, .slice A0_4 l0_4.length c0_4] 25 (0, 0)) (bf1 BK550 NB550_576) hb); replace BK576 := Aside0.mk (blk_below (g := gb576) (o := .cells #[.int .i64 t563, .int .i64 t564, .slice Ao24 t565.length co24, .slice Ao25 t568.length co25, .slice Ao26 t571.length co26] 30 (0, 0)) (bp BK576) hb); replace HB := Aside0.mk (below_step (be2 HB GE550 GE576) hb); (try clear hb); (try clear ho0); (try clear ho1); (try clear ho2)) | ((with_reducible refine gate_dst (N := 7) rfl ?_); refine bx 7 #[.int .i64 0, .int .i64 0, .slice none 0 0, .slice none 0 0, .slice none 0 0] 30 ?_; intro gb588 hg w29 hbox hb; replace HO556 := rb HO556 hb; replace HO559 := rb HO559 hb; replace HO562 := rb HO562 hb; replace HO567 := rb HO567 hb; replace HO570 := rb HO570 hb; replace HO573 := Aside0.mk (Kd.Q_below (qo HO573) hb); replace HO581 := rb HO581 hb; replace HO584 := rb HO584 hb; replace HO587 := rb HO587 hb; have BK588 := am hbox; have GW588 := gs2 hg HB GE550 GE576; have GE588 := gs2 hg HB GE550 GE576; replace HB := Aside0.mk (below_step (be2 HB GE550 GE576) hb); have NB550_588 := nl hg BK550; have NB588_550 := ng hg BK550; replace BK550 := bb BK550 hb; have NB576_588 := nl hg BK576; have NB588_576 := ng hg BK576; replace BK576 := bb BK576 hb; clear hb hbox hg; have hnb30 := NB588_550.out; have hnc30 := NB550_588.out; have hnb31 := NB588_576.out; have hnc31 := NB576_588.out; have hcz32_0 := bz5 BK588; obtain ⟨Ao33, co33, eo33⟩ := Kd.R_slice HO581.out; subst eo33; obtain ⟨Ao34, co34, eo34⟩ := Kd.R_slice HO584.out; subst eo34; obtain ⟨Ao35, co35, eo35⟩ := Kd.R_slice HO587.out; subst eo35) | ((with_reducible refine gate_callee (f := 40) rfl ?_); refine gl 33 Try.func40 #[.agg #[.int .i64 t577, .int .i64 t578, .slice Ao33 t579.length co33, .slice Ao34 t582.length co34, .slice Ao35 t585.length co35]] ?_; (with_reducible refine (impl_Evict.calls k t577 t578 _ _ t579 _ _ t582 _ _ t585 t589 t590 t591 t594 t597 t600 t601 _ ?side1 ((Kd.R_reads' HO581.out).2.1) ?side3 ((Kd.R_reads' HO584.out).2.1) ?side5 ((Kd.R_reads' HO587.out).2.1) A10.out).mono ?_); (case side1 => exact rfr _ HO581 BK588); (case side3 => exact rfr _ HO584 BK588); (case side5 => exact rfr _ HO587 BK588); rintro e w36 ⟨v592, v595, v598, rfl, ho0, ho1, ho2, hb⟩; refine ⟨_, rfl, ?_⟩; have HO593 := Aside0.mk (Kd.R_lower (Kd.R_new' (Kd.R_new' (Kd.R_new' (Kd.R_new' (Kd.R_new' (Kd.R_new' ho0 (Kd.R_lt (rf HO556 BK588))) (Kd.R_lt (rf HO559 BK588))) (Kd.R_lt (rf HO567 BK588))) (Kd.R_lt (rf HO570 BK588))) (Kd.R_lt (rf HO581 BK588))) (Kd.R_lt (rf HO584 BK588))) (below_size (be3 HB GE550 GE576 GE588))); have HO596 := Aside0.mk (Kd.R_lower (Kd.R_new' (Kd.R_new' (Kd.R_new' (Kd.R_new' (Kd.R_new' (Kd.R_new' ho1 (Kd.R_lt (rf HO556 BK588))) (Kd.R_lt (rf HO559 BK588))) (Kd.R_lt (rf HO567 BK588))) (Kd.R_lt (rf HO570 BK588))) (Kd.R_lt (rf HO581 BK588))) (Kd.R_lt (rf HO584 BK588))) (below_size (be3 HB GE550 GE576 GE588))); replace HO556 := td2 (rf HO556 BK588) hb ho0 ho1; replace HO559 := td2 (rf HO559 BK588) hb ho0 ho1; replace HO567 := td2 (rf HO567 BK588) hb ho0 ho1; replace HO570 := td2 (rf HO570 BK588) hb ho0 ho1; replace HO581 := td2 (rf HO581 BK588) hb ho0 ho1; replace HO584 := td2 (rf HO584 BK588) hb ho0 ho1; have HO599 := Aside0.mk (Kd.R_lower (Kd.R_new' (Kd.R_new' (Kd.R_new' ho2 (Kd.R_lt (rf HO562 BK588))) (Kd.Q_lt (qf HO573 BK588))) (Kd.R_lt (rf HO587 BK588))) (below_size (be3 HB GE550 GE576 GE588))); replace HO562 := Aside0.mk (Kd.R_elder' (rf HO562 BK588) (Kd.R_base ho2) hb); replace HO573 := Aside0.mk (Kd.Q_elder' (qf HO573 BK588) (Kd.R_base ho2) hb); replace HO587 := Aside0.mk (Kd.R_elder' (rf HO587 BK588) (Kd.R_base ho2) hb); replace BK550 := Aside0.mk (blk_below (g := gb550) (o := .cells #[.int .i64 a0_0, .int .i64 a0_1, .slice A0_2 l0_2.length c0_2, .slice A0_3 l0_3.length c0_3, .slice A0_4 l0_4.length c0_4] 25 (0, 0)) (bf1 BK550 NB550_588) hb); replace BK576 := Aside0.mk (blk_below (g := gb576) (o := .cells #[.int .i64 t563, .int .i64 t564, .slice Ao24 t565.length co24, .slice Ao25 t568.length co25, .slice Ao26 t571.length co26] 30 (0, 0)) (bf1 BK576 NB576_588) hb); replace BK588 := Aside0.mk (blk_below (g := gb588) (o := .cells #[.int .i64 t577, .int .i64 t578, .slice Ao33 t579.length co33, .slice Ao34 t582.length co34, .slice Ao35 t585.length co35] 30 (0, 0)) (bp BK588) hb); replace HB := Aside0.mk (below_step (be3 HB GE550 GE576 GE588) hb); (try clear hb); (try clear ho0); (try clear ho1); (try clear ho2)) | ((with_reducible refine gate_dst (N := 8) rfl ?_); refine bx 8 #[.int .i64 0, .int .i64 0, .slice none 0 0, .slice none 0 0, .slice none 0 0] 30 ?_; intro gb602 hg w37 hbox hb; replace HO556 := rb HO556 hb; replace HO559 := rb HO559 hb; replace HO562 := rb HO562 hb; replace HO567 := rb HO567 hb; replace HO570 := rb HO570 hb; replace HO573 := Aside0.mk (Kd.Q_below (qo HO573) hb); replace HO581 := rb HO581 hb; replace HO584 := rb HO584 hb; replace HO587 := rb HO587 hb; replace HO593 := rb HO593 hb; replace HO596 := rb HO596 hb; replace HO599 := rb HO599 hb; have BK602 := am hbox; have GW602 := Aside0.mk ((by rw [hg]; exact (below_size (be3 HB GE550 GE576 GE588)) : w.heap.size ≤ gb602)); have GE602 := Aside0.mk ((by rw [hg]; exact (below_size (be3 HB GE550 GE576 GE588)) : w.heap.size ≤ gb602)); replace HB := Aside0.mk (below_step (be3 HB GE550 GE576 GE588) hb); have NB550_602 := nl hg BK550; have NB602_550 := ng hg BK550; replace BK550 := bb BK550 hb; have NB576_602 := nl hg BK576; have NB602_576 := ng hg BK576; replace BK576 := bb BK576 hb; have NB588_602 := nl hg BK588; have NB602_588 := ng hg BK588; replace BK588 := bb BK588 hb; clear hb hbox hg; have hnb38 := NB602_550.out; have hnc38 := NB550_602.out; have hnb39 := NB602_576.out; have hnc39 := NB576_602.out; have hnb40 := NB602_588.out; have hnc40 := NB588_602.out; have hcz41_0 := bz5 BK602; obtain ⟨Ao42, co42, eo42⟩ := Kd.R_slice HO593.out; subst eo42; obtain ⟨Ao43, co43, eo43⟩ := Kd.R_slice HO596.out; subst eo43; obtain ⟨Ao44, co44, eo44⟩ := Kd.R_slice HO599.out; subst eo44))
 (try simp only [Act.put, List.setIfInBounds_toArray, List.set_cons_zero, List.set_cons_succ])
 go_cut [50] (fun v50 wc => ∃ (kq : Nat) (x50_10 : Bool), v50 = .bool x50_10 ∧ Aside0 (laws_FnExactEvict.j0 kq t574 t575 t600 t601 x50_10 a0_0 a0_1 l0_2 l0_3 l0_4 t563 t564 t565 t568 t571 t577 t578 t579 t582 t585 t589 t590 t591 t594 t597 = some r) ∧ Aside0 (kq ≤ k) ∧ Aside0 (Kd.R k68 68 wc w.heap.size (fun k_ => nb k_ Ao25 t568.length co25 ∧ nb k_ Ao33 t579.length co33 ∧ nb k_ Ao34 t582.length co34 ∧ nb k_ Ao42 t591.length co42 ∧ nb k_ Ao43 t594.length co43) (.slice Ao24 t565.length co24) t565) ∧ Aside0 (Kd.R k68 68 wc w.heap.size (fun k_ => nb k_ Ao24 t565.length co24 ∧ nb k_ Ao33 t579.length co33 ∧ nb k_ Ao34 t582.length co34 ∧ nb k_ Ao42 t591.length co42 ∧ nb k_ Ao43 t594.length co43) (.slice Ao25 t568.length co25) t568) ∧ Aside0 (Kd.Q (Kd.int .i64) 3 wc w.heap.size (fun k_ => nb k_ Ao35 t585.length co35 ∧ nb k_ Ao44 t597.length co44) (.slice Ao26 t571.length co26) t571) ∧ Aside0 (Kd.R k68 68 wc w.heap.size (fun k_ => nb k_ Ao24 t565.length co24 ∧ nb k_ Ao25 t568.length co25 ∧ nb k_ Ao34 t582.length co34 ∧ nb k_ Ao42 t591.length co42 ∧ nb k_ Ao43 t594.length co43) (.slice Ao33 t579.length co33) t579) ∧ Aside0 (Kd.R k68 68 wc w.heap.size (fun k_ => nb k_ Ao24 t565.length co24 ∧ nb k_ Ao25 t568.length co25 ∧ nb k_ Ao33 t579.length co33 ∧ nb k_ Ao42 t591.length co42 ∧ nb k_ Ao43 t594.length co43) (.slice Ao34 t582.length co34) t582) ∧ Aside0 (Kd.Q (Kd.int .i64) 3 wc w.heap.size (fun k_ => nb k_ Ao26 t571.length co26 ∧ nb k_ Ao44 t597.length co44) (.slice Ao35 t585.length co35) t585) ∧ Aside0 (Kd.R k68 68 wc w.heap.size (fun k_ => nb k_ Ao24 t565.length co24 ∧ nb k_ Ao25 t568.length co25 ∧ nb k_ Ao33 t579.length co33 ∧ nb k_ Ao34 t582.length co34 ∧ nb k_ Ao43 t594.length co43) (.slice Ao42 t591.length co42) t591) ∧ Aside0 (Kd.R k68 68 wc w.heap.size (fun k_ => nb k_ Ao24 t565.length co24 ∧ nb k_ Ao25 t568.length co25 ∧ nb k_ Ao33 t579.length co33 ∧ nb k_ Ao34 t582.length co34 ∧ nb k_ Ao42 t591.length co42) (.slice Ao43 t594.length co43) t594) ∧ Aside0 (Kd.Q (Kd.int .i64) 3 wc w.heap.size (fun k_ => nb k_ Ao26 t571.length co26 ∧ nb k_ Ao35 t585.length co35) (.slice Ao44 t597.length co44) t597) ∧ Aside0 (wc.heap[gb550]? = some (.cells #[.int .i64 a0_0, .int .i64 a0_1, (.slice A0_2 l0_2.length c0_2), (.slice A0_3 l0_3.length c0_3), (.slice A0_4 l0_4.length c0_4)] 25 (0, 0))) ∧ Aside0 (wc.heap[gb576]? = some (.cells #[.int .i64 t563, .int .i64 t564, (.slice Ao24 t565.length co24), (.slice Ao25 t568.length co25), (.slice Ao26 t571.length co26)] 30 (0, 0))) ∧ Aside0 (wc.heap[gb588]? = some (.cells #[.int .i64 t577, .int .i64 t578, (.slice Ao33 t579.length co33), (.slice Ao34 t582.length co34), (.slice Ao35 t585.length co35)] 30 (0, 0))) ∧ Aside0 (wc.heap[gb602]? = some (.cells #[.int .i64 t589, .int .i64 t590, (.slice Ao42 t591.length co42), (.slice Ao43 t594.length co43), (.slice Ao44 t597.length co44)] 30 (0, 0))) ∧ Aside0 (Below w.heap.size w wc))
 case first =>
  have H := HC11.out
  clear HC11
  replace H := Option.bind_eq_some_iff.mp H
  obtain ⟨t603, A450, H⟩ := H
  try dsimp only at H
  have A45 := Aside0.mk A450
  clear A450
  by_cases c46 : t603 = true
  ·subst c46
   rw [if_pos rfl] at H
   by_cases c47 : t600.toList = t574.toList
   ·rw [if_pos c47] at H
    have c47b0 : (t600.toList == t574.toList) = true := beq_iff_eq.mpr c47
    have c47b1 : (t600.toList != t574.toList) = false := bne_eq_false_iff_eq.mpr c47
    clear c47
    (first | rw [c47b0] | (simp only [i64_w, i32_w]; rw [c47b0]) | skip)
    have H' := Aside0.mk H
    clear H
    have hnb48 := NB602_550.out
    have hnc48 := NB550_602.out
    have hnb49 := NB602_576.out
    have hnc49 := NB576_602.out
    have hnb50 := NB602_588.out
    have hnc50 := NB588_602.out
    have hcz51_0 := bz5 BK602
    have hnb52 := NB576_550.out
    have hnc52 := NB550_576.out
    have hnb53 := NB576_588.out
    have hnc53 := NB588_576.out
    have hcz54_0 := bz5 BK576
    go_wp2_with (first | ((with_reducible refine gate_callee (f := 20) rfl ?_); refine gl 39 Try.func20 #[.agg #[.int .i64 t589, .int .i64 t590, .slice Ao42 t591.length co42, .slice Ao43 t594.length co43, .slice Ao44 t597.length co44], .agg #[.int .i64 t563, .int .i64 t564, .slice Ao24 t565.length co24, .slice Ao25 t568.length co25, .slice Ao26 t571.length co26]] ?_; (with_reducible refine (laws_eqThree.calls k t589 t590 _ _ t591 _ _ t594 _ _ t597 t563 t564 _ _ t565 _ _ t568 _ _ t571 true _ ?side1 ((Kd.R_reads' HO593.out).2.1) ?side3 ((Kd.R_reads' HO596.out).2.1) ?side5 ((Kd.R_reads' HO599.out).2.1) ?side7 ((Kd.R_reads' HO567.out).2.1) ?side9 ((Kd.R_reads' HO570.out).2.1) ?side11 ?side12 A45.out).mono ?_); (case side1 => exact rfr _ HO593 BK602); (case side3 => exact rfr _ HO596 BK602); (case side5 => exact rfr _ HO599 BK602); (case side7 => exact rfr _ HO567 BK602); (case side9 => exact rfr _ HO570 BK602); (case side11 => refine (Kd.Q_reads' (e := 3) (base := w.heap.size) (ok := fun k_ => (((True ∧ nb k_ Ao19 t560.length co19) ∧ nb k_ Ao35 t585.length co35) ∧ nb k_ Ao44 t597.length co44)) (n := t571.length) (c := co26) ?_).2.2; exact (qf HO573 BK602)); (case side12 => exact (Kd.Q_reads' HO573.out).2.1); rintro e w55 ⟨rfl, hb⟩; refine ⟨_, rfl, ?_⟩; replace HO556 := Aside0.mk (Kd.R_below (rf HO556 BK602) hb); replace HO559 := Aside0.mk (Kd.R_below (rf HO559 BK602) hb); replace HO562 := Aside0.mk (Kd.R_below (rf HO562 BK602) hb); replace HO567 := Aside0.mk (Kd.R_below (rf HO567 BK602) hb); replace HO570 := Aside0.mk (Kd.R_below (rf HO570 BK602) hb); replace HO573 := Aside0.mk (Kd.Q_below (qf HO573 BK602) hb); replace HO581 := Aside0.mk (Kd.R_below (rf HO581 BK602) hb); replace HO584 := Aside0.mk (Kd.R_below (rf HO584 BK602) hb); replace HO587 := Aside0.mk (Kd.R_below (rf HO587 BK602) hb); replace HO593 := Aside0.mk (Kd.R_below (rf HO593 BK602) hb); replace HO596 := Aside0.mk (Kd.R_below (rf HO596 BK602) hb); replace HO599 := Aside0.mk (Kd.R_below (rf HO599 BK602) hb); replace BK550 := Aside0.mk (blk_below (g := gb550) (o := .cells #[.int .i64 a0_0, .int .i64 a0_1, .slice A0_2 l0_2.length c0_2, .slice A0_3 l0_3.length c0_3, .slice A0_4 l0_4.length c0_4] 25 (0, 0)) (bf1 BK550 NB550_602) hb); replace BK576 := Aside0.mk (blk_below (g := gb576) (o := .cells #[.int .i64 t563, .int .i64 t564, .slice Ao24 t565.length co24, .slice Ao25 t568.length co25, .slice Ao26 t571.length co26] 30 (0, 0)) (bf1 BK576 NB576_602) hb); replace BK588 := Aside0.mk (blk_below (g := gb588) (o := .cells #[.int .i64 t577, .int .i64 t578, .slice Ao33 t579.length co33, .slice Ao34 t582.length co34, .slice Ao35 t585.length co35] 30 (0, 0)) (bf1 BK588 NB588_602) hb); replace BK602 := Aside0.mk (blk_below (g := gb602) (o := .cells #[.int .i64 t589, .int .i64 t590, .slice Ao42 t591.length co42, .slice Ao43 t594.length co43, .slice Ao44 t597.length co44] 30 (0, 0)) (bp BK602) hb); replace HB := Aside0.mk (below_step (be4 HB GE550 GE576 GE588 GE602) hb); (try clear hb)))
    go_meet
    case rel => exact ⟨_, ((t601 != t575)), rs, H', ⟨by first | omega | exact Nat.le_refl _⟩, ⟨rom HO567⟩, ⟨rom HO570⟩, ⟨by (with_reducible repeat (first | apply Kd.Q_alloc | apply Kd.Q_drewN | apply Kd.Q_drew)); exact Kd.Q_mono HO573.out (fun _ hk => ⟨hk.1.2, hk.2⟩)⟩, ⟨rom HO581⟩, ⟨rom HO584⟩, ⟨Kd.Q_of_R (by (with_reducible repeat (first | apply Kd.R_alloc | apply Kd.R_drewN | apply Kd.R_drew)); exact rm HO587)⟩, ⟨rom HO593⟩, ⟨rom HO596⟩, ⟨Kd.Q_of_R (by (with_reducible repeat (first | apply Kd.R_alloc | apply Kd.R_drewN | apply Kd.R_drew)); exact rm HO599)⟩, ⟨bk BK550⟩, ⟨bk BK576⟩, ⟨bk BK588⟩, ⟨bk BK602⟩, ⟨be4 HB GE550 GE576 GE588 GE602⟩⟩
   rw [if_neg c47] at H
   have c47b0 : (t600.toList == t574.toList) = false := beq_eq_false_iff_ne.mpr c47
   have c47b1 : (t600.toList != t574.toList) = true := bne_iff_ne.mpr c47
   (first | rw [c47b0] | (simp only [i64_w, i32_w]; rw [c47b0]) | skip)
   have H' := Aside0.mk H
   clear H
   have hnb56 := NB602_550.out
   have hnc56 := NB550_602.out
   have hnb57 := NB602_576.out
   have hnc57 := NB576_602.out
   have hnb58 := NB602_588.out
   have hnc58 := NB588_602.out
   have hcz59_0 := bz5 BK602
   have hnb60 := NB576_550.out
   have hnc60 := NB550_576.out
   have hnb61 := NB576_588.out
   have hnc61 := NB588_576.out
   have hcz62_0 := bz5 BK576
   go_wp2_with (first | ((with_reducible refine gate_callee (f := 20) rfl ?_); refine gl 39 Try.func20 #[.agg #[.int .i64 t589, .int .i64 t590, .slice Ao42 t591.length co42, .slice Ao43 t594.length co43, .slice Ao44 t597.length co44], .agg #[.int .i64 t563, .int .i64 t564, .slice Ao24 t565.length co24, .slice Ao25 t568.length co25, .slice Ao26 t571.length co26]] ?_; (with_reducible refine (laws_eqThree.calls k t589 t590 _ _ t591 _ _ t594 _ _ t597 t563 t564 _ _ t565 _ _ t568 _ _ t571 true _ ?side1 ((Kd.R_reads' HO593.out).2.1) ?side3 ((Kd.R_reads' HO596.out).2.1) ?side5 ((Kd.R_reads' HO599.out).2.1) ?side7 ((Kd.R_reads' HO567.out).2.1) ?side9 ((Kd.R_reads' HO570.out).2.1) ?side11 ?side12 A45.out).mono ?_); (case side1 => exact rfr _ HO593 BK602); (case side3 => exact rfr _ HO596 BK602); (case side5 => exact rfr _ HO599 BK602); (case side7 => exact rfr _ HO567 BK602); (case side9 => exact rfr _ HO570 BK602); (case side11 => refine (Kd.Q_reads' (e := 3) (base := w.heap.size) (ok := fun k_ => (((True ∧ nb k_ Ao19 t560.length co19) ∧ nb k_ Ao35 t585.length co35) ∧ nb k_ Ao44 t597.length co44)) (n := t571.length) (c := co26) ?_).2.2; exact (qf HO573 BK602)); (case side12 => exact (Kd.Q_reads' HO573.out).2.1); rintro e w63 ⟨rfl, hb⟩; refine ⟨_, rfl, ?_⟩; replace HO556 := Aside0.mk (Kd.R_below (rf HO556 BK602) hb); replace HO559 := Aside0.mk (Kd.R_below (rf HO559 BK602) hb); replace HO562 := Aside0.mk (Kd.R_below (rf HO562 BK602) hb); replace HO567 := Aside0.mk (Kd.R_below (rf HO567 BK602) hb); replace HO570 := Aside0.mk (Kd.R_below (rf HO570 BK602) hb); replace HO573 := Aside0.mk (Kd.Q_below (qf HO573 BK602) hb); replace HO581 := Aside0.mk (Kd.R_below (rf HO581 BK602) hb); replace HO584 := Aside0.mk (Kd.R_below (rf HO584 BK602) hb); replace HO587 := Aside0.mk (Kd.R_below (rf HO587 BK602) hb); replace HO593 := Aside0.mk (Kd.R_below (rf HO593 BK602) hb); replace HO596 := Aside0.mk (Kd.R_below (rf HO596 BK602) hb); replace HO599 := Aside0.mk (Kd.R_below (rf HO599 BK602) hb); replace BK550 := Aside0.mk (blk_below (g := gb550) (o := .cells #[.int .i64 a0_0, .int .i64 a0_1, .slice A0_2 l0_2.length c0_2, .slice A0_3 l0_3.length c0_3, .slice A0_4 l0_4.length c0_4] 25 (0, 0)) (bf1 BK550 NB550_602) hb); replace BK576 := Aside0.mk (blk_below (g := gb576) (o := .cells #[.int .i64 t563, .int .i64 t564, .slice Ao24 t565.length co24, .slice Ao25 t568.length co25, .slice Ao26 t571.length co26] 30 (0, 0)) (bf1 BK576 NB576_602) hb); replace BK588 := Aside0.mk (blk_below (g := gb588) (o := .cells #[.int .i64 t577, .int .i64 t578, .slice Ao33 t579.length co33, .slice Ao34 t582.length co34, .slice Ao35 t585.length co35] 30 (0, 0)) (bf1 BK588 NB588_602) hb); replace BK602 := Aside0.mk (blk_below (g := gb602) (o := .cells #[.int .i64 t589, .int .i64 t590, .slice Ao42 t591.length co42, .slice Ao43 t594.length co43, .slice Ao44 t597.length co44] 30 (0, 0)) (bp BK602) hb); replace HB := Aside0.mk (below_step (be4 HB GE550 GE576 GE588 GE602) hb); (try clear hb)))
   go_meet
   case rel => exact ⟨_, (true), rs, H', ⟨by first | omega | exact Nat.le_refl _⟩, ⟨rom HO567⟩, ⟨rom HO570⟩, ⟨by (with_reducible repeat (first | apply Kd.Q_alloc | apply Kd.Q_drewN | apply Kd.Q_drew)); exact Kd.Q_mono HO573.out (fun _ hk => ⟨hk.1.2, hk.2⟩)⟩, ⟨rom HO581⟩, ⟨rom HO584⟩, ⟨Kd.Q_of_R (by (with_reducible repeat (first | apply Kd.R_alloc | apply Kd.R_drewN | apply Kd.R_drew)); exact rm HO587)⟩, ⟨rom HO593⟩, ⟨rom HO596⟩, ⟨Kd.Q_of_R (by (with_reducible repeat (first | apply Kd.R_alloc | apply Kd.R_drewN | apply Kd.R_drew)); exact rm HO599)⟩, ⟨bk BK550⟩, ⟨bk BK576⟩, ⟨bk BK588⟩, ⟨bk BK602⟩, ⟨be4 HB GE550 GE576 GE588 GE602⟩⟩
  replace c46 := Bool.eq_false_iff.mpr c46
  subst c46
  rw [if_neg (show ¬ (false = true) by decide)] at H
  have H' := Aside0.mk H
  clear H
  have hnb64 := NB602_550.out
  have hnc64 := NB550_602.out
  have hnb65 := NB602_576.out
  have hnc65 := NB576_602.out
  have hnb66 := NB602_588.out
  have hnc66 := NB588_602.out
  have hcz67_0 := bz5 BK602
  have hnb68 := NB576_550.out
  have hnc68 := NB550_576.out
  have hnb69 := NB576_588.out
  have hnc69 := NB588_576.out
  have hcz70_0 := bz5 BK576
  go_wp2_with (first | ((with_reducible refine gate_callee (f := 20) rfl ?_); refine gl 39 Try.func20 #[.agg #[.int .i64 t589, .int .i64 t590, .slice Ao42 t591.length co42, .slice Ao43 t594.length co43, .slice Ao44 t597.length co44], .agg #[.int .i64 t563, .int .i64 t564, .slice Ao24 t565.length co24, .slice Ao25 t568.length co25, .slice Ao26 t571.length co26]] ?_; (with_reducible refine (laws_eqThree.calls k t589 t590 _ _ t591 _ _ t594 _ _ t597 t563 t564 _ _ t565 _ _ t568 _ _ t571 false _ ?side1 ((Kd.R_reads' HO593.out).2.1) ?side3 ((Kd.R_reads' HO596.out).2.1) ?side5 ((Kd.R_reads' HO599.out).2.1) ?side7 ((Kd.R_reads' HO567.out).2.1) ?side9 ((Kd.R_reads' HO570.out).2.1) ?side11 ?side12 A45.out).mono ?_); (case side1 => exact rfr _ HO593 BK602); (case side3 => exact rfr _ HO596 BK602); (case side5 => exact rfr _ HO599 BK602); (case side7 => exact rfr _ HO567 BK602); (case side9 => exact rfr _ HO570 BK602); (case side11 => refine (Kd.Q_reads' (e := 3) (base := w.heap.size) (ok := fun k_ => (((True ∧ nb k_ Ao19 t560.length co19) ∧ nb k_ Ao35 t585.length co35) ∧ nb k_ Ao44 t597.length co44)) (n := t571.length) (c := co26) ?_).2.2; exact (qf HO573 BK602)); (case side12 => exact (Kd.Q_reads' HO573.out).2.1); rintro e w71 ⟨rfl, hb⟩; refine ⟨_, rfl, ?_⟩; replace HO556 := Aside0.mk (Kd.R_below (rf HO556 BK602) hb); replace HO559 := Aside0.mk (Kd.R_below (rf HO559 BK602) hb); replace HO562 := Aside0.mk (Kd.R_below (rf HO562 BK602) hb); replace HO567 := Aside0.mk (Kd.R_below (rf HO567 BK602) hb); replace HO570 := Aside0.mk (Kd.R_below (rf HO570 BK602) hb); replace HO573 := Aside0.mk (Kd.Q_below (qf HO573 BK602) hb); replace HO581 := Aside0.mk (Kd.R_below (rf HO581 BK602) hb); replace HO584 := Aside0.mk (Kd.R_below (rf HO584 BK602) hb); replace HO587 := Aside0.mk (Kd.R_below (rf HO587 BK602) hb); replace HO593 := Aside0.mk (Kd.R_below (rf HO593 BK602) hb); replace HO596 := Aside0.mk (Kd.R_below (rf HO596 BK602) hb); replace HO599 := Aside0.mk (Kd.R_below (rf HO599 BK602) hb); replace BK550 := Aside0.mk (blk_below (g := gb550) (o := .cells #[.int .i64 a0_0, .int .i64 a0_1, .slice A0_2 l0_2.length c0_2, .slice A0_3 l0_3.length c0_3, .slice A0_4 l0_4.length c0_4] 25 (0, 0)) (bf1 BK550 NB550_602) hb); replace BK576 := Aside0.mk (blk_below (g := gb576) (o := .cells #[.int .i64 t563, .int .i64 t564, .slice Ao24 t565.length co24, .slice Ao25 t568.length co25, .slice Ao26 t571.length co26] 30 (0, 0)) (bf1 BK576 NB576_602) hb); replace BK588 := Aside0.mk (blk_below (g := gb588) (o := .cells #[.int .i64 t577, .int .i64 t578, .slice Ao33 t579.length co33, .slice Ao34 t582.length co34, .slice Ao35 t585.length co35] 30 (0, 0)) (bf1 BK588 NB588_602) hb); replace BK602 := Aside0.mk (blk_below (g := gb602) (o := .cells #[.int .i64 t589, .int .i64 t590, .slice Ao42 t591.length co42, .slice Ao43 t594.length co43, .slice Ao44 t597.length co44] 30 (0, 0)) (bp BK602) hb); replace HB := Aside0.mk (below_step (be4 HB GE550 GE576 GE588 GE602) hb); (try clear hb)))
  go_meet
  case rel => exact ⟨_, (true), rs, H', ⟨by first | omega | exact Nat.le_refl _⟩, ⟨rom HO567⟩, ⟨rom HO570⟩, ⟨by (with_reducible repeat (first | apply Kd.Q_alloc | apply Kd.Q_drewN | apply Kd.Q_drew)); exact Kd.Q_mono HO573.out (fun _ hk => ⟨hk.1.2, hk.2⟩)⟩, ⟨rom HO581⟩, ⟨rom HO584⟩, ⟨Kd.Q_of_R (by (with_reducible repeat (first | apply Kd.R_alloc | apply Kd.R_drewN | apply Kd.R_drew)); exact rm HO587)⟩, ⟨rom HO593⟩, ⟨rom HO596⟩, ⟨Kd.Q_of_R (by (with_reducible repeat (first | apply Kd.R_alloc | apply Kd.R_drewN | apply Kd.R_drew)); exact rm HO599)⟩, ⟨bk BK550⟩, ⟨bk BK576⟩, ⟨bk BK588⟩, ⟨bk BK602⟩, ⟨be4 HB GE550 GE576 GE588 GE602⟩⟩
 case rest =>
  clear HC11
  try clear c1; try clear c2; try clear p2; try clear c3; try clear c3b0; try clear c4; try clear c5; try clear c6; try clear c11; try clear c16; try clear c18; try clear c20; try clear c22; try clear c30; try clear c31; try clear c38; try clear c39; try clear c40; try clear c46; try clear c47; try clear c47b0; try clear c47b1; try clear c48; try clear c49; try clear c50; try clear c52; try clear c53; try clear c56; try clear c57; try clear c58; try clear c60; try clear c61; try clear c64; try clear c65; try clear c66; try clear c68; try clear c69; try clear hcz13_0; try clear hcz15_0; try clear hcz23_0; try clear hcz27_0; try clear hcz32_0; try clear hcz41_0; try clear hcz51_0; try clear hcz54_0; try clear hcz59_0; try clear hcz5_0; try clear hcz62_0; try clear hcz67_0; try clear hcz70_0
  obtain ⟨kq, x50_10, rfl, HA, HJ10, HO_577002, HO_577003, HO_577004, HO_589002, HO_589003, HO_589004, HO_603002, HO_603003, HO_603004, BK550, BK576, BK588, BK602, HB⟩ := hcut
  cases kq with
  | zero => exact absurd HA.out (by simp [laws_FnExactEvict.j0])
  | succ kj10 =>
   have H := HA.out
   clear HA
   simp only [laws_FnExactEvict.j0] at H
   by_cases c72 : x50_10 = true
   ·subst c72
    rw [if_pos rfl] at H
    exact absurd ((Option.some.inj H).trans hrt_.out) (by decide)
   replace c72 := Bool.eq_false_iff.mpr c72
   subst c72
   rw [if_neg (show ¬ (false = true) by decide)] at H
   replace H := Option.bind_eq_some_iff.mp H
   obtain ⟨⟨t604, t605, t606, t609, t612⟩, A730, H⟩ := H
   try dsimp only at H
   have A73 := Aside0.mk A730
   clear A730
   replace H := Option.bind_eq_some_iff.mp H
   obtain ⟨t615, A740, H⟩ := H
   try dsimp only at H
   have A74 := Aside0.mk A740
   clear A740
   by_cases c75 : t615 = true
   ·subst c75
    rw [if_pos rfl] at H
    replace H := Option.bind_eq_some_iff.mp H
    obtain ⟨⟨t616, t617, t618, t619⟩, A760, H⟩ := H
    try dsimp only at H
    have A76 := Aside0.mk A760
    clear A760
    have HC77 := Aside0.mk H
    clear H
    try go_wp2
    have n0_ := Aside0.mk (Kd.R_drew HO_577002.out)
    have n1_ := Aside0.mk (Kd.R_drew HO_577003.out)
    have n2_ := Aside0.mk (Kd.Q_drew HO_577004.out)
    have n3_ := Aside0.mk (Kd.R_drew HO_589002.out)
    have n4_ := Aside0.mk (Kd.R_drew HO_589003.out)
    have n5_ := Aside0.mk (Kd.Q_drew HO_589004.out)
    have n6_ := Aside0.mk (Kd.R_drew HO_603002.out)
    have n7_ := Aside0.mk (Kd.R_drew HO_603003.out)
    have n8_ := Aside0.mk (Kd.Q_drew HO_603004.out)
    have n9_ := Aside0.mk (blk_drew BK550.out)
    have n10_ := Aside0.mk (blk_drew BK576.out)
    have n11_ := Aside0.mk (blk_drew BK588.out)
    have n12_ := Aside0.mk (blk_drew BK602.out)
    have n13_ := Aside0.mk (below_drew1 HB.out)
    clear HO_577002
    clear HO_577003
    clear HO_577004
    clear HO_589002
    clear HO_589003
    clear HO_589004
    clear HO_603002
    clear HO_603003
    clear HO_603004
    clear BK550
    clear BK576
    clear BK588
    clear BK602
    clear HB
    have HO_577002 := n0_
    have HO_577003 := n1_
    have HO_577004 := n2_
    have HO_589002 := n3_
    have HO_589003 := n4_
    have HO_589004 := n5_
    have HO_603002 := n6_
    have HO_603003 := n7_
    have HO_603004 := n8_
    have BK550 := n9_
    have BK576 := n10_
    have BK588 := n11_
    have BK602 := n12_
    have HB := n13_
    clear n0_ n1_ n2_ n3_ n4_ n5_ n6_ n7_ n8_ n9_ n10_ n11_ n12_ n13_
    refine start_ (n := 5) (S := fun w' => w'.cell? ⟨gb588, 0, none⟩ = some (.int .i64 t577) ∧ w'.cell? ⟨gb588, 1, none⟩ = some (.int .i64 t578) ∧ w'.cell? ⟨gb588, 2, none⟩ = some (.slice Ao33 t579.length co33) ∧ w'.cell? ⟨gb588, 3, none⟩ = some (.slice Ao34 t582.length co34) ∧ w'.cell? ⟨gb588, 4, none⟩ = some (.slice Ao35 t585.length co35) ∧ w'.cell? ⟨gb550, 0, none⟩ = some (.int .i64 a0_0) ∧ w'.cell? ⟨gb550, 1, none⟩ = some (.int .i64 a0_1) ∧ w'.cell? ⟨gb550, 2, none⟩ = some (.slice A0_2 l0_2.length c0_2) ∧ w'.cell? ⟨gb550, 3, none⟩ = some (.slice A0_3 l0_3.length c0_3) ∧ w'.cell? ⟨gb550, 4, none⟩ = some (.slice A0_4 l0_4.length c0_4)) (ds := []) (bv 5 0x0) (by kernel_rfl) rfl rfl ⟨bc0 BK588, bc1 BK588, bc2 BK588, bc3 BK588, bc4 BK588, bc0 BK550, bc1 BK550, bc2 BK550, bc3 BK550, bc4 BK550⟩ (fun hHeld => ?_)
    generalize wc.drew = w78 at HO_577002 HO_577003 HO_577004 HO_589002 HO_589003 HO_589004 HO_603002 HO_603003 HO_603004 BK550 BK576 BK588 BK602 HB hHeld ⊢
    refine take_ (i := 0) (N := some 51) (v := ?_) (a' := ?_) (bv 5 0x1) rfl rfl (by kernel_rfl) (fun _ _ _ h => h) (Or.inl ⟨by rfl, ?_⟩) hHeld ?_ ?_
    rotate_left
    ·rintro w' ⟨s0, s1, s2, s3, s4, s5, s6, s7, s8, s9⟩
     go_simp
     with_reducible rfl
    rotate_left
    ·simp only [aP]
     rfl
    refine take_ (i := 1) (N := some 52) (v := ?_) (a' := ?_) (bv 5 0x3) rfl rfl (by kernel_rfl) (fun _ _ _ h => h) (Or.inl ⟨by rfl, ?_⟩) hHeld ?_ ?_
    rotate_left
    ·rintro w' ⟨s0, s1, s2, s3, s4, s5, s6, s7, s8, s9⟩
     go_simp
     with_reducible rfl
    rotate_left
    ·simp only [aP]
     rfl
    refine one_ (i := 2) (N := some 53) (bv 5 0x7) rfl rfl (by kernel_rfl) (by decide) (fun K hK => ?_)
    refine goes_ Try.func18 (by kernel_rfl) rfl #[.agg #[.int .i64 a0_0, .int .i64 a0_1, .slice A0_2 l0_2.length c0_2, .slice A0_3 l0_3.length c0_3, .slice A0_4 l0_4.length c0_4]] (by rfl) rfl rfl ml ?_
    with_reducible refine (laws_toThree.calls kj10 a0_0 a0_1 _ _ l0_2 _ _ l0_3 _ _ l0_4 t604 t605 t606 t609 t612 _ ?side1 ?side2 ?side3 ?side4 ?side5 ?side6 A73.out).mono ?_
    (case side1 => exact cb HR0_2 HB)
    (case side2 => exact HC0_2.out)
    (case side3 => exact cb HR0_3 HB)
    (case side4 => exact HC0_3.out)
    (case side5 => exact cb HR0_4 HB)
    (case side6 => exact HC0_4.out)
    rintro e w79 ⟨v607, v610, v613, rfl, ho0, ho1, ho2, hb⟩
    refine ⟨_, rfl, ?_⟩
    have n0_ := td2 (ro HO_577002) hb ho0 ho1
    have n1_ := td2 (ro HO_577003) hb ho0 ho1
    have n2_ := Aside0.mk (Kd.Q_elder' (qo HO_577004) (Kd.R_base ho2) hb)
    have n3_ := td2 (ro HO_589002) hb ho0 ho1
    have n4_ := td2 (ro HO_589003) hb ho0 ho1
    have n5_ := Aside0.mk (Kd.Q_elder' (qo HO_589004) (Kd.R_base ho2) hb)
    have n6_ := td2 (ro HO_603002) hb ho0 ho1
    have n7_ := td2 (ro HO_603003) hb ho0 ho1
    have n8_ := Aside0.mk (Kd.Q_elder' (qo HO_603004) (Kd.R_base ho2) hb)
    have n9_ := Aside0.mk (Kd.R_lower (nw (nw (nw (nw (nw (nw ho0 HO_577002) HO_577003) HO_589002) HO_589003) HO_603002) HO_603003) (below_size (be4 HB GE550 GE576 GE588 GE602)))
    have n10_ := Aside0.mk (Kd.R_lower (nw (nw (nw (nw (nw (nw ho1 HO_577002) HO_577003) HO_589002) HO_589003) HO_603002) HO_603003) (below_size (be4 HB GE550 GE576 GE588 GE602)))
    have n11_ := Aside0.mk (Kd.R_lower (Kd.R_new' (Kd.R_new' (Kd.R_new' ho2 (Kd.Q_lt (qo HO_577004))) (Kd.Q_lt (qo HO_589004))) (Kd.Q_lt (qo HO_603004))) (below_size (be4 HB GE550 GE576 GE588 GE602)))
    have n12_ := bb BK550 hb
    have n13_ := bb BK576 hb
    have n14_ := bb BK588 hb
    have n15_ := bb BK602 hb
    have n16_ := Aside0.mk (below_step (be4 HB GE550 GE576 GE588 GE602) hb)
    clear HO_577002
    clear HO_577003
    clear HO_577004
    clear HO_589002
    clear HO_589003
    clear HO_589004
    clear HO_603002
    clear HO_603003
    clear HO_603004
    clear BK550
    clear BK576
    clear BK588
    clear BK602
    clear HB
    have HO_577002 := n0_
    have HO_577003 := n1_
    have HO_577004 := n2_
    have HO_589002 := n3_
    have HO_589003 := n4_
    have HO_589004 := n5_
    have HO_603002 := n6_
    have HO_603003 := n7_
    have HO_603004 := n8_
    have HO608 := n9_
    have HO611 := n10_
    have HO614 := n11_
    have BK550 := n12_
    have BK576 := n13_
    have BK588 := n14_
    have BK602 := n15_
    have HB := n16_
    clear n0_ n1_ n2_ n3_ n4_ n5_ n6_ n7_ n8_ n9_ n10_ n11_ n12_ n13_ n14_ n15_ n16_
    (try clear hb)
    (try clear hb2)
    (try clear hk)
    (try clear hi)
    (try clear ho0)
    (try clear ho1)
    (try clear ho2)
    obtain ⟨Ao80, co80, eo80⟩ := Kd.R_slice HO608.out
    (first | subst eo80 | (injection eo80 with f1_ f2_ f3_; have f4_ := f1_.symm; have f5_ := f3_.symm; clear f1_ f2_ f3_; subst f4_; subst f5_))
    obtain ⟨Ao81, co81, eo81⟩ := Kd.R_slice HO611.out
    (first | subst eo81 | (injection eo81 with f1_ f2_ f3_; have f4_ := f1_.symm; have f5_ := f3_.symm; clear f1_ f2_ f3_; subst f4_; subst f5_))
    obtain ⟨Ao82, co82, eo82⟩ := Kd.R_slice HO614.out
    (first | subst eo82 | (injection eo82 with f1_ f2_ f3_; have f4_ := f1_.symm; have f5_ := f3_.symm; clear f1_ f2_ f3_; subst f4_; subst f5_))
    refine hK.out _ _ ⟨bc0 BK588, bc1 BK588, bc2 BK588, bc3 BK588, bc4 BK588, bc0 BK550, bc1 BK550, bc2 BK550, bc3 BK550, bc4 BK550⟩ (fun hHeld => ?_)
    clear hK K
    refine norm_ (a' := ?_) ?_ ?_
    rotate_left
    ·show Act.put _ (some 53) _ = _
     simp only [aP]
     rfl
    refine one_ (i := 3) (N := some 54) (bv 5 0xf) rfl rfl (by kernel_rfl) (by decide) (fun K hK => ?_)
    refine goes_ Try.func20 (by kernel_rfl) rfl #[.agg #[.int .i64 t577, .int .i64 t578, .slice Ao33 t579.length co33, .slice Ao34 t582.length co34, .slice Ao35 t585.length co35], .agg #[.int .i64 t604, .int .i64 t605, .slice Ao80 t606.length co80, .slice Ao81 t609.length co81, .slice Ao82 t612.length co82]] (by rfl) rfl rfl ml ?_
    with_reducible refine (laws_eqThree.calls kj10 t577 t578 _ _ t579 _ _ t582 _ _ t585 t604 t605 _ _ t606 _ _ t609 _ _ t612 true _ ?side1 ?side2 ?side3 ?side4 ?side5 ?side6 ?side7 ?side8 ?side9 ?side10 ?side11 ?side12 A74.out).mono ?_
    (case side1 => exact cr HO_589002)
    (case side2 => exact (Kd.R_reads' HO_589002.out).2.1)
    (case side3 => exact cr HO_589003)
    (case side4 => exact (Kd.R_reads' HO_589003.out).2.1)
    (case side5 => repeat (first | exact (Kd.Q_reads' HO_589004.out).2.2 | (with_reducible refine Kd.C_alloc ?_ _) | (with_reducible refine Kd.C_drewN ?_ _) | (with_reducible refine Kd.C_drew ?_)))
    (case side6 => exact (Kd.Q_reads' HO_589004.out).2.1)
    (case side7 => exact cr HO608)
    (case side8 => exact (Kd.R_reads' HO608.out).2.1)
    (case side9 => exact cr HO611)
    (case side10 => exact (Kd.R_reads' HO611.out).2.1)
    (case side11 => exact cr HO614)
    (case side12 => exact (Kd.R_reads' HO614.out).2.1)
    rintro e w83 ⟨rfl, hb⟩
    refine ⟨_, rfl, ?_⟩
    have n0_ := rb HO_577002 hb
    have n1_ := rb HO_577003 hb
    have n2_ := Aside0.mk (Kd.Q_below (qo HO_577004) hb)
    have n3_ := rb HO_589002 hb
    have n4_ := rb HO_589003 hb
    have n5_ := Aside0.mk (Kd.Q_below (qo HO_589004) hb)
    have n6_ := rb HO_603002 hb
    have n7_ := rb HO_603003 hb
    have n8_ := Aside0.mk (Kd.Q_below (qo HO_603004) hb)
    have n9_ := rb HO608 hb
    have n10_ := rb HO611 hb
    have n11_ := rb HO614 hb
    have n12_ := bb BK550 hb
    have n13_ := bb BK576 hb
    have n14_ := bb BK588 hb
    have n15_ := bb BK602 hb
    have n16_ := Aside0.mk (below_step (be4 HB GE550 GE576 GE588 GE602) hb)
    clear HO_577002
    clear HO_577003
    clear HO_577004
    clear HO_589002
    clear HO_589003
    clear HO_589004
    clear HO_603002
    clear HO_603003
    clear HO_603004
    clear HO608
    clear HO611
    clear HO614
    clear BK550
    clear BK576
    clear BK588
    clear BK602
    clear HB
    have HO_577002 := n0_
    have HO_577003 := n1_
    have HO_577004 := n2_
    have HO_589002 := n3_
    have HO_589003 := n4_
    have HO_589004 := n5_
    have HO_603002 := n6_
    have HO_603003 := n7_
    have HO_603004 := n8_
    have HO608 := n9_
    have HO611 := n10_
    have HO614 := n11_
    have BK550 := n12_
    have BK576 := n13_
    have BK588 := n14_
    have BK602 := n15_
    have HB := n16_
    clear n0_ n1_ n2_ n3_ n4_ n5_ n6_ n7_ n8_ n9_ n10_ n11_ n12_ n13_ n14_ n15_ n16_
    (try clear hb)
    (try clear hb2)
    (try clear hk)
    (try clear hi)
    refine hK.out _ _ ⟨bc0 BK588, bc1 BK588, bc2 BK588, bc3 BK588, bc4 BK588, bc0 BK550, bc1 BK550, bc2 BK550, bc3 BK550, bc4 BK550⟩ (fun hHeld => ?_)
    clear hK K
    refine norm_ (a' := ?_) ?_ ?_
    rotate_left
    ·show Act.put _ (some 54) _ = _
     simp only [aP]
     rfl
    refine pure_ (i := 4) (N := some 55) (v := ?_) (a' := ?_) (bv 5 0x1f) rfl rfl (by kernel_rfl) (fun _ _ _ h => h) (Or.inl ⟨by rfl, ?_⟩) ?_ ?_
    rotate_left
    ·intro w'
     go_simp
     with_reducible rfl
    rotate_left
    ·simp only [aP]
     rfl
    refine done_ (by kernel_rfl) ?_
    have hnb84 := NB588_550.out
    have hnc84 := NB550_588.out
    have hnb85 := NB588_576.out
    have hnc85 := NB576_588.out
    have hnb86 := NB588_602.out
    have hnc86 := NB602_588.out
    have hcz87_0 := bz5 BK588
    go_upto_region 14 with (first | ((with_reducible refine gate_callee (f := 23) rfl ?_); refine gl 58 Try.func23 #[.agg #[.int .i64 t577, .int .i64 t578, .slice Ao33 t579.length co33, .slice Ao34 t582.length co34, .slice Ao35 t585.length co35], .int .i64 1] ?_; (with_reducible refine (laws_markThree.calls kj10 t577 t578 (fun k_ => some k_ = (.slice Ao33 t579.length co33 : Value).ownBlock) (.slice Ao33 t579.length co33) t579 (fun k_ => some k_ = (.slice Ao34 t582.length co34 : Value).ownBlock) (.slice Ao34 t582.length co34) t582 (fun k_ => some k_ = (.slice Ao35 t585.length co35 : Value).ownBlock) (.slice Ao35 t585.length co35) t585 1 t616 t617 t618 t619 w _ ?side1 ?side2 ?side3 ?side4 ?side5 ?side6 A76.out).mono ?_); (case side1 => repeat (first | (with_reducible first | exact HB.out | apply below_alloc | apply pw_below_drewN | apply below_drew1 | refine below_set ?_ GE550.out | refine below_set ?_ GE576.out | refine below_set ?_ GE588.out | refine below_set ?_ GE602.out) | exact HB.out)); (case side2 => exact Kd.R_tight rfl HO_589002.out); (case side3 => exact fun k_ e_ => (HO_589002.out.1 k_ e_.symm).1.1.2.2.1); (case side4 => exact Kd.R_tight rfl HO_589003.out); (case side5 => exact fun k_ e_ => (HO_589003.out.1 k_ e_.symm).1.1.2.2.1); (case side6 => exact Kd.Q_tight rfl HO_589004.out); rintro e w88 ⟨rfl, hy0, hy1, hy2, hb, hkp⟩; refine ⟨_, rfl, ?_⟩; replace HO_577002 := Aside0.mk (Kd.R_mono (ok' := fun k_ => nb k_ Ao25 t568.length co25 ∧ nb k_ Ao33 t579.length co33 ∧ nb k_ Ao34 t582.length co34 ∧ nb k_ Ao42 t591.length co42 ∧ nb k_ Ao43 t594.length co43 ∧ nb k_ Ao80 t606.length co80 ∧ nb k_ Ao81 t609.length co81) (Kd.R_keptB ((Kd.R_apart' HO_577002.out (Kd.Q_typed HO_589004.out) (by decide))) hkp (fun k_ hk_ hs_ => Or.elim hs_ (fun e_ => (hk_.1.1.1.2.1) e_) (fun e_ => Or.elim e_ (fun e_ => (hk_.1.1.1.2.2.1) e_) (fun e_ => (hk_.2) e_)))) cj); replace HO_577003 := Aside0.mk (Kd.R_mono (ok' := fun k_ => nb k_ Ao24 t565.length co24 ∧ nb k_ Ao33 t579.length co33 ∧ nb k_ Ao34 t582.length co34 ∧ nb k_ Ao42 t591.length co42 ∧ nb k_ Ao43 t594.length co43 ∧ nb k_ Ao80 t606.length co80 ∧ nb k_ Ao81 t609.length co81) (Kd.R_keptB ((Kd.R_apart' HO_577003.out (Kd.Q_typed HO_589004.out) (by decide))) hkp (fun k_ hk_ hs_ => Or.elim hs_ (fun e_ => (hk_.1.1.1.2.1) e_) (fun e_ => Or.elim e_ (fun e_ => (hk_.1.1.1.2.2.1) e_) (fun e_ => (hk_.2) e_)))) cj); replace HO_577004 := Aside0.mk (Kd.Q_mono (ok' := fun k_ => nb k_ Ao35 t585.length co35 ∧ nb k_ Ao44 t597.length co44 ∧ nb k_ Ao82 t612.length co82) (Kd.Q_keptB ((Kd.Q_apart' (Kd.Q_apart' HO_577004.out (Kd.R_typed HO_589002.out) (by decide)) (Kd.R_typed HO_589003.out) (by decide))) hkp (fun k_ hk_ hs_ => Or.elim hs_ (fun e_ => (hk_.1.2) e_) (fun e_ => Or.elim e_ (fun e_ => (hk_.2) e_) (fun e_ => (hk_.1.1.1.1) e_)))) cj); replace HO_603002 := Aside0.mk (Kd.R_mono (ok' := fun k_ => nb k_ Ao24 t565.length co24 ∧ nb k_ Ao25 t568.length co25 ∧ nb k_ Ao33 t579.length co33 ∧ nb k_ Ao34 t582.length co34 ∧ nb k_ Ao43 t594.length co43 ∧ nb k_ Ao80 t606.length co80 ∧ nb k_ Ao81 t609.length co81) (Kd.R_keptB ((Kd.R_apart' HO_603002.out (Kd.Q_typed HO_589004.out) (by decide))) hkp (fun k_ hk_ hs_ => Or.elim hs_ (fun e_ => (hk_.1.1.1.2.2.1) e_) (fun e_ => Or.elim e_ (fun e_ => (hk_.1.1.1.2.2.2.1) e_) (fun e_ => (hk_.2) e_)))) cj); replace HO_603003 := Aside0.mk (Kd.R_mono (ok' := fun k_ => nb k_ Ao24 t565.length co24 ∧ nb k_ Ao25 t568.length co25 ∧ nb k_ Ao33 t579.length co33 ∧ nb k_ Ao34 t582.length co34 ∧ nb k_ Ao42 t591.length co42 ∧ nb k_ Ao80 t606.length co80 ∧ nb k_ Ao81 t609.length co81) (Kd.R_keptB ((Kd.R_apart' HO_603003.out (Kd.Q_typed HO_589004.out) (by decide))) hkp (fun k_ hk_ hs_ => Or.elim hs_ (fun e_ => (hk_.1.1.1.2.2.1) e_) (fun e_ => Or.elim e_ (fun e_ => (hk_.1.1.1.2.2.2.1) e_) (fun e_ => (hk_.2) e_)))) cj); replace HO_603004 := Aside0.mk (Kd.Q_mono (ok' := fun k_ => nb k_ Ao26 t571.length co26 ∧ nb k_ Ao35 t585.length co35 ∧ nb k_ Ao82 t612.length co82) (Kd.Q_keptB ((Kd.Q_apart' (Kd.Q_apart' HO_603004.out (Kd.R_typed HO_589002.out) (by decide)) (Kd.R_typed HO_589003.out) (by decide))) hkp (fun k_ hk_ hs_ => Or.elim hs_ (fun e_ => (hk_.1.2) e_) (fun e_ => Or.elim e_ (fun e_ => (hk_.2) e_) (fun e_ => (hk_.1.1.1.2) e_)))) cj); replace BK550 := Aside0.mk (blk_kept (bk BK550) hkp (fun hs_ => Or.elim hs_ (fun e_ => (fun e_ => (Kd.R_ne HO_589002.out BK550.out (by decide)) e_) e_) (fun e_ => Or.elim e_ (fun e_ => (fun e_ => (Kd.R_ne HO_589003.out BK550.out (by decide)) e_) e_) (fun e_ => (fun e_ => (Kd.Q_ne HO_589004.out BK550.out (by decide)) e_) e_)))); replace BK576 := Aside0.mk (blk_kept (bk BK576) hkp (fun hs_ => Or.elim hs_ (fun e_ => (fun e_ => (Kd.R_ne HO_589002.out BK576.out (by decide)) e_) e_) (fun e_ => Or.elim e_ (fun e_ => (fun e_ => (Kd.R_ne HO_589003.out BK576.out (by decide)) e_) e_) (fun e_ => (fun e_ => (Kd.Q_ne HO_589004.out BK576.out (by decide)) e_) e_)))); replace BK588 := Aside0.mk (blk_kept (bk BK588) hkp (fun hs_ => Or.elim hs_ (fun e_ => (fun e_ => (Kd.R_ne HO_589002.out BK588.out (by decide)) e_) e_) (fun e_ => Or.elim e_ (fun e_ => (fun e_ => (Kd.R_ne HO_589003.out BK588.out (by decide)) e_) e_) (fun e_ => (fun e_ => (Kd.Q_ne HO_589004.out BK588.out (by decide)) e_) e_)))); replace BK602 := Aside0.mk (blk_kept (bk BK602) hkp (fun hs_ => Or.elim hs_ (fun e_ => (fun e_ => (Kd.R_ne HO_589002.out BK602.out (by decide)) e_) e_) (fun e_ => Or.elim e_ (fun e_ => (fun e_ => (Kd.R_ne HO_589003.out BK602.out (by decide)) e_) e_) (fun e_ => (fun e_ => (Kd.Q_ne HO_589004.out BK602.out (by decide)) e_) e_)))); replace HO608 := Aside0.mk (Kd.R_mono (ok' := fun k_ => nb k_ Ao24 t565.length co24 ∧ nb k_ Ao25 t568.length co25 ∧ nb k_ Ao33 t579.length co33 ∧ nb k_ Ao34 t582.length co34 ∧ nb k_ Ao42 t591.length co42 ∧ nb k_ Ao43 t594.length co43 ∧ nb k_ Ao81 t609.length co81) (Kd.R_keptB ((Kd.R_apart' HO608.out (Kd.Q_typed HO_589004.out) (by decide))) hkp (fun k_ hk_ hs_ => Or.elim hs_ (fun e_ => (hk_.1.1.1.1.2) e_) (fun e_ => Or.elim e_ (fun e_ => (hk_.1.1.1.2) e_) (fun e_ => (hk_.2) e_)))) cj); replace HO611 := Aside0.mk (Kd.R_mono (ok' := fun k_ => nb k_ Ao24 t565.length co24 ∧ nb k_ Ao25 t568.length co25 ∧ nb k_ Ao33 t579.length co33 ∧ nb k_ Ao34 t582.length co34 ∧ nb k_ Ao42 t591.length co42 ∧ nb k_ Ao43 t594.length co43 ∧ nb k_ Ao80 t606.length co80) (Kd.R_keptB ((Kd.R_apart' HO611.out (Kd.Q_typed HO_589004.out) (by decide))) hkp (fun k_ hk_ hs_ => Or.elim hs_ (fun e_ => (hk_.1.1.1.1.2) e_) (fun e_ => Or.elim e_ (fun e_ => (hk_.1.1.1.2) e_) (fun e_ => (hk_.2) e_)))) cj); replace HO_589004 := Aside0.mk (Kd.Q_mono (Kd.Q_tight rfl hy2) (fun k_ e_ => HO_589004.out.1 k_ e_.symm)); replace HO614 := Aside0.mk (Kd.R_mono (ok' := fun k_ => nb k_ Ao26 t571.length co26 ∧ nb k_ Ao35 t585.length co35 ∧ nb k_ Ao44 t597.length co44) (Kd.R_keptB ((Kd.R_apart' (Kd.R_apart' HO614.out (Kd.R_typed HO_589002.out) (by decide)) (Kd.R_typed HO_589003.out) (by decide))) hkp (fun k_ hk_ hs_ => Or.elim hs_ (fun e_ => (hk_.1.2) e_) (fun e_ => Or.elim e_ (fun e_ => (hk_.2) e_) (fun e_ => (hk_.1.1.1.2) e_)))) cj); replace HO_589002 := Aside0.mk (Kd.R_reok rfl hy0 (fun k_ e_ => HO_589002.out.1 k_ e_)); replace HO_589003 := Aside0.mk (Kd.R_reok rfl hy1 (fun k_ e_ => HO_589003.out.1 k_ e_)); replace HB := Aside0.mk (hb); (try clear hb); (try clear hkp); (try clear hy0); (try clear hy1); (try clear hy2)))
    (try simp only [Act.put, List.setIfInBounds_toArray, List.set_cons_zero, List.set_cons_succ])
    go_cut [76] (fun v76 wc => ∃ (kq : Nat) (x76_76 : Bool), v76 = .bool x76_76 ∧ Aside0 (laws_FnExactEvict.j1 kq t574 t575 x76_76 a0_0 a0_1 l0_2 l0_3 l0_4 t563 t564 t565 t568 t571 t589 t590 t591 t594 t597 = some r) ∧ Aside0 (kq ≤ kj10) ∧ Aside0 (Kd.R k68 68 wc w.heap.size (fun k_ => nb k_ Ao25 t568.length co25 ∧ nb k_ Ao33 t579.length co33 ∧ nb k_ Ao34 t582.length co34 ∧ nb k_ Ao42 t591.length co42 ∧ nb k_ Ao43 t594.length co43) (.slice Ao24 t565.length co24) t565) ∧ Aside0 (Kd.R k68 68 wc w.heap.size (fun k_ => nb k_ Ao24 t565.length co24 ∧ nb k_ Ao33 t579.length co33 ∧ nb k_ Ao34 t582.length co34 ∧ nb k_ Ao42 t591.length co42 ∧ nb k_ Ao43 t594.length co43) (.slice Ao25 t568.length co25) t568) ∧ Aside0 (Kd.Q (Kd.int .i64) 3 wc w.heap.size (fun k_ => nb k_ Ao35 t585.length co35 ∧ nb k_ Ao44 t597.length co44) (.slice Ao26 t571.length co26) t571) ∧ Aside0 (Kd.R k68 68 wc w.heap.size (fun k_ => nb k_ Ao24 t565.length co24 ∧ nb k_ Ao25 t568.length co25 ∧ nb k_ Ao34 t582.length co34 ∧ nb k_ Ao42 t591.length co42 ∧ nb k_ Ao43 t594.length co43) (.slice Ao33 t579.length co33) t617) ∧ Aside0 (Kd.R k68 68 wc w.heap.size (fun k_ => nb k_ Ao24 t565.length co24 ∧ nb k_ Ao25 t568.length co25 ∧ nb k_ Ao33 t579.length co33 ∧ nb k_ Ao42 t591.length co42 ∧ nb k_ Ao43 t594.length co43) (.slice Ao34 t582.length co34) t618) ∧ Aside0 (Kd.Q (Kd.int .i64) 3 wc w.heap.size (fun k_ => nb k_ Ao26 t571.length co26 ∧ nb k_ Ao44 t597.length co44) (.slice Ao35 t585.length co35) t619) ∧ Aside0 (Kd.R k68 68 wc w.heap.size (fun k_ => nb k_ Ao24 t565.length co24 ∧ nb k_ Ao25 t568.length co25 ∧ nb k_ Ao33 t579.length co33 ∧ nb k_ Ao34 t582.length co34 ∧ nb k_ Ao43 t594.length co43) (.slice Ao42 t591.length co42) t591) ∧ Aside0 (Kd.R k68 68 wc w.heap.size (fun k_ => nb k_ Ao24 t565.length co24 ∧ nb k_ Ao25 t568.length co25 ∧ nb k_ Ao33 t579.length co33 ∧ nb k_ Ao34 t582.length co34 ∧ nb k_ Ao42 t591.length co42) (.slice Ao43 t594.length co43) t594) ∧ Aside0 (Kd.Q (Kd.int .i64) 3 wc w.heap.size (fun k_ => nb k_ Ao26 t571.length co26 ∧ nb k_ Ao35 t585.length co35) (.slice Ao44 t597.length co44) t597) ∧ Aside0 (wc.heap[gb550]? = some (.cells #[.int .i64 a0_0, .int .i64 a0_1, (.slice A0_2 l0_2.length c0_2), (.slice A0_3 l0_3.length c0_3), (.slice A0_4 l0_4.length c0_4)] 25 (0, 0))) ∧ Aside0 (wc.heap[gb576]? = some (.cells #[.int .i64 t563, .int .i64 t564, (.slice Ao24 t565.length co24), (.slice Ao25 t568.length co25), (.slice Ao26 t571.length co26)] 30 (0, 0))) ∧ Aside0 (wc.heap[gb588]? = some (.cells #[.int .i64 t577, .int .i64 t578, (.slice Ao33 t579.length co33), (.slice Ao34 t582.length co34), (.slice Ao35 t585.length co35)] 30 (0, 0))) ∧ Aside0 (wc.heap[gb602]? = some (.cells #[.int .i64 t589, .int .i64 t590, (.slice Ao42 t591.length co42), (.slice Ao43 t594.length co43), (.slice Ao44 t597.length co44)] 30 (0, 0))) ∧ Aside0 (Below w.heap.size w wc))
    case first =>
     have H := HC77.out
     clear HC77
     by_cases c89 : t616 < 0
     ·rw [if_pos c89] at H
      have c89b0 : decide (t616 < 0) = true := decide_eq_true c89
      clear c89
      (first | rw [c89b0] | (simp only [i64_w, i32_w]; rw [c89b0]) | skip)
      have H' := Aside0.mk H
      clear H
      go_wp2
      go_meet
      case rel => exact ⟨_, (true), rs, H', ⟨by have := HJ10.out; first | omega | exact Nat.le_refl _⟩, ⟨rom HO_577002⟩, ⟨rom HO_577003⟩, ⟨by (with_reducible repeat (first | apply Kd.Q_alloc | apply Kd.Q_drewN | apply Kd.Q_drew)); exact Kd.Q_mono HO_577004.out (fun _ hk => ⟨hk.1, hk.2.1⟩)⟩, ⟨rom HO_589002⟩, ⟨rom HO_589003⟩, ⟨by (with_reducible repeat (first | apply Kd.Q_alloc | apply Kd.Q_drewN | apply Kd.Q_drew)); exact Kd.Q_mono HO_589004.out (fun _ hk => ⟨hk.1.1, hk.1.2⟩)⟩, ⟨rom HO_603002⟩, ⟨rom HO_603003⟩, ⟨by (with_reducible repeat (first | apply Kd.Q_alloc | apply Kd.Q_drewN | apply Kd.Q_drew)); exact Kd.Q_mono HO_603004.out (fun _ hk => ⟨hk.1, hk.2.1⟩)⟩, ⟨bk BK550⟩, ⟨bk BK576⟩, ⟨bk BK588⟩, ⟨bk BK602⟩, ⟨be4 HB GE550 GE576 GE588 GE602⟩⟩
     rw [if_neg c89] at H
     have c89b0 : decide (t616 < 0) = false := decide_eq_false c89
     clear c89
     (first | rw [c89b0] | (simp only [i64_w, i32_w]; rw [c89b0]) | skip)
     replace H := Option.bind_eq_some_iff.mp H
     obtain ⟨t620, A900, H⟩ := H
     try dsimp only at H
     have A90 := Aside0.mk A900
     clear A900
     by_cases c91 : t620 = true
     ·subst c91
      rw [if_pos rfl] at H
      by_cases c92 : t600.toList = t574.toList
      ·rw [if_pos c92] at H
       have c92b0 : (t600.toList == t574.toList) = true := beq_iff_eq.mpr c92
       have c92b1 : (t600.toList != t574.toList) = false := bne_eq_false_iff_eq.mpr c92
       clear c92
       have H' := Aside0.mk H
       clear H
       have hnb93 := NB602_550.out
       have hnc93 := NB550_602.out
       have hnb94 := NB602_576.out
       have hnc94 := NB576_602.out
       have hnb95 := NB602_588.out
       have hnc95 := NB588_602.out
       have hcz96_0 := bz5 BK602
       have hnb97 := NB576_550.out
       have hnc97 := NB550_576.out
       have hnb98 := NB576_588.out
       have hnc98 := NB588_576.out
       have hcz99_0 := bz5 BK576
       go_wp2_with (first | (go_at_call 20; (with_reducible refine (laws_eqThree.calls kj10 t589 t590 _ _ t591 _ _ t594 _ _ t597 t563 t564 _ _ t565 _ _ t568 _ _ t571 true _ (cr HO_603002) ((Kd.R_reads' HO_603002.out).2.1) (cr HO_603003) ((Kd.R_reads' HO_603003.out).2.1) ?side5 ?side6 (cr HO_577002) ((Kd.R_reads' HO_577002.out).2.1) (cr HO_577003) ((Kd.R_reads' HO_577003.out).2.1) ?side11 ?side12 A90.out).mono ?_); (case side5 => repeat (first | exact (Kd.Q_reads' HO_603004.out).2.2 | (with_reducible refine Kd.C_alloc ?_ _) | (with_reducible refine Kd.C_drewN ?_ _) | (with_reducible refine Kd.C_drew ?_))); (case side6 => exact (Kd.Q_reads' HO_603004.out).2.1); (case side11 => repeat (first | exact (Kd.Q_reads' HO_577004.out).2.2 | (with_reducible refine Kd.C_alloc ?_ _) | (with_reducible refine Kd.C_drewN ?_ _) | (with_reducible refine Kd.C_drew ?_))); (case side12 => exact (Kd.Q_reads' HO_577004.out).2.1); rintro e w100 ⟨rfl, hb⟩; replace HO_577002 := rb HO_577002 hb; replace HO_577003 := rb HO_577003 hb; replace HO_577004 := Aside0.mk (Kd.Q_below (qo HO_577004) hb); replace HO_589002 := rb HO_589002 hb; replace HO_589003 := rb HO_589003 hb; replace HO_589004 := Aside0.mk (Kd.Q_below (qo HO_589004) hb); replace HO_603002 := rb HO_603002 hb; replace HO_603003 := rb HO_603003 hb; replace HO_603004 := Aside0.mk (Kd.Q_below (qo HO_603004) hb); replace HO608 := rb HO608 hb; replace HO611 := rb HO611 hb; replace HO614 := rb HO614 hb; replace BK550 := bb BK550 hb; replace BK576 := bb BK576 hb; replace BK588 := bb BK588 hb; replace BK602 := bb BK602 hb; replace HB := Aside0.mk (below_step (be4 HB GE550 GE576 GE588 GE602) hb); (try clear hb)))
       go_meet
       case rel => exact ⟨_, ((t601 != t575)), rs, H', ⟨by have := HJ10.out; first | omega | exact Nat.le_refl _⟩, ⟨rom HO_577002⟩, ⟨rom HO_577003⟩, ⟨by (with_reducible repeat (first | apply Kd.Q_alloc | apply Kd.Q_drewN | apply Kd.Q_drew)); exact Kd.Q_mono HO_577004.out (fun _ hk => ⟨hk.1, hk.2.1⟩)⟩, ⟨rom HO_589002⟩, ⟨rom HO_589003⟩, ⟨by (with_reducible repeat (first | apply Kd.Q_alloc | apply Kd.Q_drewN | apply Kd.Q_drew)); exact Kd.Q_mono HO_589004.out (fun _ hk => ⟨hk.1.1, hk.1.2⟩)⟩, ⟨rom HO_603002⟩, ⟨rom HO_603003⟩, ⟨by (with_reducible repeat (first | apply Kd.Q_alloc | apply Kd.Q_drewN | apply Kd.Q_drew)); exact Kd.Q_mono HO_603004.out (fun _ hk => ⟨hk.1, hk.2.1⟩)⟩, ⟨bk BK550⟩, ⟨bk BK576⟩, ⟨bk BK588⟩, ⟨bk BK602⟩, ⟨be4 HB GE550 GE576 GE588 GE602⟩⟩
      rw [if_neg c92] at H
      have c92b0 : (t600.toList == t574.toList) = false := beq_eq_false_iff_ne.mpr c92
      have c92b1 : (t600.toList != t574.toList) = true := bne_iff_ne.mpr c92
      have H' := Aside0.mk H
      clear H
      have hnb101 := NB602_550.out
      have hnc101 := NB550_602.out
      have hnb102 := NB602_576.out
      have hnc102 := NB576_602.out
      have hnb103 := NB602_588.out
      have hnc103 := NB588_602.out
      have hcz104_0 := bz5 BK602
      have hnb105 := NB576_550.out
      have hnc105 := NB550_576.out
      have hnb106 := NB576_588.out
      have hnc106 := NB588_576.out
      have hcz107_0 := bz5 BK576
      go_wp2_with (first | (go_at_call 20; (with_reducible refine (laws_eqThree.calls kj10 t589 t590 _ _ t591 _ _ t594 _ _ t597 t563 t564 _ _ t565 _ _ t568 _ _ t571 true _ (cr HO_603002) ((Kd.R_reads' HO_603002.out).2.1) (cr HO_603003) ((Kd.R_reads' HO_603003.out).2.1) ?side5 ?side6 (cr HO_577002) ((Kd.R_reads' HO_577002.out).2.1) (cr HO_577003) ((Kd.R_reads' HO_577003.out).2.1) ?side11 ?side12 A90.out).mono ?_); (case side5 => repeat (first | exact (Kd.Q_reads' HO_603004.out).2.2 | (with_reducible refine Kd.C_alloc ?_ _) | (with_reducible refine Kd.C_drewN ?_ _) | (with_reducible refine Kd.C_drew ?_))); (case side6 => exact (Kd.Q_reads' HO_603004.out).2.1); (case side11 => repeat (first | exact (Kd.Q_reads' HO_577004.out).2.2 | (with_reducible refine Kd.C_alloc ?_ _) | (with_reducible refine Kd.C_drewN ?_ _) | (with_reducible refine Kd.C_drew ?_))); (case side12 => exact (Kd.Q_reads' HO_577004.out).2.1); rintro e w108 ⟨rfl, hb⟩; replace HO_577002 := rb HO_577002 hb; replace HO_577003 := rb HO_577003 hb; replace HO_577004 := Aside0.mk (Kd.Q_below (qo HO_577004) hb); replace HO_589002 := rb HO_589002 hb; replace HO_589003 := rb HO_589003 hb; replace HO_589004 := Aside0.mk (Kd.Q_below (qo HO_589004) hb); replace HO_603002 := rb HO_603002 hb; replace HO_603003 := rb HO_603003 hb; replace HO_603004 := Aside0.mk (Kd.Q_below (qo HO_603004) hb); replace HO608 := rb HO608 hb; replace HO611 := rb HO611 hb; replace HO614 := rb HO614 hb; replace BK550 := bb BK550 hb; replace BK576 := bb BK576 hb; replace BK588 := bb BK588 hb; replace BK602 := bb BK602 hb; replace HB := Aside0.mk (below_step (be4 HB GE550 GE576 GE588 GE602) hb); (try clear hb)))
      go_meet
      case rel => exact ⟨_, (true), rs, H', ⟨by have := HJ10.out; first | omega | exact Nat.le_refl _⟩, ⟨rom HO_577002⟩, ⟨rom HO_577003⟩, ⟨by (with_reducible repeat (first | apply Kd.Q_alloc | apply Kd.Q_drewN | apply Kd.Q_drew)); exact Kd.Q_mono HO_577004.out (fun _ hk => ⟨hk.1, hk.2.1⟩)⟩, ⟨rom HO_589002⟩, ⟨rom HO_589003⟩, ⟨by (with_reducible repeat (first | apply Kd.Q_alloc | apply Kd.Q_drewN | apply Kd.Q_drew)); exact Kd.Q_mono HO_589004.out (fun _ hk => ⟨hk.1.1, hk.1.2⟩)⟩, ⟨rom HO_603002⟩, ⟨rom HO_603003⟩, ⟨by (with_reducible repeat (first | apply Kd.Q_alloc | apply Kd.Q_drewN | apply Kd.Q_drew)); exact Kd.Q_mono HO_603004.out (fun _ hk => ⟨hk.1, hk.2.1⟩)⟩, ⟨bk BK550⟩, ⟨bk BK576⟩, ⟨bk BK588⟩, ⟨bk BK602⟩, ⟨be4 HB GE550 GE576 GE588 GE602⟩⟩
     replace c91 := Bool.eq_false_iff.mpr c91
     subst c91
     rw [if_neg (show ¬ (false = true) by decide)] at H
     have H' := Aside0.mk H
     clear H
     have hnb109 := NB602_550.out
     have hnc109 := NB550_602.out
     have hnb110 := NB602_576.out
     have hnc110 := NB576_602.out
     have hnb111 := NB602_588.out
     have hnc111 := NB588_602.out
     have hcz112_0 := bz5 BK602
     have hnb113 := NB576_550.out
     have hnc113 := NB550_576.out
     have hnb114 := NB576_588.out
     have hnc114 := NB588_576.out
     have hcz115_0 := bz5 BK576
     go_wp2_with (first | (go_at_call 20; (with_reducible refine (laws_eqThree.calls kj10 t589 t590 _ _ t591 _ _ t594 _ _ t597 t563 t564 _ _ t565 _ _ t568 _ _ t571 false _ (cr HO_603002) ((Kd.R_reads' HO_603002.out).2.1) (cr HO_603003) ((Kd.R_reads' HO_603003.out).2.1) ?side5 ?side6 (cr HO_577002) ((Kd.R_reads' HO_577002.out).2.1) (cr HO_577003) ((Kd.R_reads' HO_577003.out).2.1) ?side11 ?side12 A90.out).mono ?_); (case side5 => repeat (first | exact (Kd.Q_reads' HO_603004.out).2.2 | (with_reducible refine Kd.C_alloc ?_ _) | (with_reducible refine Kd.C_drewN ?_ _) | (with_reducible refine Kd.C_drew ?_))); (case side6 => exact (Kd.Q_reads' HO_603004.out).2.1); (case side11 => repeat (first | exact (Kd.Q_reads' HO_577004.out).2.2 | (with_reducible refine Kd.C_alloc ?_ _) | (with_reducible refine Kd.C_drewN ?_ _) | (with_reducible refine Kd.C_drew ?_))); (case side12 => exact (Kd.Q_reads' HO_577004.out).2.1); rintro e w116 ⟨rfl, hb⟩; replace HO_577002 := rb HO_577002 hb; replace HO_577003 := rb HO_577003 hb; replace HO_577004 := Aside0.mk (Kd.Q_below (qo HO_577004) hb); replace HO_589002 := rb HO_589002 hb; replace HO_589003 := rb HO_589003 hb; replace HO_589004 := Aside0.mk (Kd.Q_below (qo HO_589004) hb); replace HO_603002 := rb HO_603002 hb; replace HO_603003 := rb HO_603003 hb; replace HO_603004 := Aside0.mk (Kd.Q_below (qo HO_603004) hb); replace HO608 := rb HO608 hb; replace HO611 := rb HO611 hb; replace HO614 := rb HO614 hb; replace BK550 := bb BK550 hb; replace BK576 := bb BK576 hb; replace BK588 := bb BK588 hb; replace BK602 := bb BK602 hb; replace HB := Aside0.mk (below_step (be4 HB GE550 GE576 GE588 GE602) hb); (try clear hb)))
     go_meet
     case rel => exact ⟨_, (true), rs, H', ⟨by have := HJ10.out; first | omega | exact Nat.le_refl _⟩, ⟨rom HO_577002⟩, ⟨rom HO_577003⟩, ⟨by (with_reducible repeat (first | apply Kd.Q_alloc | apply Kd.Q_drewN | apply Kd.Q_drew)); exact Kd.Q_mono HO_577004.out (fun _ hk => ⟨hk.1, hk.2.1⟩)⟩, ⟨rom HO_589002⟩, ⟨rom HO_589003⟩, ⟨by (with_reducible repeat (first | apply Kd.Q_alloc | apply Kd.Q_drewN | apply Kd.Q_drew)); exact Kd.Q_mono HO_589004.out (fun _ hk => ⟨hk.1.1, hk.1.2⟩)⟩, ⟨rom HO_603002⟩, ⟨rom HO_603003⟩, ⟨by (with_reducible repeat (first | apply Kd.Q_alloc | apply Kd.Q_drewN | apply Kd.Q_drew)); exact Kd.Q_mono HO_603004.out (fun _ hk => ⟨hk.1, hk.2.1⟩)⟩, ⟨bk BK550⟩, ⟨bk BK576⟩, ⟨bk BK588⟩, ⟨bk BK602⟩, ⟨be4 HB GE550 GE576 GE588 GE602⟩⟩
    case rest =>
     clear HC77
     try clear c1; try clear c2; try clear p2; try clear c3; try clear c4; try clear c5; try clear c6; try clear c7; try clear c8; try clear c9; try clear c10; try clear c11; try clear c16; try clear c18; try clear c20; try clear c22; try clear c23; try clear c30; try clear c31; try clear c38; try clear c39; try clear c40; try clear c46; try clear c47; try clear c47b0; try clear c47b1; try clear c48; try clear c49; try clear c50; try clear c52; try clear c53; try clear c56; try clear c57; try clear c58; try clear c60; try clear c61; try clear c64; try clear c65; try clear c66; try clear c68; try clear c69; try clear c72; try clear c75; try clear c84; try clear c85; try clear c86; try clear c89; try clear c89b0; try clear c91; try clear c92; try clear c92b0; try clear c92b1; try clear c93; try clear c94; try clear c95; try clear c97; try clear c98; try clear c101; try clear c102; try clear c103; try clear c105; try clear c106; try clear c109; try clear c110; try clear c111; try clear c113; try clear c114; try clear hcz104_0; try clear hcz107_0; try clear hcz112_0; try clear hcz115_0; try clear hcz13_0; try clear hcz15_0; try clear hcz23_0; try clear hcz27_0; try clear hcz32_0; try clear hcz41_0; try clear hcz51_0; try clear hcz54_0; try clear hcz59_0; try clear hcz5_0; try clear hcz62_0; try clear hcz67_0; try clear hcz70_0; try clear hcz87_0; try clear hcz96_0; try clear hcz99_0
     obtain ⟨kq, x76_76, rfl, HA, HJ76, HO_577002, HO_577003, HO_577004, HO_589002, HO_589003, HO_589004, HO_603002, HO_603003, HO_603004, BK550, BK576, BK588, BK602, HB⟩ := hcut
     have hl589002_76 := (Kd.R_reads' HO_589002.out).1
     rw [hl589002_76] at HO_589002
     (try simp only [hl589002_76])
     (try simp only [hl589002_76] at BK550)
     (try simp only [hl589002_76] at BK576)
     (try simp only [hl589002_76] at BK588)
     (try simp only [hl589002_76] at BK602)
     (try simp only [hl589002_76] at HO_577002)
     (try simp only [hl589002_76] at HO_577003)
     (try simp only [hl589002_76] at HO_577004)
     (try simp only [hl589002_76] at HO_589003)
     (try simp only [hl589002_76] at HO_589004)
     (try simp only [hl589002_76] at HO_603002)
     (try simp only [hl589002_76] at HO_603003)
     (try simp only [hl589002_76] at HO_603004)
     have hl589003_76 := (Kd.R_reads' HO_589003.out).1
     rw [hl589003_76] at HO_589003
     (try simp only [hl589003_76])
     (try simp only [hl589003_76] at BK550)
     (try simp only [hl589003_76] at BK576)
     (try simp only [hl589003_76] at BK588)
     (try simp only [hl589003_76] at BK602)
     (try simp only [hl589003_76] at HO_577002)
     (try simp only [hl589003_76] at HO_577003)
     (try simp only [hl589003_76] at HO_577004)
     (try simp only [hl589003_76] at HO_589002)
     (try simp only [hl589003_76] at HO_589004)
     (try simp only [hl589003_76] at HO_603002)
     (try simp only [hl589003_76] at HO_603003)
     (try simp only [hl589003_76] at HO_603004)
     have hl589004_76 := (Kd.Q_reads' HO_589004.out).1
     rw [hl589004_76] at HO_589004
     (try simp only [hl589004_76])
     (try simp only [hl589004_76] at BK550)
     (try simp only [hl589004_76] at BK576)
     (try simp only [hl589004_76] at BK588)
     (try simp only [hl589004_76] at BK602)
     (try simp only [hl589004_76] at HO_577002)
     (try simp only [hl589004_76] at HO_577003)
     (try simp only [hl589004_76] at HO_577004)
     (try simp only [hl589004_76] at HO_589002)
     (try simp only [hl589004_76] at HO_589003)
     (try simp only [hl589004_76] at HO_603002)
     (try simp only [hl589004_76] at HO_603003)
     (try simp only [hl589004_76] at HO_603004)
     cases kq with
     | zero => exact absurd HA.out (by simp [laws_FnExactEvict.j1])
     | succ kj76 =>
      have H := HA.out
      clear HA
      simp only [laws_FnExactEvict.j1] at H
      by_cases c117 : x76_76 = true
      ·subst c117
       rw [if_pos rfl] at H
       exact absurd ((Option.some.inj H).trans hrt_.out) (by decide)
      replace c117 := Bool.eq_false_iff.mpr c117
      subst c117
      rw [if_neg (show ¬ (false = true) by decide)] at H
      replace H := Option.bind_eq_some_iff.mp H
      obtain ⟨⟨t621, t622, t623, t624⟩, A1180, H⟩ := H
      try dsimp only at H
      have A118 := Aside0.mk A1180
      clear A1180
      replace H := Option.bind_eq_some_iff.mp H
      obtain ⟨t625, A1190, H⟩ := H
      try dsimp only at H
      have A119 := Aside0.mk A1190
      clear A1190
      by_cases c120 : t625 < 0
      ·rw [if_pos c120] at H
       have c120b0 : decide (t625 < 0) = true := decide_eq_true c120
       clear c120
       exact absurd ((Option.some.inj H).trans hrt_.out) (by decide)
      rw [if_neg c120] at H
      have c120b0 : decide (t625 < 0) = false := decide_eq_false c120
      clear c120
      by_cases c121 : t625 = t621
      ·rw [if_pos c121] at H
       have c121b0 : (t625 == t621) = true := beq_iff_eq.mpr c121
       have c121b1 : (t625 != t621) = false := bne_eq_false_iff_eq.mpr c121
       clear c121
       replace H := Option.bind_eq_some_iff.mp H
       obtain ⟨⟨t626, t627, t628, t631, t634⟩, A1220, H⟩ := H
       try dsimp only at H
       have A122 := Aside0.mk A1220
       clear A1220
       replace H := Option.bind_eq_some_iff.mp H
       obtain ⟨⟨t637, t638, t639, t642, t645, t648, t649⟩, A1230, H⟩ := H
       try dsimp only at H
       have A123 := Aside0.mk A1230
       clear A1230
       have HC124 := Aside0.mk H
       clear H
       have hnb125 := NB602_550.out
       have hnc125 := NB550_602.out
       have hnb126 := NB602_576.out
       have hnc126 := NB576_602.out
       have hnb127 := NB602_588.out
       have hnc127 := NB588_602.out
       have hcz128_0 := bz5 BK602
       go_upto_region 25 with (first | ((with_reducible refine gate_callee (f := 23) rfl ?_); refine gl 79 Try.func23 #[.agg #[.int .i64 t589, .int .i64 t590, .slice Ao42 t591.length co42, .slice Ao43 t594.length co43, .slice Ao44 t597.length co44], .int .i64 1] ?_; (with_reducible refine (laws_markThree.calls kj76 t589 t590 (fun k_ => some k_ = (.slice Ao42 t591.length co42 : Value).ownBlock) (.slice Ao42 t591.length co42) t591 (fun k_ => some k_ = (.slice Ao43 t594.length co43 : Value).ownBlock) (.slice Ao43 t594.length co43) t594 (fun k_ => some k_ = (.slice Ao44 t597.length co44 : Value).ownBlock) (.slice Ao44 t597.length co44) t597 1 t621 t622 t623 t624 w _ ?side1 ?side2 ?side3 ?side4 ?side5 ?side6 A118.out).mono ?_); (case side1 => repeat (first | (with_reducible first | exact HB.out | apply below_alloc | apply pw_below_drewN | apply below_drew1 | refine below_set ?_ GE550.out | refine below_set ?_ GE576.out | refine below_set ?_ GE588.out | refine below_set ?_ GE602.out) | exact HB.out)); (case side2 => exact Kd.R_tight rfl HO_603002.out); (case side3 => exact fun k_ e_ => (HO_603002.out.1 k_ e_.symm).2.2.2.2); (case side4 => exact Kd.R_tight rfl HO_603003.out); (case side5 => exact fun k_ e_ => (HO_603003.out.1 k_ e_.symm).2.2.2.2); (case side6 => exact Kd.Q_tight rfl HO_603004.out); rintro e w129 ⟨rfl, hy0, hy1, hy2, hb, hkp⟩; refine ⟨_, rfl, ?_⟩; replace HO_577002 := Aside0.mk (Kd.R_mono (ok' := fun k_ => nb k_ Ao25 t568.length co25 ∧ nb k_ Ao33 t617.length co33 ∧ nb k_ Ao34 t618.length co34 ∧ nb k_ Ao42 t591.length co42 ∧ nb k_ Ao43 t594.length co43) (Kd.R_keptB ((Kd.R_apart' HO_577002.out (Kd.Q_typed HO_603004.out) (by decide))) hkp (fun k_ hk_ hs_ => Or.elim hs_ (fun e_ => (hk_.1.2.2.2.1) e_) (fun e_ => Or.elim e_ (fun e_ => (hk_.1.2.2.2.2) e_) (fun e_ => (hk_.2) e_)))) cj); replace HO_577003 := Aside0.mk (Kd.R_mono (ok' := fun k_ => nb k_ Ao24 t565.length co24 ∧ nb k_ Ao33 t617.length co33 ∧ nb k_ Ao34 t618.length co34 ∧ nb k_ Ao42 t591.length co42 ∧ nb k_ Ao43 t594.length co43) (Kd.R_keptB ((Kd.R_apart' HO_577003.out (Kd.Q_typed HO_603004.out) (by decide))) hkp (fun k_ hk_ hs_ => Or.elim hs_ (fun e_ => (hk_.1.2.2.2.1) e_) (fun e_ => Or.elim e_ (fun e_ => (hk_.1.2.2.2.2) e_) (fun e_ => (hk_.2) e_)))) cj); replace HO_577004 := Aside0.mk (Kd.Q_mono (ok' := fun k_ => nb k_ Ao35 t619.length co35 ∧ nb k_ Ao44 t597.length co44) (Kd.Q_keptB ((Kd.Q_apart' (Kd.Q_apart' HO_577004.out (Kd.R_typed HO_603002.out) (by decide)) (Kd.R_typed HO_603003.out) (by decide))) hkp (fun k_ hk_ hs_ => Or.elim hs_ (fun e_ => (hk_.1.2) e_) (fun e_ => Or.elim e_ (fun e_ => (hk_.2) e_) (fun e_ => (hk_.1.1.2) e_)))) cj); replace HO_589002 := Aside0.mk (Kd.R_mono (ok' := fun k_ => nb k_ Ao24 t565.length co24 ∧ nb k_ Ao25 t568.length co25 ∧ nb k_ Ao34 t618.length co34 ∧ nb k_ Ao42 t591.length co42 ∧ nb k_ Ao43 t594.length co43) (Kd.R_keptB ((Kd.R_apart' HO_589002.out (Kd.Q_typed HO_603004.out) (by decide))) hkp (fun k_ hk_ hs_ => Or.elim hs_ (fun e_ => (hk_.1.2.2.2.1) e_) (fun e_ => Or.elim e_ (fun e_ => (hk_.1.2.2.2.2) e_) (fun e_ => (hk_.2) e_)))) cj); replace HO_589003 := Aside0.mk (Kd.R_mono (ok' := fun k_ => nb k_ Ao24 t565.length co24 ∧ nb k_ Ao25 t568.length co25 ∧ nb k_ Ao33 t617.length co33 ∧ nb k_ Ao42 t591.length co42 ∧ nb k_ Ao43 t594.length co43) (Kd.R_keptB ((Kd.R_apart' HO_589003.out (Kd.Q_typed HO_603004.out) (by decide))) hkp (fun k_ hk_ hs_ => Or.elim hs_ (fun e_ => (hk_.1.2.2.2.1) e_) (fun e_ => Or.elim e_ (fun e_ => (hk_.1.2.2.2.2) e_) (fun e_ => (hk_.2) e_)))) cj); replace HO_589004 := Aside0.mk (Kd.Q_mono (ok' := fun k_ => nb k_ Ao26 t571.length co26 ∧ nb k_ Ao44 t597.length co44) (Kd.Q_keptB ((Kd.Q_apart' (Kd.Q_apart' HO_589004.out (Kd.R_typed HO_603002.out) (by decide)) (Kd.R_typed HO_603003.out) (by decide))) hkp (fun k_ hk_ hs_ => Or.elim hs_ (fun e_ => (hk_.1.2) e_) (fun e_ => Or.elim e_ (fun e_ => (hk_.2) e_) (fun e_ => (hk_.1.1.2) e_)))) cj); replace BK550 := Aside0.mk (blk_kept (bk BK550) hkp (fun hs_ => Or.elim hs_ (fun e_ => (fun e_ => (Kd.R_ne HO_603002.out BK550.out (by decide)) e_) e_) (fun e_ => Or.elim e_ (fun e_ => (fun e_ => (Kd.R_ne HO_603003.out BK550.out (by decide)) e_) e_) (fun e_ => (fun e_ => (Kd.Q_ne HO_603004.out BK550.out (by decide)) e_) e_)))); replace BK576 := Aside0.mk (blk_kept (bk BK576) hkp (fun hs_ => Or.elim hs_ (fun e_ => (fun e_ => (Kd.R_ne HO_603002.out BK576.out (by decide)) e_) e_) (fun e_ => Or.elim e_ (fun e_ => (fun e_ => (Kd.R_ne HO_603003.out BK576.out (by decide)) e_) e_) (fun e_ => (fun e_ => (Kd.Q_ne HO_603004.out BK576.out (by decide)) e_) e_)))); replace BK588 := Aside0.mk (blk_kept (bk BK588) hkp (fun hs_ => Or.elim hs_ (fun e_ => (fun e_ => (Kd.R_ne HO_603002.out BK588.out (by decide)) e_) e_) (fun e_ => Or.elim e_ (fun e_ => (fun e_ => (Kd.R_ne HO_603003.out BK588.out (by decide)) e_) e_) (fun e_ => (fun e_ => (Kd.Q_ne HO_603004.out BK588.out (by decide)) e_) e_)))); replace BK602 := Aside0.mk (blk_kept (bk BK602) hkp (fun hs_ => Or.elim hs_ (fun e_ => (fun e_ => (Kd.R_ne HO_603002.out BK602.out (by decide)) e_) e_) (fun e_ => Or.elim e_ (fun e_ => (fun e_ => (Kd.R_ne HO_603003.out BK602.out (by decide)) e_) e_) (fun e_ => (fun e_ => (Kd.Q_ne HO_603004.out BK602.out (by decide)) e_) e_)))); replace HO_603002 := Aside0.mk (Kd.R_reok rfl hy0 (fun k_ e_ => HO_603002.out.1 k_ e_)); replace HO_603003 := Aside0.mk (Kd.R_reok rfl hy1 (fun k_ e_ => HO_603003.out.1 k_ e_)); replace HO_603004 := Aside0.mk (Kd.Q_mono (Kd.Q_tight rfl hy2) (fun k_ e_ => HO_603004.out.1 k_ e_.symm)); replace HB := Aside0.mk (hb); (try clear hb); (try clear hkp); (try clear hy0); (try clear hy1); (try clear hy2); have hcz130_0 := bz5 BK602) | ((with_reducible refine gate_callee (f := 24) rfl ?_); refine goesL_ (some 82) rfl rfl Try.func24 (by kernel_rfl) rfl #[.agg #[.int .i64 t589, .int .i64 t590, .slice Ao42 t622.length co42, .slice Ao43 t623.length co43, .slice Ao44 t624.length co44], .int .i64 1] rfl (by (try simp only [List.map_toArray, List.map_cons, List.map_nil]); first | done | (rw [show t622.length = t591.length from (Kd.R_reads' HO_603002.out).1.symm, show t623.length = t594.length from (Kd.R_reads' HO_603003.out).1.symm, show t624.length = t597.length from (Kd.Q_reads' HO_603004.out).1.symm] <;> rfl) | rfl | (simp only [List.length_drop, List.length_take]; rfl)) ?_; (with_reducible refine (laws_heldThree.calls kj76 t589 t590 _ _ t622 _ _ t623 _ _ t624 1 t625 _ (cr HO_603002) ?side2 (cr HO_603003) ?side4 ?side5 ?side6 A119.out).mono ?_); (case side2 => rw [show t622.length = t591.length from (Kd.R_reads' HO_603002.out).1.symm]; exact (Kd.R_reads' HO_603002.out).2.1); (case side4 => rw [show t623.length = t594.length from (Kd.R_reads' HO_603003.out).1.symm]; exact (Kd.R_reads' HO_603003.out).2.1); (case side5 => repeat (first | exact (Kd.Q_reads' HO_603004.out).2.2 | (with_reducible refine Kd.C_alloc ?_ _) | (with_reducible refine Kd.C_drewN ?_ _) | (with_reducible refine Kd.C_drew ?_))); (case side6 => rw [show t624.length = t597.length from (Kd.Q_reads' HO_603004.out).1.symm]; exact (Kd.Q_reads' HO_603004.out).2.1); rintro e w131 ⟨rfl, hb⟩; refine ⟨_, rfl, ?_⟩; replace HO_577002 := rb HO_577002 hb; replace HO_577003 := rb HO_577003 hb; replace HO_577004 := Aside0.mk (Kd.Q_below (qo HO_577004) hb); replace HO_589002 := rb HO_589002 hb; replace HO_589003 := rb HO_589003 hb; replace HO_589004 := Aside0.mk (Kd.Q_below (qo HO_589004) hb); replace HO_603002 := rb HO_603002 hb; replace HO_603003 := rb HO_603003 hb; replace HO_603004 := Aside0.mk (Kd.Q_below (qo HO_603004) hb); replace BK550 := bb BK550 hb; replace BK576 := bb BK576 hb; replace BK588 := bb BK588 hb; replace BK602 := bb BK602 hb; replace HB := Aside0.mk (below_step (be4 HB GE550 GE576 GE588 GE602) hb); (try clear hb); have hnb132 := NB550_576.out; have hnc132 := NB576_550.out; have hnb133 := NB550_588.out; have hnc133 := NB588_550.out; have hcz134_0 := bz5 BK550) | ((with_reducible refine gate_callee (f := 18) rfl ?_); refine gl 90 Try.func18 #[.agg #[.int .i64 a0_0, .int .i64 a0_1, .slice A0_2 l0_2.length c0_2, .slice A0_3 l0_3.length c0_3, .slice A0_4 l0_4.length c0_4]] ?_; (with_reducible refine (laws_toThree.calls kj76 a0_0 a0_1 _ _ l0_2 _ _ l0_3 _ _ l0_4 t626 t627 t628 t631 t634 _ (cb HR0_2 HB) HC0_2.out (cb HR0_3 HB) HC0_3.out (cb HR0_4 HB) HC0_4.out A122.out).mono ?_); rintro e w135 ⟨v629, v632, v635, rfl, ho0, ho1, ho2, hb⟩; refine ⟨_, rfl, ?_⟩; have HO630 := Aside0.mk (Kd.R_lower (nw (nw (nw (nw (nw (nw ho0 HO_577002) HO_577003) HO_589002) HO_589003) HO_603002) HO_603003) (below_size (be4 HB GE550 GE576 GE588 GE602))); have HO633 := Aside0.mk (Kd.R_lower (nw (nw (nw (nw (nw (nw ho1 HO_577002) HO_577003) HO_589002) HO_589003) HO_603002) HO_603003) (below_size (be4 HB GE550 GE576 GE588 GE602))); replace HO_577002 := td2 (ro HO_577002) hb ho0 ho1; replace HO_577003 := td2 (ro HO_577003) hb ho0 ho1; replace HO_589002 := td2 (ro HO_589002) hb ho0 ho1; replace HO_589003 := td2 (ro HO_589003) hb ho0 ho1; replace HO_603002 := td2 (ro HO_603002) hb ho0 ho1; replace HO_603003 := td2 (ro HO_603003) hb ho0 ho1; have HO636 := Aside0.mk (Kd.R_lower (Kd.R_new' (Kd.R_new' (Kd.R_new' ho2 (Kd.Q_lt (qo HO_577004))) (Kd.Q_lt (qo HO_589004))) (Kd.Q_lt (qo HO_603004))) (below_size (be4 HB GE550 GE576 GE588 GE602))); replace HO_577004 := Aside0.mk (Kd.Q_elder' (qo HO_577004) (Kd.R_base ho2) hb); replace HO_589004 := Aside0.mk (Kd.Q_elder' (qo HO_589004) (Kd.R_base ho2) hb); replace HO_603004 := Aside0.mk (Kd.Q_elder' (qo HO_603004) (Kd.R_base ho2) hb); replace BK550 := bb BK550 hb; replace BK576 := bb BK576 hb; replace BK588 := bb BK588 hb; replace BK602 := bb BK602 hb; replace HB := Aside0.mk (below_step (be4 HB GE550 GE576 GE588 GE602) hb); (try clear hb); (try clear ho0); (try clear ho1); (try clear ho2); obtain ⟨Ao136, co136, eo136⟩ := Kd.R_slice HO630.out; subst eo136; obtain ⟨Ao137, co137, eo137⟩ := Kd.R_slice HO633.out; subst eo137; obtain ⟨Ao138, co138, eo138⟩ := Kd.R_slice HO636.out; subst eo138) | ((with_reducible refine gate_callee (f := 40) rfl ?_); refine gl 91 Try.func40 #[.agg #[.int .i64 t626, .int .i64 t627, .slice Ao136 t628.length co136, .slice Ao137 t631.length co137, .slice Ao138 t634.length co138]] ?_; (with_reducible refine (impl_Evict.calls kj76 t626 t627 _ _ t628 _ _ t631 _ _ t634 t637 t638 t639 t642 t645 t648 t649 _ (cr HO630) ((Kd.R_reads' HO630.out).2.1) (cr HO633) ((Kd.R_reads' HO633.out).2.1) (cr HO636) ((Kd.R_reads' HO636.out).2.1) A123.out).mono ?_); rintro e w139 ⟨v640, v643, v646, rfl, ho0, ho1, ho2, hb⟩; refine ⟨_, rfl, ?_⟩; have HO641 := Aside0.mk (Kd.R_lower (nw (nw (nw (nw (nw (nw (nw (nw ho0 HO_577002) HO_577003) HO_589002) HO_589003) HO_603002) HO_603003) HO630) HO633) (below_size (be4 HB GE550 GE576 GE588 GE602))); have HO644 := Aside0.mk (Kd.R_lower (nw (nw (nw (nw (nw (nw (nw (nw ho1 HO_577002) HO_577003) HO_589002) HO_589003) HO_603002) HO_603003) HO630) HO633) (below_size (be4 HB GE550 GE576 GE588 GE602))); replace HO_577002 := td2 (ro HO_577002) hb ho0 ho1; replace HO_577003 := td2 (ro HO_577003) hb ho0 ho1; replace HO_589002 := td2 (ro HO_589002) hb ho0 ho1; replace HO_589003 := td2 (ro HO_589003) hb ho0 ho1; replace HO_603002 := td2 (ro HO_603002) hb ho0 ho1; replace HO_603003 := td2 (ro HO_603003) hb ho0 ho1; replace HO630 := td2 (ro HO630) hb ho0 ho1; replace HO633 := td2 (ro HO633) hb ho0 ho1; have HO647 := Aside0.mk (Kd.R_lower (nw (Kd.R_new' (Kd.R_new' (Kd.R_new' ho2 (Kd.Q_lt (qo HO_577004))) (Kd.Q_lt (qo HO_589004))) (Kd.Q_lt (qo HO_603004))) HO636) (below_size (be4 HB GE550 GE576 GE588 GE602))); replace HO_577004 := Aside0.mk (Kd.Q_elder' (qo HO_577004) (Kd.R_base ho2) hb); replace HO_589004 := Aside0.mk (Kd.Q_elder' (qo HO_589004) (Kd.R_base ho2) hb); replace HO_603004 := Aside0.mk (Kd.Q_elder' (qo HO_603004) (Kd.R_base ho2) hb); replace HO636 := Aside0.mk (Kd.R_elder' (ro HO636) (Kd.R_base ho2) hb); replace BK550 := bb BK550 hb; replace BK576 := bb BK576 hb; replace BK588 := bb BK588 hb; replace BK602 := bb BK602 hb; replace HB := Aside0.mk (below_step (be4 HB GE550 GE576 GE588 GE602) hb); (try clear hb); (try clear ho0); (try clear ho1); (try clear ho2)) | ((with_reducible refine gate_dst (N := 14) rfl ?_); refine bx 14 #[.int .i64 0, .int .i64 0, .slice none 0 0, .slice none 0 0, .slice none 0 0] 30 ?_; intro gb650 hg w140 hbox hb; replace HO_577002 := rb HO_577002 hb; replace HO_577003 := rb HO_577003 hb; replace HO_577004 := Aside0.mk (Kd.Q_below (qo HO_577004) hb); replace HO_589002 := rb HO_589002 hb; replace HO_589003 := rb HO_589003 hb; replace HO_589004 := Aside0.mk (Kd.Q_below (qo HO_589004) hb); replace HO_603002 := rb HO_603002 hb; replace HO_603003 := rb HO_603003 hb; replace HO_603004 := Aside0.mk (Kd.Q_below (qo HO_603004) hb); replace HO630 := rb HO630 hb; replace HO633 := rb HO633 hb; replace HO636 := rb HO636 hb; replace HO641 := rb HO641 hb; replace HO644 := rb HO644 hb; replace HO647 := rb HO647 hb; have BK650 := am hbox; have GW650 := Aside0.mk ((by rw [hg]; exact (below_size (be4 HB GE550 GE576 GE588 GE602)) : w.heap.size ≤ gb650)); have GE650 := Aside0.mk ((by rw [hg]; exact (below_size (be4 HB GE550 GE576 GE588 GE602)) : w.heap.size ≤ gb650)); replace HB := Aside0.mk (below_step (be4 HB GE550 GE576 GE588 GE602) hb); have NB550_650 := nl hg BK550; have NB650_550 := ng hg BK550; replace BK550 := bb BK550 hb; have NB576_650 := nl hg BK576; have NB650_576 := ng hg BK576; replace BK576 := bb BK576 hb; have NB588_650 := nl hg BK588; have NB650_588 := ng hg BK588; replace BK588 := bb BK588 hb; have NB602_650 := nl hg BK602; have NB650_602 := ng hg BK602; replace BK602 := bb BK602 hb; clear hb hbox hg; have hnb141 := NB650_550.out; have hnc141 := NB550_650.out; have hnb142 := NB650_576.out; have hnc142 := NB576_650.out; have hnb143 := NB650_588.out; have hnc143 := NB588_650.out; have hnb144 := NB650_602.out; have hnc144 := NB602_650.out; have hcz145_0 := bz5 BK650; obtain ⟨Ao146, co146, eo146⟩ := Kd.R_slice HO641.out; subst eo146; obtain ⟨Ao147, co147, eo147⟩ := Kd.R_slice HO644.out; subst eo147; obtain ⟨Ao148, co148, eo148⟩ := Kd.R_slice HO647.out; subst eo148))
       (try simp only [Act.put, List.setIfInBounds_toArray, List.set_cons_zero, List.set_cons_succ])
       go_cut [108] (fun v108 wc => ∃ (kq : Nat) (x108_123 : Bool), v108 = .bool x108_123 ∧ Aside0 (laws_FnExactEvict.j2 kq t621 x108_123 t589 t590 t622 t623 t624 = some r) ∧ Aside0 (kq ≤ kj76) ∧ Aside0 (Kd.R k68 68 wc w.heap.size (fun k_ => nb k_ Ao25 t568.length co25 ∧ nb k_ Ao33 t617.length co33 ∧ nb k_ Ao34 t618.length co34 ∧ nb k_ Ao42 t591.length co42 ∧ nb k_ Ao43 t594.length co43 ∧ nb k_ Ao146 t639.length co146 ∧ nb k_ Ao147 t642.length co147) (.slice Ao24 t565.length co24) t565) ∧ Aside0 (Kd.R k68 68 wc w.heap.size (fun k_ => nb k_ Ao24 t565.length co24 ∧ nb k_ Ao33 t617.length co33 ∧ nb k_ Ao34 t618.length co34 ∧ nb k_ Ao42 t591.length co42 ∧ nb k_ Ao43 t594.length co43 ∧ nb k_ Ao146 t639.length co146 ∧ nb k_ Ao147 t642.length co147) (.slice Ao25 t568.length co25) t568) ∧ Aside0 (Kd.Q (Kd.int .i64) 3 wc w.heap.size (fun k_ => nb k_ Ao35 t619.length co35 ∧ nb k_ Ao44 t597.length co44 ∧ nb k_ Ao148 t645.length co148) (.slice Ao26 t571.length co26) t571) ∧ Aside0 (Kd.R k68 68 wc w.heap.size (fun k_ => nb k_ Ao24 t565.length co24 ∧ nb k_ Ao25 t568.length co25 ∧ nb k_ Ao34 t618.length co34 ∧ nb k_ Ao42 t591.length co42 ∧ nb k_ Ao43 t594.length co43 ∧ nb k_ Ao146 t639.length co146 ∧ nb k_ Ao147 t642.length co147) (.slice Ao33 t617.length co33) t617) ∧ Aside0 (Kd.R k68 68 wc w.heap.size (fun k_ => nb k_ Ao24 t565.length co24 ∧ nb k_ Ao25 t568.length co25 ∧ nb k_ Ao33 t617.length co33 ∧ nb k_ Ao42 t591.length co42 ∧ nb k_ Ao43 t594.length co43 ∧ nb k_ Ao146 t639.length co146 ∧ nb k_ Ao147 t642.length co147) (.slice Ao34 t618.length co34) t618) ∧ Aside0 (Kd.Q (Kd.int .i64) 3 wc w.heap.size (fun k_ => nb k_ Ao26 t571.length co26 ∧ nb k_ Ao44 t597.length co44 ∧ nb k_ Ao148 t645.length co148) (.slice Ao35 t619.length co35) t619) ∧ Aside0 (Kd.R k68 68 wc w.heap.size (fun k_ => nb k_ Ao24 t565.length co24 ∧ nb k_ Ao25 t568.length co25 ∧ nb k_ Ao33 t617.length co33 ∧ nb k_ Ao34 t618.length co34 ∧ nb k_ Ao43 t594.length co43 ∧ nb k_ Ao146 t639.length co146 ∧ nb k_ Ao147 t642.length co147) (.slice Ao42 t591.length co42) t622) ∧ Aside0 (Kd.R k68 68 wc w.heap.size (fun k_ => nb k_ Ao24 t565.length co24 ∧ nb k_ Ao25 t568.length co25 ∧ nb k_ Ao33 t617.length co33 ∧ nb k_ Ao34 t618.length co34 ∧ nb k_ Ao42 t591.length co42 ∧ nb k_ Ao146 t639.length co146 ∧ nb k_ Ao147 t642.length co147) (.slice Ao43 t594.length co43) t623) ∧ Aside0 (Kd.Q (Kd.int .i64) 3 wc w.heap.size (fun k_ => nb k_ Ao26 t571.length co26 ∧ nb k_ Ao35 t619.length co35 ∧ nb k_ Ao148 t645.length co148) (.slice Ao44 t597.length co44) t624) ∧ Aside0 (Kd.R k68 68 wc w.heap.size (fun k_ => nb k_ Ao24 t565.length co24 ∧ nb k_ Ao25 t568.length co25 ∧ nb k_ Ao33 t617.length co33 ∧ nb k_ Ao34 t618.length co34 ∧ nb k_ Ao42 t591.length co42 ∧ nb k_ Ao43 t594.length co43 ∧ nb k_ Ao147 t642.length co147) (.slice Ao146 t639.length co146) t639) ∧ Aside0 (Kd.R k68 68 wc w.heap.size (fun k_ => nb k_ Ao24 t565.length co24 ∧ nb k_ Ao25 t568.length co25 ∧ nb k_ Ao33 t617.length co33 ∧ nb k_ Ao34 t618.length co34 ∧ nb k_ Ao42 t591.length co42 ∧ nb k_ Ao43 t594.length co43 ∧ nb k_ Ao146 t639.length co146) (.slice Ao147 t642.length co147) t642) ∧ Aside0 (Kd.Q (Kd.int .i64) 3 wc w.heap.size (fun k_ => nb k_ Ao26 t571.length co26 ∧ nb k_ Ao35 t619.length co35 ∧ nb k_ Ao44 t597.length co44) (.slice Ao148 t645.length co148) t645) ∧ Aside0 (wc.heap[gb550]? = some (.cells #[.int .i64 a0_0, .int .i64 a0_1, (.slice A0_2 l0_2.length c0_2), (.slice A0_3 l0_3.length c0_3), (.slice A0_4 l0_4.length c0_4)] 25 (0, 0))) ∧ Aside0 (wc.heap[gb576]? = some (.cells #[.int .i64 t563, .int .i64 t564, (.slice Ao24 t565.length co24), (.slice Ao25 t568.length co25), (.slice Ao26 t571.length co26)] 30 (0, 0))) ∧ Aside0 (wc.heap[gb588]? = some (.cells #[.int .i64 t577, .int .i64 t578, (.slice Ao33 t617.length co33), (.slice Ao34 t618.length co34), (.slice Ao35 t619.length co35)] 30 (0, 0))) ∧ Aside0 (wc.heap[gb602]? = some (.cells #[.int .i64 t589, .int .i64 t590, (.slice Ao42 t591.length co42), (.slice Ao43 t594.length co43), (.slice Ao44 t597.length co44)] 30 (0, 0))) ∧ Aside0 (wc.heap[gb650]? = some (.cells #[.int .i64 t637, .int .i64 t638, (.slice Ao146 t639.length co146), (.slice Ao147 t642.length co147), (.slice Ao148 t645.length co148)] 30 (0, 0))) ∧ Aside0 (Below w.heap.size w wc))
       case first =>
        have H := HC124.out
        clear HC124
        replace H := Option.bind_eq_some_iff.mp H
        obtain ⟨t651, A1490, H⟩ := H
        try dsimp only at H
        have A149 := Aside0.mk A1490
        clear A1490
        by_cases c150 : t651 = true
        ·subst c150
         rw [if_pos rfl] at H
         by_cases c151 : t648.toList = t574.toList
         ·rw [if_pos c151] at H
          have c151b0 : (t648.toList == t574.toList) = true := beq_iff_eq.mpr c151
          have c151b1 : (t648.toList != t574.toList) = false := bne_eq_false_iff_eq.mpr c151
          clear c151
          (first | rw [c151b0] | (simp only [i64_w, i32_w]; rw [c151b0]) | skip)
          have H' := Aside0.mk H
          clear H
          have hnb152 := NB650_550.out
          have hnc152 := NB550_650.out
          have hnb153 := NB650_576.out
          have hnc153 := NB576_650.out
          have hnb154 := NB650_588.out
          have hnc154 := NB588_650.out
          have hnb155 := NB650_602.out
          have hnc155 := NB602_650.out
          have hcz156_0 := bz5 BK650
          have hnb157 := NB576_550.out
          have hnc157 := NB550_576.out
          have hnb158 := NB576_588.out
          have hnc158 := NB588_576.out
          have hnb159 := NB576_602.out
          have hnc159 := NB602_576.out
          have hcz160_0 := bz5 BK576
          go_wp2_with (first | ((with_reducible refine gate_callee (f := 20) rfl ?_); refine gl 97 Try.func20 #[.agg #[.int .i64 t637, .int .i64 t638, .slice Ao146 t639.length co146, .slice Ao147 t642.length co147, .slice Ao148 t645.length co148], .agg #[.int .i64 t563, .int .i64 t564, .slice Ao24 t565.length co24, .slice Ao25 t568.length co25, .slice Ao26 t571.length co26]] ?_; (with_reducible refine (laws_eqThree.calls kj76 t637 t638 _ _ t639 _ _ t642 _ _ t645 t563 t564 _ _ t565 _ _ t568 _ _ t571 true _ ?side1 ((Kd.R_reads' HO641.out).2.1) ?side3 ((Kd.R_reads' HO644.out).2.1) ?side5 ((Kd.R_reads' HO647.out).2.1) ?side7 ((Kd.R_reads' HO_577002.out).2.1) ?side9 ((Kd.R_reads' HO_577003.out).2.1) ?side11 ?side12 A149.out).mono ?_); (case side1 => exact rfr _ HO641 BK650); (case side3 => exact rfr _ HO644 BK650); (case side5 => exact rfr _ HO647 BK650); (case side7 => exact rfr _ HO_577002 BK650); (case side9 => exact rfr _ HO_577003 BK650); (case side11 => refine (Kd.Q_reads' (e := 3) (base := w.heap.size) (ok := fun k_ => (((nb k_ Ao35 t619.length co35 ∧ nb k_ Ao44 t597.length co44) ∧ nb k_ Ao138 t634.length co138) ∧ nb k_ Ao148 t645.length co148)) (n := t571.length) (c := co26) ?_).2.2; exact (qf HO_577004 BK650)); (case side12 => exact (Kd.Q_reads' HO_577004.out).2.1); rintro e w161 ⟨rfl, hb⟩; refine ⟨_, rfl, ?_⟩; replace HO_577002 := Aside0.mk (Kd.R_below (rf HO_577002 BK650) hb); replace HO_577003 := Aside0.mk (Kd.R_below (rf HO_577003 BK650) hb); replace HO_577004 := Aside0.mk (Kd.Q_below (qf HO_577004 BK650) hb); replace HO_589002 := Aside0.mk (Kd.R_below (rf HO_589002 BK650) hb); replace HO_589003 := Aside0.mk (Kd.R_below (rf HO_589003 BK650) hb); replace HO_589004 := Aside0.mk (Kd.Q_below (qf HO_589004 BK650) hb); replace HO_603002 := Aside0.mk (Kd.R_below (rf HO_603002 BK650) hb); replace HO_603003 := Aside0.mk (Kd.R_below (rf HO_603003 BK650) hb); replace HO_603004 := Aside0.mk (Kd.Q_below (qf HO_603004 BK650) hb); replace HO630 := Aside0.mk (Kd.R_below (rf HO630 BK650) hb); replace HO633 := Aside0.mk (Kd.R_below (rf HO633 BK650) hb); replace HO636 := Aside0.mk (Kd.R_below (rf HO636 BK650) hb); replace HO641 := Aside0.mk (Kd.R_below (rf HO641 BK650) hb); replace HO644 := Aside0.mk (Kd.R_below (rf HO644 BK650) hb); replace HO647 := Aside0.mk (Kd.R_below (rf HO647 BK650) hb); replace BK550 := Aside0.mk (blk_below (g := gb550) (o := .cells #[.int .i64 a0_0, .int .i64 a0_1, .slice A0_2 l0_2.length c0_2, .slice A0_3 l0_3.length c0_3, .slice A0_4 l0_4.length c0_4] 25 (0, 0)) (bf1 BK550 NB550_650) hb); replace BK576 := Aside0.mk (blk_below (g := gb576) (o := .cells #[.int .i64 t563, .int .i64 t564, .slice Ao24 t565.length co24, .slice Ao25 t568.length co25, .slice Ao26 t571.length co26] 30 (0, 0)) (bf1 BK576 NB576_650) hb); replace BK588 := Aside0.mk (blk_below (g := gb588) (o := .cells #[.int .i64 t577, .int .i64 t578, .slice Ao33 t617.length co33, .slice Ao34 t618.length co34, .slice Ao35 t619.length co35] 30 (0, 0)) (bf1 BK588 NB588_650) hb); replace BK602 := Aside0.mk (blk_below (g := gb602) (o := .cells #[.int .i64 t589, .int .i64 t590, .slice Ao42 t591.length co42, .slice Ao43 t594.length co43, .slice Ao44 t597.length co44] 30 (0, 0)) (bf1 BK602 NB602_650) hb); replace BK650 := Aside0.mk (blk_below (g := gb650) (o := .cells #[.int .i64 t637, .int .i64 t638, .slice Ao146 t639.length co146, .slice Ao147 t642.length co147, .slice Ao148 t645.length co148] 30 (0, 0)) (bp BK650) hb); replace HB := Aside0.mk (below_step (be5 HB GE550 GE576 GE588 GE602 GE650) hb); (try clear hb)))
          go_meet
          case rel => exact ⟨_, ((t649 != t575)), rs, H', ⟨by have := HJ10.out; have := HJ76.out; first | omega | exact Nat.le_refl _⟩, ⟨by (try simp only [hl589002_76, hl589003_76, hl589004_76]); (with_reducible repeat (first | apply Kd.R_alloc | apply Kd.R_drewN | apply Kd.R_drew)); exact rm HO_577002⟩, ⟨by (try simp only [hl589002_76, hl589003_76, hl589004_76]); (with_reducible repeat (first | apply Kd.R_alloc | apply Kd.R_drewN | apply Kd.R_drew)); exact rm HO_577003⟩, ⟨by (try simp only [hl589002_76, hl589003_76, hl589004_76]); (with_reducible repeat (first | apply Kd.Q_alloc | apply Kd.Q_drewN | apply Kd.Q_drew)); exact Kd.Q_mono HO_577004.out (fun _ hk => ⟨hk.1.1.1, ⟨hk.1.1.2, hk.2⟩⟩)⟩, ⟨by (try simp only [hl589002_76, hl589003_76, hl589004_76]); (with_reducible repeat (first | apply Kd.R_alloc | apply Kd.R_drewN | apply Kd.R_drew)); exact rm HO_589002⟩, ⟨by (try simp only [hl589002_76, hl589003_76, hl589004_76]); (with_reducible repeat (first | apply Kd.R_alloc | apply Kd.R_drewN | apply Kd.R_drew)); exact rm HO_589003⟩, ⟨by (try simp only [hl589002_76, hl589003_76, hl589004_76]); (with_reducible repeat (first | apply Kd.Q_alloc | apply Kd.Q_drewN | apply Kd.Q_drew)); exact Kd.Q_mono HO_589004.out (fun _ hk => ⟨hk.1.1.1, ⟨hk.1.1.2, hk.2⟩⟩)⟩, ⟨by (try simp only [hl589002_76, hl589003_76, hl589004_76]); (with_reducible repeat (first | apply Kd.R_alloc | apply Kd.R_drewN | apply Kd.R_drew)); exact rm HO_603002⟩, ⟨by (try simp only [hl589002_76, hl589003_76, hl589004_76]); (with_reducible repeat (first | apply Kd.R_alloc | apply Kd.R_drewN | apply Kd.R_drew)); exact rm HO_603003⟩, ⟨by (try simp only [hl589002_76, hl589003_76, hl589004_76]); (with_reducible repeat (first | apply Kd.Q_alloc | apply Kd.Q_drewN | apply Kd.Q_drew)); exact Kd.Q_mono HO_603004.out (fun _ hk => ⟨hk.1.1.1, ⟨hk.1.1.2, hk.2⟩⟩)⟩, ⟨by (try simp only [hl589002_76, hl589003_76, hl589004_76]); (with_reducible repeat (first | apply Kd.R_alloc | apply Kd.R_drewN | apply Kd.R_drew)); exact rm HO641⟩, ⟨by (try simp only [hl589002_76, hl589003_76, hl589004_76]); (with_reducible repeat (first | apply Kd.R_alloc | apply Kd.R_drewN | apply Kd.R_drew)); exact rm HO644⟩, ⟨Kd.Q_of_R (by (try simp only [hl589002_76, hl589003_76, hl589004_76]); (with_reducible repeat (first | apply Kd.R_alloc | apply Kd.R_drewN | apply Kd.R_drew)); exact rm HO647)⟩, ⟨by (try simp only [hl589002_76, hl589003_76, hl589004_76]); (with_reducible repeat (first | refine blk_drewN ?_ _ | refine blk_drew ?_ | refine blk_alloc ?_ _)); exact BK550.out⟩, ⟨by (try simp only [hl589002_76, hl589003_76, hl589004_76]); (with_reducible repeat (first | refine blk_drewN ?_ _ | refine blk_drew ?_ | refine blk_alloc ?_ _)); exact BK576.out⟩, ⟨by (try simp only [hl589002_76, hl589003_76, hl589004_76]); (with_reducible repeat (first | refine blk_drewN ?_ _ | refine blk_drew ?_ | refine blk_alloc ?_ _)); exact BK588.out⟩, ⟨by (try simp only [hl589002_76, hl589003_76, hl589004_76]); (with_reducible repeat (first | refine blk_drewN ?_ _ | refine blk_drew ?_ | refine blk_alloc ?_ _)); exact BK602.out⟩, ⟨by (try simp only [hl589002_76, hl589003_76, hl589004_76]); (with_reducible repeat (first | refine blk_drewN ?_ _ | refine blk_drew ?_ | refine blk_alloc ?_ _)); exact BK650.out⟩, ⟨be5 HB GE550 GE576 GE588 GE602 GE650⟩⟩
         rw [if_neg c151] at H
         have c151b0 : (t648.toList == t574.toList) = false := beq_eq_false_iff_ne.mpr c151
         have c151b1 : (t648.toList != t574.toList) = true := bne_iff_ne.mpr c151
         (first | rw [c151b0] | (simp only [i64_w, i32_w]; rw [c151b0]) | skip)
         have H' := Aside0.mk H
         clear H
         have hnb162 := NB650_550.out
         have hnc162 := NB550_650.out
         have hnb163 := NB650_576.out
         have hnc163 := NB576_650.out
         have hnb164 := NB650_588.out
         have hnc164 := NB588_650.out
         have hnb165 := NB650_602.out
         have hnc165 := NB602_650.out
         have hcz166_0 := bz5 BK650
         have hnb167 := NB576_550.out
         have hnc167 := NB550_576.out
         have hnb168 := NB576_588.out
         have hnc168 := NB588_576.out
         have hnb169 := NB576_602.out
         have hnc169 := NB602_576.out
         have hcz170_0 := bz5 BK576
         go_wp2_with (first | ((with_reducible refine gate_callee (f := 20) rfl ?_); refine gl 97 Try.func20 #[.agg #[.int .i64 t637, .int .i64 t638, .slice Ao146 t639.length co146, .slice Ao147 t642.length co147, .slice Ao148 t645.length co148], .agg #[.int .i64 t563, .int .i64 t564, .slice Ao24 t565.length co24, .slice Ao25 t568.length co25, .slice Ao26 t571.length co26]] ?_; (with_reducible refine (laws_eqThree.calls kj76 t637 t638 _ _ t639 _ _ t642 _ _ t645 t563 t564 _ _ t565 _ _ t568 _ _ t571 true _ ?side1 ((Kd.R_reads' HO641.out).2.1) ?side3 ((Kd.R_reads' HO644.out).2.1) ?side5 ((Kd.R_reads' HO647.out).2.1) ?side7 ((Kd.R_reads' HO_577002.out).2.1) ?side9 ((Kd.R_reads' HO_577003.out).2.1) ?side11 ?side12 A149.out).mono ?_); (case side1 => exact rfr _ HO641 BK650); (case side3 => exact rfr _ HO644 BK650); (case side5 => exact rfr _ HO647 BK650); (case side7 => exact rfr _ HO_577002 BK650); (case side9 => exact rfr _ HO_577003 BK650); (case side11 => refine (Kd.Q_reads' (e := 3) (base := w.heap.size) (ok := fun k_ => (((nb k_ Ao35 t619.length co35 ∧ nb k_ Ao44 t597.length co44) ∧ nb k_ Ao138 t634.length co138) ∧ nb k_ Ao148 t645.length co148)) (n := t571.length) (c := co26) ?_).2.2; exact (qf HO_577004 BK650)); (case side12 => exact (Kd.Q_reads' HO_577004.out).2.1); rintro e w171 ⟨rfl, hb⟩; refine ⟨_, rfl, ?_⟩; replace HO_577002 := Aside0.mk (Kd.R_below (rf HO_577002 BK650) hb); replace HO_577003 := Aside0.mk (Kd.R_below (rf HO_577003 BK650) hb); replace HO_577004 := Aside0.mk (Kd.Q_below (qf HO_577004 BK650) hb); replace HO_589002 := Aside0.mk (Kd.R_below (rf HO_589002 BK650) hb); replace HO_589003 := Aside0.mk (Kd.R_below (rf HO_589003 BK650) hb); replace HO_589004 := Aside0.mk (Kd.Q_below (qf HO_589004 BK650) hb); replace HO_603002 := Aside0.mk (Kd.R_below (rf HO_603002 BK650) hb); replace HO_603003 := Aside0.mk (Kd.R_below (rf HO_603003 BK650) hb); replace HO_603004 := Aside0.mk (Kd.Q_below (qf HO_603004 BK650) hb); replace HO630 := Aside0.mk (Kd.R_below (rf HO630 BK650) hb); replace HO633 := Aside0.mk (Kd.R_below (rf HO633 BK650) hb); replace HO636 := Aside0.mk (Kd.R_below (rf HO636 BK650) hb); replace HO641 := Aside0.mk (Kd.R_below (rf HO641 BK650) hb); replace HO644 := Aside0.mk (Kd.R_below (rf HO644 BK650) hb); replace HO647 := Aside0.mk (Kd.R_below (rf HO647 BK650) hb); replace BK550 := Aside0.mk (blk_below (g := gb550) (o := .cells #[.int .i64 a0_0, .int .i64 a0_1, .slice A0_2 l0_2.length c0_2, .slice A0_3 l0_3.length c0_3, .slice A0_4 l0_4.length c0_4] 25 (0, 0)) (bf1 BK550 NB550_650) hb); replace BK576 := Aside0.mk (blk_below (g := gb576) (o := .cells #[.int .i64 t563, .int .i64 t564, .slice Ao24 t565.length co24, .slice Ao25 t568.length co25, .slice Ao26 t571.length co26] 30 (0, 0)) (bf1 BK576 NB576_650) hb); replace BK588 := Aside0.mk (blk_below (g := gb588) (o := .cells #[.int .i64 t577, .int .i64 t578, .slice Ao33 t617.length co33, .slice Ao34 t618.length co34, .slice Ao35 t619.length co35] 30 (0, 0)) (bf1 BK588 NB588_650) hb); replace BK602 := Aside0.mk (blk_below (g := gb602) (o := .cells #[.int .i64 t589, .int .i64 t590, .slice Ao42 t591.length co42, .slice Ao43 t594.length co43, .slice Ao44 t597.length co44] 30 (0, 0)) (bf1 BK602 NB602_650) hb); replace BK650 := Aside0.mk (blk_below (g := gb650) (o := .cells #[.int .i64 t637, .int .i64 t638, .slice Ao146 t639.length co146, .slice Ao147 t642.length co147, .slice Ao148 t645.length co148] 30 (0, 0)) (bp BK650) hb); replace HB := Aside0.mk (below_step (be5 HB GE550 GE576 GE588 GE602 GE650) hb); (try clear hb)))
         go_meet
         case rel => exact ⟨_, (true), rs, H', ⟨by have := HJ10.out; have := HJ76.out; first | omega | exact Nat.le_refl _⟩, ⟨by (try simp only [hl589002_76, hl589003_76, hl589004_76]); (with_reducible repeat (first | apply Kd.R_alloc | apply Kd.R_drewN | apply Kd.R_drew)); exact rm HO_577002⟩, ⟨by (try simp only [hl589002_76, hl589003_76, hl589004_76]); (with_reducible repeat (first | apply Kd.R_alloc | apply Kd.R_drewN | apply Kd.R_drew)); exact rm HO_577003⟩, ⟨by (try simp only [hl589002_76, hl589003_76, hl589004_76]); (with_reducible repeat (first | apply Kd.Q_alloc | apply Kd.Q_drewN | apply Kd.Q_drew)); exact Kd.Q_mono HO_577004.out (fun _ hk => ⟨hk.1.1.1, ⟨hk.1.1.2, hk.2⟩⟩)⟩, ⟨by (try simp only [hl589002_76, hl589003_76, hl589004_76]); (with_reducible repeat (first | apply Kd.R_alloc | apply Kd.R_drewN | apply Kd.R_drew)); exact rm HO_589002⟩, ⟨by (try simp only [hl589002_76, hl589003_76, hl589004_76]); (with_reducible repeat (first | apply Kd.R_alloc | apply Kd.R_drewN | apply Kd.R_drew)); exact rm HO_589003⟩, ⟨by (try simp only [hl589002_76, hl589003_76, hl589004_76]); (with_reducible repeat (first | apply Kd.Q_alloc | apply Kd.Q_drewN | apply Kd.Q_drew)); exact Kd.Q_mono HO_589004.out (fun _ hk => ⟨hk.1.1.1, ⟨hk.1.1.2, hk.2⟩⟩)⟩, ⟨by (try simp only [hl589002_76, hl589003_76, hl589004_76]); (with_reducible repeat (first | apply Kd.R_alloc | apply Kd.R_drewN | apply Kd.R_drew)); exact rm HO_603002⟩, ⟨by (try simp only [hl589002_76, hl589003_76, hl589004_76]); (with_reducible repeat (first | apply Kd.R_alloc | apply Kd.R_drewN | apply Kd.R_drew)); exact rm HO_603003⟩, ⟨by (try simp only [hl589002_76, hl589003_76, hl589004_76]); (with_reducible repeat (first | apply Kd.Q_alloc | apply Kd.Q_drewN | apply Kd.Q_drew)); exact Kd.Q_mono HO_603004.out (fun _ hk => ⟨hk.1.1.1, ⟨hk.1.1.2, hk.2⟩⟩)⟩, ⟨by (try simp only [hl589002_76, hl589003_76, hl589004_76]); (with_reducible repeat (first | apply Kd.R_alloc | apply Kd.R_drewN | apply Kd.R_drew)); exact rm HO641⟩, ⟨by (try simp only [hl589002_76, hl589003_76, hl589004_76]); (with_reducible repeat (first | apply Kd.R_alloc | apply Kd.R_drewN | apply Kd.R_drew)); exact rm HO644⟩, ⟨Kd.Q_of_R (by (try simp only [hl589002_76, hl589003_76, hl589004_76]); (with_reducible repeat (first | apply Kd.R_alloc | apply Kd.R_drewN | apply Kd.R_drew)); exact rm HO647)⟩, ⟨by (try simp only [hl589002_76, hl589003_76, hl589004_76]); (with_reducible repeat (first | refine blk_drewN ?_ _ | refine blk_drew ?_ | refine blk_alloc ?_ _)); exact BK550.out⟩, ⟨by (try simp only [hl589002_76, hl589003_76, hl589004_76]); (with_reducible repeat (first | refine blk_drewN ?_ _ | refine blk_drew ?_ | refine blk_alloc ?_ _)); exact BK576.out⟩, ⟨by (try simp only [hl589002_76, hl589003_76, hl589004_76]); (with_reducible repeat (first | refine blk_drewN ?_ _ | refine blk_drew ?_ | refine blk_alloc ?_ _)); exact BK588.out⟩, ⟨by (try simp only [hl589002_76, hl589003_76, hl589004_76]); (with_reducible repeat (first | refine blk_drewN ?_ _ | refine blk_drew ?_ | refine blk_alloc ?_ _)); exact BK602.out⟩, ⟨by (try simp only [hl589002_76, hl589003_76, hl589004_76]); (with_reducible repeat (first | refine blk_drewN ?_ _ | refine blk_drew ?_ | refine blk_alloc ?_ _)); exact BK650.out⟩, ⟨be5 HB GE550 GE576 GE588 GE602 GE650⟩⟩
        replace c150 := Bool.eq_false_iff.mpr c150
        subst c150
        rw [if_neg (show ¬ (false = true) by decide)] at H
        have H' := Aside0.mk H
        clear H
        have hnb172 := NB650_550.out
        have hnc172 := NB550_650.out
        have hnb173 := NB650_576.out
        have hnc173 := NB576_650.out
        have hnb174 := NB650_588.out
        have hnc174 := NB588_650.out
        have hnb175 := NB650_602.out
        have hnc175 := NB602_650.out
        have hcz176_0 := bz5 BK650
        have hnb177 := NB576_550.out
        have hnc177 := NB550_576.out
        have hnb178 := NB576_588.out
        have hnc178 := NB588_576.out
        have hnb179 := NB576_602.out
        have hnc179 := NB602_576.out
        have hcz180_0 := bz5 BK576
        go_wp2_with (first | ((with_reducible refine gate_callee (f := 20) rfl ?_); refine gl 97 Try.func20 #[.agg #[.int .i64 t637, .int .i64 t638, .slice Ao146 t639.length co146, .slice Ao147 t642.length co147, .slice Ao148 t645.length co148], .agg #[.int .i64 t563, .int .i64 t564, .slice Ao24 t565.length co24, .slice Ao25 t568.length co25, .slice Ao26 t571.length co26]] ?_; (with_reducible refine (laws_eqThree.calls kj76 t637 t638 _ _ t639 _ _ t642 _ _ t645 t563 t564 _ _ t565 _ _ t568 _ _ t571 false _ ?side1 ((Kd.R_reads' HO641.out).2.1) ?side3 ((Kd.R_reads' HO644.out).2.1) ?side5 ((Kd.R_reads' HO647.out).2.1) ?side7 ((Kd.R_reads' HO_577002.out).2.1) ?side9 ((Kd.R_reads' HO_577003.out).2.1) ?side11 ?side12 A149.out).mono ?_); (case side1 => exact rfr _ HO641 BK650); (case side3 => exact rfr _ HO644 BK650); (case side5 => exact rfr _ HO647 BK650); (case side7 => exact rfr _ HO_577002 BK650); (case side9 => exact rfr _ HO_577003 BK650); (case side11 => refine (Kd.Q_reads' (e := 3) (base := w.heap.size) (ok := fun k_ => (((nb k_ Ao35 t619.length co35 ∧ nb k_ Ao44 t597.length co44) ∧ nb k_ Ao138 t634.length co138) ∧ nb k_ Ao148 t645.length co148)) (n := t571.length) (c := co26) ?_).2.2; exact (qf HO_577004 BK650)); (case side12 => exact (Kd.Q_reads' HO_577004.out).2.1); rintro e w181 ⟨rfl, hb⟩; refine ⟨_, rfl, ?_⟩; replace HO_577002 := Aside0.mk (Kd.R_below (rf HO_577002 BK650) hb); replace HO_577003 := Aside0.mk (Kd.R_below (rf HO_577003 BK650) hb); replace HO_577004 := Aside0.mk (Kd.Q_below (qf HO_577004 BK650) hb); replace HO_589002 := Aside0.mk (Kd.R_below (rf HO_589002 BK650) hb); replace HO_589003 := Aside0.mk (Kd.R_below (rf HO_589003 BK650) hb); replace HO_589004 := Aside0.mk (Kd.Q_below (qf HO_589004 BK650) hb); replace HO_603002 := Aside0.mk (Kd.R_below (rf HO_603002 BK650) hb); replace HO_603003 := Aside0.mk (Kd.R_below (rf HO_603003 BK650) hb); replace HO_603004 := Aside0.mk (Kd.Q_below (qf HO_603004 BK650) hb); replace HO630 := Aside0.mk (Kd.R_below (rf HO630 BK650) hb); replace HO633 := Aside0.mk (Kd.R_below (rf HO633 BK650) hb); replace HO636 := Aside0.mk (Kd.R_below (rf HO636 BK650) hb); replace HO641 := Aside0.mk (Kd.R_below (rf HO641 BK650) hb); replace HO644 := Aside0.mk (Kd.R_below (rf HO644 BK650) hb); replace HO647 := Aside0.mk (Kd.R_below (rf HO647 BK650) hb); replace BK550 := Aside0.mk (blk_below (g := gb550) (o := .cells #[.int .i64 a0_0, .int .i64 a0_1, .slice A0_2 l0_2.length c0_2, .slice A0_3 l0_3.length c0_3, .slice A0_4 l0_4.length c0_4] 25 (0, 0)) (bf1 BK550 NB550_650) hb); replace BK576 := Aside0.mk (blk_below (g := gb576) (o := .cells #[.int .i64 t563, .int .i64 t564, .slice Ao24 t565.length co24, .slice Ao25 t568.length co25, .slice Ao26 t571.length co26] 30 (0, 0)) (bf1 BK576 NB576_650) hb); replace BK588 := Aside0.mk (blk_below (g := gb588) (o := .cells #[.int .i64 t577, .int .i64 t578, .slice Ao33 t617.length co33, .slice Ao34 t618.length co34, .slice Ao35 t619.length co35] 30 (0, 0)) (bf1 BK588 NB588_650) hb); replace BK602 := Aside0.mk (blk_below (g := gb602) (o := .cells #[.int .i64 t589, .int .i64 t590, .slice Ao42 t591.length co42, .slice Ao43 t594.length co43, .slice Ao44 t597.length co44] 30 (0, 0)) (bf1 BK602 NB602_650) hb); replace BK650 := Aside0.mk (blk_below (g := gb650) (o := .cells #[.int .i64 t637, .int .i64 t638, .slice Ao146 t639.length co146, .slice Ao147 t642.length co147, .slice Ao148 t645.length co148] 30 (0, 0)) (bp BK650) hb); replace HB := Aside0.mk (below_step (be5 HB GE550 GE576 GE588 GE602 GE650) hb); (try clear hb)))
        go_meet
        case rel => exact ⟨_, (true), rs, H', ⟨by have := HJ10.out; have := HJ76.out; first | omega | exact Nat.le_refl _⟩, ⟨by (try simp only [hl589002_76, hl589003_76, hl589004_76]); (with_reducible repeat (first | apply Kd.R_alloc | apply Kd.R_drewN | apply Kd.R_drew)); exact rm HO_577002⟩, ⟨by (try simp only [hl589002_76, hl589003_76, hl589004_76]); (with_reducible repeat (first | apply Kd.R_alloc | apply Kd.R_drewN | apply Kd.R_drew)); exact rm HO_577003⟩, ⟨by (try simp only [hl589002_76, hl589003_76, hl589004_76]); (with_reducible repeat (first | apply Kd.Q_alloc | apply Kd.Q_drewN | apply Kd.Q_drew)); exact Kd.Q_mono HO_577004.out (fun _ hk => ⟨hk.1.1.1, ⟨hk.1.1.2, hk.2⟩⟩)⟩, ⟨by (try simp only [hl589002_76, hl589003_76, hl589004_76]); (with_reducible repeat (first | apply Kd.R_alloc | apply Kd.R_drewN | apply Kd.R_drew)); exact rm HO_589002⟩, ⟨by (try simp only [hl589002_76, hl589003_76, hl589004_76]); (with_reducible repeat (first | apply Kd.R_alloc | apply Kd.R_drewN | apply Kd.R_drew)); exact rm HO_589003⟩, ⟨by (try simp only [hl589002_76, hl589003_76, hl589004_76]); (with_reducible repeat (first | apply Kd.Q_alloc | apply Kd.Q_drewN | apply Kd.Q_drew)); exact Kd.Q_mono HO_589004.out (fun _ hk => ⟨hk.1.1.1, ⟨hk.1.1.2, hk.2⟩⟩)⟩, ⟨by (try simp only [hl589002_76, hl589003_76, hl589004_76]); (with_reducible repeat (first | apply Kd.R_alloc | apply Kd.R_drewN | apply Kd.R_drew)); exact rm HO_603002⟩, ⟨by (try simp only [hl589002_76, hl589003_76, hl589004_76]); (with_reducible repeat (first | apply Kd.R_alloc | apply Kd.R_drewN | apply Kd.R_drew)); exact rm HO_603003⟩, ⟨by (try simp only [hl589002_76, hl589003_76, hl589004_76]); (with_reducible repeat (first | apply Kd.Q_alloc | apply Kd.Q_drewN | apply Kd.Q_drew)); exact Kd.Q_mono HO_603004.out (fun _ hk => ⟨hk.1.1.1, ⟨hk.1.1.2, hk.2⟩⟩)⟩, ⟨by (try simp only [hl589002_76, hl589003_76, hl589004_76]); (with_reducible repeat (first | apply Kd.R_alloc | apply Kd.R_drewN | apply Kd.R_drew)); exact rm HO641⟩, ⟨by (try simp only [hl589002_76, hl589003_76, hl589004_76]); (with_reducible repeat (first | apply Kd.R_alloc | apply Kd.R_drewN | apply Kd.R_drew)); exact rm HO644⟩, ⟨Kd.Q_of_R (by (try simp only [hl589002_76, hl589003_76, hl589004_76]); (with_reducible repeat (first | apply Kd.R_alloc | apply Kd.R_drewN | apply Kd.R_drew)); exact rm HO647)⟩, ⟨by (try simp only [hl589002_76, hl589003_76, hl589004_76]); (with_reducible repeat (first | refine blk_drewN ?_ _ | refine blk_drew ?_ | refine blk_alloc ?_ _)); exact BK550.out⟩, ⟨by (try simp only [hl589002_76, hl589003_76, hl589004_76]); (with_reducible repeat (first | refine blk_drewN ?_ _ | refine blk_drew ?_ | refine blk_alloc ?_ _)); exact BK576.out⟩, ⟨by (try simp only [hl589002_76, hl589003_76, hl589004_76]); (with_reducible repeat (first | refine blk_drewN ?_ _ | refine blk_drew ?_ | refine blk_alloc ?_ _)); exact BK588.out⟩, ⟨by (try simp only [hl589002_76, hl589003_76, hl589004_76]); (with_reducible repeat (first | refine blk_drewN ?_ _ | refine blk_drew ?_ | refine blk_alloc ?_ _)); exact BK602.out⟩, ⟨by (try simp only [hl589002_76, hl589003_76, hl589004_76]); (with_reducible repeat (first | refine blk_drewN ?_ _ | refine blk_drew ?_ | refine blk_alloc ?_ _)); exact BK650.out⟩, ⟨be5 HB GE550 GE576 GE588 GE602 GE650⟩⟩
       case rest =>
        clear HC124
        try clear c1; try clear c2; try clear p2; try clear c3; try clear c4; try clear c5; try clear c6; try clear c7; try clear c8; try clear c9; try clear c10; try clear c11; try clear c12; try clear c13; try clear c14; try clear c15; try clear c16; try clear c17; try clear c18; try clear c20; try clear c22; try clear c23; try clear c24; try clear c30; try clear c31; try clear c38; try clear c39; try clear c40; try clear c46; try clear c47; try clear c47b0; try clear c47b1; try clear c48; try clear c49; try clear c50; try clear c52; try clear c53; try clear c56; try clear c57; try clear c58; try clear c60; try clear c61; try clear c64; try clear c65; try clear c66; try clear c68; try clear c69; try clear c72; try clear c75; try clear c84; try clear c85; try clear c86; try clear c89; try clear c89b0; try clear c91; try clear c92; try clear c92b0; try clear c92b1; try clear c93; try clear c94; try clear c95; try clear c97; try clear c98; try clear c101; try clear c102; try clear c103; try clear c105; try clear c106; try clear c109; try clear c110; try clear c111; try clear c113; try clear c114; try clear c117; try clear c120; try clear c120b0; try clear c121; try clear c121b0; try clear c121b1; try clear c125; try clear c126; try clear c127; try clear c132; try clear c133; try clear c141; try clear c142; try clear c143; try clear c144; try clear c150; try clear c151; try clear c151b0; try clear c151b1; try clear c152; try clear c153; try clear c154; try clear c155; try clear c157; try clear c158; try clear c159; try clear c162; try clear c163; try clear c164; try clear c165; try clear c167; try clear c168; try clear c169; try clear c172; try clear c173; try clear c174; try clear c175; try clear c177; try clear c178; try clear c179; try clear hcz104_0; try clear hcz107_0; try clear hcz112_0; try clear hcz115_0; try clear hcz128_0; try clear hcz130_0; try clear hcz134_0; try clear hcz13_0; try clear hcz145_0; try clear hcz156_0; try clear hcz15_0; try clear hcz160_0; try clear hcz166_0; try clear hcz170_0; try clear hcz176_0; try clear hcz180_0; try clear hcz23_0; try clear hcz27_0; try clear hcz32_0; try clear hcz41_0; try clear hcz51_0; try clear hcz54_0; try clear hcz59_0; try clear hcz5_0; try clear hcz62_0; try clear hcz67_0; try clear hcz70_0; try clear hcz87_0; try clear hcz96_0; try clear hcz99_0; try clear p2
        obtain ⟨kq, x108_123, rfl, HA, HJ123, HO_577002, HO_577003, HO_577004, HO_589002, HO_589003, HO_589004, HO_603002, HO_603003, HO_603004, HO_651002, HO_651003, HO_651004, BK550, BK576, BK588, BK602, BK650, HB⟩ := hcut
        have hl603002_123 := (Kd.R_reads' HO_603002.out).1
        rw [hl603002_123] at HO_603002
        (try simp only [hl603002_123])
        (try simp only [hl603002_123] at BK550)
        (try simp only [hl603002_123] at BK576)
        (try simp only [hl603002_123] at BK588)
        (try simp only [hl603002_123] at BK602)
        (try simp only [hl603002_123] at BK650)
        (try simp only [hl603002_123] at HO_577002)
        (try simp only [hl603002_123] at HO_577003)
        (try simp only [hl603002_123] at HO_577004)
        (try simp only [hl603002_123] at HO_589002)
        (try simp only [hl603002_123] at HO_589003)
        (try simp only [hl603002_123] at HO_589004)
        (try simp only [hl603002_123] at HO_603003)
        (try simp only [hl603002_123] at HO_603004)
        (try simp only [hl603002_123] at HO_651002)
        (try simp only [hl603002_123] at HO_651003)
        (try simp only [hl603002_123] at HO_651004)
        have hl603003_123 := (Kd.R_reads' HO_603003.out).1
        rw [hl603003_123] at HO_603003
        (try simp only [hl603003_123])
        (try simp only [hl603003_123] at BK550)
        (try simp only [hl603003_123] at BK576)
        (try simp only [hl603003_123] at BK588)
        (try simp only [hl603003_123] at BK602)
        (try simp only [hl603003_123] at BK650)
        (try simp only [hl603003_123] at HO_577002)
        (try simp only [hl603003_123] at HO_577003)
        (try simp only [hl603003_123] at HO_577004)
        (try simp only [hl603003_123] at HO_589002)
        (try simp only [hl603003_123] at HO_589003)
        (try simp only [hl603003_123] at HO_589004)
        (try simp only [hl603003_123] at HO_603002)
        (try simp only [hl603003_123] at HO_603004)
        (try simp only [hl603003_123] at HO_651002)
        (try simp only [hl603003_123] at HO_651003)
        (try simp only [hl603003_123] at HO_651004)
        have hl603004_123 := (Kd.Q_reads' HO_603004.out).1
        rw [hl603004_123] at HO_603004
        (try simp only [hl603004_123])
        (try simp only [hl603004_123] at BK550)
        (try simp only [hl603004_123] at BK576)
        (try simp only [hl603004_123] at BK588)
        (try simp only [hl603004_123] at BK602)
        (try simp only [hl603004_123] at BK650)
        (try simp only [hl603004_123] at HO_577002)
        (try simp only [hl603004_123] at HO_577003)
        (try simp only [hl603004_123] at HO_577004)
        (try simp only [hl603004_123] at HO_589002)
        (try simp only [hl603004_123] at HO_589003)
        (try simp only [hl603004_123] at HO_589004)
        (try simp only [hl603004_123] at HO_603002)
        (try simp only [hl603004_123] at HO_603003)
        (try simp only [hl603004_123] at HO_651002)
        (try simp only [hl603004_123] at HO_651003)
        (try simp only [hl603004_123] at HO_651004)
        cases kq with
        | zero => exact absurd HA.out (by simp [laws_FnExactEvict.j2])
        | succ kj123 =>
         have H := HA.out
         clear HA
         simp only [laws_FnExactEvict.j2] at H
         by_cases c182 : x108_123 = true
         ·subst c182
          rw [if_pos rfl] at H
          exact absurd ((Option.some.inj H).trans hrt_.out) (by decide)
         replace c182 := Bool.eq_false_iff.mpr c182
         subst c182
         rw [if_neg (show ¬ (false = true) by decide)] at H
         replace H := Option.bind_eq_some_iff.mp H
         obtain ⟨t652, A1830, H⟩ := H
         try dsimp only at H
         have A183 := Aside0.mk A1830
         clear A1830
         by_cases c184 : t652 < 0
         ·rw [if_pos c184] at H
          have c184b0 : decide (t652 < 0) = true := decide_eq_true c184
          clear c184
          exact absurd ((Option.some.inj H).trans hrt_.out) (by decide)
         rw [if_neg c184] at H
         have c184b0 : decide (t652 < 0) = false := decide_eq_false c184
         clear c184
         by_cases c185 : t652 = t621
         ·rw [if_pos c185] at H
          have c185b0 : (t652 == t621) = true := beq_iff_eq.mpr c185
          have c185b1 : (t652 != t621) = false := bne_eq_false_iff_eq.mpr c185
          clear c185
          obtain rfl := Option.some.inj H
          have hnb186 := NB602_550.out
          have hnc186 := NB550_602.out
          have hnb187 := NB602_576.out
          have hnc187 := NB576_602.out
          have hnb188 := NB602_588.out
          have hnc188 := NB588_602.out
          have hnb189 := NB602_650.out
          have hnc189 := NB650_602.out
          have hcz190_0 := bz5 BK602
          go_wp2_with (first | ((with_reducible refine gate_callee (f := 24) rfl ?_); refine gl 111 Try.func24 #[.agg #[.int .i64 t589, .int .i64 t590, .slice Ao42 t622.length co42, .slice Ao43 t623.length co43, .slice Ao44 t624.length co44], .int .i64 1] ?_; (with_reducible refine (laws_heldThree.calls kj123 t589 t590 _ _ t622 _ _ t623 _ _ t624 1 t652 _ (cr HO_603002) ((Kd.R_reads' HO_603002.out).2.1) (cr HO_603003) ((Kd.R_reads' HO_603003.out).2.1) ?side5 ?side6 A183.out).mono ?_); (case side5 => repeat (first | exact (Kd.Q_reads' HO_603004.out).2.2 | (with_reducible refine Kd.C_alloc ?_ _) | (with_reducible refine Kd.C_drewN ?_ _) | (with_reducible refine Kd.C_drew ?_))); (case side6 => exact (Kd.Q_reads' HO_603004.out).2.1); rintro e w191 ⟨rfl, hb⟩; refine ⟨_, rfl, ?_⟩; replace HO_577002 := rb HO_577002 hb; replace HO_577003 := rb HO_577003 hb; replace HO_577004 := Aside0.mk (Kd.Q_below (qo HO_577004) hb); replace HO_589002 := rb HO_589002 hb; replace HO_589003 := rb HO_589003 hb; replace HO_589004 := Aside0.mk (Kd.Q_below (qo HO_589004) hb); replace HO_603002 := rb HO_603002 hb; replace HO_603003 := rb HO_603003 hb; replace HO_603004 := Aside0.mk (Kd.Q_below (qo HO_603004) hb); replace HO_651002 := rb HO_651002 hb; replace HO_651003 := rb HO_651003 hb; replace HO_651004 := Aside0.mk (Kd.Q_below (qo HO_651004) hb); replace BK550 := bb BK550 hb; replace BK576 := bb BK576 hb; replace BK588 := bb BK588 hb; replace BK602 := bb BK602 hb; replace BK650 := bb BK650 hb; replace HB := Aside0.mk (below_step (be5 HB GE550 GE576 GE588 GE602 GE650) hb); (try clear hb)))
          go_ret
          exact ⟨er, be5 HB GE550 GE576 GE588 GE602 GE650⟩
         rw [if_neg c185] at H
         have c185b0 : (t652 == t621) = false := beq_eq_false_iff_ne.mpr c185
         have c185b1 : (t652 != t621) = true := bne_iff_ne.mpr c185
         exact absurd ((Option.some.inj H).trans hrt_.out) (by decide)
      rw [if_neg c121] at H
      have c121b0 : (t625 == t621) = false := beq_eq_false_iff_ne.mpr c121
      have c121b1 : (t625 != t621) = true := bne_iff_ne.mpr c121
      exact absurd ((Option.some.inj H).trans hrt_.out) (by decide)
   replace c75 := Bool.eq_false_iff.mpr c75
   subst c75
   rw [if_neg (show ¬ (false = true) by decide)] at H
   exact absurd ((Option.some.inj H).trans hrt_.out) (by decide)

end Go.Proofs.Ytfjhkediaholmaa.QFnExactEvict
