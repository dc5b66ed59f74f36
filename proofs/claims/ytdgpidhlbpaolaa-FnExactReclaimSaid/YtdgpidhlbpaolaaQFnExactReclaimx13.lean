-- made by a program of this session (myprint.py)
import Derived.Test.YtdgpidhlbpaolaaQFnExactReclaimx0
import Derived.Test.YtdgpidhlbpaolaaQFnExactReclaimx1
import Derived.Test.YtdgpidhlbpaolaaQFnExactReclaimx2
import Derived.Test.YtdgpidhlbpaolaaQFnExactReclaimx3
import Derived.Test.YtdgpidhlbpaolaaQFnExactReclaimx9
import Derived.Test.YtdgpidhlbpaolaaQFnExactReclaimx12
namespace Go.Proofs.Ytdgpidhlbpaolaa.QFnExactReclaim
open Go.RowKit Go.Proofs.YtdgpidhlbpaolaaW.PrintWords Go.Proofs.YtdgpidhlbpaolaaW.PrintLast Go.Proofs.YtdgpidhlbpaolaaW.PrintMore
attribute [local go_sem] max2_int min2_int max_two min_two max_three min_three max_four min_four   -- for this text's walks alone
set_option linter.unusedVariables false
set_option linter.unusedSimpArgs false

/-! ### laws_FnExactReclaim: function 9 -/
mutual
def laws_FnExactReclaim.j0 : Nat → List Int → List Int → Bool → List Int → Int → List Int → List (S106) → List Int → List Int → Int → List Int → List (S70) → List Int → List Int → Int → List Int → List (S70) → List Int → List Int → Int → List Int → List (S70) → List Int → Option (Bool)
 | 0, _, _, _, _, _, _, _, _, _, _, _, _, _, _, _, _, _, _, _, _, _, _, _ => none
 | k + 1, x5, x8, x41, x452000, x452001, x452002, x452003, x452004, x483000, x483001, x483002, x483003, x483004, x497000, x497001, x497002, x497003, x497004, x514000, x514001, x514002, x514003, x514004 => if x41 = true then (some false) else ((laws_toPool.f k x452000 x452001 x452002 x452003 x452004).bind fun bt516 => ((laws_eqPool.f k x497000 x497001 x497002 x497003 x497004 bt516.1 bt516.2.1 bt516.2.2.1 bt516.2.2.2.1 bt516.2.2.2.2).bind fun t529 => (if t529 = true then ((laws_markPool.f k x497000 x497001 x497002 x497003 x497004 1).bind fun bt530 => (if bt530.1 < 0 then (laws_FnExactReclaim.j1 k x5 x8 true x452000 x452001 x452002 x452003 x452004 x483000 x483001 x483002 x483003 x483004 x514000 x514001 x514002 x514003 x514004) else ((laws_eqPool.f k x514000 x514001 x514002 x514003 x514004 x483000 x483001 x483002 x483003 x483004).bind fun t535 => (if t535 = true then ((laws_eqIntS.f k x8 x5).bind fun t536 => (laws_FnExactReclaim.j1 k x5 x8 (!t536) x452000 x452001 x452002 x452003 x452004 x483000 x483001 x483002 x483003 x483004 x514000 x514001 x514002 x514003 x514004)) else (laws_FnExactReclaim.j1 k x5 x8 true x452000 x452001 x452002 x452003 x452004 x483000 x483001 x483002 x483003 x483004 x514000 x514001 x514002 x514003 x514004))))) else (some false))))
def laws_FnExactReclaim.j1 : Nat → List Int → List Int → Bool → List Int → Int → List Int → List (S106) → List Int → List Int → Int → List Int → List (S70) → List Int → List Int → Int → List Int → List (S70) → List Int → Option (Bool)
 | 0, _, _, _, _, _, _, _, _, _, _, _, _, _, _, _, _, _, _ => none
 | k + 1, x5, x8, x63, x452000, x452001, x452002, x452003, x452004, x483000, x483001, x483002, x483003, x483004, x514000, x514001, x514002, x514003, x514004 => if x63 = true then (some false) else ((laws_markPool.f k x514000 x514001 x514002 x514003 x514004 1).bind fun bt537 => ((laws_markIntS.f k x8 bt537.1).bind fun bt542 => ((laws_heldPool.f k bt537.2.1 x514001 bt537.2.2.1 bt537.2.2.2.1 bt537.2.2.2.2 1).bind fun t544 => (if t544 < 0 then (some false) else ((laws_heldIntS.f k bt542.2 t544).bind fun t545 => (if t545 < 0 then (some false) else (if t545 = bt542.1 then ((laws_toPool.f k x452000 x452001 x452002 x452003 x452004).bind fun bt546 => ((impl_Reclaim.f k bt546.1 bt546.2.1 bt546.2.2.1 bt546.2.2.2.1 bt546.2.2.2.2).bind fun bt559 => ((laws_eqPool.f k bt559.1 bt559.2.1 bt559.2.2.1 bt559.2.2.2.1 bt559.2.2.2.2.1 x483000 x483001 x483002 x483003 x483004).bind fun t576 => (if t576 = true then ((laws_eqIntS.f k bt559.2.2.2.2.2 x5).bind fun t577 => (laws_FnExactReclaim.j2 k bt542.2 bt542.1 (!t577) bt537.2.1 x514001 bt537.2.2.1 bt537.2.2.2.1 bt537.2.2.2.2)) else (laws_FnExactReclaim.j2 k bt542.2 bt542.1 true bt537.2.1 x514001 bt537.2.2.1 bt537.2.2.2.1 bt537.2.2.2.2))))) else (some false))))))))
def laws_FnExactReclaim.j2 : Nat → List Int → Int → Bool → List Int → Int → List Int → List (S70) → List Int → Option (Bool)
 | 0, _, _, _, _, _, _, _, _ => none
 | k + 1, x8, x10, x98, x514000, x514001, x514002, x514003, x514004 => if x98 = true then (some false) else ((laws_heldPool.f k x514000 x514001 x514002 x514003 x514004 1).bind fun t578 => (if t578 < 0 then (some false) else ((laws_heldIntS.f k x8 t578).bind fun t579 => (if t579 < 0 then (some false) else (if t579 = x10 then (some true) else (some false))))))
end
def laws_FnExactReclaim.f (k : Nat) (l0_0 : List Int) (a0_1 : Int) (l0_2 : List Int) (l0_3 : List (S106)) (l0_4 : List Int) : Option (Bool) := (laws_szPool.f l0_0 a0_1 l0_2 l0_3 l0_4 1048576).bind fun t452 => (if t452 < 0 then (some true) else ((laws_toPool.f k l0_0 a0_1 l0_2 l0_3 l0_4).bind fun bt453 => ((spec_Reclaim.f k bt453.1 bt453.2.1 bt453.2.2.1 bt453.2.2.2.1 bt453.2.2.2.2).bind fun bt466 => ((laws_toPool.f k l0_0 a0_1 l0_2 l0_3 l0_4).bind fun bt483 => ((impl_Reclaim.f k bt483.1 bt483.2.1 bt483.2.2.1 bt483.2.2.2.1 bt483.2.2.2.2).bind fun bt497 => ((laws_eqPool.f k bt497.1 bt497.2.1 bt497.2.2.1 bt497.2.2.2.1 bt497.2.2.2.2.1 bt466.1 bt466.2.1 bt466.2.2.1 bt466.2.2.2.1 bt466.2.2.2.2.1).bind fun t514 => (if t514 = true then ((laws_eqIntS.f k bt497.2.2.2.2.2 bt466.2.2.2.2.2).bind fun t515 => (laws_FnExactReclaim.j0 k bt466.2.2.2.2.2 bt497.2.2.2.2.2 (!t515) l0_0 a0_1 l0_2 l0_3 l0_4 bt466.1 bt466.2.1 bt466.2.2.1 bt466.2.2.2.1 bt466.2.2.2.2.1 bt483.1 bt483.2.1 bt483.2.2.1 bt483.2.2.2.1 bt483.2.2.2.2 bt497.1 bt497.2.1 bt497.2.2.1 bt497.2.2.2.1 bt497.2.2.2.2.1)) else (laws_FnExactReclaim.j0 k bt466.2.2.2.2.2 bt497.2.2.2.2.2 true l0_0 a0_1 l0_2 l0_3 l0_4 bt466.1 bt466.2.1 bt466.2.2.1 bt466.2.2.2.1 bt466.2.2.2.2.1 bt483.1 bt483.2.1 bt483.2.2.1 bt483.2.2.2.1 bt483.2.2.2.2 bt497.1 bt497.2.1 bt497.2.2.1 bt497.2.2.2.1 bt497.2.2.2.2.1))))))))
theorem laws_FnExactReclaim.mono_l : ∀ k, (∀ y0 y1 y2 y3 y4 y5 y6 y7 y8 y9 y10 y11 y12 y13 y14 y15 y16 y17 y18 y19 y20 y21 y22, LeO (laws_FnExactReclaim.j0 k y0 y1 y2 y3 y4 y5 y6 y7 y8 y9 y10 y11 y12 y13 y14 y15 y16 y17 y18 y19 y20 y21 y22) (laws_FnExactReclaim.j0 (k + 1) y0 y1 y2 y3 y4 y5 y6 y7 y8 y9 y10 y11 y12 y13 y14 y15 y16 y17 y18 y19 y20 y21 y22)) ∧ (∀ y0 y1 y2 y3 y4 y5 y6 y7 y8 y9 y10 y11 y12 y13 y14 y15 y16 y17, LeO (laws_FnExactReclaim.j1 k y0 y1 y2 y3 y4 y5 y6 y7 y8 y9 y10 y11 y12 y13 y14 y15 y16 y17) (laws_FnExactReclaim.j1 (k + 1) y0 y1 y2 y3 y4 y5 y6 y7 y8 y9 y10 y11 y12 y13 y14 y15 y16 y17)) ∧ (∀ y0 y1 y2 y3 y4 y5 y6 y7, LeO (laws_FnExactReclaim.j2 k y0 y1 y2 y3 y4 y5 y6 y7) (laws_FnExactReclaim.j2 (k + 1) y0 y1 y2 y3 y4 y5 y6 y7))
 | 0 => ⟨fun _ _ _ _ _ _ _ _ _ _ _ _ _ _ _ _ _ _ _ _ _ _ _ r h => by simp [laws_FnExactReclaim.j0] at h, fun _ _ _ _ _ _ _ _ _ _ _ _ _ _ _ _ _ _ r h => by simp [laws_FnExactReclaim.j1] at h, fun _ _ _ _ _ _ _ _ r h => by simp [laws_FnExactReclaim.j2] at h⟩
 | k + 1 => by
  obtain ⟨ih0, ih1, ih2⟩ := laws_FnExactReclaim.mono_l k
  refine ⟨?_, ?_, ?_⟩
  ·intro y0 y1 y2 y3 y4 y5 y6 y7 y8 y9 y10 y11 y12 y13 y14 y15 y16 y17 y18 y19 y20 y21 y22
   unfold laws_FnExactReclaim.j0
   repeat' first
   | (with_reducible exact ih0 _ _ _ _ _ _ _ _ _ _ _ _ _ _ _ _ _ _ _ _ _ _ _)
   | (with_reducible exact ih1 _ _ _ _ _ _ _ _ _ _ _ _ _ _ _ _ _ _)
   | (with_reducible exact ih2 _ _ _ _ _ _ _ _)
   | (with_reducible exact impl_Reclaim.mono _ _ _ _ _ _)
   | (with_reducible exact laws_eqIntS.mono _ _ _)
   | (with_reducible exact laws_eqPool.mono _ _ _ _ _ _ _ _ _ _ _)
   | (with_reducible exact laws_heldIntS.mono _ _ _)
   | (with_reducible exact laws_heldPool.mono _ _ _ _ _ _ _)
   | (with_reducible exact laws_markIntS.mono _ _ _)
   | (with_reducible exact laws_markPool.mono _ _ _ _ _ _ _)
   | (with_reducible exact laws_toPool.mono _ _ _ _ _ _)
   | (with_reducible exact spec_Reclaim.mono _ _ _ _ _ _)
   | (with_reducible exact LeO.refl _)
   | (with_reducible exact LeO.none _)
   | (with_reducible refine LeO.ite ?_ ?_)
   | (with_reducible refine LeO.bind ?_ (fun _ => ?_))
   | exact ih0 _ _ _ _ _ _ _ _ _ _ _ _ _ _ _ _ _ _ _ _ _ _ _
   | exact ih1 _ _ _ _ _ _ _ _ _ _ _ _ _ _ _ _ _ _
   | exact ih2 _ _ _ _ _ _ _ _
   | exact impl_Reclaim.mono _ _ _ _ _ _
   | exact laws_eqIntS.mono _ _ _
   | exact laws_eqPool.mono _ _ _ _ _ _ _ _ _ _ _
   | exact laws_heldIntS.mono _ _ _
   | exact laws_heldPool.mono _ _ _ _ _ _ _
   | exact laws_markIntS.mono _ _ _
   | exact laws_markPool.mono _ _ _ _ _ _ _
   | exact laws_toPool.mono _ _ _ _ _ _
   | exact spec_Reclaim.mono _ _ _ _ _ _
   | exact LeO.none _
   | refine LeO.ite ?_ ?_
   | refine LeO.bind ?_ (fun _ => ?_)
  ·intro y0 y1 y2 y3 y4 y5 y6 y7 y8 y9 y10 y11 y12 y13 y14 y15 y16 y17
   unfold laws_FnExactReclaim.j1
   repeat' first
   | (with_reducible exact ih0 _ _ _ _ _ _ _ _ _ _ _ _ _ _ _ _ _ _ _ _ _ _ _)
   | (with_reducible exact ih1 _ _ _ _ _ _ _ _ _ _ _ _ _ _ _ _ _ _)
   | (with_reducible exact ih2 _ _ _ _ _ _ _ _)
   | (with_reducible exact impl_Reclaim.mono _ _ _ _ _ _)
   | (with_reducible exact laws_eqIntS.mono _ _ _)
   | (with_reducible exact laws_eqPool.mono _ _ _ _ _ _ _ _ _ _ _)
   | (with_reducible exact laws_heldIntS.mono _ _ _)
   | (with_reducible exact laws_heldPool.mono _ _ _ _ _ _ _)
   | (with_reducible exact laws_markIntS.mono _ _ _)
   | (with_reducible exact laws_markPool.mono _ _ _ _ _ _ _)
   | (with_reducible exact laws_toPool.mono _ _ _ _ _ _)
   | (with_reducible exact spec_Reclaim.mono _ _ _ _ _ _)
   | (with_reducible exact LeO.refl _)
   | (with_reducible exact LeO.none _)
   | (with_reducible refine LeO.ite ?_ ?_)
   | (with_reducible refine LeO.bind ?_ (fun _ => ?_))
   | exact ih0 _ _ _ _ _ _ _ _ _ _ _ _ _ _ _ _ _ _ _ _ _ _ _
   | exact ih1 _ _ _ _ _ _ _ _ _ _ _ _ _ _ _ _ _ _
   | exact ih2 _ _ _ _ _ _ _ _
   | exact impl_Reclaim.mono _ _ _ _ _ _
   | exact laws_eqIntS.mono _ _ _
   | exact laws_eqPool.mono _ _ _ _ _ _ _ _ _ _ _
   | exact laws_heldIntS.mono _ _ _
   | exact laws_heldPool.mono _ _ _ _ _ _ _
   | exact laws_markIntS.mono _ _ _
   | exact laws_markPool.mono _ _ _ _ _ _ _
   | exact laws_toPool.mono _ _ _ _ _ _
   | exact spec_Reclaim.mono _ _ _ _ _ _
   | exact LeO.none _
   | refine LeO.ite ?_ ?_
   | refine LeO.bind ?_ (fun _ => ?_)
  intro y0 y1 y2 y3 y4 y5 y6 y7
  unfold laws_FnExactReclaim.j2
  repeat' first
  | (with_reducible exact ih0 _ _ _ _ _ _ _ _ _ _ _ _ _ _ _ _ _ _ _ _ _ _ _)
  | (with_reducible exact ih1 _ _ _ _ _ _ _ _ _ _ _ _ _ _ _ _ _ _)
  | (with_reducible exact ih2 _ _ _ _ _ _ _ _)
  | (with_reducible exact impl_Reclaim.mono _ _ _ _ _ _)
  | (with_reducible exact laws_eqIntS.mono _ _ _)
  | (with_reducible exact laws_eqPool.mono _ _ _ _ _ _ _ _ _ _ _)
  | (with_reducible exact laws_heldIntS.mono _ _ _)
  | (with_reducible exact laws_heldPool.mono _ _ _ _ _ _ _)
  | (with_reducible exact laws_markIntS.mono _ _ _)
  | (with_reducible exact laws_markPool.mono _ _ _ _ _ _ _)
  | (with_reducible exact laws_toPool.mono _ _ _ _ _ _)
  | (with_reducible exact spec_Reclaim.mono _ _ _ _ _ _)
  | (with_reducible exact LeO.refl _)
  | (with_reducible exact LeO.none _)
  | (with_reducible refine LeO.ite ?_ ?_)
  | (with_reducible refine LeO.bind ?_ (fun _ => ?_))
  | exact ih0 _ _ _ _ _ _ _ _ _ _ _ _ _ _ _ _ _ _ _ _ _ _ _
  | exact ih1 _ _ _ _ _ _ _ _ _ _ _ _ _ _ _ _ _ _
  | exact ih2 _ _ _ _ _ _ _ _
  | exact impl_Reclaim.mono _ _ _ _ _ _
  | exact laws_eqIntS.mono _ _ _
  | exact laws_eqPool.mono _ _ _ _ _ _ _ _ _ _ _
  | exact laws_heldIntS.mono _ _ _
  | exact laws_heldPool.mono _ _ _ _ _ _ _
  | exact laws_markIntS.mono _ _ _
  | exact laws_markPool.mono _ _ _ _ _ _ _
  | exact laws_toPool.mono _ _ _ _ _ _
  | exact spec_Reclaim.mono _ _ _ _ _ _
  | exact LeO.none _
  | refine LeO.ite ?_ ?_
  | refine LeO.bind ?_ (fun _ => ?_)
theorem laws_FnExactReclaim.mono : ∀ a0 a1 a2 a3 a4 k, LeO (laws_FnExactReclaim.f k a0 a1 a2 a3 a4) (laws_FnExactReclaim.f (k + 1) a0 a1 a2 a3 a4) := by
 intro a0 a1 a2 a3 a4 k
 obtain ⟨ih0, ih1, ih2⟩ := laws_FnExactReclaim.mono_l k
 unfold laws_FnExactReclaim.f
 repeat' first
   | (with_reducible exact ih0 _ _ _ _ _ _ _ _ _ _ _ _ _ _ _ _ _ _ _ _ _ _ _)
   | (with_reducible exact ih1 _ _ _ _ _ _ _ _ _ _ _ _ _ _ _ _ _ _)
   | (with_reducible exact ih2 _ _ _ _ _ _ _ _)
   | (with_reducible exact impl_Reclaim.mono _ _ _ _ _ _)
   | (with_reducible exact laws_eqIntS.mono _ _ _)
   | (with_reducible exact laws_eqPool.mono _ _ _ _ _ _ _ _ _ _ _)
   | (with_reducible exact laws_heldIntS.mono _ _ _)
   | (with_reducible exact laws_heldPool.mono _ _ _ _ _ _ _)
   | (with_reducible exact laws_markIntS.mono _ _ _)
   | (with_reducible exact laws_markPool.mono _ _ _ _ _ _ _)
   | (with_reducible exact laws_toPool.mono _ _ _ _ _ _)
   | (with_reducible exact spec_Reclaim.mono _ _ _ _ _ _)
   | (with_reducible exact LeO.refl _)
   | (with_reducible exact LeO.none _)
   | (with_reducible refine LeO.ite ?_ ?_)
   | (with_reducible refine LeO.bind ?_ (fun _ => ?_))
   | exact ih0 _ _ _ _ _ _ _ _ _ _ _ _ _ _ _ _ _ _ _ _ _ _ _
   | exact ih1 _ _ _ _ _ _ _ _ _ _ _ _ _ _ _ _ _ _
   | exact ih2 _ _ _ _ _ _ _ _
   | exact impl_Reclaim.mono _ _ _ _ _ _
   | exact laws_eqIntS.mono _ _ _
   | exact laws_eqPool.mono _ _ _ _ _ _ _ _ _ _ _
   | exact laws_heldIntS.mono _ _ _
   | exact laws_heldPool.mono _ _ _ _ _ _ _
   | exact laws_markIntS.mono _ _ _
   | exact laws_markPool.mono _ _ _ _ _ _ _
   | exact laws_toPool.mono _ _ _ _ _ _
   | exact spec_Reclaim.mono _ _ _ _ _ _
   | exact LeO.none _
   | refine LeO.ite ?_ ?_
   | refine LeO.bind ?_ (fun _ => ?_)
set_option maxHeartbeats 8000000 in
set_option maxRecDepth 100000 in
theorem laws_FnExactReclaim.calls (k : Nat) (A0_0 : Option Addr) (c0_0 : Nat) (l0_0 : List Int) (a0_1 : Int) (A0_2 : Option Addr) (c0_2 : Nat) (l0_2 : List Int) (A0_3 : Option Addr) (c0_3 : Nat) (l0_3 : List (S106)) (A0_4 : Option Addr) (c0_4 : Nat) (l0_4 : List Int) (r : Bool) (w : World) (hr0_0 : Kd.C (Kd.int .i64) w A0_0 l0_0.length l0_0) (hc0_0 : l0_0.length ≤ c0_0) (hr0_2 : Kd.C (Kd.int .i64) w A0_2 l0_2.length l0_2) (hc0_2 : l0_2.length ≤ c0_2) (hr0_3 : Kd.C k106 w A0_3 l0_3.length l0_3) (hc0_3 : l0_3.length ≤ c0_3) (hr0_4 : Kd.C (Kd.int .i64) w A0_4 l0_4.length l0_4) (hc0_4 : l0_4.length ≤ c0_4) (h : laws_FnExactReclaim.f k l0_0 a0_1 l0_2 l0_3 l0_4 = some r) (hrt_ : Aside0 (r = true)) :
  Calls Try.prog 9 #[.agg #[.slice A0_0 l0_0.length c0_0, .int .i64 a0_1, .slice A0_2 l0_2.length c0_2, .slice A0_3 l0_3.length c0_3, .slice A0_4 l0_4.length c0_4]] w fun e w' => e = .returned (.bool r) ∧ Below w.heap.size w w' := by
 have hu37 := Try.underlying37
 have hu27 := Try.underlying27
 have HR0_0 := Aside0.mk hr0_0
 have HC0_0 := Aside0.mk hc0_0
 clear hr0_0 hc0_0
 have HR0_2 := Aside0.mk hr0_2
 have HC0_2 := Aside0.mk hc0_2
 clear hr0_2 hc0_2
 have HR0_3 := Aside0.mk hr0_3
 have HC0_3 := Aside0.mk hc0_3
 clear hr0_3 hc0_3
 have HR0_4 := Aside0.mk hr0_4
 have HC0_4 := Aside0.mk hc0_4
 clear hr0_4 hc0_4
 have HB := Aside0.mk (Below.refl w.heap.size w)
 have H : ((laws_szPool.f l0_0 a0_1 l0_2 l0_3 l0_4 1048576).bind fun t452 => (if t452 < 0 then (some true) else ((laws_toPool.f k l0_0 a0_1 l0_2 l0_3 l0_4).bind fun bt453 => ((spec_Reclaim.f k bt453.1 bt453.2.1 bt453.2.2.1 bt453.2.2.2.1 bt453.2.2.2.2).bind fun bt466 => ((laws_toPool.f k l0_0 a0_1 l0_2 l0_3 l0_4).bind fun bt483 => ((impl_Reclaim.f k bt483.1 bt483.2.1 bt483.2.2.1 bt483.2.2.2.1 bt483.2.2.2.2).bind fun bt497 => ((laws_eqPool.f k bt497.1 bt497.2.1 bt497.2.2.1 bt497.2.2.2.1 bt497.2.2.2.2.1 bt466.1 bt466.2.1 bt466.2.2.1 bt466.2.2.2.1 bt466.2.2.2.2.1).bind fun t514 => (if t514 = true then ((laws_eqIntS.f k bt497.2.2.2.2.2 bt466.2.2.2.2.2).bind fun t515 => (laws_FnExactReclaim.j0 k bt466.2.2.2.2.2 bt497.2.2.2.2.2 (!t515) l0_0 a0_1 l0_2 l0_3 l0_4 bt466.1 bt466.2.1 bt466.2.2.1 bt466.2.2.2.1 bt466.2.2.2.2.1 bt483.1 bt483.2.1 bt483.2.2.1 bt483.2.2.2.1 bt483.2.2.2.2 bt497.1 bt497.2.1 bt497.2.2.1 bt497.2.2.2.1 bt497.2.2.2.2.1)) else (laws_FnExactReclaim.j0 k bt466.2.2.2.2.2 bt497.2.2.2.2.2 true l0_0 a0_1 l0_2 l0_3 l0_4 bt466.1 bt466.2.1 bt466.2.2.1 bt466.2.2.2.1 bt466.2.2.2.2.1 bt483.1 bt483.2.1 bt483.2.2.1 bt483.2.2.2.1 bt483.2.2.2.2 bt497.1 bt497.2.1 bt497.2.2.1 bt497.2.2.2.1 bt497.2.2.2.2.1))))))))) = some r := h
 clear h
 replace H := Option.bind_eq_some_iff.mp H
 obtain ⟨t452, A20, H⟩ := H
 try dsimp only at H
 have A2 := Aside0.mk A20
 clear A20
 by_cases c3 : t452 < 0
 ·rw [if_pos c3] at H
  have c3b0 : decide (t452 < 0) = true := decide_eq_true c3
  clear c3
  obtain rfl := Option.some.inj H
  go_enter Try.func9, Try.ntmps9
  go_wp2_with (first | ((with_reducible refine gate_dst (N := 1) rfl ?_); refine bx 1 #[.slice A0_0 l0_0.length c0_0, .int .i64 a0_1, .slice A0_2 l0_2.length c0_2, .slice A0_3 l0_3.length c0_3, .slice A0_4 l0_4.length c0_4] 37 ?_; intro gb451 hg w4 hbox hb; have BK451 := am hbox; have GW451 := gs0 hg HB; have GE451 := gs0 hg HB; replace HB := s0 HB hb; clear hb hbox hg; have hcz5_0 := bz5 BK451) | ((with_reducible refine gate_callee (f := 19) rfl ?_); refine gl 16 Try.func19 #[.agg #[.slice A0_0 l0_0.length c0_0, .int .i64 a0_1, .slice A0_2 l0_2.length c0_2, .slice A0_3 l0_3.length c0_3, .slice A0_4 l0_4.length c0_4], .int .i64 1048576] ?_; (with_reducible refine (laws_szPool.calls _ _ l0_0 a0_1 _ _ l0_2 _ _ l0_3 _ _ l0_4 1048576 t452 _ (cb HR0_0 HB) HC0_0.out (cb HR0_2 HB) HC0_2.out (cb HR0_3 HB) HC0_3.out (cb HR0_4 HB) HC0_4.out A2.out).mono ?_); rintro e w6 ⟨rfl, hb⟩; refine ⟨_, rfl, ?_⟩; replace BK451 := bb BK451 hb; replace HB := Aside0.mk (below_step (be1 HB GE451) hb); (try clear hb)))
  go_ret
  exact ⟨er, be1 HB GE451⟩
 rw [if_neg c3] at H
 have c3b0 : decide (t452 < 0) = false := decide_eq_false c3
 clear c3
 replace H := Option.bind_eq_some_iff.mp H
 obtain ⟨⟨t453, t456, t457, t460, t463⟩, A70, H⟩ := H
 try dsimp only at H
 have A7 := Aside0.mk A70
 clear A70
 replace H := Option.bind_eq_some_iff.mp H
 obtain ⟨⟨t466, t469, t470, t473, t476, t479⟩, A80, H⟩ := H
 try dsimp only at H
 have A8 := Aside0.mk A80
 clear A80
 replace H := Option.bind_eq_some_iff.mp H
 obtain ⟨⟨t483, t486, t487, t490, t493⟩, A90, H⟩ := H
 try dsimp only at H
 have A9 := Aside0.mk A90
 clear A90
 replace H := Option.bind_eq_some_iff.mp H
 obtain ⟨⟨t497, t500, t501, t504, t507, t510⟩, A100, H⟩ := H
 try dsimp only at H
 have A10 := Aside0.mk A100
 clear A100
 have HC11 := Aside0.mk H
 clear H
 go_enter Try.func9, Try.ntmps9
 go_upto_region 8 with (first | ((with_reducible refine gate_dst (N := 1) rfl ?_); refine bx 1 #[.slice A0_0 l0_0.length c0_0, .int .i64 a0_1, .slice A0_2 l0_2.length c0_2, .slice A0_3 l0_3.length c0_3, .slice A0_4 l0_4.length c0_4] 37 ?_; intro gb451 hg w12 hbox hb; have BK451 := am hbox; have GW451 := gs0 hg HB; have GE451 := gs0 hg HB; replace HB := s0 HB hb; clear hb hbox hg; have hcz13_0 := bz5 BK451) | ((with_reducible refine gate_callee (f := 19) rfl ?_); refine gl 16 Try.func19 #[.agg #[.slice A0_0 l0_0.length c0_0, .int .i64 a0_1, .slice A0_2 l0_2.length c0_2, .slice A0_3 l0_3.length c0_3, .slice A0_4 l0_4.length c0_4], .int .i64 1048576] ?_; (with_reducible refine (laws_szPool.calls _ _ l0_0 a0_1 _ _ l0_2 _ _ l0_3 _ _ l0_4 1048576 t452 _ (cb HR0_0 HB) HC0_0.out (cb HR0_2 HB) HC0_2.out (cb HR0_3 HB) HC0_3.out (cb HR0_4 HB) HC0_4.out A2.out).mono ?_); rintro e w14 ⟨rfl, hb⟩; refine ⟨_, rfl, ?_⟩; replace BK451 := bb BK451 hb; replace HB := Aside0.mk (below_step (be1 HB GE451) hb); (try clear hb); have hcz15_0 := bz5 BK451) | ((with_reducible refine gate_callee (f := 21) rfl ?_); refine gl 21 Try.func21 #[.agg #[.slice A0_0 l0_0.length c0_0, .int .i64 a0_1, .slice A0_2 l0_2.length c0_2, .slice A0_3 l0_3.length c0_3, .slice A0_4 l0_4.length c0_4]] ?_; (with_reducible refine (laws_toPool.calls k _ _ l0_0 a0_1 _ _ l0_2 _ _ l0_3 _ _ l0_4 t453 t456 t457 t460 t463 _ (cb HR0_0 HB) HC0_0.out (cb HR0_2 HB) HC0_2.out (cb HR0_3 HB) HC0_3.out (cb HR0_4 HB) HC0_4.out A7.out).mono ?_); rintro e w16 ⟨v454, v458, v461, v464, rfl, ho0, ho1, ho2, ho3, hb⟩; refine ⟨_, rfl, ?_⟩; have HO455 := Aside0.mk (Kd.R_lower ho0 (below_size (be1 HB GE451))); have HO459 := Aside0.mk (Kd.R_lower ho1 (below_size (be1 HB GE451))); have HO462 := Aside0.mk (Kd.R_lower ho2 (below_size (be1 HB GE451))); have HO465 := Aside0.mk (Kd.R_lower ho3 (below_size (be1 HB GE451))); replace BK451 := bb BK451 hb; replace HB := Aside0.mk (below_step (be1 HB GE451) hb); (try clear hb); (try clear ho0); (try clear ho1); (try clear ho2); (try clear ho3); obtain ⟨Ao17, co17, eo17⟩ := Kd.R_slice HO455.out; subst eo17; obtain ⟨Ao18, co18, eo18⟩ := Kd.R_slice HO459.out; subst eo18; obtain ⟨Ao19, co19, eo19⟩ := Kd.R_slice HO462.out; subst eo19; obtain ⟨Ao20, co20, eo20⟩ := Kd.R_slice HO465.out; subst eo20) | ((with_reducible refine gate_callee (f := 31) rfl ?_); refine gl 22 Try.func31 #[.agg #[.slice Ao17 t453.length co17, .int .i64 t456, .slice Ao18 t457.length co18, .slice Ao19 t460.length co19, .slice Ao20 t463.length co20]] ?_; (with_reducible refine (spec_Reclaim.calls k _ _ t453 t456 _ _ t457 _ _ t460 _ _ t463 t466 t469 t470 t473 t476 t479 _ (cr HO455) ((Kd.R_reads' HO455.out).2.1) (cr HO459) ((Kd.R_reads' HO459.out).2.1) (cr HO462) ((Kd.R_reads' HO462.out).2.1) (cr HO465) ((Kd.R_reads' HO465.out).2.1) A8.out).mono ?_); rintro e w21 ⟨v467, v471, v474, v477, v480, rfl, ho0, ho1, ho2, ho3, ho4, hb⟩; refine ⟨_, rfl, ?_⟩; have HO468 := Aside0.mk (Kd.R_lower (nw (nw (nw ho0 HO455) HO459) HO465) (below_size (be1 HB GE451))); have HO472 := Aside0.mk (Kd.R_lower (nw (nw (nw ho1 HO455) HO459) HO465) (below_size (be1 HB GE451))); have HO475 := Aside0.mk (Kd.R_lower (nw ho2 HO462) (below_size (be1 HB GE451))); replace HO462 := Aside0.mk (Kd.R_elder' (ro HO462) (Kd.R_base ho2) hb); have HO478 := Aside0.mk (Kd.R_lower (nw (nw (nw ho3 HO455) HO459) HO465) (below_size (be1 HB GE451))); have HO481 := Aside0.mk (Kd.R_lower (nw (nw (nw ho4 HO455) HO459) HO465) (below_size (be1 HB GE451))); replace HO455 := td4 (ro HO455) hb ho0 ho1 ho3 ho4; replace HO459 := td4 (ro HO459) hb ho0 ho1 ho3 ho4; replace HO465 := td4 (ro HO465) hb ho0 ho1 ho3 ho4; replace BK451 := bb BK451 hb; replace HB := Aside0.mk (below_step (be1 HB GE451) hb); (try clear hb); (try clear ho0); (try clear ho1); (try clear ho2); (try clear ho3); (try clear ho4)) | ((with_reducible refine gate_dst (N := 4) rfl ?_); refine bx 4 #[.slice none 0 0, .int .i64 0, .slice none 0 0, .slice none 0 0, .slice none 0 0] 27 ?_; intro gb482 hg w22 hbox hb; replace HO455 := rb HO455 hb; replace HO459 := rb HO459 hb; replace HO462 := rb HO462 hb; replace HO465 := rb HO465 hb; replace HO468 := rb HO468 hb; replace HO472 := rb HO472 hb; replace HO475 := rb HO475 hb; replace HO478 := rb HO478 hb; replace HO481 := rb HO481 hb; have BK482 := am hbox; have GW482 := gs1 hg HB GE451; have GE482 := gs1 hg HB GE451; replace HB := Aside0.mk (below_step (be1 HB GE451) hb); have NB451_482 := Aside0.mk ((by rw [hg]; exact Nat.ne_of_lt (bl BK451) : gb451 ≠ gb482)); have NB482_451 := Aside0.mk ((by rw [hg]; exact Nat.ne_of_gt (bl BK451) : gb482 ≠ gb451)); replace BK451 := bb BK451 hb; clear hb hbox hg; obtain ⟨Ao23, co23, eo23⟩ := Kd.R_slice HO468.out; subst eo23; have hnb24 := NB482_451.out; have hnc24 := NB451_482.out; have hcz25_0 := bz5 BK482; obtain ⟨Ao26, co26, eo26⟩ := Kd.R_slice HO472.out; subst eo26; obtain ⟨Ao27, co27, eo27⟩ := Kd.R_slice HO475.out; subst eo27; obtain ⟨Ao28, co28, eo28⟩ := Kd.R_slice HO478.out; subst eo28; have hcz29_0 := bz5 BK451) | ((with_reducible refine gate_callee (f := 21) rfl ?_); refine gl 26 Try.func21 #[.agg #[.slice A0_0 l0_0.length c0_0, .int .i64 a0_1, .slice A0_2 l0_2.length c0_2, .slice A0_3 l0_3.length c0_3, .slice A0_4 l0_4.length c0_4]] ?_; (with_reducible refine (laws_toPool.calls k _ _ l0_0 a0_1 _ _ l0_2 _ _ l0_3 _ _ l0_4 t483 t486 t487 t490 t493 _ ?side1 HC0_0.out ?side3 HC0_2.out ?side5 HC0_3.out ?side7 HC0_4.out A9.out).mono ?_); (case side1 => exact Kd.C_below HR0_0.out (be2 HB GE451 GE482)); (case side3 => exact Kd.C_below HR0_2.out (be2 HB GE451 GE482)); (case side5 => exact Kd.C_below HR0_3.out (be2 HB GE451 GE482)); (case side7 => exact Kd.C_below HR0_4.out (be2 HB GE451 GE482)); rintro e w30 ⟨v484, v488, v491, v494, rfl, ho0, ho1, ho2, ho3, hb⟩; refine ⟨_, rfl, ?_⟩; have HO485 := Aside0.mk (Kd.R_lower (Kd.R_new' (Kd.R_new' (Kd.R_new' (Kd.R_new' (Kd.R_new' (Kd.R_new' (Kd.R_new' ho0 (Kd.R_lt (rf HO455 BK482))) (Kd.R_lt (rf HO459 BK482))) (Kd.R_lt (rf HO465 BK482))) (Kd.R_lt (rf HO468 BK482))) (Kd.R_lt (rf HO472 BK482))) (Kd.R_lt (rf HO478 BK482))) (Kd.R_lt (rf HO481 BK482))) (below_size (be2 HB GE451 GE482))); have HO489 := Aside0.mk (Kd.R_lower (Kd.R_new' (Kd.R_new' (Kd.R_new' (Kd.R_new' (Kd.R_new' (Kd.R_new' (Kd.R_new' ho1 (Kd.R_lt (rf HO455 BK482))) (Kd.R_lt (rf HO459 BK482))) (Kd.R_lt (rf HO465 BK482))) (Kd.R_lt (rf HO468 BK482))) (Kd.R_lt (rf HO472 BK482))) (Kd.R_lt (rf HO478 BK482))) (Kd.R_lt (rf HO481 BK482))) (below_size (be2 HB GE451 GE482))); have HO492 := Aside0.mk (Kd.R_lower (Kd.R_new' (Kd.R_new' ho2 (Kd.R_lt (rf HO462 BK482))) (Kd.R_lt (rf HO475 BK482))) (below_size (be2 HB GE451 GE482))); replace HO462 := Aside0.mk (Kd.R_elder' (rf HO462 BK482) (Kd.R_base ho2) hb); replace HO475 := Aside0.mk (Kd.R_elder' (rf HO475 BK482) (Kd.R_base ho2) hb); have HO495 := Aside0.mk (Kd.R_lower (Kd.R_new' (Kd.R_new' (Kd.R_new' (Kd.R_new' (Kd.R_new' (Kd.R_new' (Kd.R_new' ho3 (Kd.R_lt (rf HO455 BK482))) (Kd.R_lt (rf HO459 BK482))) (Kd.R_lt (rf HO465 BK482))) (Kd.R_lt (rf HO468 BK482))) (Kd.R_lt (rf HO472 BK482))) (Kd.R_lt (rf HO478 BK482))) (Kd.R_lt (rf HO481 BK482))) (below_size (be2 HB GE451 GE482))); replace HO455 := td3 (rf HO455 BK482) hb ho0 ho1 ho3; replace HO459 := td3 (rf HO459 BK482) hb ho0 ho1 ho3; replace HO465 := td3 (rf HO465 BK482) hb ho0 ho1 ho3; replace HO468 := td3 (rf HO468 BK482) hb ho0 ho1 ho3; replace HO472 := td3 (rf HO472 BK482) hb ho0 ho1 ho3; replace HO478 := td3 (rf HO478 BK482) hb ho0 ho1 ho3; replace HO481 := td3 (rf HO481 BK482) hb ho0 ho1 ho3; replace BK451 := Aside0.mk (blk_below (g := gb451) (o := .cells #[.slice A0_0 l0_0.length c0_0, .int .i64 a0_1, .slice A0_2 l0_2.length c0_2, .slice A0_3 l0_3.length c0_3, .slice A0_4 l0_4.length c0_4] 37 (0, 0)) (bf1 BK451 NB451_482) hb); replace BK482 := Aside0.mk (blk_below (g := gb482) (o := .cells #[.slice Ao23 t466.length co23, .int .i64 t469, .slice Ao26 t470.length co26, .slice Ao27 t473.length co27, .slice Ao28 t476.length co28] 27 (0, 0)) (by (with_reducible repeat (first | refine blk_drewN ?_ _ | refine blk_drew ?_ | refine blk_alloc ?_ _)); refine blk_put (cs := #[.slice Ao23 t466.length co23, .int .i64 t469, .slice Ao26 t470.length co26, .slice Ao27 t473.length co27, .slice none 0 0]) ?_ 4 _ rfl; (with_reducible repeat (first | refine blk_drewN ?_ _ | refine blk_drew ?_ | refine blk_alloc ?_ _)); refine blk_put (cs := #[.slice Ao23 t466.length co23, .int .i64 t469, .slice Ao26 t470.length co26, .slice none 0 0, .slice none 0 0]) ?_ 3 _ rfl; (with_reducible repeat (first | refine blk_drewN ?_ _ | refine blk_drew ?_ | refine blk_alloc ?_ _)); refine blk_put (cs := #[.slice Ao23 t466.length co23, .int .i64 t469, .slice none 0 0, .slice none 0 0, .slice none 0 0]) ?_ 2 _ rfl; (with_reducible repeat (first | refine blk_drewN ?_ _ | refine blk_drew ?_ | refine blk_alloc ?_ _)); refine blk_put (cs := #[.slice Ao23 t466.length co23, .int .i64 0, .slice none 0 0, .slice none 0 0, .slice none 0 0]) ?_ 1 _ rfl; (with_reducible repeat (first | refine blk_drewN ?_ _ | refine blk_drew ?_ | refine blk_alloc ?_ _)); refine blk_put (cs := #[.slice none 0 0, .int .i64 0, .slice none 0 0, .slice none 0 0, .slice none 0 0]) ?_ 0 _ rfl; (with_reducible repeat (first | refine blk_drewN ?_ _ | refine blk_drew ?_ | refine blk_alloc ?_ _)); exact BK482.out) hb); replace HB := Aside0.mk (below_step (be2 HB GE451 GE482) hb); (try clear hb); (try clear ho0); (try clear ho1); (try clear ho2); (try clear ho3)) | ((with_reducible refine gate_dst (N := 6) rfl ?_); refine bx 6 #[.slice none 0 0, .int .i64 0, .slice none 0 0, .slice none 0 0, .slice none 0 0] 27 ?_; intro gb496 hg w31 hbox hb; replace HO455 := rb HO455 hb; replace HO459 := rb HO459 hb; replace HO462 := rb HO462 hb; replace HO465 := rb HO465 hb; replace HO468 := rb HO468 hb; replace HO472 := rb HO472 hb; replace HO475 := rb HO475 hb; replace HO478 := rb HO478 hb; replace HO481 := rb HO481 hb; replace HO485 := rb HO485 hb; replace HO489 := rb HO489 hb; replace HO492 := rb HO492 hb; replace HO495 := rb HO495 hb; have BK496 := am hbox; have GW496 := gs2 hg HB GE451 GE482; have GE496 := gs2 hg HB GE451 GE482; replace HB := Aside0.mk (below_step (be2 HB GE451 GE482) hb); have NB451_496 := Aside0.mk ((by rw [hg]; exact Nat.ne_of_lt (bl BK451) : gb451 ≠ gb496)); have NB496_451 := Aside0.mk ((by rw [hg]; exact Nat.ne_of_gt (bl BK451) : gb496 ≠ gb451)); replace BK451 := bb BK451 hb; have NB482_496 := Aside0.mk ((by rw [hg]; exact Nat.ne_of_lt (bl BK482) : gb482 ≠ gb496)); have NB496_482 := Aside0.mk ((by rw [hg]; exact Nat.ne_of_gt (bl BK482) : gb496 ≠ gb482)); replace BK482 := bb BK482 hb; clear hb hbox hg; obtain ⟨Ao32, co32, eo32⟩ := Kd.R_slice HO485.out; subst eo32; have hnb33 := NB496_451.out; have hnc33 := NB451_496.out; have hnb34 := NB496_482.out; have hnc34 := NB482_496.out; have hcz35_0 := bz5 BK496; obtain ⟨Ao36, co36, eo36⟩ := Kd.R_slice HO489.out; subst eo36; obtain ⟨Ao37, co37, eo37⟩ := Kd.R_slice HO492.out; subst eo37; obtain ⟨Ao38, co38, eo38⟩ := Kd.R_slice HO495.out; subst eo38) | ((with_reducible refine gate_callee (f := 32) rfl ?_); refine gl 29 Try.func32 #[.agg #[.slice Ao32 t483.length co32, .int .i64 t486, .slice Ao36 t487.length co36, .slice Ao37 t490.length co37, .slice Ao38 t493.length co38]] ?_; (with_reducible refine (impl_Reclaim.calls k _ _ t483 t486 _ _ t487 _ _ t490 _ _ t493 t497 t500 t501 t504 t507 t510 _ ?side1 ((Kd.R_reads' HO485.out).2.1) ?side3 ((Kd.R_reads' HO489.out).2.1) ?side5 ((Kd.R_reads' HO492.out).2.1) ?side7 ((Kd.R_reads' HO495.out).2.1) A10.out).mono ?_); (case side1 => exact rfr _ HO485 BK496); (case side3 => exact rfr _ HO489 BK496); (case side5 => exact rfr _ HO492 BK496); (case side7 => exact rfr _ HO495 BK496); rintro e w39 ⟨v498, v502, v505, v508, v511, rfl, ho0, ho1, ho2, ho3, ho4, hb⟩; refine ⟨_, rfl, ?_⟩; have HO499 := Aside0.mk (Kd.R_lower (Kd.R_new' (Kd.R_new' (Kd.R_new' (Kd.R_new' (Kd.R_new' (Kd.R_new' (Kd.R_new' (Kd.R_new' (Kd.R_new' (Kd.R_new' ho0 (Kd.R_lt (rf HO455 BK496))) (Kd.R_lt (rf HO459 BK496))) (Kd.R_lt (rf HO465 BK496))) (Kd.R_lt (rf HO468 BK496))) (Kd.R_lt (rf HO472 BK496))) (Kd.R_lt (rf HO478 BK496))) (Kd.R_lt (rf HO481 BK496))) (Kd.R_lt (rf HO485 BK496))) (Kd.R_lt (rf HO489 BK496))) (Kd.R_lt (rf HO495 BK496))) (below_size (be3 HB GE451 GE482 GE496))); have HO503 := Aside0.mk (Kd.R_lower (Kd.R_new' (Kd.R_new' (Kd.R_new' (Kd.R_new' (Kd.R_new' (Kd.R_new' (Kd.R_new' (Kd.R_new' (Kd.R_new' (Kd.R_new' ho1 (Kd.R_lt (rf HO455 BK496))) (Kd.R_lt (rf HO459 BK496))) (Kd.R_lt (rf HO465 BK496))) (Kd.R_lt (rf HO468 BK496))) (Kd.R_lt (rf HO472 BK496))) (Kd.R_lt (rf HO478 BK496))) (Kd.R_lt (rf HO481 BK496))) (Kd.R_lt (rf HO485 BK496))) (Kd.R_lt (rf HO489 BK496))) (Kd.R_lt (rf HO495 BK496))) (below_size (be3 HB GE451 GE482 GE496))); have HO506 := Aside0.mk (Kd.R_lower (Kd.R_new' (Kd.R_new' (Kd.R_new' ho2 (Kd.R_lt (rf HO462 BK496))) (Kd.R_lt (rf HO475 BK496))) (Kd.R_lt (rf HO492 BK496))) (below_size (be3 HB GE451 GE482 GE496))); replace HO462 := Aside0.mk (Kd.R_elder' (rf HO462 BK496) (Kd.R_base ho2) hb); replace HO475 := Aside0.mk (Kd.R_elder' (rf HO475 BK496) (Kd.R_base ho2) hb); replace HO492 := Aside0.mk (Kd.R_elder' (rf HO492 BK496) (Kd.R_base ho2) hb); have HO509 := Aside0.mk (Kd.R_lower (Kd.R_new' (Kd.R_new' (Kd.R_new' (Kd.R_new' (Kd.R_new' (Kd.R_new' (Kd.R_new' (Kd.R_new' (Kd.R_new' (Kd.R_new' ho3 (Kd.R_lt (rf HO455 BK496))) (Kd.R_lt (rf HO459 BK496))) (Kd.R_lt (rf HO465 BK496))) (Kd.R_lt (rf HO468 BK496))) (Kd.R_lt (rf HO472 BK496))) (Kd.R_lt (rf HO478 BK496))) (Kd.R_lt (rf HO481 BK496))) (Kd.R_lt (rf HO485 BK496))) (Kd.R_lt (rf HO489 BK496))) (Kd.R_lt (rf HO495 BK496))) (below_size (be3 HB GE451 GE482 GE496))); have HO512 := Aside0.mk (Kd.R_lower (Kd.R_new' (Kd.R_new' (Kd.R_new' (Kd.R_new' (Kd.R_new' (Kd.R_new' (Kd.R_new' (Kd.R_new' (Kd.R_new' (Kd.R_new' ho4 (Kd.R_lt (rf HO455 BK496))) (Kd.R_lt (rf HO459 BK496))) (Kd.R_lt (rf HO465 BK496))) (Kd.R_lt (rf HO468 BK496))) (Kd.R_lt (rf HO472 BK496))) (Kd.R_lt (rf HO478 BK496))) (Kd.R_lt (rf HO481 BK496))) (Kd.R_lt (rf HO485 BK496))) (Kd.R_lt (rf HO489 BK496))) (Kd.R_lt (rf HO495 BK496))) (below_size (be3 HB GE451 GE482 GE496))); replace HO455 := td4 (rf HO455 BK496) hb ho0 ho1 ho3 ho4; replace HO459 := td4 (rf HO459 BK496) hb ho0 ho1 ho3 ho4; replace HO465 := td4 (rf HO465 BK496) hb ho0 ho1 ho3 ho4; replace HO468 := td4 (rf HO468 BK496) hb ho0 ho1 ho3 ho4; replace HO472 := td4 (rf HO472 BK496) hb ho0 ho1 ho3 ho4; replace HO478 := td4 (rf HO478 BK496) hb ho0 ho1 ho3 ho4; replace HO481 := td4 (rf HO481 BK496) hb ho0 ho1 ho3 ho4; replace HO485 := td4 (rf HO485 BK496) hb ho0 ho1 ho3 ho4; replace HO489 := td4 (rf HO489 BK496) hb ho0 ho1 ho3 ho4; replace HO495 := td4 (rf HO495 BK496) hb ho0 ho1 ho3 ho4; replace BK451 := Aside0.mk (blk_below (g := gb451) (o := .cells #[.slice A0_0 l0_0.length c0_0, .int .i64 a0_1, .slice A0_2 l0_2.length c0_2, .slice A0_3 l0_3.length c0_3, .slice A0_4 l0_4.length c0_4] 37 (0, 0)) (bf1 BK451 NB451_496) hb); replace BK482 := Aside0.mk (blk_below (g := gb482) (o := .cells #[.slice Ao23 t466.length co23, .int .i64 t469, .slice Ao26 t470.length co26, .slice Ao27 t473.length co27, .slice Ao28 t476.length co28] 27 (0, 0)) (bf1 BK482 NB482_496) hb); replace BK496 := Aside0.mk (blk_below (g := gb496) (o := .cells #[.slice Ao32 t483.length co32, .int .i64 t486, .slice Ao36 t487.length co36, .slice Ao37 t490.length co37, .slice Ao38 t493.length co38] 27 (0, 0)) (by (with_reducible repeat (first | refine blk_drewN ?_ _ | refine blk_drew ?_ | refine blk_alloc ?_ _)); refine blk_put (cs := #[.slice Ao32 t483.length co32, .int .i64 t486, .slice Ao36 t487.length co36, .slice Ao37 t490.length co37, .slice none 0 0]) ?_ 4 _ rfl; (with_reducible repeat (first | refine blk_drewN ?_ _ | refine blk_drew ?_ | refine blk_alloc ?_ _)); refine blk_put (cs := #[.slice Ao32 t483.length co32, .int .i64 t486, .slice Ao36 t487.length co36, .slice none 0 0, .slice none 0 0]) ?_ 3 _ rfl; (with_reducible repeat (first | refine blk_drewN ?_ _ | refine blk_drew ?_ | refine blk_alloc ?_ _)); refine blk_put (cs := #[.slice Ao32 t483.length co32, .int .i64 t486, .slice none 0 0, .slice none 0 0, .slice none 0 0]) ?_ 2 _ rfl; (with_reducible repeat (first | refine blk_drewN ?_ _ | refine blk_drew ?_ | refine blk_alloc ?_ _)); refine blk_put (cs := #[.slice Ao32 t483.length co32, .int .i64 0, .slice none 0 0, .slice none 0 0, .slice none 0 0]) ?_ 1 _ rfl; (with_reducible repeat (first | refine blk_drewN ?_ _ | refine blk_drew ?_ | refine blk_alloc ?_ _)); refine blk_put (cs := #[.slice none 0 0, .int .i64 0, .slice none 0 0, .slice none 0 0, .slice none 0 0]) ?_ 0 _ rfl; (with_reducible repeat (first | refine blk_drewN ?_ _ | refine blk_drew ?_ | refine blk_alloc ?_ _)); exact BK496.out) hb); replace HB := Aside0.mk (below_step (be3 HB GE451 GE482 GE496) hb); (try clear hb); (try clear ho0); (try clear ho1); (try clear ho2); (try clear ho3); (try clear ho4)) | ((with_reducible refine gate_dst (N := 7) rfl ?_); refine bx 7 #[.slice none 0 0, .int .i64 0, .slice none 0 0, .slice none 0 0, .slice none 0 0] 27 ?_; intro gb513 hg w40 hbox hb; replace HO455 := rb HO455 hb; replace HO459 := rb HO459 hb; replace HO462 := rb HO462 hb; replace HO465 := rb HO465 hb; replace HO468 := rb HO468 hb; replace HO472 := rb HO472 hb; replace HO475 := rb HO475 hb; replace HO478 := rb HO478 hb; replace HO481 := rb HO481 hb; replace HO485 := rb HO485 hb; replace HO489 := rb HO489 hb; replace HO492 := rb HO492 hb; replace HO495 := rb HO495 hb; replace HO499 := rb HO499 hb; replace HO503 := rb HO503 hb; replace HO506 := rb HO506 hb; replace HO509 := rb HO509 hb; replace HO512 := rb HO512 hb; have BK513 := am hbox; have GW513 := Aside0.mk ((by rw [hg]; exact (below_size (be3 HB GE451 GE482 GE496)) : w.heap.size ≤ gb513)); have GE513 := Aside0.mk ((by rw [hg]; exact (below_size (be3 HB GE451 GE482 GE496)) : w.heap.size ≤ gb513)); replace HB := Aside0.mk (below_step (be3 HB GE451 GE482 GE496) hb); have NB451_513 := Aside0.mk ((by rw [hg]; exact Nat.ne_of_lt (bl BK451) : gb451 ≠ gb513)); have NB513_451 := Aside0.mk ((by rw [hg]; exact Nat.ne_of_gt (bl BK451) : gb513 ≠ gb451)); replace BK451 := bb BK451 hb; have NB482_513 := Aside0.mk ((by rw [hg]; exact Nat.ne_of_lt (bl BK482) : gb482 ≠ gb513)); have NB513_482 := Aside0.mk ((by rw [hg]; exact Nat.ne_of_gt (bl BK482) : gb513 ≠ gb482)); replace BK482 := bb BK482 hb; have NB496_513 := Aside0.mk ((by rw [hg]; exact Nat.ne_of_lt (bl BK496) : gb496 ≠ gb513)); have NB513_496 := Aside0.mk ((by rw [hg]; exact Nat.ne_of_gt (bl BK496) : gb513 ≠ gb496)); replace BK496 := bb BK496 hb; clear hb hbox hg; obtain ⟨Ao41, co41, eo41⟩ := Kd.R_slice HO499.out; subst eo41; have hnb42 := NB513_451.out; have hnc42 := NB451_513.out; have hnb43 := NB513_482.out; have hnc43 := NB482_513.out; have hnb44 := NB513_496.out; have hnc44 := NB496_513.out; have hcz45_0 := bz5 BK513; obtain ⟨Ao46, co46, eo46⟩ := Kd.R_slice HO503.out; subst eo46; obtain ⟨Ao47, co47, eo47⟩ := Kd.R_slice HO506.out; subst eo47; obtain ⟨Ao48, co48, eo48⟩ := Kd.R_slice HO509.out; subst eo48))
 (try simp only [Act.put, List.setIfInBounds_toArray, List.set_cons_zero, List.set_cons_succ])
 go_cut [41] (fun v41 wc => ∃ (kq : Nat) (x41_10 : Bool), v41 = .bool x41_10 ∧ Aside0 (laws_FnExactReclaim.j0 kq t479 t510 x41_10 l0_0 a0_1 l0_2 l0_3 l0_4 t466 t469 t470 t473 t476 t483 t486 t487 t490 t493 t497 t500 t501 t504 t507 = some r) ∧ Aside0 (kq ≤ k) ∧ Aside0 (Kd.R (Kd.int .i64) 3 wc w.heap.size (fun k_ => some k_ ≠ (v511 : Value).ownBlock ∧ nb k_ Ao23 t466.length co23 ∧ nb k_ Ao26 t470.length co26 ∧ nb k_ Ao28 t476.length co28 ∧ nb k_ Ao32 t483.length co32 ∧ nb k_ Ao36 t487.length co36 ∧ nb k_ Ao38 t493.length co38 ∧ nb k_ Ao41 t497.length co41 ∧ nb k_ Ao46 t501.length co46 ∧ nb k_ Ao48 t507.length co48) v480 t479) ∧ Aside0 (Kd.R (Kd.int .i64) 3 wc w.heap.size (fun k_ => some k_ ≠ (v480 : Value).ownBlock ∧ nb k_ Ao23 t466.length co23 ∧ nb k_ Ao26 t470.length co26 ∧ nb k_ Ao28 t476.length co28 ∧ nb k_ Ao32 t483.length co32 ∧ nb k_ Ao36 t487.length co36 ∧ nb k_ Ao38 t493.length co38 ∧ nb k_ Ao41 t497.length co41 ∧ nb k_ Ao46 t501.length co46 ∧ nb k_ Ao48 t507.length co48) v511 t510) ∧ Aside0 (Kd.R (Kd.int .i64) 3 wc w.heap.size (fun k_ => some k_ ≠ (v480 : Value).ownBlock ∧ some k_ ≠ (v511 : Value).ownBlock ∧ nb k_ Ao26 t470.length co26 ∧ nb k_ Ao28 t476.length co28 ∧ nb k_ Ao32 t483.length co32 ∧ nb k_ Ao36 t487.length co36 ∧ nb k_ Ao38 t493.length co38 ∧ nb k_ Ao41 t497.length co41 ∧ nb k_ Ao46 t501.length co46 ∧ nb k_ Ao48 t507.length co48) (.slice Ao23 t466.length co23) t466) ∧ Aside0 (Kd.R (Kd.int .i64) 3 wc w.heap.size (fun k_ => some k_ ≠ (v480 : Value).ownBlock ∧ some k_ ≠ (v511 : Value).ownBlock ∧ nb k_ Ao23 t466.length co23 ∧ nb k_ Ao28 t476.length co28 ∧ nb k_ Ao32 t483.length co32 ∧ nb k_ Ao36 t487.length co36 ∧ nb k_ Ao38 t493.length co38 ∧ nb k_ Ao41 t497.length co41 ∧ nb k_ Ao46 t501.length co46 ∧ nb k_ Ao48 t507.length co48) (.slice Ao26 t470.length co26) t470) ∧ Aside0 (Kd.R k70 70 wc w.heap.size (fun k_ => nb k_ Ao37 t490.length co37 ∧ nb k_ Ao47 t504.length co47) (.slice Ao27 t473.length co27) t473) ∧ Aside0 (Kd.R (Kd.int .i64) 3 wc w.heap.size (fun k_ => some k_ ≠ (v480 : Value).ownBlock ∧ some k_ ≠ (v511 : Value).ownBlock ∧ nb k_ Ao23 t466.length co23 ∧ nb k_ Ao26 t470.length co26 ∧ nb k_ Ao32 t483.length co32 ∧ nb k_ Ao36 t487.length co36 ∧ nb k_ Ao38 t493.length co38 ∧ nb k_ Ao41 t497.length co41 ∧ nb k_ Ao46 t501.length co46 ∧ nb k_ Ao48 t507.length co48) (.slice Ao28 t476.length co28) t476) ∧ Aside0 (Kd.R (Kd.int .i64) 3 wc w.heap.size (fun k_ => some k_ ≠ (v480 : Value).ownBlock ∧ some k_ ≠ (v511 : Value).ownBlock ∧ nb k_ Ao23 t466.length co23 ∧ nb k_ Ao26 t470.length co26 ∧ nb k_ Ao28 t476.length co28 ∧ nb k_ Ao36 t487.length co36 ∧ nb k_ Ao38 t493.length co38 ∧ nb k_ Ao41 t497.length co41 ∧ nb k_ Ao46 t501.length co46 ∧ nb k_ Ao48 t507.length co48) (.slice Ao32 t483.length co32) t483) ∧ Aside0 (Kd.R (Kd.int .i64) 3 wc w.heap.size (fun k_ => some k_ ≠ (v480 : Value).ownBlock ∧ some k_ ≠ (v511 : Value).ownBlock ∧ nb k_ Ao23 t466.length co23 ∧ nb k_ Ao26 t470.length co26 ∧ nb k_ Ao28 t476.length co28 ∧ nb k_ Ao32 t483.length co32 ∧ nb k_ Ao38 t493.length co38 ∧ nb k_ Ao41 t497.length co41 ∧ nb k_ Ao46 t501.length co46 ∧ nb k_ Ao48 t507.length co48) (.slice Ao36 t487.length co36) t487) ∧ Aside0 (Kd.R k70 70 wc w.heap.size (fun k_ => nb k_ Ao27 t473.length co27 ∧ nb k_ Ao47 t504.length co47) (.slice Ao37 t490.length co37) t490) ∧ Aside0 (Kd.R (Kd.int .i64) 3 wc w.heap.size (fun k_ => some k_ ≠ (v480 : Value).ownBlock ∧ some k_ ≠ (v511 : Value).ownBlock ∧ nb k_ Ao23 t466.length co23 ∧ nb k_ Ao26 t470.length co26 ∧ nb k_ Ao28 t476.length co28 ∧ nb k_ Ao32 t483.length co32 ∧ nb k_ Ao36 t487.length co36 ∧ nb k_ Ao41 t497.length co41 ∧ nb k_ Ao46 t501.length co46 ∧ nb k_ Ao48 t507.length co48) (.slice Ao38 t493.length co38) t493) ∧ Aside0 (Kd.R (Kd.int .i64) 3 wc w.heap.size (fun k_ => some k_ ≠ (v480 : Value).ownBlock ∧ some k_ ≠ (v511 : Value).ownBlock ∧ nb k_ Ao23 t466.length co23 ∧ nb k_ Ao26 t470.length co26 ∧ nb k_ Ao28 t476.length co28 ∧ nb k_ Ao32 t483.length co32 ∧ nb k_ Ao36 t487.length co36 ∧ nb k_ Ao38 t493.length co38 ∧ nb k_ Ao46 t501.length co46 ∧ nb k_ Ao48 t507.length co48) (.slice Ao41 t497.length co41) t497) ∧ Aside0 (Kd.R (Kd.int .i64) 3 wc w.heap.size (fun k_ => some k_ ≠ (v480 : Value).ownBlock ∧ some k_ ≠ (v511 : Value).ownBlock ∧ nb k_ Ao23 t466.length co23 ∧ nb k_ Ao26 t470.length co26 ∧ nb k_ Ao28 t476.length co28 ∧ nb k_ Ao32 t483.length co32 ∧ nb k_ Ao36 t487.length co36 ∧ nb k_ Ao38 t493.length co38 ∧ nb k_ Ao41 t497.length co41 ∧ nb k_ Ao48 t507.length co48) (.slice Ao46 t501.length co46) t501) ∧ Aside0 (Kd.R k70 70 wc w.heap.size (fun k_ => nb k_ Ao27 t473.length co27 ∧ nb k_ Ao37 t490.length co37) (.slice Ao47 t504.length co47) t504) ∧ Aside0 (Kd.R (Kd.int .i64) 3 wc w.heap.size (fun k_ => some k_ ≠ (v480 : Value).ownBlock ∧ some k_ ≠ (v511 : Value).ownBlock ∧ nb k_ Ao23 t466.length co23 ∧ nb k_ Ao26 t470.length co26 ∧ nb k_ Ao28 t476.length co28 ∧ nb k_ Ao32 t483.length co32 ∧ nb k_ Ao36 t487.length co36 ∧ nb k_ Ao38 t493.length co38 ∧ nb k_ Ao41 t497.length co41 ∧ nb k_ Ao46 t501.length co46) (.slice Ao48 t507.length co48) t507) ∧ Aside0 (wc.heap[gb451]? = some (.cells #[(.slice A0_0 l0_0.length c0_0), .int .i64 a0_1, (.slice A0_2 l0_2.length c0_2), (.slice A0_3 l0_3.length c0_3), (.slice A0_4 l0_4.length c0_4)] 37 (0, 0))) ∧ Aside0 (wc.heap[gb482]? = some (.cells #[(.slice Ao23 t466.length co23), .int .i64 t469, (.slice Ao26 t470.length co26), (.slice Ao27 t473.length co27), (.slice Ao28 t476.length co28)] 27 (0, 0))) ∧ Aside0 (wc.heap[gb496]? = some (.cells #[(.slice Ao32 t483.length co32), .int .i64 t486, (.slice Ao36 t487.length co36), (.slice Ao37 t490.length co37), (.slice Ao38 t493.length co38)] 27 (0, 0))) ∧ Aside0 (wc.heap[gb513]? = some (.cells #[(.slice Ao41 t497.length co41), .int .i64 t500, (.slice Ao46 t501.length co46), (.slice Ao47 t504.length co47), (.slice Ao48 t507.length co48)] 27 (0, 0))) ∧ Aside0 (Below w.heap.size w wc))
 case first =>
  have H := HC11.out
  clear HC11
  replace H := Option.bind_eq_some_iff.mp H
  obtain ⟨t514, A490, H⟩ := H
  try dsimp only at H
  have A49 := Aside0.mk A490
  clear A490
  by_cases c50 : t514 = true
  ·subst c50
   rw [if_pos rfl] at H
   replace H := Option.bind_eq_some_iff.mp H
   obtain ⟨t515, A510, H⟩ := H
   try dsimp only at H
   have A51 := Aside0.mk A510
   clear A510
   have H' := Aside0.mk H
   clear H
   have hnb52 := NB513_451.out
   have hnc52 := NB451_513.out
   have hnb53 := NB513_482.out
   have hnc53 := NB482_513.out
   have hnb54 := NB513_496.out
   have hnc54 := NB496_513.out
   have hcz55_0 := bz5 BK513
   have hnb56 := NB482_451.out
   have hnc56 := NB451_482.out
   have hnb57 := NB482_496.out
   have hnc57 := NB496_482.out
   have hcz58_0 := bz5 BK482
   go_wp2_with (first | ((with_reducible refine gate_callee (f := 16) rfl ?_); refine gl 34 Try.func16 #[.agg #[.slice Ao41 t497.length co41, .int .i64 t500, .slice Ao46 t501.length co46, .slice Ao47 t504.length co47, .slice Ao48 t507.length co48], .agg #[.slice Ao23 t466.length co23, .int .i64 t469, .slice Ao26 t470.length co26, .slice Ao27 t473.length co27, .slice Ao28 t476.length co28]] ?_; (with_reducible refine (laws_eqPool.calls k _ _ t497 t500 _ _ t501 _ _ t504 _ _ t507 _ _ t466 t469 _ _ t470 _ _ t473 _ _ t476 true _ ?side1 ((Kd.R_reads' HO499.out).2.1) ?side3 ((Kd.R_reads' HO503.out).2.1) ?side5 ((Kd.R_reads' HO506.out).2.1) ?side7 ((Kd.R_reads' HO509.out).2.1) ?side9 ((Kd.R_reads' HO468.out).2.1) ?side11 ((Kd.R_reads' HO472.out).2.1) ?side13 ((Kd.R_reads' HO475.out).2.1) ?side15 ((Kd.R_reads' HO478.out).2.1) A49.out).mono ?_); (case side1 => exact rfr _ HO499 BK513); (case side3 => exact rfr _ HO503 BK513); (case side5 => exact rfr _ HO506 BK513); (case side7 => exact rfr _ HO509 BK513); (case side9 => exact rfr _ HO468 BK513); (case side11 => exact rfr _ HO472 BK513); (case side13 => exact rfr _ HO475 BK513); (case side15 => exact rfr _ HO478 BK513); rintro e w59 ⟨rfl, hb⟩; refine ⟨_, rfl, ?_⟩; replace HO455 := Aside0.mk (Kd.R_below (rf HO455 BK513) hb); replace HO459 := Aside0.mk (Kd.R_below (rf HO459 BK513) hb); replace HO462 := Aside0.mk (Kd.R_below (rf HO462 BK513) hb); replace HO465 := Aside0.mk (Kd.R_below (rf HO465 BK513) hb); replace HO468 := Aside0.mk (Kd.R_below (rf HO468 BK513) hb); replace HO472 := Aside0.mk (Kd.R_below (rf HO472 BK513) hb); replace HO475 := Aside0.mk (Kd.R_below (rf HO475 BK513) hb); replace HO478 := Aside0.mk (Kd.R_below (rf HO478 BK513) hb); replace HO481 := Aside0.mk (Kd.R_below (rf HO481 BK513) hb); replace HO485 := Aside0.mk (Kd.R_below (rf HO485 BK513) hb); replace HO489 := Aside0.mk (Kd.R_below (rf HO489 BK513) hb); replace HO492 := Aside0.mk (Kd.R_below (rf HO492 BK513) hb); replace HO495 := Aside0.mk (Kd.R_below (rf HO495 BK513) hb); replace HO499 := Aside0.mk (Kd.R_below (rf HO499 BK513) hb); replace HO503 := Aside0.mk (Kd.R_below (rf HO503 BK513) hb); replace HO506 := Aside0.mk (Kd.R_below (rf HO506 BK513) hb); replace HO509 := Aside0.mk (Kd.R_below (rf HO509 BK513) hb); replace HO512 := Aside0.mk (Kd.R_below (rf HO512 BK513) hb); replace BK451 := Aside0.mk (blk_below (g := gb451) (o := .cells #[.slice A0_0 l0_0.length c0_0, .int .i64 a0_1, .slice A0_2 l0_2.length c0_2, .slice A0_3 l0_3.length c0_3, .slice A0_4 l0_4.length c0_4] 37 (0, 0)) (bf1 BK451 NB451_513) hb); replace BK482 := Aside0.mk (blk_below (g := gb482) (o := .cells #[.slice Ao23 t466.length co23, .int .i64 t469, .slice Ao26 t470.length co26, .slice Ao27 t473.length co27, .slice Ao28 t476.length co28] 27 (0, 0)) (bf1 BK482 NB482_513) hb); replace BK496 := Aside0.mk (blk_below (g := gb496) (o := .cells #[.slice Ao32 t483.length co32, .int .i64 t486, .slice Ao36 t487.length co36, .slice Ao37 t490.length co37, .slice Ao38 t493.length co38] 27 (0, 0)) (bf1 BK496 NB496_513) hb); replace BK513 := Aside0.mk (blk_below (g := gb513) (o := .cells #[.slice Ao41 t497.length co41, .int .i64 t500, .slice Ao46 t501.length co46, .slice Ao47 t504.length co47, .slice Ao48 t507.length co48] 27 (0, 0)) (by (with_reducible repeat (first | refine blk_drewN ?_ _ | refine blk_drew ?_ | refine blk_alloc ?_ _)); refine blk_put (cs := #[.slice Ao41 t497.length co41, .int .i64 t500, .slice Ao46 t501.length co46, .slice Ao47 t504.length co47, .slice none 0 0]) ?_ 4 _ rfl; (with_reducible repeat (first | refine blk_drewN ?_ _ | refine blk_drew ?_ | refine blk_alloc ?_ _)); refine blk_put (cs := #[.slice Ao41 t497.length co41, .int .i64 t500, .slice Ao46 t501.length co46, .slice none 0 0, .slice none 0 0]) ?_ 3 _ rfl; (with_reducible repeat (first | refine blk_drewN ?_ _ | refine blk_drew ?_ | refine blk_alloc ?_ _)); refine blk_put (cs := #[.slice Ao41 t497.length co41, .int .i64 t500, .slice none 0 0, .slice none 0 0, .slice none 0 0]) ?_ 2 _ rfl; (with_reducible repeat (first | refine blk_drewN ?_ _ | refine blk_drew ?_ | refine blk_alloc ?_ _)); refine blk_put (cs := #[.slice Ao41 t497.length co41, .int .i64 0, .slice none 0 0, .slice none 0 0, .slice none 0 0]) ?_ 1 _ rfl; (with_reducible repeat (first | refine blk_drewN ?_ _ | refine blk_drew ?_ | refine blk_alloc ?_ _)); refine blk_put (cs := #[.slice none 0 0, .int .i64 0, .slice none 0 0, .slice none 0 0, .slice none 0 0]) ?_ 0 _ rfl; (with_reducible repeat (first | refine blk_drewN ?_ _ | refine blk_drew ?_ | refine blk_alloc ?_ _)); exact BK513.out) hb); replace HB := Aside0.mk (below_step (be4 HB GE451 GE482 GE496 GE513) hb); (try clear hb); obtain ⟨Ao60, co60, eo60⟩ := Kd.R_slice HO512.out; subst eo60; obtain ⟨Ao61, co61, eo61⟩ := Kd.R_slice HO481.out; subst eo61) | (go_at_call 33; (with_reducible refine (laws_eqIntS.calls k _ _ t510 _ _ t479 t515 _ (cr HO512) ((Kd.R_reads' HO512.out).2.1) (cr HO481) ((Kd.R_reads' HO481.out).2.1) A51.out).mono ?_); rintro e w' ⟨rfl, ⟨nd, rfl⟩⟩))
   go_meet
   case rel => exact ⟨_, (!t515), rs, H', ⟨by first | omega | exact Nat.le_refl _⟩, ⟨rom HO481⟩, ⟨rom HO512⟩, ⟨rom HO468⟩, ⟨rom HO472⟩, ⟨rom HO475⟩, ⟨rom HO478⟩, ⟨rom HO485⟩, ⟨rom HO489⟩, ⟨rom HO492⟩, ⟨rom HO495⟩, ⟨rom HO499⟩, ⟨rom HO503⟩, ⟨rom HO506⟩, ⟨rom HO509⟩, ⟨bk BK451⟩, ⟨bk BK482⟩, ⟨bk BK496⟩, ⟨bk BK513⟩, ⟨be4 HB GE451 GE482 GE496 GE513⟩⟩
  replace c50 := Bool.eq_false_iff.mpr c50
  subst c50
  rw [if_neg (show ¬ (false = true) by decide)] at H
  have H' := Aside0.mk H
  clear H
  have hnb62 := NB513_451.out
  have hnc62 := NB451_513.out
  have hnb63 := NB513_482.out
  have hnc63 := NB482_513.out
  have hnb64 := NB513_496.out
  have hnc64 := NB496_513.out
  have hcz65_0 := bz5 BK513
  have hnb66 := NB482_451.out
  have hnc66 := NB451_482.out
  have hnb67 := NB482_496.out
  have hnc67 := NB496_482.out
  have hcz68_0 := bz5 BK482
  go_wp2_with (first | ((with_reducible refine gate_callee (f := 16) rfl ?_); refine gl 34 Try.func16 #[.agg #[.slice Ao41 t497.length co41, .int .i64 t500, .slice Ao46 t501.length co46, .slice Ao47 t504.length co47, .slice Ao48 t507.length co48], .agg #[.slice Ao23 t466.length co23, .int .i64 t469, .slice Ao26 t470.length co26, .slice Ao27 t473.length co27, .slice Ao28 t476.length co28]] ?_; (with_reducible refine (laws_eqPool.calls k _ _ t497 t500 _ _ t501 _ _ t504 _ _ t507 _ _ t466 t469 _ _ t470 _ _ t473 _ _ t476 false _ ?side1 ((Kd.R_reads' HO499.out).2.1) ?side3 ((Kd.R_reads' HO503.out).2.1) ?side5 ((Kd.R_reads' HO506.out).2.1) ?side7 ((Kd.R_reads' HO509.out).2.1) ?side9 ((Kd.R_reads' HO468.out).2.1) ?side11 ((Kd.R_reads' HO472.out).2.1) ?side13 ((Kd.R_reads' HO475.out).2.1) ?side15 ((Kd.R_reads' HO478.out).2.1) A49.out).mono ?_); (case side1 => exact rfr _ HO499 BK513); (case side3 => exact rfr _ HO503 BK513); (case side5 => exact rfr _ HO506 BK513); (case side7 => exact rfr _ HO509 BK513); (case side9 => exact rfr _ HO468 BK513); (case side11 => exact rfr _ HO472 BK513); (case side13 => exact rfr _ HO475 BK513); (case side15 => exact rfr _ HO478 BK513); rintro e w69 ⟨rfl, hb⟩; refine ⟨_, rfl, ?_⟩; replace HO455 := Aside0.mk (Kd.R_below (rf HO455 BK513) hb); replace HO459 := Aside0.mk (Kd.R_below (rf HO459 BK513) hb); replace HO462 := Aside0.mk (Kd.R_below (rf HO462 BK513) hb); replace HO465 := Aside0.mk (Kd.R_below (rf HO465 BK513) hb); replace HO468 := Aside0.mk (Kd.R_below (rf HO468 BK513) hb); replace HO472 := Aside0.mk (Kd.R_below (rf HO472 BK513) hb); replace HO475 := Aside0.mk (Kd.R_below (rf HO475 BK513) hb); replace HO478 := Aside0.mk (Kd.R_below (rf HO478 BK513) hb); replace HO481 := Aside0.mk (Kd.R_below (rf HO481 BK513) hb); replace HO485 := Aside0.mk (Kd.R_below (rf HO485 BK513) hb); replace HO489 := Aside0.mk (Kd.R_below (rf HO489 BK513) hb); replace HO492 := Aside0.mk (Kd.R_below (rf HO492 BK513) hb); replace HO495 := Aside0.mk (Kd.R_below (rf HO495 BK513) hb); replace HO499 := Aside0.mk (Kd.R_below (rf HO499 BK513) hb); replace HO503 := Aside0.mk (Kd.R_below (rf HO503 BK513) hb); replace HO506 := Aside0.mk (Kd.R_below (rf HO506 BK513) hb); replace HO509 := Aside0.mk (Kd.R_below (rf HO509 BK513) hb); replace HO512 := Aside0.mk (Kd.R_below (rf HO512 BK513) hb); replace BK451 := Aside0.mk (blk_below (g := gb451) (o := .cells #[.slice A0_0 l0_0.length c0_0, .int .i64 a0_1, .slice A0_2 l0_2.length c0_2, .slice A0_3 l0_3.length c0_3, .slice A0_4 l0_4.length c0_4] 37 (0, 0)) (bf1 BK451 NB451_513) hb); replace BK482 := Aside0.mk (blk_below (g := gb482) (o := .cells #[.slice Ao23 t466.length co23, .int .i64 t469, .slice Ao26 t470.length co26, .slice Ao27 t473.length co27, .slice Ao28 t476.length co28] 27 (0, 0)) (bf1 BK482 NB482_513) hb); replace BK496 := Aside0.mk (blk_below (g := gb496) (o := .cells #[.slice Ao32 t483.length co32, .int .i64 t486, .slice Ao36 t487.length co36, .slice Ao37 t490.length co37, .slice Ao38 t493.length co38] 27 (0, 0)) (bf1 BK496 NB496_513) hb); replace BK513 := Aside0.mk (blk_below (g := gb513) (o := .cells #[.slice Ao41 t497.length co41, .int .i64 t500, .slice Ao46 t501.length co46, .slice Ao47 t504.length co47, .slice Ao48 t507.length co48] 27 (0, 0)) (by (with_reducible repeat (first | refine blk_drewN ?_ _ | refine blk_drew ?_ | refine blk_alloc ?_ _)); refine blk_put (cs := #[.slice Ao41 t497.length co41, .int .i64 t500, .slice Ao46 t501.length co46, .slice Ao47 t504.length co47, .slice none 0 0]) ?_ 4 _ rfl; (with_reducible repeat (first | refine blk_drewN ?_ _ | refine blk_drew ?_ | refine blk_alloc ?_ _)); refine blk_put (cs := #[.slice Ao41 t497.length co41, .int .i64 t500, .slice Ao46 t501.length co46, .slice none 0 0, .slice none 0 0]) ?_ 3 _ rfl; (with_reducible repeat (first | refine blk_drewN ?_ _ | refine blk_drew ?_ | refine blk_alloc ?_ _)); refine blk_put (cs := #[.slice Ao41 t497.length co41, .int .i64 t500, .slice none 0 0, .slice none 0 0, .slice none 0 0]) ?_ 2 _ rfl; (with_reducible repeat (first | refine blk_drewN ?_ _ | refine blk_drew ?_ | refine blk_alloc ?_ _)); refine blk_put (cs := #[.slice Ao41 t497.length co41, .int .i64 0, .slice none 0 0, .slice none 0 0, .slice none 0 0]) ?_ 1 _ rfl; (with_reducible repeat (first | refine blk_drewN ?_ _ | refine blk_drew ?_ | refine blk_alloc ?_ _)); refine blk_put (cs := #[.slice none 0 0, .int .i64 0, .slice none 0 0, .slice none 0 0, .slice none 0 0]) ?_ 0 _ rfl; (with_reducible repeat (first | refine blk_drewN ?_ _ | refine blk_drew ?_ | refine blk_alloc ?_ _)); exact BK513.out) hb); replace HB := Aside0.mk (below_step (be4 HB GE451 GE482 GE496 GE513) hb); (try clear hb)))
  go_meet
  case rel => exact ⟨_, (true), rs, H', ⟨by first | omega | exact Nat.le_refl _⟩, ⟨rom HO481⟩, ⟨rom HO512⟩, ⟨rom HO468⟩, ⟨rom HO472⟩, ⟨rom HO475⟩, ⟨rom HO478⟩, ⟨rom HO485⟩, ⟨rom HO489⟩, ⟨rom HO492⟩, ⟨rom HO495⟩, ⟨rom HO499⟩, ⟨rom HO503⟩, ⟨rom HO506⟩, ⟨rom HO509⟩, ⟨bk BK451⟩, ⟨bk BK482⟩, ⟨bk BK496⟩, ⟨bk BK513⟩, ⟨be4 HB GE451 GE482 GE496 GE513⟩⟩
 case rest =>
  clear HC11
  try clear c1; try clear c2; try clear p2; try clear c3; try clear c3b0; try clear c4; try clear c5; try clear c6; try clear c9; try clear c16; try clear c19; try clear c21; try clear c24; try clear c31; try clear c32; try clear c33; try clear c34; try clear c42; try clear c43; try clear c44; try clear c50; try clear c52; try clear c53; try clear c54; try clear c56; try clear c57; try clear c62; try clear c63; try clear c64; try clear c66; try clear c67; try clear hcz13_0; try clear hcz15_0; try clear hcz25_0; try clear hcz29_0; try clear hcz35_0; try clear hcz45_0; try clear hcz55_0; try clear hcz58_0; try clear hcz5_0; try clear hcz65_0; try clear hcz68_0
  obtain ⟨kq, x41_10, rfl, HA, HJ10, HO_5, HO_8, HO_483000, HO_483002, HO_483003, HO_483004, HO_497000, HO_497002, HO_497003, HO_497004, HO_514000, HO_514002, HO_514003, HO_514004, BK451, BK482, BK496, BK513, HB⟩ := hcut
  cases kq with
  | zero => exact absurd HA.out (by simp [laws_FnExactReclaim.j0])
  | succ kj10 =>
   have H := HA.out
   clear HA
   simp only [laws_FnExactReclaim.j0] at H
   by_cases c70 : x41_10 = true
   ·subst c70
    rw [if_pos rfl] at H
    exact absurd ((Option.some.inj H).trans hrt_.out) (by decide)
   replace c70 := Bool.eq_false_iff.mpr c70
   subst c70
   rw [if_neg (show ¬ (false = true) by decide)] at H
   replace H := Option.bind_eq_some_iff.mp H
   obtain ⟨⟨t516, t519, t520, t523, t526⟩, A710, H⟩ := H
   try dsimp only at H
   have A71 := Aside0.mk A710
   clear A710
   replace H := Option.bind_eq_some_iff.mp H
   obtain ⟨t529, A720, H⟩ := H
   try dsimp only at H
   have A72 := Aside0.mk A720
   clear A720
   by_cases c73 : t529 = true
   ·subst c73
    rw [if_pos rfl] at H
    replace H := Option.bind_eq_some_iff.mp H
    obtain ⟨⟨t530, t531, t532, t533, t534⟩, A740, H⟩ := H
    try dsimp only at H
    have A74 := Aside0.mk A740
    clear A740
    have HC75 := Aside0.mk H
    clear H
    try go_wp2
    have n0_ := Aside0.mk (Kd.R_drew HO_5.out)
    have n1_ := Aside0.mk (Kd.R_drew HO_8.out)
    have n2_ := Aside0.mk (Kd.R_drew HO_483000.out)
    have n3_ := Aside0.mk (Kd.R_drew HO_483002.out)
    have n4_ := Aside0.mk (Kd.R_drew HO_483003.out)
    have n5_ := Aside0.mk (Kd.R_drew HO_483004.out)
    have n6_ := Aside0.mk (Kd.R_drew HO_497000.out)
    have n7_ := Aside0.mk (Kd.R_drew HO_497002.out)
    have n8_ := Aside0.mk (Kd.R_drew HO_497003.out)
    have n9_ := Aside0.mk (Kd.R_drew HO_497004.out)
    have n10_ := Aside0.mk (Kd.R_drew HO_514000.out)
    have n11_ := Aside0.mk (Kd.R_drew HO_514002.out)
    have n12_ := Aside0.mk (Kd.R_drew HO_514003.out)
    have n13_ := Aside0.mk (Kd.R_drew HO_514004.out)
    have n14_ := Aside0.mk (blk_drew BK451.out)
    have n15_ := Aside0.mk (blk_drew BK482.out)
    have n16_ := Aside0.mk (blk_drew BK496.out)
    have n17_ := Aside0.mk (blk_drew BK513.out)
    have n18_ := Aside0.mk (below_drew1 HB.out)
    clear HO_5
    clear HO_8
    clear HO_483000
    clear HO_483002
    clear HO_483003
    clear HO_483004
    clear HO_497000
    clear HO_497002
    clear HO_497003
    clear HO_497004
    clear HO_514000
    clear HO_514002
    clear HO_514003
    clear HO_514004
    clear BK451
    clear BK482
    clear BK496
    clear BK513
    clear HB
    have HO_5 := n0_
    have HO_8 := n1_
    have HO_483000 := n2_
    have HO_483002 := n3_
    have HO_483003 := n4_
    have HO_483004 := n5_
    have HO_497000 := n6_
    have HO_497002 := n7_
    have HO_497003 := n8_
    have HO_497004 := n9_
    have HO_514000 := n10_
    have HO_514002 := n11_
    have HO_514003 := n12_
    have HO_514004 := n13_
    have BK451 := n14_
    have BK482 := n15_
    have BK496 := n16_
    have BK513 := n17_
    have HB := n18_
    clear n0_ n1_ n2_ n3_ n4_ n5_ n6_ n7_ n8_ n9_ n10_ n11_ n12_ n13_ n14_ n15_ n16_ n17_ n18_
    refine start_ (n := 5) (S := fun w' => w'.cell? ⟨gb496, 0, none⟩ = some (.slice Ao32 t483.length co32) ∧ w'.cell? ⟨gb496, 1, none⟩ = some (.int .i64 t486) ∧ w'.cell? ⟨gb496, 2, none⟩ = some (.slice Ao36 t487.length co36) ∧ w'.cell? ⟨gb496, 3, none⟩ = some (.slice Ao37 t490.length co37) ∧ w'.cell? ⟨gb496, 4, none⟩ = some (.slice Ao38 t493.length co38) ∧ w'.cell? ⟨gb451, 0, none⟩ = some (.slice A0_0 l0_0.length c0_0) ∧ w'.cell? ⟨gb451, 1, none⟩ = some (.int .i64 a0_1) ∧ w'.cell? ⟨gb451, 2, none⟩ = some (.slice A0_2 l0_2.length c0_2) ∧ w'.cell? ⟨gb451, 3, none⟩ = some (.slice A0_3 l0_3.length c0_3) ∧ w'.cell? ⟨gb451, 4, none⟩ = some (.slice A0_4 l0_4.length c0_4)) (ds := []) (bv 5 0x0) (by kernel_rfl) rfl rfl ⟨bc0 BK496, bc1 BK496, bc2 BK496, bc3 BK496, bc4 BK496, bc0 BK451, bc1 BK451, bc2 BK451, bc3 BK451, bc4 BK451⟩ (fun hHeld => ?_)
    generalize wc.drew = w76 at HO_5 HO_8 HO_483000 HO_483002 HO_483003 HO_483004 HO_497000 HO_497002 HO_497003 HO_497004 HO_514000 HO_514002 HO_514003 HO_514004 BK451 BK482 BK496 BK513 HB hHeld ⊢
    refine take_ (i := 0) (N := some 42) (v := ?_) (a' := ?_) (bv 5 0x1) rfl rfl (by kernel_rfl) (fun _ _ _ h => h) (Or.inl ⟨by rfl, ?_⟩) hHeld ?_ ?_
    rotate_left
    ·rintro w' ⟨s0, s1, s2, s3, s4, s5, s6, s7, s8, s9⟩
     go_simp
     with_reducible rfl
    rotate_left
    ·simp only [aP]
     rfl
    refine take_ (i := 1) (N := some 43) (v := ?_) (a' := ?_) (bv 5 0x3) rfl rfl (by kernel_rfl) (fun _ _ _ h => h) (Or.inl ⟨by rfl, ?_⟩) hHeld ?_ ?_
    rotate_left
    ·rintro w' ⟨s0, s1, s2, s3, s4, s5, s6, s7, s8, s9⟩
     go_simp
     with_reducible rfl
    rotate_left
    ·simp only [aP]
     rfl
    refine one_ (i := 2) (N := some 44) (bv 5 0x7) rfl rfl (by kernel_rfl) (by decide) (fun K hK => ?_)
    refine goes_ Try.func21 (by kernel_rfl) rfl #[.agg #[.slice A0_0 l0_0.length c0_0, .int .i64 a0_1, .slice A0_2 l0_2.length c0_2, .slice A0_3 l0_3.length c0_3, .slice A0_4 l0_4.length c0_4]] (by rfl) rfl rfl ml ?_
    with_reducible refine (laws_toPool.calls kj10 _ _ l0_0 a0_1 _ _ l0_2 _ _ l0_3 _ _ l0_4 t516 t519 t520 t523 t526 _ ?side1 ?side2 ?side3 ?side4 ?side5 ?side6 ?side7 ?side8 A71.out).mono ?_
    (case side1 => exact cb HR0_0 HB)
    (case side2 => exact HC0_0.out)
    (case side3 => exact cb HR0_2 HB)
    (case side4 => exact HC0_2.out)
    (case side5 => exact cb HR0_3 HB)
    (case side6 => exact HC0_3.out)
    (case side7 => exact cb HR0_4 HB)
    (case side8 => exact HC0_4.out)
    rintro e w77 ⟨v517, v521, v524, v527, rfl, ho0, ho1, ho2, ho3, hb⟩
    refine ⟨_, rfl, ?_⟩
    have n0_ := td3 (ro HO_5) hb ho0 ho1 ho3
    have n1_ := td3 (ro HO_8) hb ho0 ho1 ho3
    have n2_ := td3 (ro HO_483000) hb ho0 ho1 ho3
    have n3_ := td3 (ro HO_483002) hb ho0 ho1 ho3
    have n4_ := Aside0.mk (Kd.R_elder' (ro HO_483003) (Kd.R_base ho2) hb)
    have n5_ := td3 (ro HO_483004) hb ho0 ho1 ho3
    have n6_ := td3 (ro HO_497000) hb ho0 ho1 ho3
    have n7_ := td3 (ro HO_497002) hb ho0 ho1 ho3
    have n8_ := Aside0.mk (Kd.R_elder' (ro HO_497003) (Kd.R_base ho2) hb)
    have n9_ := td3 (ro HO_497004) hb ho0 ho1 ho3
    have n10_ := td3 (ro HO_514000) hb ho0 ho1 ho3
    have n11_ := td3 (ro HO_514002) hb ho0 ho1 ho3
    have n12_ := Aside0.mk (Kd.R_elder' (ro HO_514003) (Kd.R_base ho2) hb)
    have n13_ := td3 (ro HO_514004) hb ho0 ho1 ho3
    have n14_ := Aside0.mk (Kd.R_lower (nw (nw (nw (nw (nw (nw (nw (nw (nw (nw (nw ho0 HO_5) HO_8) HO_483000) HO_483002) HO_483004) HO_497000) HO_497002) HO_497004) HO_514000) HO_514002) HO_514004) (below_size (be4 HB GE451 GE482 GE496 GE513)))
    have n15_ := Aside0.mk (Kd.R_lower (nw (nw (nw (nw (nw (nw (nw (nw (nw (nw (nw ho1 HO_5) HO_8) HO_483000) HO_483002) HO_483004) HO_497000) HO_497002) HO_497004) HO_514000) HO_514002) HO_514004) (below_size (be4 HB GE451 GE482 GE496 GE513)))
    have n16_ := Aside0.mk (Kd.R_lower (nw (nw (nw ho2 HO_483003) HO_497003) HO_514003) (below_size (be4 HB GE451 GE482 GE496 GE513)))
    have n17_ := Aside0.mk (Kd.R_lower (nw (nw (nw (nw (nw (nw (nw (nw (nw (nw (nw ho3 HO_5) HO_8) HO_483000) HO_483002) HO_483004) HO_497000) HO_497002) HO_497004) HO_514000) HO_514002) HO_514004) (below_size (be4 HB GE451 GE482 GE496 GE513)))
    have n18_ := bb BK451 hb
    have n19_ := bb BK482 hb
    have n20_ := bb BK496 hb
    have n21_ := bb BK513 hb
    have n22_ := Aside0.mk (below_step (be4 HB GE451 GE482 GE496 GE513) hb)
    clear HO_5
    clear HO_8
    clear HO_483000
    clear HO_483002
    clear HO_483003
    clear HO_483004
    clear HO_497000
    clear HO_497002
    clear HO_497003
    clear HO_497004
    clear HO_514000
    clear HO_514002
    clear HO_514003
    clear HO_514004
    clear BK451
    clear BK482
    clear BK496
    clear BK513
    clear HB
    have HO_5 := n0_
    have HO_8 := n1_
    have HO_483000 := n2_
    have HO_483002 := n3_
    have HO_483003 := n4_
    have HO_483004 := n5_
    have HO_497000 := n6_
    have HO_497002 := n7_
    have HO_497003 := n8_
    have HO_497004 := n9_
    have HO_514000 := n10_
    have HO_514002 := n11_
    have HO_514003 := n12_
    have HO_514004 := n13_
    have HO518 := n14_
    have HO522 := n15_
    have HO525 := n16_
    have HO528 := n17_
    have BK451 := n18_
    have BK482 := n19_
    have BK496 := n20_
    have BK513 := n21_
    have HB := n22_
    clear n0_ n1_ n2_ n3_ n4_ n5_ n6_ n7_ n8_ n9_ n10_ n11_ n12_ n13_ n14_ n15_ n16_ n17_ n18_ n19_ n20_ n21_ n22_
    (try clear hb)
    (try clear hb2)
    (try clear hk)
    (try clear hi)
    (try clear ho0)
    (try clear ho1)
    (try clear ho2)
    (try clear ho3)
    obtain ⟨Ao78, co78, eo78⟩ := Kd.R_slice HO518.out
    (first | subst eo78 | (injection eo78 with f1_ f2_ f3_; have f4_ := f1_.symm; have f5_ := f3_.symm; clear f1_ f2_ f3_; subst f4_; subst f5_))
    obtain ⟨Ao79, co79, eo79⟩ := Kd.R_slice HO522.out
    (first | subst eo79 | (injection eo79 with f1_ f2_ f3_; have f4_ := f1_.symm; have f5_ := f3_.symm; clear f1_ f2_ f3_; subst f4_; subst f5_))
    obtain ⟨Ao80, co80, eo80⟩ := Kd.R_slice HO525.out
    (first | subst eo80 | (injection eo80 with f1_ f2_ f3_; have f4_ := f1_.symm; have f5_ := f3_.symm; clear f1_ f2_ f3_; subst f4_; subst f5_))
    obtain ⟨Ao81, co81, eo81⟩ := Kd.R_slice HO528.out
    (first | subst eo81 | (injection eo81 with f1_ f2_ f3_; have f4_ := f1_.symm; have f5_ := f3_.symm; clear f1_ f2_ f3_; subst f4_; subst f5_))
    refine hK.out _ _ ⟨bc0 BK496, bc1 BK496, bc2 BK496, bc3 BK496, bc4 BK496, bc0 BK451, bc1 BK451, bc2 BK451, bc3 BK451, bc4 BK451⟩ (fun hHeld => ?_)
    clear hK K
    refine norm_ (a' := ?_) ?_ ?_
    rotate_left
    ·show Act.put _ (some 44) _ = _
     simp only [aP]
     rfl
    refine one_ (i := 3) (N := some 45) (bv 5 0xf) rfl rfl (by kernel_rfl) (by decide) (fun K hK => ?_)
    refine goes_ Try.func16 (by kernel_rfl) rfl #[.agg #[.slice Ao32 t483.length co32, .int .i64 t486, .slice Ao36 t487.length co36, .slice Ao37 t490.length co37, .slice Ao38 t493.length co38], .agg #[.slice Ao78 t516.length co78, .int .i64 t519, .slice Ao79 t520.length co79, .slice Ao80 t523.length co80, .slice Ao81 t526.length co81]] (by rfl) rfl rfl ml ?_
    with_reducible refine (laws_eqPool.calls kj10 _ _ t483 t486 _ _ t487 _ _ t490 _ _ t493 _ _ t516 t519 _ _ t520 _ _ t523 _ _ t526 true _ ?side1 ?side2 ?side3 ?side4 ?side5 ?side6 ?side7 ?side8 ?side9 ?side10 ?side11 ?side12 ?side13 ?side14 ?side15 ?side16 A72.out).mono ?_
    (case side1 => exact cr HO_497000)
    (case side2 => exact (Kd.R_reads' HO_497000.out).2.1)
    (case side3 => exact cr HO_497002)
    (case side4 => exact (Kd.R_reads' HO_497002.out).2.1)
    (case side5 => exact cr HO_497003)
    (case side6 => exact (Kd.R_reads' HO_497003.out).2.1)
    (case side7 => exact cr HO_497004)
    (case side8 => exact (Kd.R_reads' HO_497004.out).2.1)
    (case side9 => exact cr HO518)
    (case side10 => exact (Kd.R_reads' HO518.out).2.1)
    (case side11 => exact cr HO522)
    (case side12 => exact (Kd.R_reads' HO522.out).2.1)
    (case side13 => exact cr HO525)
    (case side14 => exact (Kd.R_reads' HO525.out).2.1)
    (case side15 => exact cr HO528)
    (case side16 => exact (Kd.R_reads' HO528.out).2.1)
    rintro e w82 ⟨rfl, hb⟩
    refine ⟨_, rfl, ?_⟩
    have n0_ := rb HO_5 hb
    have n1_ := rb HO_8 hb
    have n2_ := rb HO_483000 hb
    have n3_ := rb HO_483002 hb
    have n4_ := rb HO_483003 hb
    have n5_ := rb HO_483004 hb
    have n6_ := rb HO_497000 hb
    have n7_ := rb HO_497002 hb
    have n8_ := rb HO_497003 hb
    have n9_ := rb HO_497004 hb
    have n10_ := rb HO_514000 hb
    have n11_ := rb HO_514002 hb
    have n12_ := rb HO_514003 hb
    have n13_ := rb HO_514004 hb
    have n14_ := rb HO518 hb
    have n15_ := rb HO522 hb
    have n16_ := rb HO525 hb
    have n17_ := rb HO528 hb
    have n18_ := bb BK451 hb
    have n19_ := bb BK482 hb
    have n20_ := bb BK496 hb
    have n21_ := bb BK513 hb
    have n22_ := Aside0.mk (below_step (be4 HB GE451 GE482 GE496 GE513) hb)
    clear HO_5
    clear HO_8
    clear HO_483000
    clear HO_483002
    clear HO_483003
    clear HO_483004
    clear HO_497000
    clear HO_497002
    clear HO_497003
    clear HO_497004
    clear HO_514000
    clear HO_514002
    clear HO_514003
    clear HO_514004
    clear HO518
    clear HO522
    clear HO525
    clear HO528
    clear BK451
    clear BK482
    clear BK496
    clear BK513
    clear HB
    have HO_5 := n0_
    have HO_8 := n1_
    have HO_483000 := n2_
    have HO_483002 := n3_
    have HO_483003 := n4_
    have HO_483004 := n5_
    have HO_497000 := n6_
    have HO_497002 := n7_
    have HO_497003 := n8_
    have HO_497004 := n9_
    have HO_514000 := n10_
    have HO_514002 := n11_
    have HO_514003 := n12_
    have HO_514004 := n13_
    have HO518 := n14_
    have HO522 := n15_
    have HO525 := n16_
    have HO528 := n17_
    have BK451 := n18_
    have BK482 := n19_
    have BK496 := n20_
    have BK513 := n21_
    have HB := n22_
    clear n0_ n1_ n2_ n3_ n4_ n5_ n6_ n7_ n8_ n9_ n10_ n11_ n12_ n13_ n14_ n15_ n16_ n17_ n18_ n19_ n20_ n21_ n22_
    (try clear hb)
    (try clear hb2)
    (try clear hk)
    (try clear hi)
    refine hK.out _ _ ⟨bc0 BK496, bc1 BK496, bc2 BK496, bc3 BK496, bc4 BK496, bc0 BK451, bc1 BK451, bc2 BK451, bc3 BK451, bc4 BK451⟩ (fun hHeld => ?_)
    clear hK K
    refine norm_ (a' := ?_) ?_ ?_
    rotate_left
    ·show Act.put _ (some 45) _ = _
     simp only [aP]
     rfl
    refine pure_ (i := 4) (N := some 46) (v := ?_) (a' := ?_) (bv 5 0x1f) rfl rfl (by kernel_rfl) (fun _ _ _ h => h) (Or.inl ⟨by rfl, ?_⟩) ?_ ?_
    rotate_left
    ·intro w'
     go_simp
     with_reducible rfl
    rotate_left
    ·simp only [aP]
     rfl
    refine done_ (by kernel_rfl) ?_
    have hnb83 := NB496_451.out
    have hnc83 := NB451_496.out
    have hnb84 := NB496_482.out
    have hnc84 := NB482_496.out
    have hnb85 := NB496_513.out
    have hnc85 := NB513_496.out
    have hcz86_0 := bz5 BK496
    go_upto_region 14 with (first | ((with_reducible refine gate_callee (f := 17) rfl ?_); refine gl 49 Try.func17 #[.agg #[.slice Ao32 t483.length co32, .int .i64 t486, .slice Ao36 t487.length co36, .slice Ao37 t490.length co37, .slice Ao38 t493.length co38], .int .i64 1] ?_; (with_reducible refine (laws_markPool.calls kj10 (fun k_ => some k_ = (.slice Ao32 t483.length co32 : Value).ownBlock) (.slice Ao32 t483.length co32) t483 t486 (fun k_ => some k_ = (.slice Ao36 t487.length co36 : Value).ownBlock) (.slice Ao36 t487.length co36) t487 (fun k_ => some k_ = (.slice Ao37 t490.length co37 : Value).ownBlock) (.slice Ao37 t490.length co37) t490 (fun k_ => some k_ = (.slice Ao38 t493.length co38 : Value).ownBlock) (.slice Ao38 t493.length co38) t493 1 t530 t531 t532 t533 t534 w _ ?side1 ?side2 ?side3 ?side4 ?side5 ?side6 ?side7 ?side8 ?side9 ?side10 ?side11 A74.out).mono ?_); (case side1 => repeat (first | (with_reducible first | exact HB.out | apply below_alloc | apply pw_below_drewN | apply below_drew1 | refine below_set ?_ GE451.out | refine below_set ?_ GE482.out | refine below_set ?_ GE496.out | refine below_set ?_ GE513.out) | exact HB.out)); (case side2 => exact Kd.R_tight rfl HO_497000.out); (case side3 => exact fun k_ e_ => (HO_497000.out.1 k_ e_.symm).1.1.1.2.2.2.2.2.1); (case side4 => exact fun k_ e_ => (HO_497000.out.1 k_ e_.symm).1.1.1.2.2.2.2.2.2.1); (case side5 => exact Kd.R_tight rfl HO_497002.out); (case side6 => exact fun k_ e_ => (HO_497002.out.1 k_ e_.symm).1.1.1.2.2.2.2.2.1); (case side7 => exact fun k_ e_ => (HO_497002.out.1 k_ e_.symm).1.1.1.2.2.2.2.2.2.1); (case side8 => exact Kd.R_tight rfl HO_497003.out); (case side9 => exact Kd.R_tight rfl HO_497004.out); (case side10 => exact fun k_ e_ => (HO_497004.out.1 k_ e_.symm).1.1.1.2.2.2.2.2.1); (case side11 => exact fun k_ e_ => (HO_497004.out.1 k_ e_.symm).1.1.1.2.2.2.2.2.2.1); rintro e w87 ⟨rfl, hy0, hy1, hy2, hy3, hb, hkp⟩; refine ⟨_, rfl, ?_⟩; replace HO_5 := Aside0.mk (Kd.R_mono (ok' := fun k_ => some k_ ≠ (v511 : Value).ownBlock ∧ nb k_ Ao23 t466.length co23 ∧ nb k_ Ao26 t470.length co26 ∧ nb k_ Ao28 t476.length co28 ∧ nb k_ Ao32 t483.length co32 ∧ nb k_ Ao36 t487.length co36 ∧ nb k_ Ao38 t493.length co38 ∧ nb k_ Ao41 t497.length co41 ∧ nb k_ Ao46 t501.length co46 ∧ nb k_ Ao48 t507.length co48 ∧ nb k_ Ao78 t516.length co78 ∧ nb k_ Ao79 t520.length co79 ∧ nb k_ Ao81 t526.length co81) (Kd.R_keptB ((Kd.R_apart' HO_5.out (Kd.R_typed HO_497003.out) (by decide))) hkp (fun k_ hk_ hs_ => Or.elim hs_ (fun e_ => (hk_.1.1.1.1.2.2.2.2.1) e_) (fun e_ => Or.elim e_ (fun e_ => (hk_.1.1.1.1.2.2.2.2.2.1) e_) (fun e_ => Or.elim e_ (fun e_ => (hk_.2) e_) (fun e_ => (hk_.1.1.1.1.2.2.2.2.2.2.1) e_))))) cj); replace HO_8 := Aside0.mk (Kd.R_mono (ok' := fun k_ => some k_ ≠ (v480 : Value).ownBlock ∧ nb k_ Ao23 t466.length co23 ∧ nb k_ Ao26 t470.length co26 ∧ nb k_ Ao28 t476.length co28 ∧ nb k_ Ao32 t483.length co32 ∧ nb k_ Ao36 t487.length co36 ∧ nb k_ Ao38 t493.length co38 ∧ nb k_ Ao41 t497.length co41 ∧ nb k_ Ao46 t501.length co46 ∧ nb k_ Ao48 t507.length co48 ∧ nb k_ Ao78 t516.length co78 ∧ nb k_ Ao79 t520.length co79 ∧ nb k_ Ao81 t526.length co81) (Kd.R_keptB ((Kd.R_apart' HO_8.out (Kd.R_typed HO_497003.out) (by decide))) hkp (fun k_ hk_ hs_ => Or.elim hs_ (fun e_ => (hk_.1.1.1.1.2.2.2.2.1) e_) (fun e_ => Or.elim e_ (fun e_ => (hk_.1.1.1.1.2.2.2.2.2.1) e_) (fun e_ => Or.elim e_ (fun e_ => (hk_.2) e_) (fun e_ => (hk_.1.1.1.1.2.2.2.2.2.2.1) e_))))) cj); replace HO_483000 := Aside0.mk (Kd.R_mono (ok' := fun k_ => some k_ ≠ (v480 : Value).ownBlock ∧ some k_ ≠ (v511 : Value).ownBlock ∧ nb k_ Ao26 t470.length co26 ∧ nb k_ Ao28 t476.length co28 ∧ nb k_ Ao32 t483.length co32 ∧ nb k_ Ao36 t487.length co36 ∧ nb k_ Ao38 t493.length co38 ∧ nb k_ Ao41 t497.length co41 ∧ nb k_ Ao46 t501.length co46 ∧ nb k_ Ao48 t507.length co48 ∧ nb k_ Ao78 t516.length co78 ∧ nb k_ Ao79 t520.length co79 ∧ nb k_ Ao81 t526.length co81) (Kd.R_keptB ((Kd.R_apart' HO_483000.out (Kd.R_typed HO_497003.out) (by decide))) hkp (fun k_ hk_ hs_ => Or.elim hs_ (fun e_ => (hk_.1.1.1.1.2.2.2.2.1) e_) (fun e_ => Or.elim e_ (fun e_ => (hk_.1.1.1.1.2.2.2.2.2.1) e_) (fun e_ => Or.elim e_ (fun e_ => (hk_.2) e_) (fun e_ => (hk_.1.1.1.1.2.2.2.2.2.2.1) e_))))) cj); replace HO_483002 := Aside0.mk (Kd.R_mono (ok' := fun k_ => some k_ ≠ (v480 : Value).ownBlock ∧ some k_ ≠ (v511 : Value).ownBlock ∧ nb k_ Ao23 t466.length co23 ∧ nb k_ Ao28 t476.length co28 ∧ nb k_ Ao32 t483.length co32 ∧ nb k_ Ao36 t487.length co36 ∧ nb k_ Ao38 t493.length co38 ∧ nb k_ Ao41 t497.length co41 ∧ nb k_ Ao46 t501.length co46 ∧ nb k_ Ao48 t507.length co48 ∧ nb k_ Ao78 t516.length co78 ∧ nb k_ Ao79 t520.length co79 ∧ nb k_ Ao81 t526.length co81) (Kd.R_keptB ((Kd.R_apart' HO_483002.out (Kd.R_typed HO_497003.out) (by decide))) hkp (fun k_ hk_ hs_ => Or.elim hs_ (fun e_ => (hk_.1.1.1.1.2.2.2.2.1) e_) (fun e_ => Or.elim e_ (fun e_ => (hk_.1.1.1.1.2.2.2.2.2.1) e_) (fun e_ => Or.elim e_ (fun e_ => (hk_.2) e_) (fun e_ => (hk_.1.1.1.1.2.2.2.2.2.2.1) e_))))) cj); replace HO_483003 := Aside0.mk (Kd.R_mono (ok' := fun k_ => nb k_ Ao37 t490.length co37 ∧ nb k_ Ao47 t504.length co47 ∧ nb k_ Ao80 t523.length co80) (Kd.R_keptB ((Kd.R_apart' (Kd.R_apart' (Kd.R_apart' HO_483003.out (Kd.R_typed HO_497000.out) (by decide)) (Kd.R_typed HO_497002.out) (by decide)) (Kd.R_typed HO_497004.out) (by decide))) hkp (fun k_ hk_ hs_ => Or.elim hs_ (fun e_ => (hk_.1.1.2) e_) (fun e_ => Or.elim e_ (fun e_ => (hk_.1.2) e_) (fun e_ => Or.elim e_ (fun e_ => (hk_.1.1.1.1.1) e_) (fun e_ => (hk_.2) e_))))) cj); replace HO_483004 := Aside0.mk (Kd.R_mono (ok' := fun k_ => some k_ ≠ (v480 : Value).ownBlock ∧ some k_ ≠ (v511 : Value).ownBlock ∧ nb k_ Ao23 t466.length co23 ∧ nb k_ Ao26 t470.length co26 ∧ nb k_ Ao32 t483.length co32 ∧ nb k_ Ao36 t487.length co36 ∧ nb k_ Ao38 t493.length co38 ∧ nb k_ Ao41 t497.length co41 ∧ nb k_ Ao46 t501.length co46 ∧ nb k_ Ao48 t507.length co48 ∧ nb k_ Ao78 t516.length co78 ∧ nb k_ Ao79 t520.length co79 ∧ nb k_ Ao81 t526.length co81) (Kd.R_keptB ((Kd.R_apart' HO_483004.out (Kd.R_typed HO_497003.out) (by decide))) hkp (fun k_ hk_ hs_ => Or.elim hs_ (fun e_ => (hk_.1.1.1.1.2.2.2.2.1) e_) (fun e_ => Or.elim e_ (fun e_ => (hk_.1.1.1.1.2.2.2.2.2.1) e_) (fun e_ => Or.elim e_ (fun e_ => (hk_.2) e_) (fun e_ => (hk_.1.1.1.1.2.2.2.2.2.2.1) e_))))) cj); replace HO_514000 := Aside0.mk (Kd.R_mono (ok' := fun k_ => some k_ ≠ (v480 : Value).ownBlock ∧ some k_ ≠ (v511 : Value).ownBlock ∧ nb k_ Ao23 t466.length co23 ∧ nb k_ Ao26 t470.length co26 ∧ nb k_ Ao28 t476.length co28 ∧ nb k_ Ao32 t483.length co32 ∧ nb k_ Ao36 t487.length co36 ∧ nb k_ Ao38 t493.length co38 ∧ nb k_ Ao46 t501.length co46 ∧ nb k_ Ao48 t507.length co48 ∧ nb k_ Ao78 t516.length co78 ∧ nb k_ Ao79 t520.length co79 ∧ nb k_ Ao81 t526.length co81) (Kd.R_keptB ((Kd.R_apart' HO_514000.out (Kd.R_typed HO_497003.out) (by decide))) hkp (fun k_ hk_ hs_ => Or.elim hs_ (fun e_ => (hk_.1.1.1.1.2.2.2.2.2.1) e_) (fun e_ => Or.elim e_ (fun e_ => (hk_.1.1.1.1.2.2.2.2.2.2.1) e_) (fun e_ => Or.elim e_ (fun e_ => (hk_.2) e_) (fun e_ => (hk_.1.1.1.1.2.2.2.2.2.2.2.1) e_))))) cj); replace HO_514002 := Aside0.mk (Kd.R_mono (ok' := fun k_ => some k_ ≠ (v480 : Value).ownBlock ∧ some k_ ≠ (v511 : Value).ownBlock ∧ nb k_ Ao23 t466.length co23 ∧ nb k_ Ao26 t470.length co26 ∧ nb k_ Ao28 t476.length co28 ∧ nb k_ Ao32 t483.length co32 ∧ nb k_ Ao36 t487.length co36 ∧ nb k_ Ao38 t493.length co38 ∧ nb k_ Ao41 t497.length co41 ∧ nb k_ Ao48 t507.length co48 ∧ nb k_ Ao78 t516.length co78 ∧ nb k_ Ao79 t520.length co79 ∧ nb k_ Ao81 t526.length co81) (Kd.R_keptB ((Kd.R_apart' HO_514002.out (Kd.R_typed HO_497003.out) (by decide))) hkp (fun k_ hk_ hs_ => Or.elim hs_ (fun e_ => (hk_.1.1.1.1.2.2.2.2.2.1) e_) (fun e_ => Or.elim e_ (fun e_ => (hk_.1.1.1.1.2.2.2.2.2.2.1) e_) (fun e_ => Or.elim e_ (fun e_ => (hk_.2) e_) (fun e_ => (hk_.1.1.1.1.2.2.2.2.2.2.2.1) e_))))) cj); replace HO_514003 := Aside0.mk (Kd.R_mono (ok' := fun k_ => nb k_ Ao27 t473.length co27 ∧ nb k_ Ao37 t490.length co37 ∧ nb k_ Ao80 t523.length co80) (Kd.R_keptB ((Kd.R_apart' (Kd.R_apart' (Kd.R_apart' HO_514003.out (Kd.R_typed HO_497000.out) (by decide)) (Kd.R_typed HO_497002.out) (by decide)) (Kd.R_typed HO_497004.out) (by decide))) hkp (fun k_ hk_ hs_ => Or.elim hs_ (fun e_ => (hk_.1.1.2) e_) (fun e_ => Or.elim e_ (fun e_ => (hk_.1.2) e_) (fun e_ => Or.elim e_ (fun e_ => (hk_.1.1.1.1.2) e_) (fun e_ => (hk_.2) e_))))) cj); replace HO_514004 := Aside0.mk (Kd.R_mono (ok' := fun k_ => some k_ ≠ (v480 : Value).ownBlock ∧ some k_ ≠ (v511 : Value).ownBlock ∧ nb k_ Ao23 t466.length co23 ∧ nb k_ Ao26 t470.length co26 ∧ nb k_ Ao28 t476.length co28 ∧ nb k_ Ao32 t483.length co32 ∧ nb k_ Ao36 t487.length co36 ∧ nb k_ Ao38 t493.length co38 ∧ nb k_ Ao41 t497.length co41 ∧ nb k_ Ao46 t501.length co46 ∧ nb k_ Ao78 t516.length co78 ∧ nb k_ Ao79 t520.length co79 ∧ nb k_ Ao81 t526.length co81) (Kd.R_keptB ((Kd.R_apart' HO_514004.out (Kd.R_typed HO_497003.out) (by decide))) hkp (fun k_ hk_ hs_ => Or.elim hs_ (fun e_ => (hk_.1.1.1.1.2.2.2.2.2.1) e_) (fun e_ => Or.elim e_ (fun e_ => (hk_.1.1.1.1.2.2.2.2.2.2.1) e_) (fun e_ => Or.elim e_ (fun e_ => (hk_.2) e_) (fun e_ => (hk_.1.1.1.1.2.2.2.2.2.2.2.1) e_))))) cj); replace BK451 := Aside0.mk (blk_kept (bk BK451) hkp (fun hs_ => Or.elim hs_ (fun e_ => (fun e_ => (Kd.R_ne HO_497000.out BK451.out (by decide)) e_) e_) (fun e_ => Or.elim e_ (fun e_ => (fun e_ => (Kd.R_ne HO_497002.out BK451.out (by decide)) e_) e_) (fun e_ => Or.elim e_ (fun e_ => (fun e_ => (Kd.R_ne HO_497003.out BK451.out (by decide)) e_) e_) (fun e_ => (fun e_ => (Kd.R_ne HO_497004.out BK451.out (by decide)) e_) e_))))); replace BK482 := Aside0.mk (blk_kept (bk BK482) hkp (fun hs_ => Or.elim hs_ (fun e_ => (fun e_ => (Kd.R_ne HO_497000.out BK482.out (by decide)) e_) e_) (fun e_ => Or.elim e_ (fun e_ => (fun e_ => (Kd.R_ne HO_497002.out BK482.out (by decide)) e_) e_) (fun e_ => Or.elim e_ (fun e_ => (fun e_ => (Kd.R_ne HO_497003.out BK482.out (by decide)) e_) e_) (fun e_ => (fun e_ => (Kd.R_ne HO_497004.out BK482.out (by decide)) e_) e_))))); replace BK496 := Aside0.mk (blk_kept (bk BK496) hkp (fun hs_ => Or.elim hs_ (fun e_ => (fun e_ => (Kd.R_ne HO_497000.out BK496.out (by decide)) e_) e_) (fun e_ => Or.elim e_ (fun e_ => (fun e_ => (Kd.R_ne HO_497002.out BK496.out (by decide)) e_) e_) (fun e_ => Or.elim e_ (fun e_ => (fun e_ => (Kd.R_ne HO_497003.out BK496.out (by decide)) e_) e_) (fun e_ => (fun e_ => (Kd.R_ne HO_497004.out BK496.out (by decide)) e_) e_))))); replace BK513 := Aside0.mk (blk_kept (bk BK513) hkp (fun hs_ => Or.elim hs_ (fun e_ => (fun e_ => (Kd.R_ne HO_497000.out BK513.out (by decide)) e_) e_) (fun e_ => Or.elim e_ (fun e_ => (fun e_ => (Kd.R_ne HO_497002.out BK513.out (by decide)) e_) e_) (fun e_ => Or.elim e_ (fun e_ => (fun e_ => (Kd.R_ne HO_497003.out BK513.out (by decide)) e_) e_) (fun e_ => (fun e_ => (Kd.R_ne HO_497004.out BK513.out (by decide)) e_) e_))))); replace HO518 := Aside0.mk (Kd.R_mono (ok' := fun k_ => some k_ ≠ (v480 : Value).ownBlock ∧ some k_ ≠ (v511 : Value).ownBlock ∧ nb k_ Ao23 t466.length co23 ∧ nb k_ Ao26 t470.length co26 ∧ nb k_ Ao28 t476.length co28 ∧ nb k_ Ao32 t483.length co32 ∧ nb k_ Ao36 t487.length co36 ∧ nb k_ Ao38 t493.length co38 ∧ nb k_ Ao41 t497.length co41 ∧ nb k_ Ao46 t501.length co46 ∧ nb k_ Ao48 t507.length co48 ∧ nb k_ Ao79 t520.length co79 ∧ nb k_ Ao81 t526.length co81) (Kd.R_keptB ((Kd.R_apart' HO518.out (Kd.R_typed HO_497003.out) (by decide))) hkp (fun k_ hk_ hs_ => Or.elim hs_ (fun e_ => (hk_.1.1.1.1.1.1.2) e_) (fun e_ => Or.elim e_ (fun e_ => (hk_.1.1.1.1.1.2) e_) (fun e_ => Or.elim e_ (fun e_ => (hk_.2) e_) (fun e_ => (hk_.1.1.1.1.2) e_))))) cj); replace HO522 := Aside0.mk (Kd.R_mono (ok' := fun k_ => some k_ ≠ (v480 : Value).ownBlock ∧ some k_ ≠ (v511 : Value).ownBlock ∧ nb k_ Ao23 t466.length co23 ∧ nb k_ Ao26 t470.length co26 ∧ nb k_ Ao28 t476.length co28 ∧ nb k_ Ao32 t483.length co32 ∧ nb k_ Ao36 t487.length co36 ∧ nb k_ Ao38 t493.length co38 ∧ nb k_ Ao41 t497.length co41 ∧ nb k_ Ao46 t501.length co46 ∧ nb k_ Ao48 t507.length co48 ∧ nb k_ Ao78 t516.length co78 ∧ nb k_ Ao81 t526.length co81) (Kd.R_keptB ((Kd.R_apart' HO522.out (Kd.R_typed HO_497003.out) (by decide))) hkp (fun k_ hk_ hs_ => Or.elim hs_ (fun e_ => (hk_.1.1.1.1.1.1.2) e_) (fun e_ => Or.elim e_ (fun e_ => (hk_.1.1.1.1.1.2) e_) (fun e_ => Or.elim e_ (fun e_ => (hk_.2) e_) (fun e_ => (hk_.1.1.1.1.2) e_))))) cj); replace HO525 := Aside0.mk (Kd.R_mono (ok' := fun k_ => nb k_ Ao27 t473.length co27 ∧ nb k_ Ao37 t490.length co37 ∧ nb k_ Ao47 t504.length co47) (Kd.R_keptB ((Kd.R_apart' (Kd.R_apart' (Kd.R_apart' HO525.out (Kd.R_typed HO_497000.out) (by decide)) (Kd.R_typed HO_497002.out) (by decide)) (Kd.R_typed HO_497004.out) (by decide))) hkp (fun k_ hk_ hs_ => Or.elim hs_ (fun e_ => (hk_.1.1.2) e_) (fun e_ => Or.elim e_ (fun e_ => (hk_.1.2) e_) (fun e_ => Or.elim e_ (fun e_ => (hk_.1.1.1.1.2) e_) (fun e_ => (hk_.2) e_))))) cj); replace HO_497000 := Aside0.mk (Kd.R_reok rfl hy0 (fun k_ e_ => HO_497000.out.1 k_ e_)); replace HO_497002 := Aside0.mk (Kd.R_reok rfl hy1 (fun k_ e_ => HO_497002.out.1 k_ e_)); replace HO_497004 := Aside0.mk (Kd.R_reok rfl hy3 (fun k_ e_ => HO_497004.out.1 k_ e_)); replace HO528 := Aside0.mk (Kd.R_mono (ok' := fun k_ => some k_ ≠ (v480 : Value).ownBlock ∧ some k_ ≠ (v511 : Value).ownBlock ∧ nb k_ Ao23 t466.length co23 ∧ nb k_ Ao26 t470.length co26 ∧ nb k_ Ao28 t476.length co28 ∧ nb k_ Ao32 t483.length co32 ∧ nb k_ Ao36 t487.length co36 ∧ nb k_ Ao38 t493.length co38 ∧ nb k_ Ao41 t497.length co41 ∧ nb k_ Ao46 t501.length co46 ∧ nb k_ Ao48 t507.length co48 ∧ nb k_ Ao78 t516.length co78 ∧ nb k_ Ao79 t520.length co79) (Kd.R_keptB ((Kd.R_apart' HO528.out (Kd.R_typed HO_497003.out) (by decide))) hkp (fun k_ hk_ hs_ => Or.elim hs_ (fun e_ => (hk_.1.1.1.1.1.1.2) e_) (fun e_ => Or.elim e_ (fun e_ => (hk_.1.1.1.1.1.2) e_) (fun e_ => Or.elim e_ (fun e_ => (hk_.2) e_) (fun e_ => (hk_.1.1.1.1.2) e_))))) cj); replace HO_497003 := Aside0.mk (Kd.R_reok rfl hy2 (fun k_ e_ => HO_497003.out.1 k_ e_)); replace HB := Aside0.mk (hb); (try clear hb); (try clear hkp); (try clear hy0); (try clear hy1); (try clear hy2); (try clear hy3)))
    (try simp only [Act.put, List.setIfInBounds_toArray, List.set_cons_zero, List.set_cons_succ])
    go_cut [63] (fun v63 wc => ∃ (kq : Nat) (x63_74 : Bool), v63 = .bool x63_74 ∧ Aside0 (laws_FnExactReclaim.j1 kq t479 t510 x63_74 l0_0 a0_1 l0_2 l0_3 l0_4 t466 t469 t470 t473 t476 t497 t500 t501 t504 t507 = some r) ∧ Aside0 (kq ≤ kj10) ∧ Aside0 (Kd.R (Kd.int .i64) 3 wc w.heap.size (fun k_ => some k_ ≠ (v511 : Value).ownBlock ∧ nb k_ Ao23 t466.length co23 ∧ nb k_ Ao26 t470.length co26 ∧ nb k_ Ao28 t476.length co28 ∧ nb k_ Ao32 t483.length co32 ∧ nb k_ Ao36 t487.length co36 ∧ nb k_ Ao38 t493.length co38 ∧ nb k_ Ao41 t497.length co41 ∧ nb k_ Ao46 t501.length co46 ∧ nb k_ Ao48 t507.length co48) v480 t479) ∧ Aside0 (Kd.R (Kd.int .i64) 3 wc w.heap.size (fun k_ => some k_ ≠ (v480 : Value).ownBlock ∧ nb k_ Ao23 t466.length co23 ∧ nb k_ Ao26 t470.length co26 ∧ nb k_ Ao28 t476.length co28 ∧ nb k_ Ao32 t483.length co32 ∧ nb k_ Ao36 t487.length co36 ∧ nb k_ Ao38 t493.length co38 ∧ nb k_ Ao41 t497.length co41 ∧ nb k_ Ao46 t501.length co46 ∧ nb k_ Ao48 t507.length co48) v511 t510) ∧ Aside0 (Kd.R (Kd.int .i64) 3 wc w.heap.size (fun k_ => some k_ ≠ (v480 : Value).ownBlock ∧ some k_ ≠ (v511 : Value).ownBlock ∧ nb k_ Ao26 t470.length co26 ∧ nb k_ Ao28 t476.length co28 ∧ nb k_ Ao32 t483.length co32 ∧ nb k_ Ao36 t487.length co36 ∧ nb k_ Ao38 t493.length co38 ∧ nb k_ Ao41 t497.length co41 ∧ nb k_ Ao46 t501.length co46 ∧ nb k_ Ao48 t507.length co48) (.slice Ao23 t466.length co23) t466) ∧ Aside0 (Kd.R (Kd.int .i64) 3 wc w.heap.size (fun k_ => some k_ ≠ (v480 : Value).ownBlock ∧ some k_ ≠ (v511 : Value).ownBlock ∧ nb k_ Ao23 t466.length co23 ∧ nb k_ Ao28 t476.length co28 ∧ nb k_ Ao32 t483.length co32 ∧ nb k_ Ao36 t487.length co36 ∧ nb k_ Ao38 t493.length co38 ∧ nb k_ Ao41 t497.length co41 ∧ nb k_ Ao46 t501.length co46 ∧ nb k_ Ao48 t507.length co48) (.slice Ao26 t470.length co26) t470) ∧ Aside0 (Kd.R k70 70 wc w.heap.size (fun k_ => nb k_ Ao37 t490.length co37 ∧ nb k_ Ao47 t504.length co47) (.slice Ao27 t473.length co27) t473) ∧ Aside0 (Kd.R (Kd.int .i64) 3 wc w.heap.size (fun k_ => some k_ ≠ (v480 : Value).ownBlock ∧ some k_ ≠ (v511 : Value).ownBlock ∧ nb k_ Ao23 t466.length co23 ∧ nb k_ Ao26 t470.length co26 ∧ nb k_ Ao32 t483.length co32 ∧ nb k_ Ao36 t487.length co36 ∧ nb k_ Ao38 t493.length co38 ∧ nb k_ Ao41 t497.length co41 ∧ nb k_ Ao46 t501.length co46 ∧ nb k_ Ao48 t507.length co48) (.slice Ao28 t476.length co28) t476) ∧ Aside0 (Kd.R (Kd.int .i64) 3 wc w.heap.size (fun k_ => some k_ ≠ (v480 : Value).ownBlock ∧ some k_ ≠ (v511 : Value).ownBlock ∧ nb k_ Ao23 t466.length co23 ∧ nb k_ Ao26 t470.length co26 ∧ nb k_ Ao28 t476.length co28 ∧ nb k_ Ao36 t487.length co36 ∧ nb k_ Ao38 t493.length co38 ∧ nb k_ Ao41 t497.length co41 ∧ nb k_ Ao46 t501.length co46 ∧ nb k_ Ao48 t507.length co48) (.slice Ao32 t483.length co32) t531) ∧ Aside0 (Kd.R (Kd.int .i64) 3 wc w.heap.size (fun k_ => some k_ ≠ (v480 : Value).ownBlock ∧ some k_ ≠ (v511 : Value).ownBlock ∧ nb k_ Ao23 t466.length co23 ∧ nb k_ Ao26 t470.length co26 ∧ nb k_ Ao28 t476.length co28 ∧ nb k_ Ao32 t483.length co32 ∧ nb k_ Ao38 t493.length co38 ∧ nb k_ Ao41 t497.length co41 ∧ nb k_ Ao46 t501.length co46 ∧ nb k_ Ao48 t507.length co48) (.slice Ao36 t487.length co36) t532) ∧ Aside0 (Kd.R k70 70 wc w.heap.size (fun k_ => nb k_ Ao27 t473.length co27 ∧ nb k_ Ao47 t504.length co47) (.slice Ao37 t490.length co37) t533) ∧ Aside0 (Kd.R (Kd.int .i64) 3 wc w.heap.size (fun k_ => some k_ ≠ (v480 : Value).ownBlock ∧ some k_ ≠ (v511 : Value).ownBlock ∧ nb k_ Ao23 t466.length co23 ∧ nb k_ Ao26 t470.length co26 ∧ nb k_ Ao28 t476.length co28 ∧ nb k_ Ao32 t483.length co32 ∧ nb k_ Ao36 t487.length co36 ∧ nb k_ Ao41 t497.length co41 ∧ nb k_ Ao46 t501.length co46 ∧ nb k_ Ao48 t507.length co48) (.slice Ao38 t493.length co38) t534) ∧ Aside0 (Kd.R (Kd.int .i64) 3 wc w.heap.size (fun k_ => some k_ ≠ (v480 : Value).ownBlock ∧ some k_ ≠ (v511 : Value).ownBlock ∧ nb k_ Ao23 t466.length co23 ∧ nb k_ Ao26 t470.length co26 ∧ nb k_ Ao28 t476.length co28 ∧ nb k_ Ao32 t483.length co32 ∧ nb k_ Ao36 t487.length co36 ∧ nb k_ Ao38 t493.length co38 ∧ nb k_ Ao46 t501.length co46 ∧ nb k_ Ao48 t507.length co48) (.slice Ao41 t497.length co41) t497) ∧ Aside0 (Kd.R (Kd.int .i64) 3 wc w.heap.size (fun k_ => some k_ ≠ (v480 : Value).ownBlock ∧ some k_ ≠ (v511 : Value).ownBlock ∧ nb k_ Ao23 t466.length co23 ∧ nb k_ Ao26 t470.length co26 ∧ nb k_ Ao28 t476.length co28 ∧ nb k_ Ao32 t483.length co32 ∧ nb k_ Ao36 t487.length co36 ∧ nb k_ Ao38 t493.length co38 ∧ nb k_ Ao41 t497.length co41 ∧ nb k_ Ao48 t507.length co48) (.slice Ao46 t501.length co46) t501) ∧ Aside0 (Kd.R k70 70 wc w.heap.size (fun k_ => nb k_ Ao27 t473.length co27 ∧ nb k_ Ao37 t490.length co37) (.slice Ao47 t504.length co47) t504) ∧ Aside0 (Kd.R (Kd.int .i64) 3 wc w.heap.size (fun k_ => some k_ ≠ (v480 : Value).ownBlock ∧ some k_ ≠ (v511 : Value).ownBlock ∧ nb k_ Ao23 t466.length co23 ∧ nb k_ Ao26 t470.length co26 ∧ nb k_ Ao28 t476.length co28 ∧ nb k_ Ao32 t483.length co32 ∧ nb k_ Ao36 t487.length co36 ∧ nb k_ Ao38 t493.length co38 ∧ nb k_ Ao41 t497.length co41 ∧ nb k_ Ao46 t501.length co46) (.slice Ao48 t507.length co48) t507) ∧ Aside0 (wc.heap[gb451]? = some (.cells #[(.slice A0_0 l0_0.length c0_0), .int .i64 a0_1, (.slice A0_2 l0_2.length c0_2), (.slice A0_3 l0_3.length c0_3), (.slice A0_4 l0_4.length c0_4)] 37 (0, 0))) ∧ Aside0 (wc.heap[gb482]? = some (.cells #[(.slice Ao23 t466.length co23), .int .i64 t469, (.slice Ao26 t470.length co26), (.slice Ao27 t473.length co27), (.slice Ao28 t476.length co28)] 27 (0, 0))) ∧ Aside0 (wc.heap[gb496]? = some (.cells #[(.slice Ao32 t483.length co32), .int .i64 t486, (.slice Ao36 t487.length co36), (.slice Ao37 t490.length co37), (.slice Ao38 t493.length co38)] 27 (0, 0))) ∧ Aside0 (wc.heap[gb513]? = some (.cells #[(.slice Ao41 t497.length co41), .int .i64 t500, (.slice Ao46 t501.length co46), (.slice Ao47 t504.length co47), (.slice Ao48 t507.length co48)] 27 (0, 0))) ∧ Aside0 (Below w.heap.size w wc))
    case first =>
     have H := HC75.out
     clear HC75
     by_cases c88 : t530 < 0
     ·rw [if_pos c88] at H
      have c88b0 : decide (t530 < 0) = true := decide_eq_true c88
      clear c88
      (first | rw [c88b0] | (simp only [i64_w, i32_w]; rw [c88b0]) | skip)
      have H' := Aside0.mk H
      clear H
      go_wp2
      go_meet
      case rel => exact ⟨_, (true), rs, H', ⟨by have := HJ10.out; first | omega | exact Nat.le_refl _⟩, ⟨rom HO_5⟩, ⟨rom HO_8⟩, ⟨rom HO_483000⟩, ⟨rom HO_483002⟩, ⟨rom HO_483003⟩, ⟨rom HO_483004⟩, ⟨rom HO_497000⟩, ⟨rom HO_497002⟩, ⟨rom HO_497003⟩, ⟨rom HO_497004⟩, ⟨rom HO_514000⟩, ⟨rom HO_514002⟩, ⟨rom HO_514003⟩, ⟨rom HO_514004⟩, ⟨bk BK451⟩, ⟨bk BK482⟩, ⟨bk BK496⟩, ⟨bk BK513⟩, ⟨be4 HB GE451 GE482 GE496 GE513⟩⟩
     rw [if_neg c88] at H
     have c88b0 : decide (t530 < 0) = false := decide_eq_false c88
     clear c88
     (first | rw [c88b0] | (simp only [i64_w, i32_w]; rw [c88b0]) | skip)
     replace H := Option.bind_eq_some_iff.mp H
     obtain ⟨t535, A890, H⟩ := H
     try dsimp only at H
     have A89 := Aside0.mk A890
     clear A890
     by_cases c90 : t535 = true
     ·subst c90
      rw [if_pos rfl] at H
      replace H := Option.bind_eq_some_iff.mp H
      obtain ⟨t536, A910, H⟩ := H
      try dsimp only at H
      have A91 := Aside0.mk A910
      clear A910
      have H' := Aside0.mk H
      clear H
      have hnb92 := NB513_451.out
      have hnc92 := NB451_513.out
      have hnb93 := NB513_482.out
      have hnc93 := NB482_513.out
      have hnb94 := NB513_496.out
      have hnc94 := NB496_513.out
      have hcz95_0 := bz5 BK513
      have hnb96 := NB482_451.out
      have hnc96 := NB451_482.out
      have hnb97 := NB482_496.out
      have hnc97 := NB496_482.out
      have hcz98_0 := bz5 BK482
      go_wp2_with (first | (go_at_call 16; (with_reducible refine (laws_eqPool.calls kj10 _ _ t497 t500 _ _ t501 _ _ t504 _ _ t507 _ _ t466 t469 _ _ t470 _ _ t473 _ _ t476 true _ (cr HO_514000) ((Kd.R_reads' HO_514000.out).2.1) (cr HO_514002) ((Kd.R_reads' HO_514002.out).2.1) (cr HO_514003) ((Kd.R_reads' HO_514003.out).2.1) (cr HO_514004) ((Kd.R_reads' HO_514004.out).2.1) (cr HO_483000) ((Kd.R_reads' HO_483000.out).2.1) (cr HO_483002) ((Kd.R_reads' HO_483002.out).2.1) (cr HO_483003) ((Kd.R_reads' HO_483003.out).2.1) (cr HO_483004) ((Kd.R_reads' HO_483004.out).2.1) A89.out).mono ?_); rintro e w99 ⟨rfl, hb⟩; replace HO_5 := rb HO_5 hb; replace HO_8 := rb HO_8 hb; replace HO_483000 := rb HO_483000 hb; replace HO_483002 := rb HO_483002 hb; replace HO_483003 := rb HO_483003 hb; replace HO_483004 := rb HO_483004 hb; replace HO_497000 := rb HO_497000 hb; replace HO_497002 := rb HO_497002 hb; replace HO_497003 := rb HO_497003 hb; replace HO_497004 := rb HO_497004 hb; replace HO_514000 := rb HO_514000 hb; replace HO_514002 := rb HO_514002 hb; replace HO_514003 := rb HO_514003 hb; replace HO_514004 := rb HO_514004 hb; replace HO518 := rb HO518 hb; replace HO522 := rb HO522 hb; replace HO525 := rb HO525 hb; replace HO528 := rb HO528 hb; replace BK451 := bb BK451 hb; replace BK482 := bb BK482 hb; replace BK496 := bb BK496 hb; replace BK513 := bb BK513 hb; replace HB := Aside0.mk (below_step (be4 HB GE451 GE482 GE496 GE513) hb); (try clear hb); obtain ⟨Ao100, co100, eo100⟩ := Kd.R_slice HO_8.out; subst eo100; obtain ⟨Ao101, co101, eo101⟩ := Kd.R_slice HO_5.out; subst eo101) | (go_at_call 33; (with_reducible refine (laws_eqIntS.calls kj10 _ _ t510 _ _ t479 t536 _ (cr HO_8) ((Kd.R_reads' HO_8.out).2.1) (cr HO_5) ((Kd.R_reads' HO_5.out).2.1) A91.out).mono ?_); rintro e w' ⟨rfl, ⟨nd, rfl⟩⟩))
      go_meet
      case rel => exact ⟨_, (!t536), rs, H', ⟨by have := HJ10.out; first | omega | exact Nat.le_refl _⟩, ⟨rom HO_5⟩, ⟨rom HO_8⟩, ⟨rom HO_483000⟩, ⟨rom HO_483002⟩, ⟨rom HO_483003⟩, ⟨rom HO_483004⟩, ⟨rom HO_497000⟩, ⟨rom HO_497002⟩, ⟨rom HO_497003⟩, ⟨rom HO_497004⟩, ⟨rom HO_514000⟩, ⟨rom HO_514002⟩, ⟨rom HO_514003⟩, ⟨rom HO_514004⟩, ⟨bk BK451⟩, ⟨bk BK482⟩, ⟨bk BK496⟩, ⟨bk BK513⟩, ⟨be4 HB GE451 GE482 GE496 GE513⟩⟩
     replace c90 := Bool.eq_false_iff.mpr c90
     subst c90
     rw [if_neg (show ¬ (false = true) by decide)] at H
     have H' := Aside0.mk H
     clear H
     have hnb102 := NB513_451.out
     have hnc102 := NB451_513.out
     have hnb103 := NB513_482.out
     have hnc103 := NB482_513.out
     have hnb104 := NB513_496.out
     have hnc104 := NB496_513.out
     have hcz105_0 := bz5 BK513
     have hnb106 := NB482_451.out
     have hnc106 := NB451_482.out
     have hnb107 := NB482_496.out
     have hnc107 := NB496_482.out
     have hcz108_0 := bz5 BK482
     go_wp2_with (first | (go_at_call 16; (with_reducible refine (laws_eqPool.calls kj10 _ _ t497 t500 _ _ t501 _ _ t504 _ _ t507 _ _ t466 t469 _ _ t470 _ _ t473 _ _ t476 false _ (cr HO_514000) ((Kd.R_reads' HO_514000.out).2.1) (cr HO_514002) ((Kd.R_reads' HO_514002.out).2.1) (cr HO_514003) ((Kd.R_reads' HO_514003.out).2.1) (cr HO_514004) ((Kd.R_reads' HO_514004.out).2.1) (cr HO_483000) ((Kd.R_reads' HO_483000.out).2.1) (cr HO_483002) ((Kd.R_reads' HO_483002.out).2.1) (cr HO_483003) ((Kd.R_reads' HO_483003.out).2.1) (cr HO_483004) ((Kd.R_reads' HO_483004.out).2.1) A89.out).mono ?_); rintro e w109 ⟨rfl, hb⟩; replace HO_5 := rb HO_5 hb; replace HO_8 := rb HO_8 hb; replace HO_483000 := rb HO_483000 hb; replace HO_483002 := rb HO_483002 hb; replace HO_483003 := rb HO_483003 hb; replace HO_483004 := rb HO_483004 hb; replace HO_497000 := rb HO_497000 hb; replace HO_497002 := rb HO_497002 hb; replace HO_497003 := rb HO_497003 hb; replace HO_497004 := rb HO_497004 hb; replace HO_514000 := rb HO_514000 hb; replace HO_514002 := rb HO_514002 hb; replace HO_514003 := rb HO_514003 hb; replace HO_514004 := rb HO_514004 hb; replace HO518 := rb HO518 hb; replace HO522 := rb HO522 hb; replace HO525 := rb HO525 hb; replace HO528 := rb HO528 hb; replace BK451 := bb BK451 hb; replace BK482 := bb BK482 hb; replace BK496 := bb BK496 hb; replace BK513 := bb BK513 hb; replace HB := Aside0.mk (below_step (be4 HB GE451 GE482 GE496 GE513) hb); (try clear hb)))
     go_meet
     case rel => exact ⟨_, (true), rs, H', ⟨by have := HJ10.out; first | omega | exact Nat.le_refl _⟩, ⟨rom HO_5⟩, ⟨rom HO_8⟩, ⟨rom HO_483000⟩, ⟨rom HO_483002⟩, ⟨rom HO_483003⟩, ⟨rom HO_483004⟩, ⟨rom HO_497000⟩, ⟨rom HO_497002⟩, ⟨rom HO_497003⟩, ⟨rom HO_497004⟩, ⟨rom HO_514000⟩, ⟨rom HO_514002⟩, ⟨rom HO_514003⟩, ⟨rom HO_514004⟩, ⟨bk BK451⟩, ⟨bk BK482⟩, ⟨bk BK496⟩, ⟨bk BK513⟩, ⟨be4 HB GE451 GE482 GE496 GE513⟩⟩
    case rest =>
     clear HC75
     try clear c1; try clear c2; try clear p2; try clear c3; try clear c3b0; try clear c4; try clear c5; try clear c6; try clear c7; try clear c8; try clear c9; try clear c10; try clear c16; try clear c17; try clear c19; try clear c21; try clear c24; try clear c31; try clear c32; try clear c33; try clear c34; try clear c42; try clear c43; try clear c44; try clear c50; try clear c52; try clear c53; try clear c54; try clear c56; try clear c57; try clear c62; try clear c63; try clear c64; try clear c66; try clear c67; try clear c70; try clear c73; try clear c83; try clear c84; try clear c85; try clear c88; try clear c88b0; try clear c90; try clear c92; try clear c93; try clear c94; try clear c96; try clear c97; try clear c102; try clear c103; try clear c104; try clear c106; try clear c107; try clear hcz105_0; try clear hcz108_0; try clear hcz13_0; try clear hcz15_0; try clear hcz25_0; try clear hcz29_0; try clear hcz35_0; try clear hcz45_0; try clear hcz55_0; try clear hcz58_0; try clear hcz5_0; try clear hcz65_0; try clear hcz68_0; try clear hcz86_0; try clear hcz95_0; try clear hcz98_0
     obtain ⟨kq, x63_74, rfl, HA, HJ74, HO_5, HO_8, HO_483000, HO_483002, HO_483003, HO_483004, HO_497000, HO_497002, HO_497003, HO_497004, HO_514000, HO_514002, HO_514003, HO_514004, BK451, BK482, BK496, BK513, HB⟩ := hcut
     have hl497000_74 := (Kd.R_reads' HO_497000.out).1
     rw [hl497000_74] at HO_497000
     (try simp only [hl497000_74])
     (try simp only [hl497000_74] at BK451)
     (try simp only [hl497000_74] at BK482)
     (try simp only [hl497000_74] at BK496)
     (try simp only [hl497000_74] at BK513)
     (try simp only [hl497000_74] at HO_5)
     (try simp only [hl497000_74] at HO_8)
     (try simp only [hl497000_74] at HO_483000)
     (try simp only [hl497000_74] at HO_483002)
     (try simp only [hl497000_74] at HO_483003)
     (try simp only [hl497000_74] at HO_483004)
     (try simp only [hl497000_74] at HO_497002)
     (try simp only [hl497000_74] at HO_497003)
     (try simp only [hl497000_74] at HO_497004)
     (try simp only [hl497000_74] at HO_514000)
     (try simp only [hl497000_74] at HO_514002)
     (try simp only [hl497000_74] at HO_514003)
     (try simp only [hl497000_74] at HO_514004)
     have hl497002_74 := (Kd.R_reads' HO_497002.out).1
     rw [hl497002_74] at HO_497002
     (try simp only [hl497002_74])
     (try simp only [hl497002_74] at BK451)
     (try simp only [hl497002_74] at BK482)
     (try simp only [hl497002_74] at BK496)
     (try simp only [hl497002_74] at BK513)
     (try simp only [hl497002_74] at HO_5)
     (try simp only [hl497002_74] at HO_8)
     (try simp only [hl497002_74] at HO_483000)
     (try simp only [hl497002_74] at HO_483002)
     (try simp only [hl497002_74] at HO_483003)
     (try simp only [hl497002_74] at HO_483004)
     (try simp only [hl497002_74] at HO_497000)
     (try simp only [hl497002_74] at HO_497003)
     (try simp only [hl497002_74] at HO_497004)
     (try simp only [hl497002_74] at HO_514000)
     (try simp only [hl497002_74] at HO_514002)
     (try simp only [hl497002_74] at HO_514003)
     (try simp only [hl497002_74] at HO_514004)
     have hl497003_74 := (Kd.R_reads' HO_497003.out).1
     rw [hl497003_74] at HO_497003
     (try simp only [hl497003_74])
     (try simp only [hl497003_74] at BK451)
     (try simp only [hl497003_74] at BK482)
     (try simp only [hl497003_74] at BK496)
     (try simp only [hl497003_74] at BK513)
     (try simp only [hl497003_74] at HO_5)
     (try simp only [hl497003_74] at HO_8)
     (try simp only [hl497003_74] at HO_483000)
     (try simp only [hl497003_74] at HO_483002)
     (try simp only [hl497003_74] at HO_483003)
     (try simp only [hl497003_74] at HO_483004)
     (try simp only [hl497003_74] at HO_497000)
     (try simp only [hl497003_74] at HO_497002)
     (try simp only [hl497003_74] at HO_497004)
     (try simp only [hl497003_74] at HO_514000)
     (try simp only [hl497003_74] at HO_514002)
     (try simp only [hl497003_74] at HO_514003)
     (try simp only [hl497003_74] at HO_514004)
     have hl497004_74 := (Kd.R_reads' HO_497004.out).1
     rw [hl497004_74] at HO_497004
     (try simp only [hl497004_74])
     (try simp only [hl497004_74] at BK451)
     (try simp only [hl497004_74] at BK482)
     (try simp only [hl497004_74] at BK496)
     (try simp only [hl497004_74] at BK513)
     (try simp only [hl497004_74] at HO_5)
     (try simp only [hl497004_74] at HO_8)
     (try simp only [hl497004_74] at HO_483000)
     (try simp only [hl497004_74] at HO_483002)
     (try simp only [hl497004_74] at HO_483003)
     (try simp only [hl497004_74] at HO_483004)
     (try simp only [hl497004_74] at HO_497000)
     (try simp only [hl497004_74] at HO_497002)
     (try simp only [hl497004_74] at HO_497003)
     (try simp only [hl497004_74] at HO_514000)
     (try simp only [hl497004_74] at HO_514002)
     (try simp only [hl497004_74] at HO_514003)
     (try simp only [hl497004_74] at HO_514004)
     cases kq with
     | zero => exact absurd HA.out (by simp [laws_FnExactReclaim.j1])
     | succ kj74 =>
      have H := HA.out
      clear HA
      simp only [laws_FnExactReclaim.j1] at H
      by_cases c110 : x63_74 = true
      ·subst c110
       rw [if_pos rfl] at H
       exact absurd ((Option.some.inj H).trans hrt_.out) (by decide)
      replace c110 := Bool.eq_false_iff.mpr c110
      subst c110
      rw [if_neg (show ¬ (false = true) by decide)] at H
      replace H := Option.bind_eq_some_iff.mp H
      obtain ⟨⟨t537, t538, t539, t540, t541⟩, A1110, H⟩ := H
      try dsimp only at H
      have A111 := Aside0.mk A1110
      clear A1110
      replace H := Option.bind_eq_some_iff.mp H
      obtain ⟨⟨t542, t543⟩, A1120, H⟩ := H
      try dsimp only at H
      have A112 := Aside0.mk A1120
      clear A1120
      replace H := Option.bind_eq_some_iff.mp H
      obtain ⟨t544, A1130, H⟩ := H
      try dsimp only at H
      have A113 := Aside0.mk A1130
      clear A1130
      by_cases c114 : t544 < 0
      ·rw [if_pos c114] at H
       have c114b0 : decide (t544 < 0) = true := decide_eq_true c114
       clear c114
       exact absurd ((Option.some.inj H).trans hrt_.out) (by decide)
      rw [if_neg c114] at H
      have c114b0 : decide (t544 < 0) = false := decide_eq_false c114
      clear c114
      replace H := Option.bind_eq_some_iff.mp H
      obtain ⟨t545, A1150, H⟩ := H
      try dsimp only at H
      have A115 := Aside0.mk A1150
      clear A1150
      by_cases c116 : t545 < 0
      ·rw [if_pos c116] at H
       have c116b0 : decide (t545 < 0) = true := decide_eq_true c116
       clear c116
       exact absurd ((Option.some.inj H).trans hrt_.out) (by decide)
      rw [if_neg c116] at H
      have c116b0 : decide (t545 < 0) = false := decide_eq_false c116
      clear c116
      by_cases c117 : t545 = t542
      ·rw [if_pos c117] at H
       have c117b0 : (t545 == t542) = true := beq_iff_eq.mpr c117
       have c117b1 : (t545 != t542) = false := bne_eq_false_iff_eq.mpr c117
       clear c117
       replace H := Option.bind_eq_some_iff.mp H
       obtain ⟨⟨t546, t549, t550, t553, t556⟩, A1180, H⟩ := H
       try dsimp only at H
       have A118 := Aside0.mk A1180
       clear A1180
       replace H := Option.bind_eq_some_iff.mp H
       obtain ⟨⟨t559, t562, t563, t566, t569, t572⟩, A1190, H⟩ := H
       try dsimp only at H
       have A119 := Aside0.mk A1190
       clear A1190
       have HC120 := Aside0.mk H
       clear H
       have hnb121 := NB513_451.out
       have hnc121 := NB451_513.out
       have hnb122 := NB513_482.out
       have hnc122 := NB482_513.out
       have hnb123 := NB513_496.out
       have hnc123 := NB496_513.out
       have hcz124_0 := bz5 BK513
       go_upto_region 29 with (first | ((with_reducible refine gate_callee (f := 17) rfl ?_); refine gl 66 Try.func17 #[.agg #[.slice Ao41 t497.length co41, .int .i64 t500, .slice Ao46 t501.length co46, .slice Ao47 t504.length co47, .slice Ao48 t507.length co48], .int .i64 1] ?_; (with_reducible refine (laws_markPool.calls kj74 (fun k_ => some k_ = (.slice Ao41 t497.length co41 : Value).ownBlock) (.slice Ao41 t497.length co41) t497 t500 (fun k_ => some k_ = (.slice Ao46 t501.length co46 : Value).ownBlock) (.slice Ao46 t501.length co46) t501 (fun k_ => some k_ = (.slice Ao47 t504.length co47 : Value).ownBlock) (.slice Ao47 t504.length co47) t504 (fun k_ => some k_ = (.slice Ao48 t507.length co48 : Value).ownBlock) (.slice Ao48 t507.length co48) t507 1 t537 t538 t539 t540 t541 w _ ?side1 ?side2 ?side3 ?side4 ?side5 ?side6 ?side7 ?side8 ?side9 ?side10 ?side11 A111.out).mono ?_); (case side1 => repeat (first | (with_reducible first | exact HB.out | apply below_alloc | apply pw_below_drewN | apply below_drew1 | refine below_set ?_ GE451.out | refine below_set ?_ GE482.out | refine below_set ?_ GE496.out | refine below_set ?_ GE513.out) | exact HB.out)); (case side2 => exact Kd.R_tight rfl HO_514000.out); (case side3 => exact fun k_ e_ => (HO_514000.out.1 k_ e_.symm).2.2.2.2.2.2.2.2.1); (case side4 => exact fun k_ e_ => (HO_514000.out.1 k_ e_.symm).2.2.2.2.2.2.2.2.2); (case side5 => exact Kd.R_tight rfl HO_514002.out); (case side6 => exact fun k_ e_ => (HO_514002.out.1 k_ e_.symm).2.2.2.2.2.2.2.2.1); (case side7 => exact fun k_ e_ => (HO_514002.out.1 k_ e_.symm).2.2.2.2.2.2.2.2.2); (case side8 => exact Kd.R_tight rfl HO_514003.out); (case side9 => exact Kd.R_tight rfl HO_514004.out); (case side10 => exact fun k_ e_ => (HO_514004.out.1 k_ e_.symm).2.2.2.2.2.2.2.2.1); (case side11 => exact fun k_ e_ => (HO_514004.out.1 k_ e_.symm).2.2.2.2.2.2.2.2.2); rintro e w125 ⟨rfl, hy0, hy1, hy2, hy3, hb, hkp⟩; refine ⟨_, rfl, ?_⟩; replace HO_5 := Aside0.mk (Kd.R_mono (ok' := fun k_ => some k_ ≠ (v511 : Value).ownBlock ∧ nb k_ Ao23 t466.length co23 ∧ nb k_ Ao26 t470.length co26 ∧ nb k_ Ao28 t476.length co28 ∧ nb k_ Ao32 t531.length co32 ∧ nb k_ Ao36 t532.length co36 ∧ nb k_ Ao38 t534.length co38 ∧ nb k_ Ao41 t497.length co41 ∧ nb k_ Ao46 t501.length co46 ∧ nb k_ Ao48 t507.length co48) (Kd.R_keptB ((Kd.R_apart' HO_5.out (Kd.R_typed HO_514003.out) (by decide))) hkp (fun k_ hk_ hs_ => Or.elim hs_ (fun e_ => (hk_.1.2.2.2.2.2.2.2.1) e_) (fun e_ => Or.elim e_ (fun e_ => (hk_.1.2.2.2.2.2.2.2.2.1) e_) (fun e_ => Or.elim e_ (fun e_ => (hk_.2) e_) (fun e_ => (hk_.1.2.2.2.2.2.2.2.2.2) e_))))) cj); replace HO_8 := Aside0.mk (Kd.R_mono (ok' := fun k_ => some k_ ≠ (v480 : Value).ownBlock ∧ nb k_ Ao23 t466.length co23 ∧ nb k_ Ao26 t470.length co26 ∧ nb k_ Ao28 t476.length co28 ∧ nb k_ Ao32 t531.length co32 ∧ nb k_ Ao36 t532.length co36 ∧ nb k_ Ao38 t534.length co38 ∧ nb k_ Ao41 t497.length co41 ∧ nb k_ Ao46 t501.length co46 ∧ nb k_ Ao48 t507.length co48) (Kd.R_keptB ((Kd.R_apart' HO_8.out (Kd.R_typed HO_514003.out) (by decide))) hkp (fun k_ hk_ hs_ => Or.elim hs_ (fun e_ => (hk_.1.2.2.2.2.2.2.2.1) e_) (fun e_ => Or.elim e_ (fun e_ => (hk_.1.2.2.2.2.2.2.2.2.1) e_) (fun e_ => Or.elim e_ (fun e_ => (hk_.2) e_) (fun e_ => (hk_.1.2.2.2.2.2.2.2.2.2) e_))))) cj); replace HO_483000 := Aside0.mk (Kd.R_mono (ok' := fun k_ => some k_ ≠ (v480 : Value).ownBlock ∧ some k_ ≠ (v511 : Value).ownBlock ∧ nb k_ Ao26 t470.length co26 ∧ nb k_ Ao28 t476.length co28 ∧ nb k_ Ao32 t531.length co32 ∧ nb k_ Ao36 t532.length co36 ∧ nb k_ Ao38 t534.length co38 ∧ nb k_ Ao41 t497.length co41 ∧ nb k_ Ao46 t501.length co46 ∧ nb k_ Ao48 t507.length co48) (Kd.R_keptB ((Kd.R_apart' HO_483000.out (Kd.R_typed HO_514003.out) (by decide))) hkp (fun k_ hk_ hs_ => Or.elim hs_ (fun e_ => (hk_.1.2.2.2.2.2.2.2.1) e_) (fun e_ => Or.elim e_ (fun e_ => (hk_.1.2.2.2.2.2.2.2.2.1) e_) (fun e_ => Or.elim e_ (fun e_ => (hk_.2) e_) (fun e_ => (hk_.1.2.2.2.2.2.2.2.2.2) e_))))) cj); replace HO_483002 := Aside0.mk (Kd.R_mono (ok' := fun k_ => some k_ ≠ (v480 : Value).ownBlock ∧ some k_ ≠ (v511 : Value).ownBlock ∧ nb k_ Ao23 t466.length co23 ∧ nb k_ Ao28 t476.length co28 ∧ nb k_ Ao32 t531.length co32 ∧ nb k_ Ao36 t532.length co36 ∧ nb k_ Ao38 t534.length co38 ∧ nb k_ Ao41 t497.length co41 ∧ nb k_ Ao46 t501.length co46 ∧ nb k_ Ao48 t507.length co48) (Kd.R_keptB ((Kd.R_apart' HO_483002.out (Kd.R_typed HO_514003.out) (by decide))) hkp (fun k_ hk_ hs_ => Or.elim hs_ (fun e_ => (hk_.1.2.2.2.2.2.2.2.1) e_) (fun e_ => Or.elim e_ (fun e_ => (hk_.1.2.2.2.2.2.2.2.2.1) e_) (fun e_ => Or.elim e_ (fun e_ => (hk_.2) e_) (fun e_ => (hk_.1.2.2.2.2.2.2.2.2.2) e_))))) cj); replace HO_483003 := Aside0.mk (Kd.R_mono (ok' := fun k_ => nb k_ Ao37 t533.length co37 ∧ nb k_ Ao47 t504.length co47) (Kd.R_keptB ((Kd.R_apart' (Kd.R_apart' (Kd.R_apart' HO_483003.out (Kd.R_typed HO_514000.out) (by decide)) (Kd.R_typed HO_514002.out) (by decide)) (Kd.R_typed HO_514004.out) (by decide))) hkp (fun k_ hk_ hs_ => Or.elim hs_ (fun e_ => (hk_.1.1.2) e_) (fun e_ => Or.elim e_ (fun e_ => (hk_.1.2) e_) (fun e_ => Or.elim e_ (fun e_ => (hk_.1.1.1.2) e_) (fun e_ => (hk_.2) e_))))) cj); replace HO_483004 := Aside0.mk (Kd.R_mono (ok' := fun k_ => some k_ ≠ (v480 : Value).ownBlock ∧ some k_ ≠ (v511 : Value).ownBlock ∧ nb k_ Ao23 t466.length co23 ∧ nb k_ Ao26 t470.length co26 ∧ nb k_ Ao32 t531.length co32 ∧ nb k_ Ao36 t532.length co36 ∧ nb k_ Ao38 t534.length co38 ∧ nb k_ Ao41 t497.length co41 ∧ nb k_ Ao46 t501.length co46 ∧ nb k_ Ao48 t507.length co48) (Kd.R_keptB ((Kd.R_apart' HO_483004.out (Kd.R_typed HO_514003.out) (by decide))) hkp (fun k_ hk_ hs_ => Or.elim hs_ (fun e_ => (hk_.1.2.2.2.2.2.2.2.1) e_) (fun e_ => Or.elim e_ (fun e_ => (hk_.1.2.2.2.2.2.2.2.2.1) e_) (fun e_ => Or.elim e_ (fun e_ => (hk_.2) e_) (fun e_ => (hk_.1.2.2.2.2.2.2.2.2.2) e_))))) cj); replace HO_497000 := Aside0.mk (Kd.R_mono (ok' := fun k_ => some k_ ≠ (v480 : Value).ownBlock ∧ some k_ ≠ (v511 : Value).ownBlock ∧ nb k_ Ao23 t466.length co23 ∧ nb k_ Ao26 t470.length co26 ∧ nb k_ Ao28 t476.length co28 ∧ nb k_ Ao36 t532.length co36 ∧ nb k_ Ao38 t534.length co38 ∧ nb k_ Ao41 t497.length co41 ∧ nb k_ Ao46 t501.length co46 ∧ nb k_ Ao48 t507.length co48) (Kd.R_keptB ((Kd.R_apart' HO_497000.out (Kd.R_typed HO_514003.out) (by decide))) hkp (fun k_ hk_ hs_ => Or.elim hs_ (fun e_ => (hk_.1.2.2.2.2.2.2.2.1) e_) (fun e_ => Or.elim e_ (fun e_ => (hk_.1.2.2.2.2.2.2.2.2.1) e_) (fun e_ => Or.elim e_ (fun e_ => (hk_.2) e_) (fun e_ => (hk_.1.2.2.2.2.2.2.2.2.2) e_))))) cj); replace HO_497002 := Aside0.mk (Kd.R_mono (ok' := fun k_ => some k_ ≠ (v480 : Value).ownBlock ∧ some k_ ≠ (v511 : Value).ownBlock ∧ nb k_ Ao23 t466.length co23 ∧ nb k_ Ao26 t470.length co26 ∧ nb k_ Ao28 t476.length co28 ∧ nb k_ Ao32 t531.length co32 ∧ nb k_ Ao38 t534.length co38 ∧ nb k_ Ao41 t497.length co41 ∧ nb k_ Ao46 t501.length co46 ∧ nb k_ Ao48 t507.length co48) (Kd.R_keptB ((Kd.R_apart' HO_497002.out (Kd.R_typed HO_514003.out) (by decide))) hkp (fun k_ hk_ hs_ => Or.elim hs_ (fun e_ => (hk_.1.2.2.2.2.2.2.2.1) e_) (fun e_ => Or.elim e_ (fun e_ => (hk_.1.2.2.2.2.2.2.2.2.1) e_) (fun e_ => Or.elim e_ (fun e_ => (hk_.2) e_) (fun e_ => (hk_.1.2.2.2.2.2.2.2.2.2) e_))))) cj); replace HO_497003 := Aside0.mk (Kd.R_mono (ok' := fun k_ => nb k_ Ao27 t473.length co27 ∧ nb k_ Ao47 t504.length co47) (Kd.R_keptB ((Kd.R_apart' (Kd.R_apart' (Kd.R_apart' HO_497003.out (Kd.R_typed HO_514000.out) (by decide)) (Kd.R_typed HO_514002.out) (by decide)) (Kd.R_typed HO_514004.out) (by decide))) hkp (fun k_ hk_ hs_ => Or.elim hs_ (fun e_ => (hk_.1.1.2) e_) (fun e_ => Or.elim e_ (fun e_ => (hk_.1.2) e_) (fun e_ => Or.elim e_ (fun e_ => (hk_.1.1.1.2) e_) (fun e_ => (hk_.2) e_))))) cj); replace HO_497004 := Aside0.mk (Kd.R_mono (ok' := fun k_ => some k_ ≠ (v480 : Value).ownBlock ∧ some k_ ≠ (v511 : Value).ownBlock ∧ nb k_ Ao23 t466.length co23 ∧ nb k_ Ao26 t470.length co26 ∧ nb k_ Ao28 t476.length co28 ∧ nb k_ Ao32 t531.length co32 ∧ nb k_ Ao36 t532.length co36 ∧ nb k_ Ao41 t497.length co41 ∧ nb k_ Ao46 t501.length co46 ∧ nb k_ Ao48 t507.length co48) (Kd.R_keptB ((Kd.R_apart' HO_497004.out (Kd.R_typed HO_514003.out) (by decide))) hkp (fun k_ hk_ hs_ => Or.elim hs_ (fun e_ => (hk_.1.2.2.2.2.2.2.2.1) e_) (fun e_ => Or.elim e_ (fun e_ => (hk_.1.2.2.2.2.2.2.2.2.1) e_) (fun e_ => Or.elim e_ (fun e_ => (hk_.2) e_) (fun e_ => (hk_.1.2.2.2.2.2.2.2.2.2) e_))))) cj); replace BK451 := Aside0.mk (blk_kept (bk BK451) hkp (fun hs_ => Or.elim hs_ (fun e_ => (fun e_ => (Kd.R_ne HO_514000.out BK451.out (by decide)) e_) e_) (fun e_ => Or.elim e_ (fun e_ => (fun e_ => (Kd.R_ne HO_514002.out BK451.out (by decide)) e_) e_) (fun e_ => Or.elim e_ (fun e_ => (fun e_ => (Kd.R_ne HO_514003.out BK451.out (by decide)) e_) e_) (fun e_ => (fun e_ => (Kd.R_ne HO_514004.out BK451.out (by decide)) e_) e_))))); replace BK482 := Aside0.mk (blk_kept (bk BK482) hkp (fun hs_ => Or.elim hs_ (fun e_ => (fun e_ => (Kd.R_ne HO_514000.out BK482.out (by decide)) e_) e_) (fun e_ => Or.elim e_ (fun e_ => (fun e_ => (Kd.R_ne HO_514002.out BK482.out (by decide)) e_) e_) (fun e_ => Or.elim e_ (fun e_ => (fun e_ => (Kd.R_ne HO_514003.out BK482.out (by decide)) e_) e_) (fun e_ => (fun e_ => (Kd.R_ne HO_514004.out BK482.out (by decide)) e_) e_))))); replace BK496 := Aside0.mk (blk_kept (bk BK496) hkp (fun hs_ => Or.elim hs_ (fun e_ => (fun e_ => (Kd.R_ne HO_514000.out BK496.out (by decide)) e_) e_) (fun e_ => Or.elim e_ (fun e_ => (fun e_ => (Kd.R_ne HO_514002.out BK496.out (by decide)) e_) e_) (fun e_ => Or.elim e_ (fun e_ => (fun e_ => (Kd.R_ne HO_514003.out BK496.out (by decide)) e_) e_) (fun e_ => (fun e_ => (Kd.R_ne HO_514004.out BK496.out (by decide)) e_) e_))))); replace BK513 := Aside0.mk (blk_kept (bk BK513) hkp (fun hs_ => Or.elim hs_ (fun e_ => (fun e_ => (Kd.R_ne HO_514000.out BK513.out (by decide)) e_) e_) (fun e_ => Or.elim e_ (fun e_ => (fun e_ => (Kd.R_ne HO_514002.out BK513.out (by decide)) e_) e_) (fun e_ => Or.elim e_ (fun e_ => (fun e_ => (Kd.R_ne HO_514003.out BK513.out (by decide)) e_) e_) (fun e_ => (fun e_ => (Kd.R_ne HO_514004.out BK513.out (by decide)) e_) e_))))); replace HO_514000 := Aside0.mk (Kd.R_reok rfl hy0 (fun k_ e_ => HO_514000.out.1 k_ e_)); replace HO_514002 := Aside0.mk (Kd.R_reok rfl hy1 (fun k_ e_ => HO_514002.out.1 k_ e_)); replace HO_514003 := Aside0.mk (Kd.R_reok rfl hy2 (fun k_ e_ => HO_514003.out.1 k_ e_)); replace HO_514004 := Aside0.mk (Kd.R_reok rfl hy3 (fun k_ e_ => HO_514004.out.1 k_ e_)); replace HB := Aside0.mk (hb); (try clear hb); (try clear hkp); (try clear hy0); (try clear hy1); (try clear hy2); (try clear hy3); obtain ⟨Ao126, co126, eo126⟩ := Kd.R_slice HO_8.out; subst eo126) | ((with_reducible refine gate_callee (f := 34) rfl ?_); refine gl 69 Try.func34 #[.slice Ao126 t510.length co126, .int .i64 t537] ?_; (with_reducible refine (laws_markIntS.calls kj74 (fun k_ => some k_ = (.slice Ao126 t510.length co126 : Value).ownBlock) (.slice Ao126 t510.length co126) t510 t537 t542 t543 w _ ?side1 ?side2 A112.out).mono ?_); (case side1 => repeat (first | (with_reducible first | exact HB.out | apply below_alloc | apply pw_below_drewN | apply below_drew1 | refine below_set ?_ GE451.out | refine below_set ?_ GE482.out | refine below_set ?_ GE496.out | refine below_set ?_ GE513.out) | exact HB.out)); (case side2 => exact Kd.R_tight rfl HO_8.out); rintro e w127 ⟨rfl, hy0, hb, hkp⟩; refine ⟨_, rfl, ?_⟩; replace HO_5 := Aside0.mk (Kd.R_mono (ok' := fun k_ => nb k_ Ao126 t510.length co126 ∧ nb k_ Ao23 t466.length co23 ∧ nb k_ Ao26 t470.length co26 ∧ nb k_ Ao28 t476.length co28 ∧ nb k_ Ao32 t531.length co32 ∧ nb k_ Ao36 t532.length co36 ∧ nb k_ Ao38 t534.length co38 ∧ nb k_ Ao41 t497.length co41 ∧ nb k_ Ao46 t501.length co46 ∧ nb k_ Ao48 t507.length co48) (Kd.R_keptB (HO_5.out) hkp (fun k_ hk_ hs_ => by first | exact hk_.1 hs_ | exact hk_ hs_ | exact hk_.1 hs_ | exact hk_.2 hs_ | exact hk_.1.1 hs_ | exact hk_.1.2 hs_ | exact hk_.2.1 hs_ | exact hk_.2.2 hs_ | exact hk_.1.1.1 hs_ | exact hk_.1.1.2 hs_ | exact hk_.1.2.1 hs_ | exact hk_.1.2.2 hs_ | exact hk_.2.1.1 hs_ | exact hk_.2.1.2 hs_ | exact hk_.2.2.1 hs_ | exact hk_.2.2.2 hs_ | exact hk_.1.1.1.1 hs_ | exact hk_.1.1.1.2 hs_ | exact hk_.1.1.2.1 hs_ | exact hk_.1.1.2.2 hs_ | exact hk_.1.2.1.1 hs_ | exact hk_.1.2.1.2 hs_ | exact hk_.1.2.2.1 hs_ | exact hk_.1.2.2.2 hs_ | exact hk_.2.1.1.1 hs_ | exact hk_.2.1.1.2 hs_ | exact hk_.2.1.2.1 hs_ | exact hk_.2.1.2.2 hs_ | exact hk_.2.2.1.1 hs_ | exact hk_.2.2.1.2 hs_ | exact hk_.2.2.2.1 hs_ | exact hk_.2.2.2.2 hs_)) cj); replace HO_483000 := Aside0.mk (Kd.R_mono (ok' := fun k_ => some k_ ≠ (v480 : Value).ownBlock ∧ nb k_ Ao126 t510.length co126 ∧ nb k_ Ao26 t470.length co26 ∧ nb k_ Ao28 t476.length co28 ∧ nb k_ Ao32 t531.length co32 ∧ nb k_ Ao36 t532.length co36 ∧ nb k_ Ao38 t534.length co38 ∧ nb k_ Ao41 t497.length co41 ∧ nb k_ Ao46 t501.length co46 ∧ nb k_ Ao48 t507.length co48) (Kd.R_keptB (HO_483000.out) hkp (fun k_ hk_ hs_ => by first | exact hk_.2.1 hs_ | exact hk_ hs_ | exact hk_.1 hs_ | exact hk_.2 hs_ | exact hk_.1.1 hs_ | exact hk_.1.2 hs_ | exact hk_.2.1 hs_ | exact hk_.2.2 hs_ | exact hk_.1.1.1 hs_ | exact hk_.1.1.2 hs_ | exact hk_.1.2.1 hs_ | exact hk_.1.2.2 hs_ | exact hk_.2.1.1 hs_ | exact hk_.2.1.2 hs_ | exact hk_.2.2.1 hs_ | exact hk_.2.2.2 hs_ | exact hk_.1.1.1.1 hs_ | exact hk_.1.1.1.2 hs_ | exact hk_.1.1.2.1 hs_ | exact hk_.1.1.2.2 hs_ | exact hk_.1.2.1.1 hs_ | exact hk_.1.2.1.2 hs_ | exact hk_.1.2.2.1 hs_ | exact hk_.1.2.2.2 hs_ | exact hk_.2.1.1.1 hs_ | exact hk_.2.1.1.2 hs_ | exact hk_.2.1.2.1 hs_ | exact hk_.2.1.2.2 hs_ | exact hk_.2.2.1.1 hs_ | exact hk_.2.2.1.2 hs_ | exact hk_.2.2.2.1 hs_ | exact hk_.2.2.2.2 hs_)) cj); replace HO_483002 := Aside0.mk (Kd.R_mono (ok' := fun k_ => some k_ ≠ (v480 : Value).ownBlock ∧ nb k_ Ao126 t510.length co126 ∧ nb k_ Ao23 t466.length co23 ∧ nb k_ Ao28 t476.length co28 ∧ nb k_ Ao32 t531.length co32 ∧ nb k_ Ao36 t532.length co36 ∧ nb k_ Ao38 t534.length co38 ∧ nb k_ Ao41 t497.length co41 ∧ nb k_ Ao46 t501.length co46 ∧ nb k_ Ao48 t507.length co48) (Kd.R_keptB (HO_483002.out) hkp (fun k_ hk_ hs_ => by first | exact hk_.2.1 hs_ | exact hk_ hs_ | exact hk_.1 hs_ | exact hk_.2 hs_ | exact hk_.1.1 hs_ | exact hk_.1.2 hs_ | exact hk_.2.1 hs_ | exact hk_.2.2 hs_ | exact hk_.1.1.1 hs_ | exact hk_.1.1.2 hs_ | exact hk_.1.2.1 hs_ | exact hk_.1.2.2 hs_ | exact hk_.2.1.1 hs_ | exact hk_.2.1.2 hs_ | exact hk_.2.2.1 hs_ | exact hk_.2.2.2 hs_ | exact hk_.1.1.1.1 hs_ | exact hk_.1.1.1.2 hs_ | exact hk_.1.1.2.1 hs_ | exact hk_.1.1.2.2 hs_ | exact hk_.1.2.1.1 hs_ | exact hk_.1.2.1.2 hs_ | exact hk_.1.2.2.1 hs_ | exact hk_.1.2.2.2 hs_ | exact hk_.2.1.1.1 hs_ | exact hk_.2.1.1.2 hs_ | exact hk_.2.1.2.1 hs_ | exact hk_.2.1.2.2 hs_ | exact hk_.2.2.1.1 hs_ | exact hk_.2.2.1.2 hs_ | exact hk_.2.2.2.1 hs_ | exact hk_.2.2.2.2 hs_)) cj); replace HO_483003 := Aside0.mk (Kd.R_mono (ok' := fun k_ => nb k_ Ao37 t533.length co37 ∧ nb k_ Ao47 t504.length co47) (Kd.R_keptB ((Kd.R_apart' HO_483003.out (Kd.R_typed HO_8.out) (by decide))) hkp (fun k_ hk_ hs_ => by first | exact hk_.2 hs_ | exact hk_ hs_ | exact hk_.1 hs_ | exact hk_.2 hs_ | exact hk_.1.1 hs_ | exact hk_.1.2 hs_ | exact hk_.2.1 hs_ | exact hk_.2.2 hs_ | exact hk_.1.1.1 hs_ | exact hk_.1.1.2 hs_ | exact hk_.1.2.1 hs_ | exact hk_.1.2.2 hs_ | exact hk_.2.1.1 hs_ | exact hk_.2.1.2 hs_ | exact hk_.2.2.1 hs_ | exact hk_.2.2.2 hs_ | exact hk_.1.1.1.1 hs_ | exact hk_.1.1.1.2 hs_ | exact hk_.1.1.2.1 hs_ | exact hk_.1.1.2.2 hs_ | exact hk_.1.2.1.1 hs_ | exact hk_.1.2.1.2 hs_ | exact hk_.1.2.2.1 hs_ | exact hk_.1.2.2.2 hs_ | exact hk_.2.1.1.1 hs_ | exact hk_.2.1.1.2 hs_ | exact hk_.2.1.2.1 hs_ | exact hk_.2.1.2.2 hs_ | exact hk_.2.2.1.1 hs_ | exact hk_.2.2.1.2 hs_ | exact hk_.2.2.2.1 hs_ | exact hk_.2.2.2.2 hs_)) cj); replace HO_483004 := Aside0.mk (Kd.R_mono (ok' := fun k_ => some k_ ≠ (v480 : Value).ownBlock ∧ nb k_ Ao126 t510.length co126 ∧ nb k_ Ao23 t466.length co23 ∧ nb k_ Ao26 t470.length co26 ∧ nb k_ Ao32 t531.length co32 ∧ nb k_ Ao36 t532.length co36 ∧ nb k_ Ao38 t534.length co38 ∧ nb k_ Ao41 t497.length co41 ∧ nb k_ Ao46 t501.length co46 ∧ nb k_ Ao48 t507.length co48) (Kd.R_keptB (HO_483004.out) hkp (fun k_ hk_ hs_ => by first | exact hk_.2.1 hs_ | exact hk_ hs_ | exact hk_.1 hs_ | exact hk_.2 hs_ | exact hk_.1.1 hs_ | exact hk_.1.2 hs_ | exact hk_.2.1 hs_ | exact hk_.2.2 hs_ | exact hk_.1.1.1 hs_ | exact hk_.1.1.2 hs_ | exact hk_.1.2.1 hs_ | exact hk_.1.2.2 hs_ | exact hk_.2.1.1 hs_ | exact hk_.2.1.2 hs_ | exact hk_.2.2.1 hs_ | exact hk_.2.2.2 hs_ | exact hk_.1.1.1.1 hs_ | exact hk_.1.1.1.2 hs_ | exact hk_.1.1.2.1 hs_ | exact hk_.1.1.2.2 hs_ | exact hk_.1.2.1.1 hs_ | exact hk_.1.2.1.2 hs_ | exact hk_.1.2.2.1 hs_ | exact hk_.1.2.2.2 hs_ | exact hk_.2.1.1.1 hs_ | exact hk_.2.1.1.2 hs_ | exact hk_.2.1.2.1 hs_ | exact hk_.2.1.2.2 hs_ | exact hk_.2.2.1.1 hs_ | exact hk_.2.2.1.2 hs_ | exact hk_.2.2.2.1 hs_ | exact hk_.2.2.2.2 hs_)) cj); replace HO_497000 := Aside0.mk (Kd.R_mono (ok' := fun k_ => some k_ ≠ (v480 : Value).ownBlock ∧ nb k_ Ao126 t510.length co126 ∧ nb k_ Ao23 t466.length co23 ∧ nb k_ Ao26 t470.length co26 ∧ nb k_ Ao28 t476.length co28 ∧ nb k_ Ao36 t532.length co36 ∧ nb k_ Ao38 t534.length co38 ∧ nb k_ Ao41 t497.length co41 ∧ nb k_ Ao46 t501.length co46 ∧ nb k_ Ao48 t507.length co48) (Kd.R_keptB (HO_497000.out) hkp (fun k_ hk_ hs_ => by first | exact hk_.2.1 hs_ | exact hk_ hs_ | exact hk_.1 hs_ | exact hk_.2 hs_ | exact hk_.1.1 hs_ | exact hk_.1.2 hs_ | exact hk_.2.1 hs_ | exact hk_.2.2 hs_ | exact hk_.1.1.1 hs_ | exact hk_.1.1.2 hs_ | exact hk_.1.2.1 hs_ | exact hk_.1.2.2 hs_ | exact hk_.2.1.1 hs_ | exact hk_.2.1.2 hs_ | exact hk_.2.2.1 hs_ | exact hk_.2.2.2 hs_ | exact hk_.1.1.1.1 hs_ | exact hk_.1.1.1.2 hs_ | exact hk_.1.1.2.1 hs_ | exact hk_.1.1.2.2 hs_ | exact hk_.1.2.1.1 hs_ | exact hk_.1.2.1.2 hs_ | exact hk_.1.2.2.1 hs_ | exact hk_.1.2.2.2 hs_ | exact hk_.2.1.1.1 hs_ | exact hk_.2.1.1.2 hs_ | exact hk_.2.1.2.1 hs_ | exact hk_.2.1.2.2 hs_ | exact hk_.2.2.1.1 hs_ | exact hk_.2.2.1.2 hs_ | exact hk_.2.2.2.1 hs_ | exact hk_.2.2.2.2 hs_)) cj); replace HO_497002 := Aside0.mk (Kd.R_mono (ok' := fun k_ => some k_ ≠ (v480 : Value).ownBlock ∧ nb k_ Ao126 t510.length co126 ∧ nb k_ Ao23 t466.length co23 ∧ nb k_ Ao26 t470.length co26 ∧ nb k_ Ao28 t476.length co28 ∧ nb k_ Ao32 t531.length co32 ∧ nb k_ Ao38 t534.length co38 ∧ nb k_ Ao41 t497.length co41 ∧ nb k_ Ao46 t501.length co46 ∧ nb k_ Ao48 t507.length co48) (Kd.R_keptB (HO_497002.out) hkp (fun k_ hk_ hs_ => by first | exact hk_.2.1 hs_ | exact hk_ hs_ | exact hk_.1 hs_ | exact hk_.2 hs_ | exact hk_.1.1 hs_ | exact hk_.1.2 hs_ | exact hk_.2.1 hs_ | exact hk_.2.2 hs_ | exact hk_.1.1.1 hs_ | exact hk_.1.1.2 hs_ | exact hk_.1.2.1 hs_ | exact hk_.1.2.2 hs_ | exact hk_.2.1.1 hs_ | exact hk_.2.1.2 hs_ | exact hk_.2.2.1 hs_ | exact hk_.2.2.2 hs_ | exact hk_.1.1.1.1 hs_ | exact hk_.1.1.1.2 hs_ | exact hk_.1.1.2.1 hs_ | exact hk_.1.1.2.2 hs_ | exact hk_.1.2.1.1 hs_ | exact hk_.1.2.1.2 hs_ | exact hk_.1.2.2.1 hs_ | exact hk_.1.2.2.2 hs_ | exact hk_.2.1.1.1 hs_ | exact hk_.2.1.1.2 hs_ | exact hk_.2.1.2.1 hs_ | exact hk_.2.1.2.2 hs_ | exact hk_.2.2.1.1 hs_ | exact hk_.2.2.1.2 hs_ | exact hk_.2.2.2.1 hs_ | exact hk_.2.2.2.2 hs_)) cj); replace HO_497003 := Aside0.mk (Kd.R_mono (ok' := fun k_ => nb k_ Ao27 t473.length co27 ∧ nb k_ Ao47 t504.length co47) (Kd.R_keptB ((Kd.R_apart' HO_497003.out (Kd.R_typed HO_8.out) (by decide))) hkp (fun k_ hk_ hs_ => by first | exact hk_.2 hs_ | exact hk_ hs_ | exact hk_.1 hs_ | exact hk_.2 hs_ | exact hk_.1.1 hs_ | exact hk_.1.2 hs_ | exact hk_.2.1 hs_ | exact hk_.2.2 hs_ | exact hk_.1.1.1 hs_ | exact hk_.1.1.2 hs_ | exact hk_.1.2.1 hs_ | exact hk_.1.2.2 hs_ | exact hk_.2.1.1 hs_ | exact hk_.2.1.2 hs_ | exact hk_.2.2.1 hs_ | exact hk_.2.2.2 hs_ | exact hk_.1.1.1.1 hs_ | exact hk_.1.1.1.2 hs_ | exact hk_.1.1.2.1 hs_ | exact hk_.1.1.2.2 hs_ | exact hk_.1.2.1.1 hs_ | exact hk_.1.2.1.2 hs_ | exact hk_.1.2.2.1 hs_ | exact hk_.1.2.2.2 hs_ | exact hk_.2.1.1.1 hs_ | exact hk_.2.1.1.2 hs_ | exact hk_.2.1.2.1 hs_ | exact hk_.2.1.2.2 hs_ | exact hk_.2.2.1.1 hs_ | exact hk_.2.2.1.2 hs_ | exact hk_.2.2.2.1 hs_ | exact hk_.2.2.2.2 hs_)) cj); replace HO_497004 := Aside0.mk (Kd.R_mono (ok' := fun k_ => some k_ ≠ (v480 : Value).ownBlock ∧ nb k_ Ao126 t510.length co126 ∧ nb k_ Ao23 t466.length co23 ∧ nb k_ Ao26 t470.length co26 ∧ nb k_ Ao28 t476.length co28 ∧ nb k_ Ao32 t531.length co32 ∧ nb k_ Ao36 t532.length co36 ∧ nb k_ Ao41 t497.length co41 ∧ nb k_ Ao46 t501.length co46 ∧ nb k_ Ao48 t507.length co48) (Kd.R_keptB (HO_497004.out) hkp (fun k_ hk_ hs_ => by first | exact hk_.2.1 hs_ | exact hk_ hs_ | exact hk_.1 hs_ | exact hk_.2 hs_ | exact hk_.1.1 hs_ | exact hk_.1.2 hs_ | exact hk_.2.1 hs_ | exact hk_.2.2 hs_ | exact hk_.1.1.1 hs_ | exact hk_.1.1.2 hs_ | exact hk_.1.2.1 hs_ | exact hk_.1.2.2 hs_ | exact hk_.2.1.1 hs_ | exact hk_.2.1.2 hs_ | exact hk_.2.2.1 hs_ | exact hk_.2.2.2 hs_ | exact hk_.1.1.1.1 hs_ | exact hk_.1.1.1.2 hs_ | exact hk_.1.1.2.1 hs_ | exact hk_.1.1.2.2 hs_ | exact hk_.1.2.1.1 hs_ | exact hk_.1.2.1.2 hs_ | exact hk_.1.2.2.1 hs_ | exact hk_.1.2.2.2 hs_ | exact hk_.2.1.1.1 hs_ | exact hk_.2.1.1.2 hs_ | exact hk_.2.1.2.1 hs_ | exact hk_.2.1.2.2 hs_ | exact hk_.2.2.1.1 hs_ | exact hk_.2.2.1.2 hs_ | exact hk_.2.2.2.1 hs_ | exact hk_.2.2.2.2 hs_)) cj); replace HO_514000 := Aside0.mk (Kd.R_mono (ok' := fun k_ => some k_ ≠ (v480 : Value).ownBlock ∧ nb k_ Ao126 t510.length co126 ∧ nb k_ Ao23 t466.length co23 ∧ nb k_ Ao26 t470.length co26 ∧ nb k_ Ao28 t476.length co28 ∧ nb k_ Ao32 t531.length co32 ∧ nb k_ Ao36 t532.length co36 ∧ nb k_ Ao38 t534.length co38 ∧ nb k_ Ao46 t501.length co46 ∧ nb k_ Ao48 t507.length co48) (Kd.R_keptB (HO_514000.out) hkp (fun k_ hk_ hs_ => by first | exact hk_.2.1 hs_ | exact hk_ hs_ | exact hk_.1 hs_ | exact hk_.2 hs_ | exact hk_.1.1 hs_ | exact hk_.1.2 hs_ | exact hk_.2.1 hs_ | exact hk_.2.2 hs_ | exact hk_.1.1.1 hs_ | exact hk_.1.1.2 hs_ | exact hk_.1.2.1 hs_ | exact hk_.1.2.2 hs_ | exact hk_.2.1.1 hs_ | exact hk_.2.1.2 hs_ | exact hk_.2.2.1 hs_ | exact hk_.2.2.2 hs_ | exact hk_.1.1.1.1 hs_ | exact hk_.1.1.1.2 hs_ | exact hk_.1.1.2.1 hs_ | exact hk_.1.1.2.2 hs_ | exact hk_.1.2.1.1 hs_ | exact hk_.1.2.1.2 hs_ | exact hk_.1.2.2.1 hs_ | exact hk_.1.2.2.2 hs_ | exact hk_.2.1.1.1 hs_ | exact hk_.2.1.1.2 hs_ | exact hk_.2.1.2.1 hs_ | exact hk_.2.1.2.2 hs_ | exact hk_.2.2.1.1 hs_ | exact hk_.2.2.1.2 hs_ | exact hk_.2.2.2.1 hs_ | exact hk_.2.2.2.2 hs_)) cj); replace HO_514002 := Aside0.mk (Kd.R_mono (ok' := fun k_ => some k_ ≠ (v480 : Value).ownBlock ∧ nb k_ Ao126 t510.length co126 ∧ nb k_ Ao23 t466.length co23 ∧ nb k_ Ao26 t470.length co26 ∧ nb k_ Ao28 t476.length co28 ∧ nb k_ Ao32 t531.length co32 ∧ nb k_ Ao36 t532.length co36 ∧ nb k_ Ao38 t534.length co38 ∧ nb k_ Ao41 t497.length co41 ∧ nb k_ Ao48 t507.length co48) (Kd.R_keptB (HO_514002.out) hkp (fun k_ hk_ hs_ => by first | exact hk_.2.1 hs_ | exact hk_ hs_ | exact hk_.1 hs_ | exact hk_.2 hs_ | exact hk_.1.1 hs_ | exact hk_.1.2 hs_ | exact hk_.2.1 hs_ | exact hk_.2.2 hs_ | exact hk_.1.1.1 hs_ | exact hk_.1.1.2 hs_ | exact hk_.1.2.1 hs_ | exact hk_.1.2.2 hs_ | exact hk_.2.1.1 hs_ | exact hk_.2.1.2 hs_ | exact hk_.2.2.1 hs_ | exact hk_.2.2.2 hs_ | exact hk_.1.1.1.1 hs_ | exact hk_.1.1.1.2 hs_ | exact hk_.1.1.2.1 hs_ | exact hk_.1.1.2.2 hs_ | exact hk_.1.2.1.1 hs_ | exact hk_.1.2.1.2 hs_ | exact hk_.1.2.2.1 hs_ | exact hk_.1.2.2.2 hs_ | exact hk_.2.1.1.1 hs_ | exact hk_.2.1.1.2 hs_ | exact hk_.2.1.2.1 hs_ | exact hk_.2.1.2.2 hs_ | exact hk_.2.2.1.1 hs_ | exact hk_.2.2.1.2 hs_ | exact hk_.2.2.2.1 hs_ | exact hk_.2.2.2.2 hs_)) cj); replace HO_514003 := Aside0.mk (Kd.R_mono (ok' := fun k_ => nb k_ Ao27 t473.length co27 ∧ nb k_ Ao37 t533.length co37) (Kd.R_keptB ((Kd.R_apart' HO_514003.out (Kd.R_typed HO_8.out) (by decide))) hkp (fun k_ hk_ hs_ => by first | exact hk_.2 hs_ | exact hk_ hs_ | exact hk_.1 hs_ | exact hk_.2 hs_ | exact hk_.1.1 hs_ | exact hk_.1.2 hs_ | exact hk_.2.1 hs_ | exact hk_.2.2 hs_ | exact hk_.1.1.1 hs_ | exact hk_.1.1.2 hs_ | exact hk_.1.2.1 hs_ | exact hk_.1.2.2 hs_ | exact hk_.2.1.1 hs_ | exact hk_.2.1.2 hs_ | exact hk_.2.2.1 hs_ | exact hk_.2.2.2 hs_ | exact hk_.1.1.1.1 hs_ | exact hk_.1.1.1.2 hs_ | exact hk_.1.1.2.1 hs_ | exact hk_.1.1.2.2 hs_ | exact hk_.1.2.1.1 hs_ | exact hk_.1.2.1.2 hs_ | exact hk_.1.2.2.1 hs_ | exact hk_.1.2.2.2 hs_ | exact hk_.2.1.1.1 hs_ | exact hk_.2.1.1.2 hs_ | exact hk_.2.1.2.1 hs_ | exact hk_.2.1.2.2 hs_ | exact hk_.2.2.1.1 hs_ | exact hk_.2.2.1.2 hs_ | exact hk_.2.2.2.1 hs_ | exact hk_.2.2.2.2 hs_)) cj); replace HO_514004 := Aside0.mk (Kd.R_mono (ok' := fun k_ => some k_ ≠ (v480 : Value).ownBlock ∧ nb k_ Ao126 t510.length co126 ∧ nb k_ Ao23 t466.length co23 ∧ nb k_ Ao26 t470.length co26 ∧ nb k_ Ao28 t476.length co28 ∧ nb k_ Ao32 t531.length co32 ∧ nb k_ Ao36 t532.length co36 ∧ nb k_ Ao38 t534.length co38 ∧ nb k_ Ao41 t497.length co41 ∧ nb k_ Ao46 t501.length co46) (Kd.R_keptB (HO_514004.out) hkp (fun k_ hk_ hs_ => by first | exact hk_.2.1 hs_ | exact hk_ hs_ | exact hk_.1 hs_ | exact hk_.2 hs_ | exact hk_.1.1 hs_ | exact hk_.1.2 hs_ | exact hk_.2.1 hs_ | exact hk_.2.2 hs_ | exact hk_.1.1.1 hs_ | exact hk_.1.1.2 hs_ | exact hk_.1.2.1 hs_ | exact hk_.1.2.2 hs_ | exact hk_.2.1.1 hs_ | exact hk_.2.1.2 hs_ | exact hk_.2.2.1 hs_ | exact hk_.2.2.2 hs_ | exact hk_.1.1.1.1 hs_ | exact hk_.1.1.1.2 hs_ | exact hk_.1.1.2.1 hs_ | exact hk_.1.1.2.2 hs_ | exact hk_.1.2.1.1 hs_ | exact hk_.1.2.1.2 hs_ | exact hk_.1.2.2.1 hs_ | exact hk_.1.2.2.2 hs_ | exact hk_.2.1.1.1 hs_ | exact hk_.2.1.1.2 hs_ | exact hk_.2.1.2.1 hs_ | exact hk_.2.1.2.2 hs_ | exact hk_.2.2.1.1 hs_ | exact hk_.2.2.1.2 hs_ | exact hk_.2.2.2.1 hs_ | exact hk_.2.2.2.2 hs_)) cj); replace BK451 := Aside0.mk (blk_kept (bk BK451) hkp (fun hs_ => (fun e_ => (Kd.R_ne HO_8.out BK451.out (by decide)) e_) hs_)); replace BK482 := Aside0.mk (blk_kept (bk BK482) hkp (fun hs_ => (fun e_ => (Kd.R_ne HO_8.out BK482.out (by decide)) e_) hs_)); replace BK496 := Aside0.mk (blk_kept (bk BK496) hkp (fun hs_ => (fun e_ => (Kd.R_ne HO_8.out BK496.out (by decide)) e_) hs_)); replace BK513 := Aside0.mk (blk_kept (bk BK513) hkp (fun hs_ => (fun e_ => (Kd.R_ne HO_8.out BK513.out (by decide)) e_) hs_)); replace HO_8 := Aside0.mk (Kd.R_reok rfl hy0 (fun k_ e_ => HO_8.out.1 k_ e_)); replace HB := Aside0.mk (hb); (try clear hb); (try clear hkp); (try clear hy0); have hcz128_0 := bz5 BK513) | ((with_reducible refine gate_callee (f := 18) rfl ?_); refine goesL_ (some 72) rfl rfl Try.func18 (by kernel_rfl) rfl #[.agg #[.slice Ao41 t538.length co41, .int .i64 t500, .slice Ao46 t539.length co46, .slice Ao47 t540.length co47, .slice Ao48 t541.length co48], .int .i64 1] rfl (by (try simp only [List.map_toArray, List.map_cons, List.map_nil]); first | done | (rw [show t538.length = t497.length from (Kd.R_reads' HO_514000.out).1.symm, show t539.length = t501.length from (Kd.R_reads' HO_514002.out).1.symm, show t540.length = t504.length from (Kd.R_reads' HO_514003.out).1.symm, show t541.length = t507.length from (Kd.R_reads' HO_514004.out).1.symm] <;> rfl) | rfl | (simp only [List.length_drop, List.length_take]; rfl)) ?_; (with_reducible refine (laws_heldPool.calls kj74 _ _ t538 t500 _ _ t539 _ _ t540 _ _ t541 1 t544 _ (cr HO_514000) ?side2 (cr HO_514002) ?side4 (cr HO_514003) ?side6 (cr HO_514004) ?side8 A113.out).mono ?_); (case side2 => rw [show t538.length = t497.length from (Kd.R_reads' HO_514000.out).1.symm]; exact (Kd.R_reads' HO_514000.out).2.1); (case side4 => rw [show t539.length = t501.length from (Kd.R_reads' HO_514002.out).1.symm]; exact (Kd.R_reads' HO_514002.out).2.1); (case side6 => rw [show t540.length = t504.length from (Kd.R_reads' HO_514003.out).1.symm]; exact (Kd.R_reads' HO_514003.out).2.1); (case side8 => rw [show t541.length = t507.length from (Kd.R_reads' HO_514004.out).1.symm]; exact (Kd.R_reads' HO_514004.out).2.1); rintro e w129 ⟨rfl, hb⟩; refine ⟨_, rfl, ?_⟩; replace HO_5 := rb HO_5 hb; replace HO_8 := rb HO_8 hb; replace HO_483000 := rb HO_483000 hb; replace HO_483002 := rb HO_483002 hb; replace HO_483003 := rb HO_483003 hb; replace HO_483004 := rb HO_483004 hb; replace HO_497000 := rb HO_497000 hb; replace HO_497002 := rb HO_497002 hb; replace HO_497003 := rb HO_497003 hb; replace HO_497004 := rb HO_497004 hb; replace HO_514000 := rb HO_514000 hb; replace HO_514002 := rb HO_514002 hb; replace HO_514003 := rb HO_514003 hb; replace HO_514004 := rb HO_514004 hb; replace BK451 := bb BK451 hb; replace BK482 := bb BK482 hb; replace BK496 := bb BK496 hb; replace BK513 := bb BK513 hb; replace HB := Aside0.mk (below_step (be4 HB GE451 GE482 GE496 GE513) hb); (try clear hb)) | ((with_reducible refine gate_callee (f := 35) rfl ?_); refine goesL_ (some 77) rfl rfl Try.func35 (by kernel_rfl) rfl #[.slice Ao126 t543.length co126, .int .i64 t544] rfl (by (try simp only [List.map_toArray, List.map_cons, List.map_nil]); first | done | (rw [show t543.length = t510.length from (Kd.R_reads' HO_8.out).1.symm] <;> rfl) | rfl | (simp only [List.length_drop, List.length_take]; rfl)) ?_; (with_reducible refine (laws_heldIntS.calls kj74 _ _ t543 t544 t545 _ (cr HO_8) ?side2 A115.out).mono ?_); (case side2 => rw [show t543.length = t510.length from (Kd.R_reads' HO_8.out).1.symm]; exact (Kd.R_reads' HO_8.out).2.1); rintro e w' ⟨rfl, ⟨nd, rfl⟩⟩; refine ⟨_, rfl, ?_⟩; (try (rw [drewN_self w129]; generalize hq_ : World.drewN w129 _ = w129; have n0_ : Aside0 (Kd.R (Kd.int .i64) 3 w129 w.heap.size (fun k_ => nb k_ Ao26 t470.length co26 ∧ nb k_ Ao28 t476.length co28 ∧ nb k_ Ao32 t531.length co32 ∧ nb k_ Ao36 t532.length co36 ∧ nb k_ Ao38 t534.length co38 ∧ some k_ ≠ (v480 : Value).ownBlock ∧ nb k_ Ao41 t497.length co41 ∧ nb k_ Ao46 t501.length co46 ∧ nb k_ Ao48 t507.length co48 ∧ nb k_ Ao126 t510.length co126) (.slice Ao23 t466.length co23) t466) := ⟨by rw [← hq_]; exact (by (with_reducible repeat (first | apply Kd.R_alloc | apply Kd.R_drewN | apply Kd.R_drew)); exact rm HO_483000)⟩; have n1_ : Aside0 (Kd.R (Kd.int .i64) 3 w129 w.heap.size (fun k_ => nb k_ Ao23 t466.length co23 ∧ nb k_ Ao28 t476.length co28 ∧ nb k_ Ao32 t531.length co32 ∧ nb k_ Ao36 t532.length co36 ∧ nb k_ Ao38 t534.length co38 ∧ some k_ ≠ (v480 : Value).ownBlock ∧ nb k_ Ao41 t497.length co41 ∧ nb k_ Ao46 t501.length co46 ∧ nb k_ Ao48 t507.length co48 ∧ nb k_ Ao126 t510.length co126) (.slice Ao26 t470.length co26) t470) := ⟨by rw [← hq_]; exact (by (with_reducible repeat (first | apply Kd.R_alloc | apply Kd.R_drewN | apply Kd.R_drew)); exact rm HO_483002)⟩; have n2_ : Aside0 (Kd.R k70 70 w129 w.heap.size (fun k_ => nb k_ Ao37 t533.length co37 ∧ nb k_ Ao47 t504.length co47) (.slice Ao27 t473.length co27) t473) := ⟨by rw [← hq_]; exact (ro HO_483003)⟩; have n3_ : Aside0 (Kd.R (Kd.int .i64) 3 w129 w.heap.size (fun k_ => nb k_ Ao23 t466.length co23 ∧ nb k_ Ao26 t470.length co26 ∧ nb k_ Ao32 t531.length co32 ∧ nb k_ Ao36 t532.length co36 ∧ nb k_ Ao38 t534.length co38 ∧ some k_ ≠ (v480 : Value).ownBlock ∧ nb k_ Ao41 t497.length co41 ∧ nb k_ Ao46 t501.length co46 ∧ nb k_ Ao48 t507.length co48 ∧ nb k_ Ao126 t510.length co126) (.slice Ao28 t476.length co28) t476) := ⟨by rw [← hq_]; exact (by (with_reducible repeat (first | apply Kd.R_alloc | apply Kd.R_drewN | apply Kd.R_drew)); exact rm HO_483004)⟩; have n4_ : Aside0 (Kd.R (Kd.int .i64) 3 w129 w.heap.size (fun k_ => nb k_ Ao23 t466.length co23 ∧ nb k_ Ao26 t470.length co26 ∧ nb k_ Ao28 t476.length co28 ∧ nb k_ Ao36 t532.length co36 ∧ nb k_ Ao38 t534.length co38 ∧ some k_ ≠ (v480 : Value).ownBlock ∧ nb k_ Ao41 t497.length co41 ∧ nb k_ Ao46 t501.length co46 ∧ nb k_ Ao48 t507.length co48 ∧ nb k_ Ao126 t510.length co126) (.slice Ao32 t531.length co32) t531) := ⟨by rw [← hq_]; exact (by (with_reducible repeat (first | apply Kd.R_alloc | apply Kd.R_drewN | apply Kd.R_drew)); exact rm HO_497000)⟩; have n5_ : Aside0 (Kd.R (Kd.int .i64) 3 w129 w.heap.size (fun k_ => nb k_ Ao23 t466.length co23 ∧ nb k_ Ao26 t470.length co26 ∧ nb k_ Ao28 t476.length co28 ∧ nb k_ Ao32 t531.length co32 ∧ nb k_ Ao38 t534.length co38 ∧ some k_ ≠ (v480 : Value).ownBlock ∧ nb k_ Ao41 t497.length co41 ∧ nb k_ Ao46 t501.length co46 ∧ nb k_ Ao48 t507.length co48 ∧ nb k_ Ao126 t510.length co126) (.slice Ao36 t532.length co36) t532) := ⟨by rw [← hq_]; exact (by (with_reducible repeat (first | apply Kd.R_alloc | apply Kd.R_drewN | apply Kd.R_drew)); exact rm HO_497002)⟩; have n6_ : Aside0 (Kd.R k70 70 w129 w.heap.size (fun k_ => nb k_ Ao27 t473.length co27 ∧ nb k_ Ao47 t504.length co47) (.slice Ao37 t533.length co37) t533) := ⟨by rw [← hq_]; exact (ro HO_497003)⟩; have n7_ : Aside0 (Kd.R (Kd.int .i64) 3 w129 w.heap.size (fun k_ => nb k_ Ao23 t466.length co23 ∧ nb k_ Ao26 t470.length co26 ∧ nb k_ Ao28 t476.length co28 ∧ nb k_ Ao32 t531.length co32 ∧ nb k_ Ao36 t532.length co36 ∧ some k_ ≠ (v480 : Value).ownBlock ∧ nb k_ Ao41 t497.length co41 ∧ nb k_ Ao46 t501.length co46 ∧ nb k_ Ao48 t507.length co48 ∧ nb k_ Ao126 t510.length co126) (.slice Ao38 t534.length co38) t534) := ⟨by rw [← hq_]; exact (by (with_reducible repeat (first | apply Kd.R_alloc | apply Kd.R_drewN | apply Kd.R_drew)); exact rm HO_497004)⟩; have n8_ : Aside0 (Kd.R (Kd.int .i64) 3 w129 w.heap.size (fun k_ => nb k_ Ao23 t466.length co23 ∧ nb k_ Ao26 t470.length co26 ∧ nb k_ Ao28 t476.length co28 ∧ nb k_ Ao32 t531.length co32 ∧ nb k_ Ao36 t532.length co36 ∧ nb k_ Ao38 t534.length co38 ∧ nb k_ Ao41 t497.length co41 ∧ nb k_ Ao46 t501.length co46 ∧ nb k_ Ao48 t507.length co48 ∧ nb k_ Ao126 t510.length co126) v480 t479) := ⟨by rw [← hq_]; exact (by (with_reducible repeat (first | apply Kd.R_alloc | apply Kd.R_drewN | apply Kd.R_drew)); exact rm HO_5)⟩; have n9_ : Aside0 (Kd.R (Kd.int .i64) 3 w129 w.heap.size (fun k_ => nb k_ Ao23 t466.length co23 ∧ nb k_ Ao26 t470.length co26 ∧ nb k_ Ao28 t476.length co28 ∧ nb k_ Ao32 t531.length co32 ∧ nb k_ Ao36 t532.length co36 ∧ nb k_ Ao38 t534.length co38 ∧ some k_ ≠ (v480 : Value).ownBlock ∧ nb k_ Ao46 t501.length co46 ∧ nb k_ Ao48 t507.length co48 ∧ nb k_ Ao126 t510.length co126) (.slice Ao41 t497.length co41) t538) := ⟨by rw [← hq_]; exact (by (with_reducible repeat (first | apply Kd.R_alloc | apply Kd.R_drewN | apply Kd.R_drew)); exact rm HO_514000)⟩; have n10_ : Aside0 (Kd.R (Kd.int .i64) 3 w129 w.heap.size (fun k_ => nb k_ Ao23 t466.length co23 ∧ nb k_ Ao26 t470.length co26 ∧ nb k_ Ao28 t476.length co28 ∧ nb k_ Ao32 t531.length co32 ∧ nb k_ Ao36 t532.length co36 ∧ nb k_ Ao38 t534.length co38 ∧ some k_ ≠ (v480 : Value).ownBlock ∧ nb k_ Ao41 t497.length co41 ∧ nb k_ Ao48 t507.length co48 ∧ nb k_ Ao126 t510.length co126) (.slice Ao46 t501.length co46) t539) := ⟨by rw [← hq_]; exact (by (with_reducible repeat (first | apply Kd.R_alloc | apply Kd.R_drewN | apply Kd.R_drew)); exact rm HO_514002)⟩; have n11_ : Aside0 (Kd.R k70 70 w129 w.heap.size (fun k_ => nb k_ Ao27 t473.length co27 ∧ nb k_ Ao37 t533.length co37) (.slice Ao47 t504.length co47) t540) := ⟨by rw [← hq_]; exact (ro HO_514003)⟩; have n12_ : Aside0 (Kd.R (Kd.int .i64) 3 w129 w.heap.size (fun k_ => nb k_ Ao23 t466.length co23 ∧ nb k_ Ao26 t470.length co26 ∧ nb k_ Ao28 t476.length co28 ∧ nb k_ Ao32 t531.length co32 ∧ nb k_ Ao36 t532.length co36 ∧ nb k_ Ao38 t534.length co38 ∧ some k_ ≠ (v480 : Value).ownBlock ∧ nb k_ Ao41 t497.length co41 ∧ nb k_ Ao46 t501.length co46 ∧ nb k_ Ao126 t510.length co126) (.slice Ao48 t507.length co48) t541) := ⟨by rw [← hq_]; exact (by (with_reducible repeat (first | apply Kd.R_alloc | apply Kd.R_drewN | apply Kd.R_drew)); exact rm HO_514004)⟩; have n13_ : Aside0 (Kd.R (Kd.int .i64) 3 w129 w.heap.size (fun k_ => nb k_ Ao23 t466.length co23 ∧ nb k_ Ao26 t470.length co26 ∧ nb k_ Ao28 t476.length co28 ∧ nb k_ Ao32 t531.length co32 ∧ nb k_ Ao36 t532.length co36 ∧ nb k_ Ao38 t534.length co38 ∧ some k_ ≠ (v480 : Value).ownBlock ∧ nb k_ Ao41 t497.length co41 ∧ nb k_ Ao46 t501.length co46 ∧ nb k_ Ao48 t507.length co48) (.slice Ao126 t510.length co126) t543) := ⟨by rw [← hq_]; exact (by (with_reducible repeat (first | apply Kd.R_alloc | apply Kd.R_drewN | apply Kd.R_drew)); exact rm HO_8)⟩; have n14_ : Aside0 (w129.heap[gb451]? = some (.cells #[.slice A0_0 l0_0.length c0_0, .int .i64 a0_1, .slice A0_2 l0_2.length c0_2, .slice A0_3 l0_3.length c0_3, .slice A0_4 l0_4.length c0_4] 37 (0, 0))) := ⟨by rw [← hq_]; exact (bk BK451)⟩; have n15_ : Aside0 (w129.heap[gb482]? = some (.cells #[.slice Ao23 t466.length co23, .int .i64 t469, .slice Ao26 t470.length co26, .slice Ao27 t473.length co27, .slice Ao28 t476.length co28] 27 (0, 0))) := ⟨by rw [← hq_]; exact (bk BK482)⟩; have n16_ : Aside0 (w129.heap[gb496]? = some (.cells #[.slice Ao32 t531.length co32, .int .i64 t486, .slice Ao36 t532.length co36, .slice Ao37 t533.length co37, .slice Ao38 t534.length co38] 27 (0, 0))) := ⟨by rw [← hq_]; exact (bk BK496)⟩; have n17_ : Aside0 (w129.heap[gb513]? = some (.cells #[.slice Ao41 t497.length co41, .int .i64 t500, .slice Ao46 t501.length co46, .slice Ao47 t504.length co47, .slice Ao48 t507.length co48] 27 (0, 0))) := ⟨by rw [← hq_]; exact (bk BK513)⟩; have n18_ : Aside0 (Below w.heap.size w w129) := ⟨by rw [← hq_]; exact (be4 HB GE451 GE482 GE496 GE513)⟩; clear HO_483000 HO_483002 HO_483003 HO_483004 HO_497000 HO_497002 HO_497003 HO_497004 HO_5 HO_514000 HO_514002 HO_514003 HO_514004 HO_8 BK451 BK482 BK496 BK513 HB hq_; have HO_483000 := n0_; have HO_483002 := n1_; have HO_483003 := n2_; have HO_483004 := n3_; have HO_497000 := n4_; have HO_497002 := n5_; have HO_497003 := n6_; have HO_497004 := n7_; have HO_5 := n8_; have HO_514000 := n9_; have HO_514002 := n10_; have HO_514003 := n11_; have HO_514004 := n12_; have HO_8 := n13_; have BK451 := n14_; have BK482 := n15_; have BK496 := n16_; have BK513 := n17_; have HB := n18_; clear n0_ n1_ n2_ n3_ n4_ n5_ n6_ n7_ n8_ n9_ n10_ n11_ n12_ n13_ n14_ n15_ n16_ n17_ n18_)); have hnb130 := NB451_482.out; have hnc130 := NB482_451.out; have hnb131 := NB451_496.out; have hnc131 := NB496_451.out; have hcz132_0 := bz5 BK451) | ((with_reducible refine gate_callee (f := 21) rfl ?_); refine gl 85 Try.func21 #[.agg #[.slice A0_0 l0_0.length c0_0, .int .i64 a0_1, .slice A0_2 l0_2.length c0_2, .slice A0_3 l0_3.length c0_3, .slice A0_4 l0_4.length c0_4]] ?_; (with_reducible refine (laws_toPool.calls kj74 _ _ l0_0 a0_1 _ _ l0_2 _ _ l0_3 _ _ l0_4 t546 t549 t550 t553 t556 _ (cb HR0_0 HB) HC0_0.out (cb HR0_2 HB) HC0_2.out (cb HR0_3 HB) HC0_3.out (cb HR0_4 HB) HC0_4.out A118.out).mono ?_); rintro e w133 ⟨v547, v551, v554, v557, rfl, ho0, ho1, ho2, ho3, hb⟩; refine ⟨_, rfl, ?_⟩; have HO548 := Aside0.mk (Kd.R_lower (nw (nw (nw (nw (nw (nw (nw (nw (nw (nw (nw ho0 HO_5) HO_8) HO_483000) HO_483002) HO_483004) HO_497000) HO_497002) HO_497004) HO_514000) HO_514002) HO_514004) (below_size (be4 HB GE451 GE482 GE496 GE513))); have HO552 := Aside0.mk (Kd.R_lower (nw (nw (nw (nw (nw (nw (nw (nw (nw (nw (nw ho1 HO_5) HO_8) HO_483000) HO_483002) HO_483004) HO_497000) HO_497002) HO_497004) HO_514000) HO_514002) HO_514004) (below_size (be4 HB GE451 GE482 GE496 GE513))); have HO555 := Aside0.mk (Kd.R_lower (nw (nw (nw ho2 HO_483003) HO_497003) HO_514003) (below_size (be4 HB GE451 GE482 GE496 GE513))); replace HO_483003 := Aside0.mk (Kd.R_elder' (ro HO_483003) (Kd.R_base ho2) hb); replace HO_497003 := Aside0.mk (Kd.R_elder' (ro HO_497003) (Kd.R_base ho2) hb); replace HO_514003 := Aside0.mk (Kd.R_elder' (ro HO_514003) (Kd.R_base ho2) hb); have HO558 := Aside0.mk (Kd.R_lower (nw (nw (nw (nw (nw (nw (nw (nw (nw (nw (nw ho3 HO_5) HO_8) HO_483000) HO_483002) HO_483004) HO_497000) HO_497002) HO_497004) HO_514000) HO_514002) HO_514004) (below_size (be4 HB GE451 GE482 GE496 GE513))); replace HO_5 := td3 (ro HO_5) hb ho0 ho1 ho3; replace HO_8 := td3 (ro HO_8) hb ho0 ho1 ho3; replace HO_483000 := td3 (ro HO_483000) hb ho0 ho1 ho3; replace HO_483002 := td3 (ro HO_483002) hb ho0 ho1 ho3; replace HO_483004 := td3 (ro HO_483004) hb ho0 ho1 ho3; replace HO_497000 := td3 (ro HO_497000) hb ho0 ho1 ho3; replace HO_497002 := td3 (ro HO_497002) hb ho0 ho1 ho3; replace HO_497004 := td3 (ro HO_497004) hb ho0 ho1 ho3; replace HO_514000 := td3 (ro HO_514000) hb ho0 ho1 ho3; replace HO_514002 := td3 (ro HO_514002) hb ho0 ho1 ho3; replace HO_514004 := td3 (ro HO_514004) hb ho0 ho1 ho3; replace BK451 := bb BK451 hb; replace BK482 := bb BK482 hb; replace BK496 := bb BK496 hb; replace BK513 := bb BK513 hb; replace HB := Aside0.mk (below_step (be4 HB GE451 GE482 GE496 GE513) hb); (try clear hb); (try clear ho0); (try clear ho1); (try clear ho2); (try clear ho3); obtain ⟨Ao134, co134, eo134⟩ := Kd.R_slice HO548.out; subst eo134; obtain ⟨Ao135, co135, eo135⟩ := Kd.R_slice HO552.out; subst eo135; obtain ⟨Ao136, co136, eo136⟩ := Kd.R_slice HO555.out; subst eo136; obtain ⟨Ao137, co137, eo137⟩ := Kd.R_slice HO558.out; subst eo137) | ((with_reducible refine gate_callee (f := 32) rfl ?_); refine gl 86 Try.func32 #[.agg #[.slice Ao134 t546.length co134, .int .i64 t549, .slice Ao135 t550.length co135, .slice Ao136 t553.length co136, .slice Ao137 t556.length co137]] ?_; (with_reducible refine (impl_Reclaim.calls kj74 _ _ t546 t549 _ _ t550 _ _ t553 _ _ t556 t559 t562 t563 t566 t569 t572 _ (cr HO548) ((Kd.R_reads' HO548.out).2.1) (cr HO552) ((Kd.R_reads' HO552.out).2.1) (cr HO555) ((Kd.R_reads' HO555.out).2.1) (cr HO558) ((Kd.R_reads' HO558.out).2.1) A119.out).mono ?_); rintro e w138 ⟨v560, v564, v567, v570, v573, rfl, ho0, ho1, ho2, ho3, ho4, hb⟩; refine ⟨_, rfl, ?_⟩; have HO561 := Aside0.mk (Kd.R_lower (nw (nw (nw (nw (nw (nw (nw (nw (nw (nw (nw (nw (nw (nw ho0 HO_5) HO_8) HO_483000) HO_483002) HO_483004) HO_497000) HO_497002) HO_497004) HO_514000) HO_514002) HO_514004) HO548) HO552) HO558) (below_size (be4 HB GE451 GE482 GE496 GE513))); have HO565 := Aside0.mk (Kd.R_lower (nw (nw (nw (nw (nw (nw (nw (nw (nw (nw (nw (nw (nw (nw ho1 HO_5) HO_8) HO_483000) HO_483002) HO_483004) HO_497000) HO_497002) HO_497004) HO_514000) HO_514002) HO_514004) HO548) HO552) HO558) (below_size (be4 HB GE451 GE482 GE496 GE513))); have HO568 := Aside0.mk (Kd.R_lower (nw (nw (nw (nw ho2 HO_483003) HO_497003) HO_514003) HO555) (below_size (be4 HB GE451 GE482 GE496 GE513))); replace HO_483003 := Aside0.mk (Kd.R_elder' (ro HO_483003) (Kd.R_base ho2) hb); replace HO_497003 := Aside0.mk (Kd.R_elder' (ro HO_497003) (Kd.R_base ho2) hb); replace HO_514003 := Aside0.mk (Kd.R_elder' (ro HO_514003) (Kd.R_base ho2) hb); replace HO555 := Aside0.mk (Kd.R_elder' (ro HO555) (Kd.R_base ho2) hb); have HO571 := Aside0.mk (Kd.R_lower (nw (nw (nw (nw (nw (nw (nw (nw (nw (nw (nw (nw (nw (nw ho3 HO_5) HO_8) HO_483000) HO_483002) HO_483004) HO_497000) HO_497002) HO_497004) HO_514000) HO_514002) HO_514004) HO548) HO552) HO558) (below_size (be4 HB GE451 GE482 GE496 GE513))); have HO574 := Aside0.mk (Kd.R_lower (nw (nw (nw (nw (nw (nw (nw (nw (nw (nw (nw (nw (nw (nw ho4 HO_5) HO_8) HO_483000) HO_483002) HO_483004) HO_497000) HO_497002) HO_497004) HO_514000) HO_514002) HO_514004) HO548) HO552) HO558) (below_size (be4 HB GE451 GE482 GE496 GE513))); replace HO_5 := td4 (ro HO_5) hb ho0 ho1 ho3 ho4; replace HO_8 := td4 (ro HO_8) hb ho0 ho1 ho3 ho4; replace HO_483000 := td4 (ro HO_483000) hb ho0 ho1 ho3 ho4; replace HO_483002 := td4 (ro HO_483002) hb ho0 ho1 ho3 ho4; replace HO_483004 := td4 (ro HO_483004) hb ho0 ho1 ho3 ho4; replace HO_497000 := td4 (ro HO_497000) hb ho0 ho1 ho3 ho4; replace HO_497002 := td4 (ro HO_497002) hb ho0 ho1 ho3 ho4; replace HO_497004 := td4 (ro HO_497004) hb ho0 ho1 ho3 ho4; replace HO_514000 := td4 (ro HO_514000) hb ho0 ho1 ho3 ho4; replace HO_514002 := td4 (ro HO_514002) hb ho0 ho1 ho3 ho4; replace HO_514004 := td4 (ro HO_514004) hb ho0 ho1 ho3 ho4; replace HO548 := td4 (ro HO548) hb ho0 ho1 ho3 ho4; replace HO552 := td4 (ro HO552) hb ho0 ho1 ho3 ho4; replace HO558 := td4 (ro HO558) hb ho0 ho1 ho3 ho4; replace BK451 := bb BK451 hb; replace BK482 := bb BK482 hb; replace BK496 := bb BK496 hb; replace BK513 := bb BK513 hb; replace HB := Aside0.mk (below_step (be4 HB GE451 GE482 GE496 GE513) hb); (try clear hb); (try clear ho0); (try clear ho1); (try clear ho2); (try clear ho3); (try clear ho4)) | ((with_reducible refine gate_dst (N := 12) rfl ?_); refine bx 12 #[.slice none 0 0, .int .i64 0, .slice none 0 0, .slice none 0 0, .slice none 0 0] 27 ?_; intro gb575 hg w139 hbox hb; replace HO_5 := rb HO_5 hb; replace HO_8 := rb HO_8 hb; replace HO_483000 := rb HO_483000 hb; replace HO_483002 := rb HO_483002 hb; replace HO_483003 := rb HO_483003 hb; replace HO_483004 := rb HO_483004 hb; replace HO_497000 := rb HO_497000 hb; replace HO_497002 := rb HO_497002 hb; replace HO_497003 := rb HO_497003 hb; replace HO_497004 := rb HO_497004 hb; replace HO_514000 := rb HO_514000 hb; replace HO_514002 := rb HO_514002 hb; replace HO_514003 := rb HO_514003 hb; replace HO_514004 := rb HO_514004 hb; replace HO548 := rb HO548 hb; replace HO552 := rb HO552 hb; replace HO555 := rb HO555 hb; replace HO558 := rb HO558 hb; replace HO561 := rb HO561 hb; replace HO565 := rb HO565 hb; replace HO568 := rb HO568 hb; replace HO571 := rb HO571 hb; replace HO574 := rb HO574 hb; have BK575 := am hbox; have GW575 := Aside0.mk ((by rw [hg]; exact (below_size (be4 HB GE451 GE482 GE496 GE513)) : w.heap.size ≤ gb575)); have GE575 := Aside0.mk ((by rw [hg]; exact (below_size (be4 HB GE451 GE482 GE496 GE513)) : w.heap.size ≤ gb575)); replace HB := Aside0.mk (below_step (be4 HB GE451 GE482 GE496 GE513) hb); have NB451_575 := Aside0.mk ((by rw [hg]; exact Nat.ne_of_lt (bl BK451) : gb451 ≠ gb575)); have NB575_451 := Aside0.mk ((by rw [hg]; exact Nat.ne_of_gt (bl BK451) : gb575 ≠ gb451)); replace BK451 := bb BK451 hb; have NB482_575 := Aside0.mk ((by rw [hg]; exact Nat.ne_of_lt (bl BK482) : gb482 ≠ gb575)); have NB575_482 := Aside0.mk ((by rw [hg]; exact Nat.ne_of_gt (bl BK482) : gb575 ≠ gb482)); replace BK482 := bb BK482 hb; have NB496_575 := Aside0.mk ((by rw [hg]; exact Nat.ne_of_lt (bl BK496) : gb496 ≠ gb575)); have NB575_496 := Aside0.mk ((by rw [hg]; exact Nat.ne_of_gt (bl BK496) : gb575 ≠ gb496)); replace BK496 := bb BK496 hb; have NB513_575 := Aside0.mk ((by rw [hg]; exact Nat.ne_of_lt (bl BK513) : gb513 ≠ gb575)); have NB575_513 := Aside0.mk ((by rw [hg]; exact Nat.ne_of_gt (bl BK513) : gb575 ≠ gb513)); replace BK513 := bb BK513 hb; clear hb hbox hg; obtain ⟨Ao140, co140, eo140⟩ := Kd.R_slice HO561.out; subst eo140; have hnb141 := NB575_451.out; have hnc141 := NB451_575.out; have hnb142 := NB575_482.out; have hnc142 := NB482_575.out; have hnb143 := NB575_496.out; have hnc143 := NB496_575.out; have hnb144 := NB575_513.out; have hnc144 := NB513_575.out; have hcz145_0 := bz5 BK575; obtain ⟨Ao146, co146, eo146⟩ := Kd.R_slice HO565.out; subst eo146; obtain ⟨Ao147, co147, eo147⟩ := Kd.R_slice HO568.out; subst eo147; obtain ⟨Ao148, co148, eo148⟩ := Kd.R_slice HO571.out; subst eo148))
       (try simp only [Act.put, List.setIfInBounds_toArray, List.set_cons_zero, List.set_cons_succ])
       go_cut [98] (fun v98 wc => ∃ (kq : Nat) (x98_119 : Bool), v98 = .bool x98_119 ∧ Aside0 (laws_FnExactReclaim.j2 kq t543 t542 x98_119 t538 t500 t539 t540 t541 = some r) ∧ Aside0 (kq ≤ kj74) ∧ Aside0 (Kd.R (Kd.int .i64) 3 wc w.heap.size (fun k_ => nb k_ Ao23 t466.length co23 ∧ nb k_ Ao26 t470.length co26 ∧ nb k_ Ao28 t476.length co28 ∧ nb k_ Ao32 t531.length co32 ∧ nb k_ Ao36 t532.length co36 ∧ nb k_ Ao38 t534.length co38 ∧ nb k_ Ao41 t497.length co41 ∧ nb k_ Ao46 t501.length co46 ∧ nb k_ Ao48 t507.length co48 ∧ nb k_ Ao140 t559.length co140 ∧ nb k_ Ao146 t563.length co146 ∧ nb k_ Ao148 t569.length co148) (.slice Ao126 t510.length co126) t543) ∧ Aside0 (Kd.R (Kd.int .i64) 3 wc w.heap.size (fun k_ => nb k_ Ao126 t510.length co126 ∧ nb k_ Ao26 t470.length co26 ∧ nb k_ Ao28 t476.length co28 ∧ nb k_ Ao32 t531.length co32 ∧ nb k_ Ao36 t532.length co36 ∧ nb k_ Ao38 t534.length co38 ∧ nb k_ Ao41 t497.length co41 ∧ nb k_ Ao46 t501.length co46 ∧ nb k_ Ao48 t507.length co48 ∧ nb k_ Ao140 t559.length co140 ∧ nb k_ Ao146 t563.length co146 ∧ nb k_ Ao148 t569.length co148) (.slice Ao23 t466.length co23) t466) ∧ Aside0 (Kd.R (Kd.int .i64) 3 wc w.heap.size (fun k_ => nb k_ Ao126 t510.length co126 ∧ nb k_ Ao23 t466.length co23 ∧ nb k_ Ao28 t476.length co28 ∧ nb k_ Ao32 t531.length co32 ∧ nb k_ Ao36 t532.length co36 ∧ nb k_ Ao38 t534.length co38 ∧ nb k_ Ao41 t497.length co41 ∧ nb k_ Ao46 t501.length co46 ∧ nb k_ Ao48 t507.length co48 ∧ nb k_ Ao140 t559.length co140 ∧ nb k_ Ao146 t563.length co146 ∧ nb k_ Ao148 t569.length co148) (.slice Ao26 t470.length co26) t470) ∧ Aside0 (Kd.R k70 70 wc w.heap.size (fun k_ => nb k_ Ao37 t533.length co37 ∧ nb k_ Ao47 t504.length co47 ∧ nb k_ Ao147 t566.length co147) (.slice Ao27 t473.length co27) t473) ∧ Aside0 (Kd.R (Kd.int .i64) 3 wc w.heap.size (fun k_ => nb k_ Ao126 t510.length co126 ∧ nb k_ Ao23 t466.length co23 ∧ nb k_ Ao26 t470.length co26 ∧ nb k_ Ao32 t531.length co32 ∧ nb k_ Ao36 t532.length co36 ∧ nb k_ Ao38 t534.length co38 ∧ nb k_ Ao41 t497.length co41 ∧ nb k_ Ao46 t501.length co46 ∧ nb k_ Ao48 t507.length co48 ∧ nb k_ Ao140 t559.length co140 ∧ nb k_ Ao146 t563.length co146 ∧ nb k_ Ao148 t569.length co148) (.slice Ao28 t476.length co28) t476) ∧ Aside0 (Kd.R (Kd.int .i64) 3 wc w.heap.size (fun k_ => nb k_ Ao126 t510.length co126 ∧ nb k_ Ao23 t466.length co23 ∧ nb k_ Ao26 t470.length co26 ∧ nb k_ Ao28 t476.length co28 ∧ nb k_ Ao36 t532.length co36 ∧ nb k_ Ao38 t534.length co38 ∧ nb k_ Ao41 t497.length co41 ∧ nb k_ Ao46 t501.length co46 ∧ nb k_ Ao48 t507.length co48 ∧ nb k_ Ao140 t559.length co140 ∧ nb k_ Ao146 t563.length co146 ∧ nb k_ Ao148 t569.length co148) (.slice Ao32 t531.length co32) t531) ∧ Aside0 (Kd.R (Kd.int .i64) 3 wc w.heap.size (fun k_ => nb k_ Ao126 t510.length co126 ∧ nb k_ Ao23 t466.length co23 ∧ nb k_ Ao26 t470.length co26 ∧ nb k_ Ao28 t476.length co28 ∧ nb k_ Ao32 t531.length co32 ∧ nb k_ Ao38 t534.length co38 ∧ nb k_ Ao41 t497.length co41 ∧ nb k_ Ao46 t501.length co46 ∧ nb k_ Ao48 t507.length co48 ∧ nb k_ Ao140 t559.length co140 ∧ nb k_ Ao146 t563.length co146 ∧ nb k_ Ao148 t569.length co148) (.slice Ao36 t532.length co36) t532) ∧ Aside0 (Kd.R k70 70 wc w.heap.size (fun k_ => nb k_ Ao27 t473.length co27 ∧ nb k_ Ao47 t504.length co47 ∧ nb k_ Ao147 t566.length co147) (.slice Ao37 t533.length co37) t533) ∧ Aside0 (Kd.R (Kd.int .i64) 3 wc w.heap.size (fun k_ => nb k_ Ao126 t510.length co126 ∧ nb k_ Ao23 t466.length co23 ∧ nb k_ Ao26 t470.length co26 ∧ nb k_ Ao28 t476.length co28 ∧ nb k_ Ao32 t531.length co32 ∧ nb k_ Ao36 t532.length co36 ∧ nb k_ Ao41 t497.length co41 ∧ nb k_ Ao46 t501.length co46 ∧ nb k_ Ao48 t507.length co48 ∧ nb k_ Ao140 t559.length co140 ∧ nb k_ Ao146 t563.length co146 ∧ nb k_ Ao148 t569.length co148) (.slice Ao38 t534.length co38) t534) ∧ Aside0 (Kd.R (Kd.int .i64) 3 wc w.heap.size (fun k_ => nb k_ Ao126 t510.length co126 ∧ nb k_ Ao23 t466.length co23 ∧ nb k_ Ao26 t470.length co26 ∧ nb k_ Ao28 t476.length co28 ∧ nb k_ Ao32 t531.length co32 ∧ nb k_ Ao36 t532.length co36 ∧ nb k_ Ao38 t534.length co38 ∧ nb k_ Ao46 t501.length co46 ∧ nb k_ Ao48 t507.length co48 ∧ nb k_ Ao140 t559.length co140 ∧ nb k_ Ao146 t563.length co146 ∧ nb k_ Ao148 t569.length co148) (.slice Ao41 t497.length co41) t538) ∧ Aside0 (Kd.R (Kd.int .i64) 3 wc w.heap.size (fun k_ => nb k_ Ao126 t510.length co126 ∧ nb k_ Ao23 t466.length co23 ∧ nb k_ Ao26 t470.length co26 ∧ nb k_ Ao28 t476.length co28 ∧ nb k_ Ao32 t531.length co32 ∧ nb k_ Ao36 t532.length co36 ∧ nb k_ Ao38 t534.length co38 ∧ nb k_ Ao41 t497.length co41 ∧ nb k_ Ao48 t507.length co48 ∧ nb k_ Ao140 t559.length co140 ∧ nb k_ Ao146 t563.length co146 ∧ nb k_ Ao148 t569.length co148) (.slice Ao46 t501.length co46) t539) ∧ Aside0 (Kd.R k70 70 wc w.heap.size (fun k_ => nb k_ Ao27 t473.length co27 ∧ nb k_ Ao37 t533.length co37 ∧ nb k_ Ao147 t566.length co147) (.slice Ao47 t504.length co47) t540) ∧ Aside0 (Kd.R (Kd.int .i64) 3 wc w.heap.size (fun k_ => nb k_ Ao126 t510.length co126 ∧ nb k_ Ao23 t466.length co23 ∧ nb k_ Ao26 t470.length co26 ∧ nb k_ Ao28 t476.length co28 ∧ nb k_ Ao32 t531.length co32 ∧ nb k_ Ao36 t532.length co36 ∧ nb k_ Ao38 t534.length co38 ∧ nb k_ Ao41 t497.length co41 ∧ nb k_ Ao46 t501.length co46 ∧ nb k_ Ao140 t559.length co140 ∧ nb k_ Ao146 t563.length co146 ∧ nb k_ Ao148 t569.length co148) (.slice Ao48 t507.length co48) t541) ∧ Aside0 (Kd.R (Kd.int .i64) 3 wc w.heap.size (fun k_ => nb k_ Ao126 t510.length co126 ∧ nb k_ Ao23 t466.length co23 ∧ nb k_ Ao26 t470.length co26 ∧ nb k_ Ao28 t476.length co28 ∧ nb k_ Ao32 t531.length co32 ∧ nb k_ Ao36 t532.length co36 ∧ nb k_ Ao38 t534.length co38 ∧ nb k_ Ao41 t497.length co41 ∧ nb k_ Ao46 t501.length co46 ∧ nb k_ Ao48 t507.length co48 ∧ nb k_ Ao146 t563.length co146 ∧ nb k_ Ao148 t569.length co148) (.slice Ao140 t559.length co140) t559) ∧ Aside0 (Kd.R (Kd.int .i64) 3 wc w.heap.size (fun k_ => nb k_ Ao126 t510.length co126 ∧ nb k_ Ao23 t466.length co23 ∧ nb k_ Ao26 t470.length co26 ∧ nb k_ Ao28 t476.length co28 ∧ nb k_ Ao32 t531.length co32 ∧ nb k_ Ao36 t532.length co36 ∧ nb k_ Ao38 t534.length co38 ∧ nb k_ Ao41 t497.length co41 ∧ nb k_ Ao46 t501.length co46 ∧ nb k_ Ao48 t507.length co48 ∧ nb k_ Ao140 t559.length co140 ∧ nb k_ Ao148 t569.length co148) (.slice Ao146 t563.length co146) t563) ∧ Aside0 (Kd.R k70 70 wc w.heap.size (fun k_ => nb k_ Ao27 t473.length co27 ∧ nb k_ Ao37 t533.length co37 ∧ nb k_ Ao47 t504.length co47) (.slice Ao147 t566.length co147) t566) ∧ Aside0 (Kd.R (Kd.int .i64) 3 wc w.heap.size (fun k_ => nb k_ Ao126 t510.length co126 ∧ nb k_ Ao23 t466.length co23 ∧ nb k_ Ao26 t470.length co26 ∧ nb k_ Ao28 t476.length co28 ∧ nb k_ Ao32 t531.length co32 ∧ nb k_ Ao36 t532.length co36 ∧ nb k_ Ao38 t534.length co38 ∧ nb k_ Ao41 t497.length co41 ∧ nb k_ Ao46 t501.length co46 ∧ nb k_ Ao48 t507.length co48 ∧ nb k_ Ao140 t559.length co140 ∧ nb k_ Ao146 t563.length co146) (.slice Ao148 t569.length co148) t569) ∧ Aside0 (wc.heap[gb451]? = some (.cells #[(.slice A0_0 l0_0.length c0_0), .int .i64 a0_1, (.slice A0_2 l0_2.length c0_2), (.slice A0_3 l0_3.length c0_3), (.slice A0_4 l0_4.length c0_4)] 37 (0, 0))) ∧ Aside0 (wc.heap[gb482]? = some (.cells #[(.slice Ao23 t466.length co23), .int .i64 t469, (.slice Ao26 t470.length co26), (.slice Ao27 t473.length co27), (.slice Ao28 t476.length co28)] 27 (0, 0))) ∧ Aside0 (wc.heap[gb496]? = some (.cells #[(.slice Ao32 t531.length co32), .int .i64 t486, (.slice Ao36 t532.length co36), (.slice Ao37 t533.length co37), (.slice Ao38 t534.length co38)] 27 (0, 0))) ∧ Aside0 (wc.heap[gb513]? = some (.cells #[(.slice Ao41 t497.length co41), .int .i64 t500, (.slice Ao46 t501.length co46), (.slice Ao47 t504.length co47), (.slice Ao48 t507.length co48)] 27 (0, 0))) ∧ Aside0 (wc.heap[gb575]? = some (.cells #[(.slice Ao140 t559.length co140), .int .i64 t562, (.slice Ao146 t563.length co146), (.slice Ao147 t566.length co147), (.slice Ao148 t569.length co148)] 27 (0, 0))) ∧ Aside0 (Below w.heap.size w wc))
       case first =>
        have H := HC120.out
        clear HC120
        replace H := Option.bind_eq_some_iff.mp H
        obtain ⟨t576, A1490, H⟩ := H
        try dsimp only at H
        have A149 := Aside0.mk A1490
        clear A1490
        by_cases c150 : t576 = true
        ·subst c150
         rw [if_pos rfl] at H
         replace H := Option.bind_eq_some_iff.mp H
         obtain ⟨t577, A1510, H⟩ := H
         try dsimp only at H
         have A151 := Aside0.mk A1510
         clear A1510
         have H' := Aside0.mk H
         clear H
         have hnb152 := NB575_451.out
         have hnc152 := NB451_575.out
         have hnb153 := NB575_482.out
         have hnc153 := NB482_575.out
         have hnb154 := NB575_496.out
         have hnc154 := NB496_575.out
         have hnb155 := NB575_513.out
         have hnc155 := NB513_575.out
         have hcz156_0 := bz5 BK575
         have hnb157 := NB482_451.out
         have hnc157 := NB451_482.out
         have hnb158 := NB482_496.out
         have hnc158 := NB496_482.out
         have hnb159 := NB482_513.out
         have hnc159 := NB513_482.out
         have hcz160_0 := bz5 BK482
         go_wp2_with (first | ((with_reducible refine gate_callee (f := 16) rfl ?_); refine gl 91 Try.func16 #[.agg #[.slice Ao140 t559.length co140, .int .i64 t562, .slice Ao146 t563.length co146, .slice Ao147 t566.length co147, .slice Ao148 t569.length co148], .agg #[.slice Ao23 t466.length co23, .int .i64 t469, .slice Ao26 t470.length co26, .slice Ao27 t473.length co27, .slice Ao28 t476.length co28]] ?_; (with_reducible refine (laws_eqPool.calls kj74 _ _ t559 t562 _ _ t563 _ _ t566 _ _ t569 _ _ t466 t469 _ _ t470 _ _ t473 _ _ t476 true _ ?side1 ((Kd.R_reads' HO561.out).2.1) ?side3 ((Kd.R_reads' HO565.out).2.1) ?side5 ((Kd.R_reads' HO568.out).2.1) ?side7 ((Kd.R_reads' HO571.out).2.1) ?side9 ((Kd.R_reads' HO_483000.out).2.1) ?side11 ((Kd.R_reads' HO_483002.out).2.1) ?side13 ((Kd.R_reads' HO_483003.out).2.1) ?side15 ((Kd.R_reads' HO_483004.out).2.1) A149.out).mono ?_); (case side1 => exact rfr _ HO561 BK575); (case side3 => exact rfr _ HO565 BK575); (case side5 => exact rfr _ HO568 BK575); (case side7 => exact rfr _ HO571 BK575); (case side9 => exact rfr _ HO_483000 BK575); (case side11 => exact rfr _ HO_483002 BK575); (case side13 => exact rfr _ HO_483003 BK575); (case side15 => exact rfr _ HO_483004 BK575); rintro e w161 ⟨rfl, hb⟩; refine ⟨_, rfl, ?_⟩; replace HO_5 := Aside0.mk (Kd.R_below (rf HO_5 BK575) hb); replace HO_8 := Aside0.mk (Kd.R_below (rf HO_8 BK575) hb); replace HO_483000 := Aside0.mk (Kd.R_below (rf HO_483000 BK575) hb); replace HO_483002 := Aside0.mk (Kd.R_below (rf HO_483002 BK575) hb); replace HO_483003 := Aside0.mk (Kd.R_below (rf HO_483003 BK575) hb); replace HO_483004 := Aside0.mk (Kd.R_below (rf HO_483004 BK575) hb); replace HO_497000 := Aside0.mk (Kd.R_below (rf HO_497000 BK575) hb); replace HO_497002 := Aside0.mk (Kd.R_below (rf HO_497002 BK575) hb); replace HO_497003 := Aside0.mk (Kd.R_below (rf HO_497003 BK575) hb); replace HO_497004 := Aside0.mk (Kd.R_below (rf HO_497004 BK575) hb); replace HO_514000 := Aside0.mk (Kd.R_below (rf HO_514000 BK575) hb); replace HO_514002 := Aside0.mk (Kd.R_below (rf HO_514002 BK575) hb); replace HO_514003 := Aside0.mk (Kd.R_below (rf HO_514003 BK575) hb); replace HO_514004 := Aside0.mk (Kd.R_below (rf HO_514004 BK575) hb); replace HO548 := Aside0.mk (Kd.R_below (rf HO548 BK575) hb); replace HO552 := Aside0.mk (Kd.R_below (rf HO552 BK575) hb); replace HO555 := Aside0.mk (Kd.R_below (rf HO555 BK575) hb); replace HO558 := Aside0.mk (Kd.R_below (rf HO558 BK575) hb); replace HO561 := Aside0.mk (Kd.R_below (rf HO561 BK575) hb); replace HO565 := Aside0.mk (Kd.R_below (rf HO565 BK575) hb); replace HO568 := Aside0.mk (Kd.R_below (rf HO568 BK575) hb); replace HO571 := Aside0.mk (Kd.R_below (rf HO571 BK575) hb); replace HO574 := Aside0.mk (Kd.R_below (rf HO574 BK575) hb); replace BK451 := Aside0.mk (blk_below (g := gb451) (o := .cells #[.slice A0_0 l0_0.length c0_0, .int .i64 a0_1, .slice A0_2 l0_2.length c0_2, .slice A0_3 l0_3.length c0_3, .slice A0_4 l0_4.length c0_4] 37 (0, 0)) (bf1 BK451 NB451_575) hb); replace BK482 := Aside0.mk (blk_below (g := gb482) (o := .cells #[.slice Ao23 t466.length co23, .int .i64 t469, .slice Ao26 t470.length co26, .slice Ao27 t473.length co27, .slice Ao28 t476.length co28] 27 (0, 0)) (bf1 BK482 NB482_575) hb); replace BK496 := Aside0.mk (blk_below (g := gb496) (o := .cells #[.slice Ao32 t531.length co32, .int .i64 t486, .slice Ao36 t532.length co36, .slice Ao37 t533.length co37, .slice Ao38 t534.length co38] 27 (0, 0)) (bf1 BK496 NB496_575) hb); replace BK513 := Aside0.mk (blk_below (g := gb513) (o := .cells #[.slice Ao41 t497.length co41, .int .i64 t500, .slice Ao46 t501.length co46, .slice Ao47 t504.length co47, .slice Ao48 t507.length co48] 27 (0, 0)) (bf1 BK513 NB513_575) hb); replace BK575 := Aside0.mk (blk_below (g := gb575) (o := .cells #[.slice Ao140 t559.length co140, .int .i64 t562, .slice Ao146 t563.length co146, .slice Ao147 t566.length co147, .slice Ao148 t569.length co148] 27 (0, 0)) (by (with_reducible repeat (first | refine blk_drewN ?_ _ | refine blk_drew ?_ | refine blk_alloc ?_ _)); refine blk_put (cs := #[.slice Ao140 t559.length co140, .int .i64 t562, .slice Ao146 t563.length co146, .slice Ao147 t566.length co147, .slice none 0 0]) ?_ 4 _ rfl; (with_reducible repeat (first | refine blk_drewN ?_ _ | refine blk_drew ?_ | refine blk_alloc ?_ _)); refine blk_put (cs := #[.slice Ao140 t559.length co140, .int .i64 t562, .slice Ao146 t563.length co146, .slice none 0 0, .slice none 0 0]) ?_ 3 _ rfl; (with_reducible repeat (first | refine blk_drewN ?_ _ | refine blk_drew ?_ | refine blk_alloc ?_ _)); refine blk_put (cs := #[.slice Ao140 t559.length co140, .int .i64 t562, .slice none 0 0, .slice none 0 0, .slice none 0 0]) ?_ 2 _ rfl; (with_reducible repeat (first | refine blk_drewN ?_ _ | refine blk_drew ?_ | refine blk_alloc ?_ _)); refine blk_put (cs := #[.slice Ao140 t559.length co140, .int .i64 0, .slice none 0 0, .slice none 0 0, .slice none 0 0]) ?_ 1 _ rfl; (with_reducible repeat (first | refine blk_drewN ?_ _ | refine blk_drew ?_ | refine blk_alloc ?_ _)); refine blk_put (cs := #[.slice none 0 0, .int .i64 0, .slice none 0 0, .slice none 0 0, .slice none 0 0]) ?_ 0 _ rfl; (with_reducible repeat (first | refine blk_drewN ?_ _ | refine blk_drew ?_ | refine blk_alloc ?_ _)); exact BK575.out) hb); replace HB := Aside0.mk (below_step (be5 HB GE451 GE482 GE496 GE513 GE575) hb); (try clear hb); obtain ⟨Ao162, co162, eo162⟩ := Kd.R_slice HO574.out; subst eo162; obtain ⟨Ao163, co163, eo163⟩ := Kd.R_slice HO_5.out; subst eo163) | (go_at_call 33; (with_reducible refine (laws_eqIntS.calls kj74 _ _ t572 _ _ t479 t577 _ (cr HO574) ((Kd.R_reads' HO574.out).2.1) (cr HO_5) ((Kd.R_reads' HO_5.out).2.1) A151.out).mono ?_); rintro e w' ⟨rfl, ⟨nd, rfl⟩⟩))
         go_meet
         case rel => exact ⟨_, (!t577), rs, H', ⟨by have := HJ10.out; have := HJ74.out; first | omega | exact Nat.le_refl _⟩, ⟨by (try simp only [hl497000_74, hl497002_74, hl497003_74, hl497004_74]); (with_reducible repeat (first | apply Kd.R_alloc | apply Kd.R_drewN | apply Kd.R_drew)); exact rm HO_8⟩, ⟨by (try simp only [hl497000_74, hl497002_74, hl497003_74, hl497004_74]); (with_reducible repeat (first | apply Kd.R_alloc | apply Kd.R_drewN | apply Kd.R_drew)); exact rm HO_483000⟩, ⟨by (try simp only [hl497000_74, hl497002_74, hl497003_74, hl497004_74]); (with_reducible repeat (first | apply Kd.R_alloc | apply Kd.R_drewN | apply Kd.R_drew)); exact rm HO_483002⟩, ⟨by (try simp only [hl497000_74, hl497002_74, hl497003_74, hl497004_74]); (with_reducible repeat (first | apply Kd.R_alloc | apply Kd.R_drewN | apply Kd.R_drew)); exact rm HO_483003⟩, ⟨by (try simp only [hl497000_74, hl497002_74, hl497003_74, hl497004_74]); (with_reducible repeat (first | apply Kd.R_alloc | apply Kd.R_drewN | apply Kd.R_drew)); exact rm HO_483004⟩, ⟨by (try simp only [hl497000_74, hl497002_74, hl497003_74, hl497004_74]); (with_reducible repeat (first | apply Kd.R_alloc | apply Kd.R_drewN | apply Kd.R_drew)); exact rm HO_497000⟩, ⟨by (try simp only [hl497000_74, hl497002_74, hl497003_74, hl497004_74]); (with_reducible repeat (first | apply Kd.R_alloc | apply Kd.R_drewN | apply Kd.R_drew)); exact rm HO_497002⟩, ⟨by (try simp only [hl497000_74, hl497002_74, hl497003_74, hl497004_74]); (with_reducible repeat (first | apply Kd.R_alloc | apply Kd.R_drewN | apply Kd.R_drew)); exact rm HO_497003⟩, ⟨by (try simp only [hl497000_74, hl497002_74, hl497003_74, hl497004_74]); (with_reducible repeat (first | apply Kd.R_alloc | apply Kd.R_drewN | apply Kd.R_drew)); exact rm HO_497004⟩, ⟨by (try simp only [hl497000_74, hl497002_74, hl497003_74, hl497004_74]); (with_reducible repeat (first | apply Kd.R_alloc | apply Kd.R_drewN | apply Kd.R_drew)); exact rm HO_514000⟩, ⟨by (try simp only [hl497000_74, hl497002_74, hl497003_74, hl497004_74]); (with_reducible repeat (first | apply Kd.R_alloc | apply Kd.R_drewN | apply Kd.R_drew)); exact rm HO_514002⟩, ⟨by (try simp only [hl497000_74, hl497002_74, hl497003_74, hl497004_74]); (with_reducible repeat (first | apply Kd.R_alloc | apply Kd.R_drewN | apply Kd.R_drew)); exact rm HO_514003⟩, ⟨by (try simp only [hl497000_74, hl497002_74, hl497003_74, hl497004_74]); (with_reducible repeat (first | apply Kd.R_alloc | apply Kd.R_drewN | apply Kd.R_drew)); exact rm HO_514004⟩, ⟨by (try simp only [hl497000_74, hl497002_74, hl497003_74, hl497004_74]); (with_reducible repeat (first | apply Kd.R_alloc | apply Kd.R_drewN | apply Kd.R_drew)); exact rm HO561⟩, ⟨by (try simp only [hl497000_74, hl497002_74, hl497003_74, hl497004_74]); (with_reducible repeat (first | apply Kd.R_alloc | apply Kd.R_drewN | apply Kd.R_drew)); exact rm HO565⟩, ⟨by (try simp only [hl497000_74, hl497002_74, hl497003_74, hl497004_74]); (with_reducible repeat (first | apply Kd.R_alloc | apply Kd.R_drewN | apply Kd.R_drew)); exact rm HO568⟩, ⟨by (try simp only [hl497000_74, hl497002_74, hl497003_74, hl497004_74]); (with_reducible repeat (first | apply Kd.R_alloc | apply Kd.R_drewN | apply Kd.R_drew)); exact rm HO571⟩, ⟨by (try simp only [hl497000_74, hl497002_74, hl497003_74, hl497004_74]); (with_reducible repeat (first | refine blk_drewN ?_ _ | refine blk_drew ?_ | refine blk_alloc ?_ _)); exact BK451.out⟩, ⟨by (try simp only [hl497000_74, hl497002_74, hl497003_74, hl497004_74]); (with_reducible repeat (first | refine blk_drewN ?_ _ | refine blk_drew ?_ | refine blk_alloc ?_ _)); exact BK482.out⟩, ⟨by (try simp only [hl497000_74, hl497002_74, hl497003_74, hl497004_74]); (with_reducible repeat (first | refine blk_drewN ?_ _ | refine blk_drew ?_ | refine blk_alloc ?_ _)); exact BK496.out⟩, ⟨by (try simp only [hl497000_74, hl497002_74, hl497003_74, hl497004_74]); (with_reducible repeat (first | refine blk_drewN ?_ _ | refine blk_drew ?_ | refine blk_alloc ?_ _)); exact BK513.out⟩, ⟨by (try simp only [hl497000_74, hl497002_74, hl497003_74, hl497004_74]); (with_reducible repeat (first | refine blk_drewN ?_ _ | refine blk_drew ?_ | refine blk_alloc ?_ _)); exact BK575.out⟩, ⟨be5 HB GE451 GE482 GE496 GE513 GE575⟩⟩
        replace c150 := Bool.eq_false_iff.mpr c150
        subst c150
        rw [if_neg (show ¬ (false = true) by decide)] at H
        have H' := Aside0.mk H
        clear H
        have hnb164 := NB575_451.out
        have hnc164 := NB451_575.out
        have hnb165 := NB575_482.out
        have hnc165 := NB482_575.out
        have hnb166 := NB575_496.out
        have hnc166 := NB496_575.out
        have hnb167 := NB575_513.out
        have hnc167 := NB513_575.out
        have hcz168_0 := bz5 BK575
        have hnb169 := NB482_451.out
        have hnc169 := NB451_482.out
        have hnb170 := NB482_496.out
        have hnc170 := NB496_482.out
        have hnb171 := NB482_513.out
        have hnc171 := NB513_482.out
        have hcz172_0 := bz5 BK482
        go_wp2_with (first | ((with_reducible refine gate_callee (f := 16) rfl ?_); refine gl 91 Try.func16 #[.agg #[.slice Ao140 t559.length co140, .int .i64 t562, .slice Ao146 t563.length co146, .slice Ao147 t566.length co147, .slice Ao148 t569.length co148], .agg #[.slice Ao23 t466.length co23, .int .i64 t469, .slice Ao26 t470.length co26, .slice Ao27 t473.length co27, .slice Ao28 t476.length co28]] ?_; (with_reducible refine (laws_eqPool.calls kj74 _ _ t559 t562 _ _ t563 _ _ t566 _ _ t569 _ _ t466 t469 _ _ t470 _ _ t473 _ _ t476 false _ ?side1 ((Kd.R_reads' HO561.out).2.1) ?side3 ((Kd.R_reads' HO565.out).2.1) ?side5 ((Kd.R_reads' HO568.out).2.1) ?side7 ((Kd.R_reads' HO571.out).2.1) ?side9 ((Kd.R_reads' HO_483000.out).2.1) ?side11 ((Kd.R_reads' HO_483002.out).2.1) ?side13 ((Kd.R_reads' HO_483003.out).2.1) ?side15 ((Kd.R_reads' HO_483004.out).2.1) A149.out).mono ?_); (case side1 => exact rfr _ HO561 BK575); (case side3 => exact rfr _ HO565 BK575); (case side5 => exact rfr _ HO568 BK575); (case side7 => exact rfr _ HO571 BK575); (case side9 => exact rfr _ HO_483000 BK575); (case side11 => exact rfr _ HO_483002 BK575); (case side13 => exact rfr _ HO_483003 BK575); (case side15 => exact rfr _ HO_483004 BK575); rintro e w173 ⟨rfl, hb⟩; refine ⟨_, rfl, ?_⟩; replace HO_5 := Aside0.mk (Kd.R_below (rf HO_5 BK575) hb); replace HO_8 := Aside0.mk (Kd.R_below (rf HO_8 BK575) hb); replace HO_483000 := Aside0.mk (Kd.R_below (rf HO_483000 BK575) hb); replace HO_483002 := Aside0.mk (Kd.R_below (rf HO_483002 BK575) hb); replace HO_483003 := Aside0.mk (Kd.R_below (rf HO_483003 BK575) hb); replace HO_483004 := Aside0.mk (Kd.R_below (rf HO_483004 BK575) hb); replace HO_497000 := Aside0.mk (Kd.R_below (rf HO_497000 BK575) hb); replace HO_497002 := Aside0.mk (Kd.R_below (rf HO_497002 BK575) hb); replace HO_497003 := Aside0.mk (Kd.R_below (rf HO_497003 BK575) hb); replace HO_497004 := Aside0.mk (Kd.R_below (rf HO_497004 BK575) hb); replace HO_514000 := Aside0.mk (Kd.R_below (rf HO_514000 BK575) hb); replace HO_514002 := Aside0.mk (Kd.R_below (rf HO_514002 BK575) hb); replace HO_514003 := Aside0.mk (Kd.R_below (rf HO_514003 BK575) hb); replace HO_514004 := Aside0.mk (Kd.R_below (rf HO_514004 BK575) hb); replace HO548 := Aside0.mk (Kd.R_below (rf HO548 BK575) hb); replace HO552 := Aside0.mk (Kd.R_below (rf HO552 BK575) hb); replace HO555 := Aside0.mk (Kd.R_below (rf HO555 BK575) hb); replace HO558 := Aside0.mk (Kd.R_below (rf HO558 BK575) hb); replace HO561 := Aside0.mk (Kd.R_below (rf HO561 BK575) hb); replace HO565 := Aside0.mk (Kd.R_below (rf HO565 BK575) hb); replace HO568 := Aside0.mk (Kd.R_below (rf HO568 BK575) hb); replace HO571 := Aside0.mk (Kd.R_below (rf HO571 BK575) hb); replace HO574 := Aside0.mk (Kd.R_below (rf HO574 BK575) hb); replace BK451 := Aside0.mk (blk_below (g := gb451) (o := .cells #[.slice A0_0 l0_0.length c0_0, .int .i64 a0_1, .slice A0_2 l0_2.length c0_2, .slice A0_3 l0_3.length c0_3, .slice A0_4 l0_4.length c0_4] 37 (0, 0)) (bf1 BK451 NB451_575) hb); replace BK482 := Aside0.mk (blk_below (g := gb482) (o := .cells #[.slice Ao23 t466.length co23, .int .i64 t469, .slice Ao26 t470.length co26, .slice Ao27 t473.length co27, .slice Ao28 t476.length co28] 27 (0, 0)) (bf1 BK482 NB482_575) hb); replace BK496 := Aside0.mk (blk_below (g := gb496) (o := .cells #[.slice Ao32 t531.length co32, .int .i64 t486, .slice Ao36 t532.length co36, .slice Ao37 t533.length co37, .slice Ao38 t534.length co38] 27 (0, 0)) (bf1 BK496 NB496_575) hb); replace BK513 := Aside0.mk (blk_below (g := gb513) (o := .cells #[.slice Ao41 t497.length co41, .int .i64 t500, .slice Ao46 t501.length co46, .slice Ao47 t504.length co47, .slice Ao48 t507.length co48] 27 (0, 0)) (bf1 BK513 NB513_575) hb); replace BK575 := Aside0.mk (blk_below (g := gb575) (o := .cells #[.slice Ao140 t559.length co140, .int .i64 t562, .slice Ao146 t563.length co146, .slice Ao147 t566.length co147, .slice Ao148 t569.length co148] 27 (0, 0)) (by (with_reducible repeat (first | refine blk_drewN ?_ _ | refine blk_drew ?_ | refine blk_alloc ?_ _)); refine blk_put (cs := #[.slice Ao140 t559.length co140, .int .i64 t562, .slice Ao146 t563.length co146, .slice Ao147 t566.length co147, .slice none 0 0]) ?_ 4 _ rfl; (with_reducible repeat (first | refine blk_drewN ?_ _ | refine blk_drew ?_ | refine blk_alloc ?_ _)); refine blk_put (cs := #[.slice Ao140 t559.length co140, .int .i64 t562, .slice Ao146 t563.length co146, .slice none 0 0, .slice none 0 0]) ?_ 3 _ rfl; (with_reducible repeat (first | refine blk_drewN ?_ _ | refine blk_drew ?_ | refine blk_alloc ?_ _)); refine blk_put (cs := #[.slice Ao140 t559.length co140, .int .i64 t562, .slice none 0 0, .slice none 0 0, .slice none 0 0]) ?_ 2 _ rfl; (with_reducible repeat (first | refine blk_drewN ?_ _ | refine blk_drew ?_ | refine blk_alloc ?_ _)); refine blk_put (cs := #[.slice Ao140 t559.length co140, .int .i64 0, .slice none 0 0, .slice none 0 0, .slice none 0 0]) ?_ 1 _ rfl; (with_reducible repeat (first | refine blk_drewN ?_ _ | refine blk_drew ?_ | refine blk_alloc ?_ _)); refine blk_put (cs := #[.slice none 0 0, .int .i64 0, .slice none 0 0, .slice none 0 0, .slice none 0 0]) ?_ 0 _ rfl; (with_reducible repeat (first | refine blk_drewN ?_ _ | refine blk_drew ?_ | refine blk_alloc ?_ _)); exact BK575.out) hb); replace HB := Aside0.mk (below_step (be5 HB GE451 GE482 GE496 GE513 GE575) hb); (try clear hb)))
        go_meet
        case rel => exact ⟨_, (true), rs, H', ⟨by have := HJ10.out; have := HJ74.out; first | omega | exact Nat.le_refl _⟩, ⟨by (try simp only [hl497000_74, hl497002_74, hl497003_74, hl497004_74]); (with_reducible repeat (first | apply Kd.R_alloc | apply Kd.R_drewN | apply Kd.R_drew)); exact rm HO_8⟩, ⟨by (try simp only [hl497000_74, hl497002_74, hl497003_74, hl497004_74]); (with_reducible repeat (first | apply Kd.R_alloc | apply Kd.R_drewN | apply Kd.R_drew)); exact rm HO_483000⟩, ⟨by (try simp only [hl497000_74, hl497002_74, hl497003_74, hl497004_74]); (with_reducible repeat (first | apply Kd.R_alloc | apply Kd.R_drewN | apply Kd.R_drew)); exact rm HO_483002⟩, ⟨by (try simp only [hl497000_74, hl497002_74, hl497003_74, hl497004_74]); (with_reducible repeat (first | apply Kd.R_alloc | apply Kd.R_drewN | apply Kd.R_drew)); exact rm HO_483003⟩, ⟨by (try simp only [hl497000_74, hl497002_74, hl497003_74, hl497004_74]); (with_reducible repeat (first | apply Kd.R_alloc | apply Kd.R_drewN | apply Kd.R_drew)); exact rm HO_483004⟩, ⟨by (try simp only [hl497000_74, hl497002_74, hl497003_74, hl497004_74]); (with_reducible repeat (first | apply Kd.R_alloc | apply Kd.R_drewN | apply Kd.R_drew)); exact rm HO_497000⟩, ⟨by (try simp only [hl497000_74, hl497002_74, hl497003_74, hl497004_74]); (with_reducible repeat (first | apply Kd.R_alloc | apply Kd.R_drewN | apply Kd.R_drew)); exact rm HO_497002⟩, ⟨by (try simp only [hl497000_74, hl497002_74, hl497003_74, hl497004_74]); (with_reducible repeat (first | apply Kd.R_alloc | apply Kd.R_drewN | apply Kd.R_drew)); exact rm HO_497003⟩, ⟨by (try simp only [hl497000_74, hl497002_74, hl497003_74, hl497004_74]); (with_reducible repeat (first | apply Kd.R_alloc | apply Kd.R_drewN | apply Kd.R_drew)); exact rm HO_497004⟩, ⟨by (try simp only [hl497000_74, hl497002_74, hl497003_74, hl497004_74]); (with_reducible repeat (first | apply Kd.R_alloc | apply Kd.R_drewN | apply Kd.R_drew)); exact rm HO_514000⟩, ⟨by (try simp only [hl497000_74, hl497002_74, hl497003_74, hl497004_74]); (with_reducible repeat (first | apply Kd.R_alloc | apply Kd.R_drewN | apply Kd.R_drew)); exact rm HO_514002⟩, ⟨by (try simp only [hl497000_74, hl497002_74, hl497003_74, hl497004_74]); (with_reducible repeat (first | apply Kd.R_alloc | apply Kd.R_drewN | apply Kd.R_drew)); exact rm HO_514003⟩, ⟨by (try simp only [hl497000_74, hl497002_74, hl497003_74, hl497004_74]); (with_reducible repeat (first | apply Kd.R_alloc | apply Kd.R_drewN | apply Kd.R_drew)); exact rm HO_514004⟩, ⟨by (try simp only [hl497000_74, hl497002_74, hl497003_74, hl497004_74]); (with_reducible repeat (first | apply Kd.R_alloc | apply Kd.R_drewN | apply Kd.R_drew)); exact rm HO561⟩, ⟨by (try simp only [hl497000_74, hl497002_74, hl497003_74, hl497004_74]); (with_reducible repeat (first | apply Kd.R_alloc | apply Kd.R_drewN | apply Kd.R_drew)); exact rm HO565⟩, ⟨by (try simp only [hl497000_74, hl497002_74, hl497003_74, hl497004_74]); (with_reducible repeat (first | apply Kd.R_alloc | apply Kd.R_drewN | apply Kd.R_drew)); exact rm HO568⟩, ⟨by (try simp only [hl497000_74, hl497002_74, hl497003_74, hl497004_74]); (with_reducible repeat (first | apply Kd.R_alloc | apply Kd.R_drewN | apply Kd.R_drew)); exact rm HO571⟩, ⟨by (try simp only [hl497000_74, hl497002_74, hl497003_74, hl497004_74]); (with_reducible repeat (first | refine blk_drewN ?_ _ | refine blk_drew ?_ | refine blk_alloc ?_ _)); exact BK451.out⟩, ⟨by (try simp only [hl497000_74, hl497002_74, hl497003_74, hl497004_74]); (with_reducible repeat (first | refine blk_drewN ?_ _ | refine blk_drew ?_ | refine blk_alloc ?_ _)); exact BK482.out⟩, ⟨by (try simp only [hl497000_74, hl497002_74, hl497003_74, hl497004_74]); (with_reducible repeat (first | refine blk_drewN ?_ _ | refine blk_drew ?_ | refine blk_alloc ?_ _)); exact BK496.out⟩, ⟨by (try simp only [hl497000_74, hl497002_74, hl497003_74, hl497004_74]); (with_reducible repeat (first | refine blk_drewN ?_ _ | refine blk_drew ?_ | refine blk_alloc ?_ _)); exact BK513.out⟩, ⟨by (try simp only [hl497000_74, hl497002_74, hl497003_74, hl497004_74]); (with_reducible repeat (first | refine blk_drewN ?_ _ | refine blk_drew ?_ | refine blk_alloc ?_ _)); exact BK575.out⟩, ⟨be5 HB GE451 GE482 GE496 GE513 GE575⟩⟩
       case rest =>
        clear HC120
        try clear c1; try clear c2; try clear p2; try clear c3; try clear c3b0; try clear c4; try clear c5; try clear c6; try clear c7; try clear c8; try clear c9; try clear c10; try clear c11; try clear c12; try clear c13; try clear c14; try clear c15; try clear c16; try clear c17; try clear c18; try clear c19; try clear c21; try clear c24; try clear c31; try clear c32; try clear c33; try clear c34; try clear c35; try clear c42; try clear c43; try clear c44; try clear c50; try clear c52; try clear c53; try clear c54; try clear c56; try clear c57; try clear c62; try clear c63; try clear c64; try clear c66; try clear c67; try clear c70; try clear c73; try clear c83; try clear c84; try clear c85; try clear c88; try clear c88b0; try clear c90; try clear c92; try clear c93; try clear c94; try clear c96; try clear c97; try clear c102; try clear c103; try clear c104; try clear c106; try clear c107; try clear c110; try clear c114; try clear c114b0; try clear c116; try clear c116b0; try clear c117; try clear c117b0; try clear c117b1; try clear c121; try clear c122; try clear c123; try clear c130; try clear c131; try clear c141; try clear c142; try clear c143; try clear c144; try clear c150; try clear c152; try clear c153; try clear c154; try clear c155; try clear c157; try clear c158; try clear c159; try clear c164; try clear c165; try clear c166; try clear c167; try clear c169; try clear c170; try clear c171; try clear hcz105_0; try clear hcz108_0; try clear hcz124_0; try clear hcz128_0; try clear hcz132_0; try clear hcz13_0; try clear hcz145_0; try clear hcz156_0; try clear hcz15_0; try clear hcz160_0; try clear hcz168_0; try clear hcz172_0; try clear hcz25_0; try clear hcz29_0; try clear hcz35_0; try clear hcz45_0; try clear hcz55_0; try clear hcz58_0; try clear hcz5_0; try clear hcz65_0; try clear hcz68_0; try clear hcz86_0; try clear hcz95_0; try clear hcz98_0; try clear p2
        obtain ⟨kq, x98_119, rfl, HA, HJ119, HO_8, HO_483000, HO_483002, HO_483003, HO_483004, HO_497000, HO_497002, HO_497003, HO_497004, HO_514000, HO_514002, HO_514003, HO_514004, HO_576000, HO_576002, HO_576003, HO_576004, BK451, BK482, BK496, BK513, BK575, HB⟩ := hcut
        have hl8_119 := (Kd.R_reads' HO_8.out).1
        rw [hl8_119] at HO_8
        (try simp only [hl8_119])
        (try simp only [hl8_119] at BK451)
        (try simp only [hl8_119] at BK482)
        (try simp only [hl8_119] at BK496)
        (try simp only [hl8_119] at BK513)
        (try simp only [hl8_119] at BK575)
        (try simp only [hl8_119] at HO_483000)
        (try simp only [hl8_119] at HO_483002)
        (try simp only [hl8_119] at HO_483003)
        (try simp only [hl8_119] at HO_483004)
        (try simp only [hl8_119] at HO_497000)
        (try simp only [hl8_119] at HO_497002)
        (try simp only [hl8_119] at HO_497003)
        (try simp only [hl8_119] at HO_497004)
        (try simp only [hl8_119] at HO_514000)
        (try simp only [hl8_119] at HO_514002)
        (try simp only [hl8_119] at HO_514003)
        (try simp only [hl8_119] at HO_514004)
        (try simp only [hl8_119] at HO_576000)
        (try simp only [hl8_119] at HO_576002)
        (try simp only [hl8_119] at HO_576003)
        (try simp only [hl8_119] at HO_576004)
        have hl514000_119 := (Kd.R_reads' HO_514000.out).1
        rw [hl514000_119] at HO_514000
        (try simp only [hl514000_119])
        (try simp only [hl514000_119] at BK451)
        (try simp only [hl514000_119] at BK482)
        (try simp only [hl514000_119] at BK496)
        (try simp only [hl514000_119] at BK513)
        (try simp only [hl514000_119] at BK575)
        (try simp only [hl514000_119] at HO_8)
        (try simp only [hl514000_119] at HO_483000)
        (try simp only [hl514000_119] at HO_483002)
        (try simp only [hl514000_119] at HO_483003)
        (try simp only [hl514000_119] at HO_483004)
        (try simp only [hl514000_119] at HO_497000)
        (try simp only [hl514000_119] at HO_497002)
        (try simp only [hl514000_119] at HO_497003)
        (try simp only [hl514000_119] at HO_497004)
        (try simp only [hl514000_119] at HO_514002)
        (try simp only [hl514000_119] at HO_514003)
        (try simp only [hl514000_119] at HO_514004)
        (try simp only [hl514000_119] at HO_576000)
        (try simp only [hl514000_119] at HO_576002)
        (try simp only [hl514000_119] at HO_576003)
        (try simp only [hl514000_119] at HO_576004)
        have hl514002_119 := (Kd.R_reads' HO_514002.out).1
        rw [hl514002_119] at HO_514002
        (try simp only [hl514002_119])
        (try simp only [hl514002_119] at BK451)
        (try simp only [hl514002_119] at BK482)
        (try simp only [hl514002_119] at BK496)
        (try simp only [hl514002_119] at BK513)
        (try simp only [hl514002_119] at BK575)
        (try simp only [hl514002_119] at HO_8)
        (try simp only [hl514002_119] at HO_483000)
        (try simp only [hl514002_119] at HO_483002)
        (try simp only [hl514002_119] at HO_483003)
        (try simp only [hl514002_119] at HO_483004)
        (try simp only [hl514002_119] at HO_497000)
        (try simp only [hl514002_119] at HO_497002)
        (try simp only [hl514002_119] at HO_497003)
        (try simp only [hl514002_119] at HO_497004)
        (try simp only [hl514002_119] at HO_514000)
        (try simp only [hl514002_119] at HO_514003)
        (try simp only [hl514002_119] at HO_514004)
        (try simp only [hl514002_119] at HO_576000)
        (try simp only [hl514002_119] at HO_576002)
        (try simp only [hl514002_119] at HO_576003)
        (try simp only [hl514002_119] at HO_576004)
        have hl514003_119 := (Kd.R_reads' HO_514003.out).1
        rw [hl514003_119] at HO_514003
        (try simp only [hl514003_119])
        (try simp only [hl514003_119] at BK451)
        (try simp only [hl514003_119] at BK482)
        (try simp only [hl514003_119] at BK496)
        (try simp only [hl514003_119] at BK513)
        (try simp only [hl514003_119] at BK575)
        (try simp only [hl514003_119] at HO_8)
        (try simp only [hl514003_119] at HO_483000)
        (try simp only [hl514003_119] at HO_483002)
        (try simp only [hl514003_119] at HO_483003)
        (try simp only [hl514003_119] at HO_483004)
        (try simp only [hl514003_119] at HO_497000)
        (try simp only [hl514003_119] at HO_497002)
        (try simp only [hl514003_119] at HO_497003)
        (try simp only [hl514003_119] at HO_497004)
        (try simp only [hl514003_119] at HO_514000)
        (try simp only [hl514003_119] at HO_514002)
        (try simp only [hl514003_119] at HO_514004)
        (try simp only [hl514003_119] at HO_576000)
        (try simp only [hl514003_119] at HO_576002)
        (try simp only [hl514003_119] at HO_576003)
        (try simp only [hl514003_119] at HO_576004)
        have hl514004_119 := (Kd.R_reads' HO_514004.out).1
        rw [hl514004_119] at HO_514004
        (try simp only [hl514004_119])
        (try simp only [hl514004_119] at BK451)
        (try simp only [hl514004_119] at BK482)
        (try simp only [hl514004_119] at BK496)
        (try simp only [hl514004_119] at BK513)
        (try simp only [hl514004_119] at BK575)
        (try simp only [hl514004_119] at HO_8)
        (try simp only [hl514004_119] at HO_483000)
        (try simp only [hl514004_119] at HO_483002)
        (try simp only [hl514004_119] at HO_483003)
        (try simp only [hl514004_119] at HO_483004)
        (try simp only [hl514004_119] at HO_497000)
        (try simp only [hl514004_119] at HO_497002)
        (try simp only [hl514004_119] at HO_497003)
        (try simp only [hl514004_119] at HO_497004)
        (try simp only [hl514004_119] at HO_514000)
        (try simp only [hl514004_119] at HO_514002)
        (try simp only [hl514004_119] at HO_514003)
        (try simp only [hl514004_119] at HO_576000)
        (try simp only [hl514004_119] at HO_576002)
        (try simp only [hl514004_119] at HO_576003)
        (try simp only [hl514004_119] at HO_576004)
        cases kq with
        | zero => exact absurd HA.out (by simp [laws_FnExactReclaim.j2])
        | succ kj119 =>
         have H := HA.out
         clear HA
         simp only [laws_FnExactReclaim.j2] at H
         by_cases c174 : x98_119 = true
         ·subst c174
          rw [if_pos rfl] at H
          exact absurd ((Option.some.inj H).trans hrt_.out) (by decide)
         replace c174 := Bool.eq_false_iff.mpr c174
         subst c174
         rw [if_neg (show ¬ (false = true) by decide)] at H
         replace H := Option.bind_eq_some_iff.mp H
         obtain ⟨t578, A1750, H⟩ := H
         try dsimp only at H
         have A175 := Aside0.mk A1750
         clear A1750
         by_cases c176 : t578 < 0
         ·rw [if_pos c176] at H
          have c176b0 : decide (t578 < 0) = true := decide_eq_true c176
          clear c176
          exact absurd ((Option.some.inj H).trans hrt_.out) (by decide)
         rw [if_neg c176] at H
         have c176b0 : decide (t578 < 0) = false := decide_eq_false c176
         clear c176
         replace H := Option.bind_eq_some_iff.mp H
         obtain ⟨t579, A1770, H⟩ := H
         try dsimp only at H
         have A177 := Aside0.mk A1770
         clear A1770
         by_cases c178 : t579 < 0
         ·rw [if_pos c178] at H
          have c178b0 : decide (t579 < 0) = true := decide_eq_true c178
          clear c178
          exact absurd ((Option.some.inj H).trans hrt_.out) (by decide)
         rw [if_neg c178] at H
         have c178b0 : decide (t579 < 0) = false := decide_eq_false c178
         clear c178
         by_cases c179 : t579 = t542
         ·rw [if_pos c179] at H
          have c179b0 : (t579 == t542) = true := beq_iff_eq.mpr c179
          have c179b1 : (t579 != t542) = false := bne_eq_false_iff_eq.mpr c179
          clear c179
          obtain rfl := Option.some.inj H
          have hnb180 := NB513_451.out
          have hnc180 := NB451_513.out
          have hnb181 := NB513_482.out
          have hnc181 := NB482_513.out
          have hnb182 := NB513_496.out
          have hnc182 := NB496_513.out
          have hnb183 := NB513_575.out
          have hnc183 := NB575_513.out
          have hcz184_0 := bz5 BK513
          go_wp2_with (first | ((with_reducible refine gate_callee (f := 18) rfl ?_); refine gl 101 Try.func18 #[.agg #[.slice Ao41 t538.length co41, .int .i64 t500, .slice Ao46 t539.length co46, .slice Ao47 t540.length co47, .slice Ao48 t541.length co48], .int .i64 1] ?_; (with_reducible refine (laws_heldPool.calls kj119 _ _ t538 t500 _ _ t539 _ _ t540 _ _ t541 1 t578 _ (cr HO_514000) ((Kd.R_reads' HO_514000.out).2.1) (cr HO_514002) ((Kd.R_reads' HO_514002.out).2.1) (cr HO_514003) ((Kd.R_reads' HO_514003.out).2.1) (cr HO_514004) ((Kd.R_reads' HO_514004.out).2.1) A175.out).mono ?_); rintro e w185 ⟨rfl, hb⟩; refine ⟨_, rfl, ?_⟩; replace HO_8 := rb HO_8 hb; replace HO_483000 := rb HO_483000 hb; replace HO_483002 := rb HO_483002 hb; replace HO_483003 := rb HO_483003 hb; replace HO_483004 := rb HO_483004 hb; replace HO_497000 := rb HO_497000 hb; replace HO_497002 := rb HO_497002 hb; replace HO_497003 := rb HO_497003 hb; replace HO_497004 := rb HO_497004 hb; replace HO_514000 := rb HO_514000 hb; replace HO_514002 := rb HO_514002 hb; replace HO_514003 := rb HO_514003 hb; replace HO_514004 := rb HO_514004 hb; replace HO_576000 := rb HO_576000 hb; replace HO_576002 := rb HO_576002 hb; replace HO_576003 := rb HO_576003 hb; replace HO_576004 := rb HO_576004 hb; replace BK451 := bb BK451 hb; replace BK482 := bb BK482 hb; replace BK496 := bb BK496 hb; replace BK513 := bb BK513 hb; replace BK575 := bb BK575 hb; replace HB := Aside0.mk (below_step (be5 HB GE451 GE482 GE496 GE513 GE575) hb); (try clear hb)) | ((with_reducible refine gate_callee (f := 35) rfl ?_); refine gl 106 Try.func35 #[.slice Ao126 t543.length co126, .int .i64 t578] ?_; (with_reducible refine (laws_heldIntS.calls kj119 _ _ t543 t578 t579 _ (cr HO_8) ((Kd.R_reads' HO_8.out).2.1) A177.out).mono ?_); rintro e w' ⟨rfl, ⟨nd, rfl⟩⟩; refine ⟨_, rfl, ?_⟩))
          go_ret
          exact ⟨er, be5 HB GE451 GE482 GE496 GE513 GE575⟩
         rw [if_neg c179] at H
         have c179b0 : (t579 == t542) = false := beq_eq_false_iff_ne.mpr c179
         have c179b1 : (t579 != t542) = true := bne_iff_ne.mpr c179
         exact absurd ((Option.some.inj H).trans hrt_.out) (by decide)
      rw [if_neg c117] at H
      have c117b0 : (t545 == t542) = false := beq_eq_false_iff_ne.mpr c117
      have c117b1 : (t545 != t542) = true := bne_iff_ne.mpr c117
      exact absurd ((Option.some.inj H).trans hrt_.out) (by decide)
   replace c73 := Bool.eq_false_iff.mpr c73
   subst c73
   rw [if_neg (show ¬ (false = true) by decide)] at H
   exact absurd ((Option.some.inj H).trans hrt_.out) (by decide)

end Go.Proofs.Ytdgpidhlbpaolaa.QFnExactReclaim
