-- made by a program of this session (myprint.py)
import Derived.Test.YtdgpidhlbpaolaaQFnExactGiveUpx0
import Derived.Test.YtdgpidhlbpaolaaQFnExactGiveUpx1
import Derived.Test.YtdgpidhlbpaolaaQFnExactGiveUpx2
import Derived.Test.YtdgpidhlbpaolaaQFnExactGiveUpx3
import Derived.Test.YtdgpidhlbpaolaaQFnExactGiveUpx8
import Derived.Test.YtdgpidhlbpaolaaQFnExactGiveUpx12
namespace Go.Proofs.Ytdgpidhlbpaolaa.QFnExactGiveUp
open Go.RowKit Go.Proofs.YtdgpidhlbpaolaaW.PrintWords Go.Proofs.YtdgpidhlbpaolaaW.PrintLast Go.Proofs.YtdgpidhlbpaolaaW.PrintMore
attribute [local go_sem] max2_int min2_int max_two min_two max_three min_three max_four min_four   -- for this text's walks alone
set_option linter.unusedVariables false
set_option linter.unusedSimpArgs false

/-! ### laws_FnExactGiveUp: function 11 -/
mutual
def laws_FnExactGiveUp.j0 : Nat → Int → Bool → Bool → Bool → List Int → Int → List Int → List (S106) → List Int → List Int → Int → List Int → List (S70) → List Int → List Int → Int → List Int → List (S70) → List Int → List Int → Int → List Int → List (S70) → List Int → Option (Bool)
 | 0, _, _, _, _, _, _, _, _, _, _, _, _, _, _, _, _, _, _, _, _, _, _, _, _ => none
 | k + 1, x1, x7, x10, x44, x448000, x448001, x448002, x448003, x448004, x477000, x477001, x477002, x477003, x477004, x491000, x491001, x491002, x491003, x491004, x506000, x506001, x506002, x506003, x506004 => if x44 = true then (some false) else ((laws_toPool.f k x448000 x448001 x448002 x448003 x448004).bind fun bt507 => ((laws_eqPool.f k x491000 x491001 x491002 x491003 x491004 bt507.1 bt507.2.1 bt507.2.2.1 bt507.2.2.2.1 bt507.2.2.2.2).bind fun t520 => (if t520 = true then ((laws_markPool.f k x491000 x491001 x491002 x491003 x491004 1).bind fun bt521 => (if bt521.1 < 0 then (laws_FnExactGiveUp.j1 k x1 x7 true x448000 x448001 x448002 x448003 x448004 x477000 x477001 x477002 x477003 x477004 x506000 x506001 x506002 x506003 x506004) else ((laws_eqPool.f k x506000 x506001 x506002 x506003 x506004 x477000 x477001 x477002 x477003 x477004).bind fun t526 => (if t526 = true then (laws_FnExactGiveUp.j1 k x1 x7 (x10 != x7) x448000 x448001 x448002 x448003 x448004 x477000 x477001 x477002 x477003 x477004 x506000 x506001 x506002 x506003 x506004) else (laws_FnExactGiveUp.j1 k x1 x7 true x448000 x448001 x448002 x448003 x448004 x477000 x477001 x477002 x477003 x477004 x506000 x506001 x506002 x506003 x506004))))) else (some false))))
def laws_FnExactGiveUp.j1 : Nat → Int → Bool → Bool → List Int → Int → List Int → List (S106) → List Int → List Int → Int → List Int → List (S70) → List Int → List Int → Int → List Int → List (S70) → List Int → Option (Bool)
 | 0, _, _, _, _, _, _, _, _, _, _, _, _, _, _, _, _, _, _ => none
 | k + 1, x1, x7, x65, x448000, x448001, x448002, x448003, x448004, x477000, x477001, x477002, x477003, x477004, x506000, x506001, x506002, x506003, x506004 => if x65 = true then (some false) else ((laws_markPool.f k x506000 x506001 x506002 x506003 x506004 1).bind fun bt527 => ((laws_heldPool.f k bt527.2.1 x506001 bt527.2.2.1 bt527.2.2.2.1 bt527.2.2.2.2 1).bind fun t532 => (if t532 < 0 then (some false) else (if t532 = bt527.1 then ((laws_toPool.f k x448000 x448001 x448002 x448003 x448004).bind fun bt533 => ((impl_GiveUp.f k bt533.1 bt533.2.1 bt533.2.2.1 bt533.2.2.2.1 bt533.2.2.2.2 x1).bind fun bt546 => ((laws_eqPool.f k bt546.1 bt546.2.1 bt546.2.2.1 bt546.2.2.2.1 bt546.2.2.2.2.1 x477000 x477001 x477002 x477003 x477004).bind fun t561 => (if t561 = true then (laws_FnExactGiveUp.j2 k bt527.1 (bt546.2.2.2.2.2 != x7) bt527.2.1 x506001 bt527.2.2.1 bt527.2.2.2.1 bt527.2.2.2.2) else (laws_FnExactGiveUp.j2 k bt527.1 true bt527.2.1 x506001 bt527.2.2.1 bt527.2.2.2.1 bt527.2.2.2.2))))) else (some false)))))
def laws_FnExactGiveUp.j2 : Nat → Int → Bool → List Int → Int → List Int → List (S70) → List Int → Option (Bool)
 | 0, _, _, _, _, _, _, _ => none
 | k + 1, x12, x92, x506000, x506001, x506002, x506003, x506004 => if x92 = true then (some false) else ((laws_heldPool.f k x506000 x506001 x506002 x506003 x506004 1).bind fun t562 => (if t562 < 0 then (some false) else (if t562 = x12 then (some true) else (some false))))
end
def laws_FnExactGiveUp.f (k : Nat) (l0_0 : List Int) (a0_1 : Int) (l0_2 : List Int) (l0_3 : List (S106)) (l0_4 : List Int) (a1 : Int) : Option (Bool) := (laws_szPool.f l0_0 a0_1 l0_2 l0_3 l0_4 1048576).bind fun t448 => (if t448 < 0 then (some true) else ((laws_toPool.f k l0_0 a0_1 l0_2 l0_3 l0_4).bind fun bt449 => ((spec_GiveUp.f k bt449.1 bt449.2.1 bt449.2.2.1 bt449.2.2.2.1 bt449.2.2.2.2 a1).bind fun bt462 => ((laws_toPool.f k l0_0 a0_1 l0_2 l0_3 l0_4).bind fun bt477 => ((impl_GiveUp.f k bt477.1 bt477.2.1 bt477.2.2.1 bt477.2.2.2.1 bt477.2.2.2.2 a1).bind fun bt491 => ((laws_eqPool.f k bt491.1 bt491.2.1 bt491.2.2.1 bt491.2.2.2.1 bt491.2.2.2.2.1 bt462.1 bt462.2.1 bt462.2.2.1 bt462.2.2.2.1 bt462.2.2.2.2.1).bind fun t506 => (if t506 = true then (laws_FnExactGiveUp.j0 k a1 bt462.2.2.2.2.2 bt491.2.2.2.2.2 (bt491.2.2.2.2.2 != bt462.2.2.2.2.2) l0_0 a0_1 l0_2 l0_3 l0_4 bt462.1 bt462.2.1 bt462.2.2.1 bt462.2.2.2.1 bt462.2.2.2.2.1 bt477.1 bt477.2.1 bt477.2.2.1 bt477.2.2.2.1 bt477.2.2.2.2 bt491.1 bt491.2.1 bt491.2.2.1 bt491.2.2.2.1 bt491.2.2.2.2.1) else (laws_FnExactGiveUp.j0 k a1 bt462.2.2.2.2.2 bt491.2.2.2.2.2 true l0_0 a0_1 l0_2 l0_3 l0_4 bt462.1 bt462.2.1 bt462.2.2.1 bt462.2.2.2.1 bt462.2.2.2.2.1 bt477.1 bt477.2.1 bt477.2.2.1 bt477.2.2.2.1 bt477.2.2.2.2 bt491.1 bt491.2.1 bt491.2.2.1 bt491.2.2.2.1 bt491.2.2.2.2.1))))))))
theorem laws_FnExactGiveUp.mono_l : ∀ k, (∀ y0 y1 y2 y3 y4 y5 y6 y7 y8 y9 y10 y11 y12 y13 y14 y15 y16 y17 y18 y19 y20 y21 y22 y23, LeO (laws_FnExactGiveUp.j0 k y0 y1 y2 y3 y4 y5 y6 y7 y8 y9 y10 y11 y12 y13 y14 y15 y16 y17 y18 y19 y20 y21 y22 y23) (laws_FnExactGiveUp.j0 (k + 1) y0 y1 y2 y3 y4 y5 y6 y7 y8 y9 y10 y11 y12 y13 y14 y15 y16 y17 y18 y19 y20 y21 y22 y23)) ∧ (∀ y0 y1 y2 y3 y4 y5 y6 y7 y8 y9 y10 y11 y12 y13 y14 y15 y16 y17, LeO (laws_FnExactGiveUp.j1 k y0 y1 y2 y3 y4 y5 y6 y7 y8 y9 y10 y11 y12 y13 y14 y15 y16 y17) (laws_FnExactGiveUp.j1 (k + 1) y0 y1 y2 y3 y4 y5 y6 y7 y8 y9 y10 y11 y12 y13 y14 y15 y16 y17)) ∧ (∀ y0 y1 y2 y3 y4 y5 y6, LeO (laws_FnExactGiveUp.j2 k y0 y1 y2 y3 y4 y5 y6) (laws_FnExactGiveUp.j2 (k + 1) y0 y1 y2 y3 y4 y5 y6))
 | 0 => ⟨fun _ _ _ _ _ _ _ _ _ _ _ _ _ _ _ _ _ _ _ _ _ _ _ _ r h => by simp [laws_FnExactGiveUp.j0] at h, fun _ _ _ _ _ _ _ _ _ _ _ _ _ _ _ _ _ _ r h => by simp [laws_FnExactGiveUp.j1] at h, fun _ _ _ _ _ _ _ r h => by simp [laws_FnExactGiveUp.j2] at h⟩
 | k + 1 => by
  obtain ⟨ih0, ih1, ih2⟩ := laws_FnExactGiveUp.mono_l k
  refine ⟨?_, ?_, ?_⟩
  ·intro y0 y1 y2 y3 y4 y5 y6 y7 y8 y9 y10 y11 y12 y13 y14 y15 y16 y17 y18 y19 y20 y21 y22 y23
   unfold laws_FnExactGiveUp.j0
   repeat' first
   | (with_reducible exact ih0 _ _ _ _ _ _ _ _ _ _ _ _ _ _ _ _ _ _ _ _ _ _ _ _)
   | (with_reducible exact ih1 _ _ _ _ _ _ _ _ _ _ _ _ _ _ _ _ _ _)
   | (with_reducible exact ih2 _ _ _ _ _ _ _)
   | (with_reducible exact impl_GiveUp.mono _ _ _ _ _ _ _)
   | (with_reducible exact laws_eqPool.mono _ _ _ _ _ _ _ _ _ _ _)
   | (with_reducible exact laws_heldPool.mono _ _ _ _ _ _ _)
   | (with_reducible exact laws_markPool.mono _ _ _ _ _ _ _)
   | (with_reducible exact laws_toPool.mono _ _ _ _ _ _)
   | (with_reducible exact spec_GiveUp.mono _ _ _ _ _ _ _)
   | (with_reducible exact LeO.refl _)
   | (with_reducible exact LeO.none _)
   | (with_reducible refine LeO.ite ?_ ?_)
   | (with_reducible refine LeO.bind ?_ (fun _ => ?_))
   | exact ih0 _ _ _ _ _ _ _ _ _ _ _ _ _ _ _ _ _ _ _ _ _ _ _ _
   | exact ih1 _ _ _ _ _ _ _ _ _ _ _ _ _ _ _ _ _ _
   | exact ih2 _ _ _ _ _ _ _
   | exact impl_GiveUp.mono _ _ _ _ _ _ _
   | exact laws_eqPool.mono _ _ _ _ _ _ _ _ _ _ _
   | exact laws_heldPool.mono _ _ _ _ _ _ _
   | exact laws_markPool.mono _ _ _ _ _ _ _
   | exact laws_toPool.mono _ _ _ _ _ _
   | exact spec_GiveUp.mono _ _ _ _ _ _ _
   | exact LeO.none _
   | refine LeO.ite ?_ ?_
   | refine LeO.bind ?_ (fun _ => ?_)
  ·intro y0 y1 y2 y3 y4 y5 y6 y7 y8 y9 y10 y11 y12 y13 y14 y15 y16 y17
   unfold laws_FnExactGiveUp.j1
   repeat' first
   | (with_reducible exact ih0 _ _ _ _ _ _ _ _ _ _ _ _ _ _ _ _ _ _ _ _ _ _ _ _)
   | (with_reducible exact ih1 _ _ _ _ _ _ _ _ _ _ _ _ _ _ _ _ _ _)
   | (with_reducible exact ih2 _ _ _ _ _ _ _)
   | (with_reducible exact impl_GiveUp.mono _ _ _ _ _ _ _)
   | (with_reducible exact laws_eqPool.mono _ _ _ _ _ _ _ _ _ _ _)
   | (with_reducible exact laws_heldPool.mono _ _ _ _ _ _ _)
   | (with_reducible exact laws_markPool.mono _ _ _ _ _ _ _)
   | (with_reducible exact laws_toPool.mono _ _ _ _ _ _)
   | (with_reducible exact spec_GiveUp.mono _ _ _ _ _ _ _)
   | (with_reducible exact LeO.refl _)
   | (with_reducible exact LeO.none _)
   | (with_reducible refine LeO.ite ?_ ?_)
   | (with_reducible refine LeO.bind ?_ (fun _ => ?_))
   | exact ih0 _ _ _ _ _ _ _ _ _ _ _ _ _ _ _ _ _ _ _ _ _ _ _ _
   | exact ih1 _ _ _ _ _ _ _ _ _ _ _ _ _ _ _ _ _ _
   | exact ih2 _ _ _ _ _ _ _
   | exact impl_GiveUp.mono _ _ _ _ _ _ _
   | exact laws_eqPool.mono _ _ _ _ _ _ _ _ _ _ _
   | exact laws_heldPool.mono _ _ _ _ _ _ _
   | exact laws_markPool.mono _ _ _ _ _ _ _
   | exact laws_toPool.mono _ _ _ _ _ _
   | exact spec_GiveUp.mono _ _ _ _ _ _ _
   | exact LeO.none _
   | refine LeO.ite ?_ ?_
   | refine LeO.bind ?_ (fun _ => ?_)
  intro y0 y1 y2 y3 y4 y5 y6
  unfold laws_FnExactGiveUp.j2
  repeat' first
  | (with_reducible exact ih0 _ _ _ _ _ _ _ _ _ _ _ _ _ _ _ _ _ _ _ _ _ _ _ _)
  | (with_reducible exact ih1 _ _ _ _ _ _ _ _ _ _ _ _ _ _ _ _ _ _)
  | (with_reducible exact ih2 _ _ _ _ _ _ _)
  | (with_reducible exact impl_GiveUp.mono _ _ _ _ _ _ _)
  | (with_reducible exact laws_eqPool.mono _ _ _ _ _ _ _ _ _ _ _)
  | (with_reducible exact laws_heldPool.mono _ _ _ _ _ _ _)
  | (with_reducible exact laws_markPool.mono _ _ _ _ _ _ _)
  | (with_reducible exact laws_toPool.mono _ _ _ _ _ _)
  | (with_reducible exact spec_GiveUp.mono _ _ _ _ _ _ _)
  | (with_reducible exact LeO.refl _)
  | (with_reducible exact LeO.none _)
  | (with_reducible refine LeO.ite ?_ ?_)
  | (with_reducible refine LeO.bind ?_ (fun _ => ?_))
  | exact ih0 _ _ _ _ _ _ _ _ _ _ _ _ _ _ _ _ _ _ _ _ _ _ _ _
  | exact ih1 _ _ _ _ _ _ _ _ _ _ _ _ _ _ _ _ _ _
  | exact ih2 _ _ _ _ _ _ _
  | exact impl_GiveUp.mono _ _ _ _ _ _ _
  | exact laws_eqPool.mono _ _ _ _ _ _ _ _ _ _ _
  | exact laws_heldPool.mono _ _ _ _ _ _ _
  | exact laws_markPool.mono _ _ _ _ _ _ _
  | exact laws_toPool.mono _ _ _ _ _ _
  | exact spec_GiveUp.mono _ _ _ _ _ _ _
  | exact LeO.none _
  | refine LeO.ite ?_ ?_
  | refine LeO.bind ?_ (fun _ => ?_)
theorem laws_FnExactGiveUp.mono : ∀ a0 a1 a2 a3 a4 a5 k, LeO (laws_FnExactGiveUp.f k a0 a1 a2 a3 a4 a5) (laws_FnExactGiveUp.f (k + 1) a0 a1 a2 a3 a4 a5) := by
 intro a0 a1 a2 a3 a4 a5 k
 obtain ⟨ih0, ih1, ih2⟩ := laws_FnExactGiveUp.mono_l k
 unfold laws_FnExactGiveUp.f
 repeat' first
   | (with_reducible exact ih0 _ _ _ _ _ _ _ _ _ _ _ _ _ _ _ _ _ _ _ _ _ _ _ _)
   | (with_reducible exact ih1 _ _ _ _ _ _ _ _ _ _ _ _ _ _ _ _ _ _)
   | (with_reducible exact ih2 _ _ _ _ _ _ _)
   | (with_reducible exact impl_GiveUp.mono _ _ _ _ _ _ _)
   | (with_reducible exact laws_eqPool.mono _ _ _ _ _ _ _ _ _ _ _)
   | (with_reducible exact laws_heldPool.mono _ _ _ _ _ _ _)
   | (with_reducible exact laws_markPool.mono _ _ _ _ _ _ _)
   | (with_reducible exact laws_toPool.mono _ _ _ _ _ _)
   | (with_reducible exact spec_GiveUp.mono _ _ _ _ _ _ _)
   | (with_reducible exact LeO.refl _)
   | (with_reducible exact LeO.none _)
   | (with_reducible refine LeO.ite ?_ ?_)
   | (with_reducible refine LeO.bind ?_ (fun _ => ?_))
   | exact ih0 _ _ _ _ _ _ _ _ _ _ _ _ _ _ _ _ _ _ _ _ _ _ _ _
   | exact ih1 _ _ _ _ _ _ _ _ _ _ _ _ _ _ _ _ _ _
   | exact ih2 _ _ _ _ _ _ _
   | exact impl_GiveUp.mono _ _ _ _ _ _ _
   | exact laws_eqPool.mono _ _ _ _ _ _ _ _ _ _ _
   | exact laws_heldPool.mono _ _ _ _ _ _ _
   | exact laws_markPool.mono _ _ _ _ _ _ _
   | exact laws_toPool.mono _ _ _ _ _ _
   | exact spec_GiveUp.mono _ _ _ _ _ _ _
   | exact LeO.none _
   | refine LeO.ite ?_ ?_
   | refine LeO.bind ?_ (fun _ => ?_)
set_option maxHeartbeats 8000000 in
set_option maxRecDepth 100000 in
theorem laws_FnExactGiveUp.calls (k : Nat) (A0_0 : Option Addr) (c0_0 : Nat) (l0_0 : List Int) (a0_1 : Int) (A0_2 : Option Addr) (c0_2 : Nat) (l0_2 : List Int) (A0_3 : Option Addr) (c0_3 : Nat) (l0_3 : List (S106)) (A0_4 : Option Addr) (c0_4 : Nat) (l0_4 : List Int) (a1 : Int) (r : Bool) (w : World) (hr0_0 : Kd.C (Kd.int .i64) w A0_0 l0_0.length l0_0) (hc0_0 : l0_0.length ≤ c0_0) (hr0_2 : Kd.C (Kd.int .i64) w A0_2 l0_2.length l0_2) (hc0_2 : l0_2.length ≤ c0_2) (hr0_3 : Kd.C k106 w A0_3 l0_3.length l0_3) (hc0_3 : l0_3.length ≤ c0_3) (hr0_4 : Kd.C (Kd.int .i64) w A0_4 l0_4.length l0_4) (hc0_4 : l0_4.length ≤ c0_4) (h : laws_FnExactGiveUp.f k l0_0 a0_1 l0_2 l0_3 l0_4 a1 = some r) (hrt_ : Aside0 (r = true)) :
  Calls Try.prog 11 #[.agg #[.slice A0_0 l0_0.length c0_0, .int .i64 a0_1, .slice A0_2 l0_2.length c0_2, .slice A0_3 l0_3.length c0_3, .slice A0_4 l0_4.length c0_4], .int .i64 a1] w fun e w' => e = .returned (.bool r) ∧ Below w.heap.size w w' := by
 have hu37 := Try.underlying37
 have hu27 := Try.underlying27
 have HR0_0 := Aside0.mk hr0_0
 have HC0_0 := Aside0.mk hc0_0
 clear hr0_0 hc0_0
 have HR0_2 := Aside0.mk hr0_2
 have HC0_2 := Aside0.mk hc0_2
 clear hr0_2 hc0_2
 have HR0_3 := Aside0.mk hr0_3
 have HC0_3 := Aside0.mk hc0_3
 clear hr0_3 hc0_3
 have HR0_4 := Aside0.mk hr0_4
 have HC0_4 := Aside0.mk hc0_4
 clear hr0_4 hc0_4
 have HB := Aside0.mk (Below.refl w.heap.size w)
 have H : ((laws_szPool.f l0_0 a0_1 l0_2 l0_3 l0_4 1048576).bind fun t448 => (if t448 < 0 then (some true) else ((laws_toPool.f k l0_0 a0_1 l0_2 l0_3 l0_4).bind fun bt449 => ((spec_GiveUp.f k bt449.1 bt449.2.1 bt449.2.2.1 bt449.2.2.2.1 bt449.2.2.2.2 a1).bind fun bt462 => ((laws_toPool.f k l0_0 a0_1 l0_2 l0_3 l0_4).bind fun bt477 => ((impl_GiveUp.f k bt477.1 bt477.2.1 bt477.2.2.1 bt477.2.2.2.1 bt477.2.2.2.2 a1).bind fun bt491 => ((laws_eqPool.f k bt491.1 bt491.2.1 bt491.2.2.1 bt491.2.2.2.1 bt491.2.2.2.2.1 bt462.1 bt462.2.1 bt462.2.2.1 bt462.2.2.2.1 bt462.2.2.2.2.1).bind fun t506 => (if t506 = true then (laws_FnExactGiveUp.j0 k a1 bt462.2.2.2.2.2 bt491.2.2.2.2.2 (bt491.2.2.2.2.2 != bt462.2.2.2.2.2) l0_0 a0_1 l0_2 l0_3 l0_4 bt462.1 bt462.2.1 bt462.2.2.1 bt462.2.2.2.1 bt462.2.2.2.2.1 bt477.1 bt477.2.1 bt477.2.2.1 bt477.2.2.2.1 bt477.2.2.2.2 bt491.1 bt491.2.1 bt491.2.2.1 bt491.2.2.2.1 bt491.2.2.2.2.1) else (laws_FnExactGiveUp.j0 k a1 bt462.2.2.2.2.2 bt491.2.2.2.2.2 true l0_0 a0_1 l0_2 l0_3 l0_4 bt462.1 bt462.2.1 bt462.2.2.1 bt462.2.2.2.1 bt462.2.2.2.2.1 bt477.1 bt477.2.1 bt477.2.2.1 bt477.2.2.2.1 bt477.2.2.2.2 bt491.1 bt491.2.1 bt491.2.2.1 bt491.2.2.2.1 bt491.2.2.2.2.1))))))))) = some r := h
 clear h
 replace H := Option.bind_eq_some_iff.mp H
 obtain ⟨t448, A30, H⟩ := H
 try dsimp only at H
 have A3 := Aside0.mk A30
 clear A30
 by_cases c4 : t448 < 0
 ·rw [if_pos c4] at H
  have c4b0 : decide (t448 < 0) = true := decide_eq_true c4
  clear c4
  obtain rfl := Option.some.inj H
  go_enter Try.func11, Try.ntmps11
  go_wp2_with (first | ((with_reducible refine gate_dst (N := 2) rfl ?_); refine bx 2 #[.slice A0_0 l0_0.length c0_0, .int .i64 a0_1, .slice A0_2 l0_2.length c0_2, .slice A0_3 l0_3.length c0_3, .slice A0_4 l0_4.length c0_4] 37 ?_; intro gb447 hg w5 hbox hb; have BK447 := am hbox; have GW447 := gs0 hg HB; have GE447 := gs0 hg HB; replace HB := s0 HB hb; clear hb hbox hg; have hcz6_0 := bz5 BK447) | ((with_reducible refine gate_callee (f := 19) rfl ?_); refine gl 18 Try.func19 #[.agg #[.slice A0_0 l0_0.length c0_0, .int .i64 a0_1, .slice A0_2 l0_2.length c0_2, .slice A0_3 l0_3.length c0_3, .slice A0_4 l0_4.length c0_4], .int .i64 1048576] ?_; (with_reducible refine (laws_szPool.calls _ _ l0_0 a0_1 _ _ l0_2 _ _ l0_3 _ _ l0_4 1048576 t448 _ (cb HR0_0 HB) HC0_0.out (cb HR0_2 HB) HC0_2.out (cb HR0_3 HB) HC0_3.out (cb HR0_4 HB) HC0_4.out A3.out).mono ?_); rintro e w7 ⟨rfl, hb⟩; refine ⟨_, rfl, ?_⟩; replace BK447 := bb BK447 hb; replace HB := Aside0.mk (below_step (be1 HB GE447) hb); (try clear hb)))
  go_ret
  exact ⟨er, be1 HB GE447⟩
 rw [if_neg c4] at H
 have c4b0 : decide (t448 < 0) = false := decide_eq_false c4
 clear c4
 replace H := Option.bind_eq_some_iff.mp H
 obtain ⟨⟨t449, t452, t453, t456, t459⟩, A80, H⟩ := H
 try dsimp only at H
 have A8 := Aside0.mk A80
 clear A80
 replace H := Option.bind_eq_some_iff.mp H
 obtain ⟨⟨t462, t465, t466, t469, t472, t475⟩, A90, H⟩ := H
 try dsimp only at H
 have A9 := Aside0.mk A90
 clear A90
 replace H := Option.bind_eq_some_iff.mp H
 obtain ⟨⟨t477, t480, t481, t484, t487⟩, A100, H⟩ := H
 try dsimp only at H
 have A10 := Aside0.mk A100
 clear A100
 replace H := Option.bind_eq_some_iff.mp H
 obtain ⟨⟨t491, t494, t495, t498, t501, t504⟩, A110, H⟩ := H
 try dsimp only at H
 have A11 := Aside0.mk A110
 clear A110
 have HC12 := Aside0.mk H
 clear H
 go_enter Try.func11, Try.ntmps11
 go_upto_region 8 with (first | ((with_reducible refine gate_dst (N := 2) rfl ?_); refine bx 2 #[.slice A0_0 l0_0.length c0_0, .int .i64 a0_1, .slice A0_2 l0_2.length c0_2, .slice A0_3 l0_3.length c0_3, .slice A0_4 l0_4.length c0_4] 37 ?_; intro gb447 hg w13 hbox hb; have BK447 := am hbox; have GW447 := gs0 hg HB; have GE447 := gs0 hg HB; replace HB := s0 HB hb; clear hb hbox hg; have hcz14_0 := bz5 BK447) | ((with_reducible refine gate_callee (f := 19) rfl ?_); refine gl 18 Try.func19 #[.agg #[.slice A0_0 l0_0.length c0_0, .int .i64 a0_1, .slice A0_2 l0_2.length c0_2, .slice A0_3 l0_3.length c0_3, .slice A0_4 l0_4.length c0_4], .int .i64 1048576] ?_; (with_reducible refine (laws_szPool.calls _ _ l0_0 a0_1 _ _ l0_2 _ _ l0_3 _ _ l0_4 1048576 t448 _ (cb HR0_0 HB) HC0_0.out (cb HR0_2 HB) HC0_2.out (cb HR0_3 HB) HC0_3.out (cb HR0_4 HB) HC0_4.out A3.out).mono ?_); rintro e w15 ⟨rfl, hb⟩; refine ⟨_, rfl, ?_⟩; replace BK447 := bb BK447 hb; replace HB := Aside0.mk (below_step (be1 HB GE447) hb); (try clear hb); have hcz16_0 := bz5 BK447) | ((with_reducible refine gate_callee (f := 21) rfl ?_); refine gl 23 Try.func21 #[.agg #[.slice A0_0 l0_0.length c0_0, .int .i64 a0_1, .slice A0_2 l0_2.length c0_2, .slice A0_3 l0_3.length c0_3, .slice A0_4 l0_4.length c0_4]] ?_; (with_reducible refine (laws_toPool.calls k _ _ l0_0 a0_1 _ _ l0_2 _ _ l0_3 _ _ l0_4 t449 t452 t453 t456 t459 _ (cb HR0_0 HB) HC0_0.out (cb HR0_2 HB) HC0_2.out (cb HR0_3 HB) HC0_3.out (cb HR0_4 HB) HC0_4.out A8.out).mono ?_); rintro e w17 ⟨v450, v454, v457, v460, rfl, ho0, ho1, ho2, ho3, hb⟩; refine ⟨_, rfl, ?_⟩; have HO451 := Aside0.mk (Kd.R_lower ho0 (below_size (be1 HB GE447))); have HO455 := Aside0.mk (Kd.R_lower ho1 (below_size (be1 HB GE447))); have HO458 := Aside0.mk (Kd.R_lower ho2 (below_size (be1 HB GE447))); have HO461 := Aside0.mk (Kd.R_lower ho3 (below_size (be1 HB GE447))); replace BK447 := bb BK447 hb; replace HB := Aside0.mk (below_step (be1 HB GE447) hb); (try clear hb); (try clear ho0); (try clear ho1); (try clear ho2); (try clear ho3); obtain ⟨Ao18, co18, eo18⟩ := Kd.R_slice HO451.out; subst eo18; obtain ⟨Ao19, co19, eo19⟩ := Kd.R_slice HO455.out; subst eo19; obtain ⟨Ao20, co20, eo20⟩ := Kd.R_slice HO458.out; subst eo20; obtain ⟨Ao21, co21, eo21⟩ := Kd.R_slice HO461.out; subst eo21) | ((with_reducible refine gate_callee (f := 38) rfl ?_); refine gl 25 Try.func38 #[.agg #[.slice Ao18 t449.length co18, .int .i64 t452, .slice Ao19 t453.length co19, .slice Ao20 t456.length co20, .slice Ao21 t459.length co21], .int .i64 a1] ?_; (with_reducible refine (spec_GiveUp.calls k _ _ t449 t452 _ _ t453 _ _ t456 _ _ t459 a1 t462 t465 t466 t469 t472 t475 _ (cr HO451) ((Kd.R_reads' HO451.out).2.1) (cr HO455) ((Kd.R_reads' HO455.out).2.1) (cr HO458) ((Kd.R_reads' HO458.out).2.1) (cr HO461) ((Kd.R_reads' HO461.out).2.1) A9.out).mono ?_); rintro e w22 ⟨v463, v467, v470, v473, rfl, ho0, ho1, ho2, ho3, hb⟩; refine ⟨_, rfl, ?_⟩; have HO464 := Aside0.mk (Kd.R_lower (nw (nw (nw ho0 HO451) HO455) HO461) (below_size (be1 HB GE447))); have HO468 := Aside0.mk (Kd.R_lower (nw (nw (nw ho1 HO451) HO455) HO461) (below_size (be1 HB GE447))); have HO471 := Aside0.mk (Kd.R_lower (nw ho2 HO458) (below_size (be1 HB GE447))); replace HO458 := Aside0.mk (Kd.R_elder' (ro HO458) (Kd.R_base ho2) hb); have HO474 := Aside0.mk (Kd.R_lower (nw (nw (nw ho3 HO451) HO455) HO461) (below_size (be1 HB GE447))); replace HO451 := td3 (ro HO451) hb ho0 ho1 ho3; replace HO455 := td3 (ro HO455) hb ho0 ho1 ho3; replace HO461 := td3 (ro HO461) hb ho0 ho1 ho3; replace BK447 := bb BK447 hb; replace HB := Aside0.mk (below_step (be1 HB GE447) hb); (try clear hb); (try clear ho0); (try clear ho1); (try clear ho2); (try clear ho3)) | ((with_reducible refine gate_dst (N := 6) rfl ?_); refine bx 6 #[.slice none 0 0, .int .i64 0, .slice none 0 0, .slice none 0 0, .slice none 0 0] 27 ?_; intro gb476 hg w23 hbox hb; replace HO451 := rb HO451 hb; replace HO455 := rb HO455 hb; replace HO458 := rb HO458 hb; replace HO461 := rb HO461 hb; replace HO464 := rb HO464 hb; replace HO468 := rb HO468 hb; replace HO471 := rb HO471 hb; replace HO474 := rb HO474 hb; have BK476 := am hbox; have GW476 := gs1 hg HB GE447; have GE476 := gs1 hg HB GE447; replace HB := Aside0.mk (below_step (be1 HB GE447) hb); have NB447_476 := Aside0.mk ((by rw [hg]; exact Nat.ne_of_lt (bl BK447) : gb447 ≠ gb476)); have NB476_447 := Aside0.mk ((by rw [hg]; exact Nat.ne_of_gt (bl BK447) : gb476 ≠ gb447)); replace BK447 := bb BK447 hb; clear hb hbox hg; obtain ⟨Ao24, co24, eo24⟩ := Kd.R_slice HO464.out; subst eo24; have hnb25 := NB476_447.out; have hnc25 := NB447_476.out; have hcz26_0 := bz5 BK476; obtain ⟨Ao27, co27, eo27⟩ := Kd.R_slice HO468.out; subst eo27; obtain ⟨Ao28, co28, eo28⟩ := Kd.R_slice HO471.out; subst eo28; obtain ⟨Ao29, co29, eo29⟩ := Kd.R_slice HO474.out; subst eo29; have hcz30_0 := bz5 BK447) | ((with_reducible refine gate_callee (f := 21) rfl ?_); refine gl 29 Try.func21 #[.agg #[.slice A0_0 l0_0.length c0_0, .int .i64 a0_1, .slice A0_2 l0_2.length c0_2, .slice A0_3 l0_3.length c0_3, .slice A0_4 l0_4.length c0_4]] ?_; (with_reducible refine (laws_toPool.calls k _ _ l0_0 a0_1 _ _ l0_2 _ _ l0_3 _ _ l0_4 t477 t480 t481 t484 t487 _ ?side1 HC0_0.out ?side3 HC0_2.out ?side5 HC0_3.out ?side7 HC0_4.out A10.out).mono ?_); (case side1 => exact Kd.C_below HR0_0.out (be2 HB GE447 GE476)); (case side3 => exact Kd.C_below HR0_2.out (be2 HB GE447 GE476)); (case side5 => exact Kd.C_below HR0_3.out (be2 HB GE447 GE476)); (case side7 => exact Kd.C_below HR0_4.out (be2 HB GE447 GE476)); rintro e w31 ⟨v478, v482, v485, v488, rfl, ho0, ho1, ho2, ho3, hb⟩; refine ⟨_, rfl, ?_⟩; have HO479 := Aside0.mk (Kd.R_lower (Kd.R_new' (Kd.R_new' (Kd.R_new' (Kd.R_new' (Kd.R_new' (Kd.R_new' ho0 (Kd.R_lt (rf HO451 BK476))) (Kd.R_lt (rf HO455 BK476))) (Kd.R_lt (rf HO461 BK476))) (Kd.R_lt (rf HO464 BK476))) (Kd.R_lt (rf HO468 BK476))) (Kd.R_lt (rf HO474 BK476))) (below_size (be2 HB GE447 GE476))); have HO483 := Aside0.mk (Kd.R_lower (Kd.R_new' (Kd.R_new' (Kd.R_new' (Kd.R_new' (Kd.R_new' (Kd.R_new' ho1 (Kd.R_lt (rf HO451 BK476))) (Kd.R_lt (rf HO455 BK476))) (Kd.R_lt (rf HO461 BK476))) (Kd.R_lt (rf HO464 BK476))) (Kd.R_lt (rf HO468 BK476))) (Kd.R_lt (rf HO474 BK476))) (below_size (be2 HB GE447 GE476))); have HO486 := Aside0.mk (Kd.R_lower (Kd.R_new' (Kd.R_new' ho2 (Kd.R_lt (rf HO458 BK476))) (Kd.R_lt (rf HO471 BK476))) (below_size (be2 HB GE447 GE476))); replace HO458 := Aside0.mk (Kd.R_elder' (rf HO458 BK476) (Kd.R_base ho2) hb); replace HO471 := Aside0.mk (Kd.R_elder' (rf HO471 BK476) (Kd.R_base ho2) hb); have HO489 := Aside0.mk (Kd.R_lower (Kd.R_new' (Kd.R_new' (Kd.R_new' (Kd.R_new' (Kd.R_new' (Kd.R_new' ho3 (Kd.R_lt (rf HO451 BK476))) (Kd.R_lt (rf HO455 BK476))) (Kd.R_lt (rf HO461 BK476))) (Kd.R_lt (rf HO464 BK476))) (Kd.R_lt (rf HO468 BK476))) (Kd.R_lt (rf HO474 BK476))) (below_size (be2 HB GE447 GE476))); replace HO451 := td3 (rf HO451 BK476) hb ho0 ho1 ho3; replace HO455 := td3 (rf HO455 BK476) hb ho0 ho1 ho3; replace HO461 := td3 (rf HO461 BK476) hb ho0 ho1 ho3; replace HO464 := td3 (rf HO464 BK476) hb ho0 ho1 ho3; replace HO468 := td3 (rf HO468 BK476) hb ho0 ho1 ho3; replace HO474 := td3 (rf HO474 BK476) hb ho0 ho1 ho3; replace BK447 := Aside0.mk (blk_below (g := gb447) (o := .cells #[.slice A0_0 l0_0.length c0_0, .int .i64 a0_1, .slice A0_2 l0_2.length c0_2, .slice A0_3 l0_3.length c0_3, .slice A0_4 l0_4.length c0_4] 37 (0, 0)) (bf1 BK447 NB447_476) hb); replace BK476 := Aside0.mk (blk_below (g := gb476) (o := .cells #[.slice Ao24 t462.length co24, .int .i64 t465, .slice Ao27 t466.length co27, .slice Ao28 t469.length co28, .slice Ao29 t472.length co29] 27 (0, 0)) (by (with_reducible repeat (first | refine blk_drewN ?_ _ | refine blk_drew ?_ | refine blk_alloc ?_ _)); refine blk_put (cs := #[.slice Ao24 t462.length co24, .int .i64 t465, .slice Ao27 t466.length co27, .slice Ao28 t469.length co28, .slice none 0 0]) ?_ 4 _ rfl; (with_reducible repeat (first | refine blk_drewN ?_ _ | refine blk_drew ?_ | refine blk_alloc ?_ _)); refine blk_put (cs := #[.slice Ao24 t462.length co24, .int .i64 t465, .slice Ao27 t466.length co27, .slice none 0 0, .slice none 0 0]) ?_ 3 _ rfl; (with_reducible repeat (first | refine blk_drewN ?_ _ | refine blk_drew ?_ | refine blk_alloc ?_ _)); refine blk_put (cs := #[.slice Ao24 t462.length co24, .int .i64 t465, .slice none 0 0, .slice none 0 0, .slice none 0 0]) ?_ 2 _ rfl; (with_reducible repeat (first | refine blk_drewN ?_ _ | refine blk_drew ?_ | refine blk_alloc ?_ _)); refine blk_put (cs := #[.slice Ao24 t462.length co24, .int .i64 0, .slice none 0 0, .slice none 0 0, .slice none 0 0]) ?_ 1 _ rfl; (with_reducible repeat (first | refine blk_drewN ?_ _ | refine blk_drew ?_ | refine blk_alloc ?_ _)); refine blk_put (cs := #[.slice none 0 0, .int .i64 0, .slice none 0 0, .slice none 0 0, .slice none 0 0]) ?_ 0 _ rfl; (with_reducible repeat (first | refine blk_drewN ?_ _ | refine blk_drew ?_ | refine blk_alloc ?_ _)); exact BK476.out) hb); replace HB := Aside0.mk (below_step (be2 HB GE447 GE476) hb); (try clear hb); (try clear ho0); (try clear ho1); (try clear ho2); (try clear ho3)) | ((with_reducible refine gate_dst (N := 8) rfl ?_); refine bx 8 #[.slice none 0 0, .int .i64 0, .slice none 0 0, .slice none 0 0, .slice none 0 0] 27 ?_; intro gb490 hg w32 hbox hb; replace HO451 := rb HO451 hb; replace HO455 := rb HO455 hb; replace HO458 := rb HO458 hb; replace HO461 := rb HO461 hb; replace HO464 := rb HO464 hb; replace HO468 := rb HO468 hb; replace HO471 := rb HO471 hb; replace HO474 := rb HO474 hb; replace HO479 := rb HO479 hb; replace HO483 := rb HO483 hb; replace HO486 := rb HO486 hb; replace HO489 := rb HO489 hb; have BK490 := am hbox; have GW490 := gs2 hg HB GE447 GE476; have GE490 := gs2 hg HB GE447 GE476; replace HB := Aside0.mk (below_step (be2 HB GE447 GE476) hb); have NB447_490 := Aside0.mk ((by rw [hg]; exact Nat.ne_of_lt (bl BK447) : gb447 ≠ gb490)); have NB490_447 := Aside0.mk ((by rw [hg]; exact Nat.ne_of_gt (bl BK447) : gb490 ≠ gb447)); replace BK447 := bb BK447 hb; have NB476_490 := Aside0.mk ((by rw [hg]; exact Nat.ne_of_lt (bl BK476) : gb476 ≠ gb490)); have NB490_476 := Aside0.mk ((by rw [hg]; exact Nat.ne_of_gt (bl BK476) : gb490 ≠ gb476)); replace BK476 := bb BK476 hb; clear hb hbox hg; obtain ⟨Ao33, co33, eo33⟩ := Kd.R_slice HO479.out; subst eo33; have hnb34 := NB490_447.out; have hnc34 := NB447_490.out; have hnb35 := NB490_476.out; have hnc35 := NB476_490.out; have hcz36_0 := bz5 BK490; obtain ⟨Ao37, co37, eo37⟩ := Kd.R_slice HO483.out; subst eo37; obtain ⟨Ao38, co38, eo38⟩ := Kd.R_slice HO486.out; subst eo38; obtain ⟨Ao39, co39, eo39⟩ := Kd.R_slice HO489.out; subst eo39) | ((with_reducible refine gate_callee (f := 39) rfl ?_); refine gl 33 Try.func39 #[.agg #[.slice Ao33 t477.length co33, .int .i64 t480, .slice Ao37 t481.length co37, .slice Ao38 t484.length co38, .slice Ao39 t487.length co39], .int .i64 a1] ?_; (with_reducible refine (impl_GiveUp.calls k _ _ t477 t480 _ _ t481 _ _ t484 _ _ t487 a1 t491 t494 t495 t498 t501 t504 _ ?side1 ((Kd.R_reads' HO479.out).2.1) ?side3 ((Kd.R_reads' HO483.out).2.1) ?side5 ((Kd.R_reads' HO486.out).2.1) ?side7 ((Kd.R_reads' HO489.out).2.1) A11.out).mono ?_); (case side1 => exact rfr _ HO479 BK490); (case side3 => exact rfr _ HO483 BK490); (case side5 => exact rfr _ HO486 BK490); (case side7 => exact rfr _ HO489 BK490); rintro e w40 ⟨v492, v496, v499, v502, rfl, ho0, ho1, ho2, ho3, hb⟩; refine ⟨_, rfl, ?_⟩; have HO493 := Aside0.mk (Kd.R_lower (Kd.R_new' (Kd.R_new' (Kd.R_new' (Kd.R_new' (Kd.R_new' (Kd.R_new' (Kd.R_new' (Kd.R_new' (Kd.R_new' ho0 (Kd.R_lt (rf HO451 BK490))) (Kd.R_lt (rf HO455 BK490))) (Kd.R_lt (rf HO461 BK490))) (Kd.R_lt (rf HO464 BK490))) (Kd.R_lt (rf HO468 BK490))) (Kd.R_lt (rf HO474 BK490))) (Kd.R_lt (rf HO479 BK490))) (Kd.R_lt (rf HO483 BK490))) (Kd.R_lt (rf HO489 BK490))) (below_size (be3 HB GE447 GE476 GE490))); have HO497 := Aside0.mk (Kd.R_lower (Kd.R_new' (Kd.R_new' (Kd.R_new' (Kd.R_new' (Kd.R_new' (Kd.R_new' (Kd.R_new' (Kd.R_new' (Kd.R_new' ho1 (Kd.R_lt (rf HO451 BK490))) (Kd.R_lt (rf HO455 BK490))) (Kd.R_lt (rf HO461 BK490))) (Kd.R_lt (rf HO464 BK490))) (Kd.R_lt (rf HO468 BK490))) (Kd.R_lt (rf HO474 BK490))) (Kd.R_lt (rf HO479 BK490))) (Kd.R_lt (rf HO483 BK490))) (Kd.R_lt (rf HO489 BK490))) (below_size (be3 HB GE447 GE476 GE490))); have HO500 := Aside0.mk (Kd.R_lower (Kd.R_new' (Kd.R_new' (Kd.R_new' ho2 (Kd.R_lt (rf HO458 BK490))) (Kd.R_lt (rf HO471 BK490))) (Kd.R_lt (rf HO486 BK490))) (below_size (be3 HB GE447 GE476 GE490))); replace HO458 := Aside0.mk (Kd.R_elder' (rf HO458 BK490) (Kd.R_base ho2) hb); replace HO471 := Aside0.mk (Kd.R_elder' (rf HO471 BK490) (Kd.R_base ho2) hb); replace HO486 := Aside0.mk (Kd.R_elder' (rf HO486 BK490) (Kd.R_base ho2) hb); have HO503 := Aside0.mk (Kd.R_lower (Kd.R_new' (Kd.R_new' (Kd.R_new' (Kd.R_new' (Kd.R_new' (Kd.R_new' (Kd.R_new' (Kd.R_new' (Kd.R_new' ho3 (Kd.R_lt (rf HO451 BK490))) (Kd.R_lt (rf HO455 BK490))) (Kd.R_lt (rf HO461 BK490))) (Kd.R_lt (rf HO464 BK490))) (Kd.R_lt (rf HO468 BK490))) (Kd.R_lt (rf HO474 BK490))) (Kd.R_lt (rf HO479 BK490))) (Kd.R_lt (rf HO483 BK490))) (Kd.R_lt (rf HO489 BK490))) (below_size (be3 HB GE447 GE476 GE490))); replace HO451 := td3 (rf HO451 BK490) hb ho0 ho1 ho3; replace HO455 := td3 (rf HO455 BK490) hb ho0 ho1 ho3; replace HO461 := td3 (rf HO461 BK490) hb ho0 ho1 ho3; replace HO464 := td3 (rf HO464 BK490) hb ho0 ho1 ho3; replace HO468 := td3 (rf HO468 BK490) hb ho0 ho1 ho3; replace HO474 := td3 (rf HO474 BK490) hb ho0 ho1 ho3; replace HO479 := td3 (rf HO479 BK490) hb ho0 ho1 ho3; replace HO483 := td3 (rf HO483 BK490) hb ho0 ho1 ho3; replace HO489 := td3 (rf HO489 BK490) hb ho0 ho1 ho3; replace BK447 := Aside0.mk (blk_below (g := gb447) (o := .cells #[.slice A0_0 l0_0.length c0_0, .int .i64 a0_1, .slice A0_2 l0_2.length c0_2, .slice A0_3 l0_3.length c0_3, .slice A0_4 l0_4.length c0_4] 37 (0, 0)) (bf1 BK447 NB447_490) hb); replace BK476 := Aside0.mk (blk_below (g := gb476) (o := .cells #[.slice Ao24 t462.length co24, .int .i64 t465, .slice Ao27 t466.length co27, .slice Ao28 t469.length co28, .slice Ao29 t472.length co29] 27 (0, 0)) (bf1 BK476 NB476_490) hb); replace BK490 := Aside0.mk (blk_below (g := gb490) (o := .cells #[.slice Ao33 t477.length co33, .int .i64 t480, .slice Ao37 t481.length co37, .slice Ao38 t484.length co38, .slice Ao39 t487.length co39] 27 (0, 0)) (by (with_reducible repeat (first | refine blk_drewN ?_ _ | refine blk_drew ?_ | refine blk_alloc ?_ _)); refine blk_put (cs := #[.slice Ao33 t477.length co33, .int .i64 t480, .slice Ao37 t481.length co37, .slice Ao38 t484.length co38, .slice none 0 0]) ?_ 4 _ rfl; (with_reducible repeat (first | refine blk_drewN ?_ _ | refine blk_drew ?_ | refine blk_alloc ?_ _)); refine blk_put (cs := #[.slice Ao33 t477.length co33, .int .i64 t480, .slice Ao37 t481.length co37, .slice none 0 0, .slice none 0 0]) ?_ 3 _ rfl; (with_reducible repeat (first | refine blk_drewN ?_ _ | refine blk_drew ?_ | refine blk_alloc ?_ _)); refine blk_put (cs := #[.slice Ao33 t477.length co33, .int .i64 t480, .slice none 0 0, .slice none 0 0, .slice none 0 0]) ?_ 2 _ rfl; (with_reducible repeat (first | refine blk_drewN ?_ _ | refine blk_drew ?_ | refine blk_alloc ?_ _)); refine blk_put (cs := #[.slice Ao33 t477.length co33, .int .i64 0, .slice none 0 0, .slice none 0 0, .slice none 0 0]) ?_ 1 _ rfl; (with_reducible repeat (first | refine blk_drewN ?_ _ | refine blk_drew ?_ | refine blk_alloc ?_ _)); refine blk_put (cs := #[.slice none 0 0, .int .i64 0, .slice none 0 0, .slice none 0 0, .slice none 0 0]) ?_ 0 _ rfl; (with_reducible repeat (first | refine blk_drewN ?_ _ | refine blk_drew ?_ | refine blk_alloc ?_ _)); exact BK490.out) hb); replace HB := Aside0.mk (below_step (be3 HB GE447 GE476 GE490) hb); (try clear hb); (try clear ho0); (try clear ho1); (try clear ho2); (try clear ho3)) | ((with_reducible refine gate_dst (N := 9) rfl ?_); refine bx 9 #[.slice none 0 0, .int .i64 0, .slice none 0 0, .slice none 0 0, .slice none 0 0] 27 ?_; intro gb505 hg w41 hbox hb; replace HO451 := rb HO451 hb; replace HO455 := rb HO455 hb; replace HO458 := rb HO458 hb; replace HO461 := rb HO461 hb; replace HO464 := rb HO464 hb; replace HO468 := rb HO468 hb; replace HO471 := rb HO471 hb; replace HO474 := rb HO474 hb; replace HO479 := rb HO479 hb; replace HO483 := rb HO483 hb; replace HO486 := rb HO486 hb; replace HO489 := rb HO489 hb; replace HO493 := rb HO493 hb; replace HO497 := rb HO497 hb; replace HO500 := rb HO500 hb; replace HO503 := rb HO503 hb; have BK505 := am hbox; have GW505 := Aside0.mk ((by rw [hg]; exact (below_size (be3 HB GE447 GE476 GE490)) : w.heap.size ≤ gb505)); have GE505 := Aside0.mk ((by rw [hg]; exact (below_size (be3 HB GE447 GE476 GE490)) : w.heap.size ≤ gb505)); replace HB := Aside0.mk (below_step (be3 HB GE447 GE476 GE490) hb); have NB447_505 := Aside0.mk ((by rw [hg]; exact Nat.ne_of_lt (bl BK447) : gb447 ≠ gb505)); have NB505_447 := Aside0.mk ((by rw [hg]; exact Nat.ne_of_gt (bl BK447) : gb505 ≠ gb447)); replace BK447 := bb BK447 hb; have NB476_505 := Aside0.mk ((by rw [hg]; exact Nat.ne_of_lt (bl BK476) : gb476 ≠ gb505)); have NB505_476 := Aside0.mk ((by rw [hg]; exact Nat.ne_of_gt (bl BK476) : gb505 ≠ gb476)); replace BK476 := bb BK476 hb; have NB490_505 := Aside0.mk ((by rw [hg]; exact Nat.ne_of_lt (bl BK490) : gb490 ≠ gb505)); have NB505_490 := Aside0.mk ((by rw [hg]; exact Nat.ne_of_gt (bl BK490) : gb505 ≠ gb490)); replace BK490 := bb BK490 hb; clear hb hbox hg; obtain ⟨Ao42, co42, eo42⟩ := Kd.R_slice HO493.out; subst eo42; have hnb43 := NB505_447.out; have hnc43 := NB447_505.out; have hnb44 := NB505_476.out; have hnc44 := NB476_505.out; have hnb45 := NB505_490.out; have hnc45 := NB490_505.out; have hcz46_0 := bz5 BK505; obtain ⟨Ao47, co47, eo47⟩ := Kd.R_slice HO497.out; subst eo47; obtain ⟨Ao48, co48, eo48⟩ := Kd.R_slice HO500.out; subst eo48; obtain ⟨Ao49, co49, eo49⟩ := Kd.R_slice HO503.out; subst eo49))
 (try simp only [Act.put, List.setIfInBounds_toArray, List.set_cons_zero, List.set_cons_succ])
 go_cut [44] (fun v44 wc => ∃ (kq : Nat) (x44_11 : Bool), v44 = .bool x44_11 ∧ Aside0 (laws_FnExactGiveUp.j0 kq a1 t475 t504 x44_11 l0_0 a0_1 l0_2 l0_3 l0_4 t462 t465 t466 t469 t472 t477 t480 t481 t484 t487 t491 t494 t495 t498 t501 = some r) ∧ Aside0 (kq ≤ k) ∧ Aside0 (Kd.R (Kd.int .i64) 3 wc w.heap.size (fun k_ => nb k_ Ao27 t466.length co27 ∧ nb k_ Ao29 t472.length co29 ∧ nb k_ Ao33 t477.length co33 ∧ nb k_ Ao37 t481.length co37 ∧ nb k_ Ao39 t487.length co39 ∧ nb k_ Ao42 t491.length co42 ∧ nb k_ Ao47 t495.length co47 ∧ nb k_ Ao49 t501.length co49) (.slice Ao24 t462.length co24) t462) ∧ Aside0 (Kd.R (Kd.int .i64) 3 wc w.heap.size (fun k_ => nb k_ Ao24 t462.length co24 ∧ nb k_ Ao29 t472.length co29 ∧ nb k_ Ao33 t477.length co33 ∧ nb k_ Ao37 t481.length co37 ∧ nb k_ Ao39 t487.length co39 ∧ nb k_ Ao42 t491.length co42 ∧ nb k_ Ao47 t495.length co47 ∧ nb k_ Ao49 t501.length co49) (.slice Ao27 t466.length co27) t466) ∧ Aside0 (Kd.R k70 70 wc w.heap.size (fun k_ => nb k_ Ao38 t484.length co38 ∧ nb k_ Ao48 t498.length co48) (.slice Ao28 t469.length co28) t469) ∧ Aside0 (Kd.R (Kd.int .i64) 3 wc w.heap.size (fun k_ => nb k_ Ao24 t462.length co24 ∧ nb k_ Ao27 t466.length co27 ∧ nb k_ Ao33 t477.length co33 ∧ nb k_ Ao37 t481.length co37 ∧ nb k_ Ao39 t487.length co39 ∧ nb k_ Ao42 t491.length co42 ∧ nb k_ Ao47 t495.length co47 ∧ nb k_ Ao49 t501.length co49) (.slice Ao29 t472.length co29) t472) ∧ Aside0 (Kd.R (Kd.int .i64) 3 wc w.heap.size (fun k_ => nb k_ Ao24 t462.length co24 ∧ nb k_ Ao27 t466.length co27 ∧ nb k_ Ao29 t472.length co29 ∧ nb k_ Ao37 t481.length co37 ∧ nb k_ Ao39 t487.length co39 ∧ nb k_ Ao42 t491.length co42 ∧ nb k_ Ao47 t495.length co47 ∧ nb k_ Ao49 t501.length co49) (.slice Ao33 t477.length co33) t477) ∧ Aside0 (Kd.R (Kd.int .i64) 3 wc w.heap.size (fun k_ => nb k_ Ao24 t462.length co24 ∧ nb k_ Ao27 t466.length co27 ∧ nb k_ Ao29 t472.length co29 ∧ nb k_ Ao33 t477.length co33 ∧ nb k_ Ao39 t487.length co39 ∧ nb k_ Ao42 t491.length co42 ∧ nb k_ Ao47 t495.length co47 ∧ nb k_ Ao49 t501.length co49) (.slice Ao37 t481.length co37) t481) ∧ Aside0 (Kd.R k70 70 wc w.heap.size (fun k_ => nb k_ Ao28 t469.length co28 ∧ nb k_ Ao48 t498.length co48) (.slice Ao38 t484.length co38) t484) ∧ Aside0 (Kd.R (Kd.int .i64) 3 wc w.heap.size (fun k_ => nb k_ Ao24 t462.length co24 ∧ nb k_ Ao27 t466.length co27 ∧ nb k_ Ao29 t472.length co29 ∧ nb k_ Ao33 t477.length co33 ∧ nb k_ Ao37 t481.length co37 ∧ nb k_ Ao42 t491.length co42 ∧ nb k_ Ao47 t495.length co47 ∧ nb k_ Ao49 t501.length co49) (.slice Ao39 t487.length co39) t487) ∧ Aside0 (Kd.R (Kd.int .i64) 3 wc w.heap.size (fun k_ => nb k_ Ao24 t462.length co24 ∧ nb k_ Ao27 t466.length co27 ∧ nb k_ Ao29 t472.length co29 ∧ nb k_ Ao33 t477.length co33 ∧ nb k_ Ao37 t481.length co37 ∧ nb k_ Ao39 t487.length co39 ∧ nb k_ Ao47 t495.length co47 ∧ nb k_ Ao49 t501.length co49) (.slice Ao42 t491.length co42) t491) ∧ Aside0 (Kd.R (Kd.int .i64) 3 wc w.heap.size (fun k_ => nb k_ Ao24 t462.length co24 ∧ nb k_ Ao27 t466.length co27 ∧ nb k_ Ao29 t472.length co29 ∧ nb k_ Ao33 t477.length co33 ∧ nb k_ Ao37 t481.length co37 ∧ nb k_ Ao39 t487.length co39 ∧ nb k_ Ao42 t491.length co42 ∧ nb k_ Ao49 t501.length co49) (.slice Ao47 t495.length co47) t495) ∧ Aside0 (Kd.R k70 70 wc w.heap.size (fun k_ => nb k_ Ao28 t469.length co28 ∧ nb k_ Ao38 t484.length co38) (.slice Ao48 t498.length co48) t498) ∧ Aside0 (Kd.R (Kd.int .i64) 3 wc w.heap.size (fun k_ => nb k_ Ao24 t462.length co24 ∧ nb k_ Ao27 t466.length co27 ∧ nb k_ Ao29 t472.length co29 ∧ nb k_ Ao33 t477.length co33 ∧ nb k_ Ao37 t481.length co37 ∧ nb k_ Ao39 t487.length co39 ∧ nb k_ Ao42 t491.length co42 ∧ nb k_ Ao47 t495.length co47) (.slice Ao49 t501.length co49) t501) ∧ Aside0 (wc.heap[gb447]? = some (.cells #[(.slice A0_0 l0_0.length c0_0), .int .i64 a0_1, (.slice A0_2 l0_2.length c0_2), (.slice A0_3 l0_3.length c0_3), (.slice A0_4 l0_4.length c0_4)] 37 (0, 0))) ∧ Aside0 (wc.heap[gb476]? = some (.cells #[(.slice Ao24 t462.length co24), .int .i64 t465, (.slice Ao27 t466.length co27), (.slice Ao28 t469.length co28), (.slice Ao29 t472.length co29)] 27 (0, 0))) ∧ Aside0 (wc.heap[gb490]? = some (.cells #[(.slice Ao33 t477.length co33), .int .i64 t480, (.slice Ao37 t481.length co37), (.slice Ao38 t484.length co38), (.slice Ao39 t487.length co39)] 27 (0, 0))) ∧ Aside0 (wc.heap[gb505]? = some (.cells #[(.slice Ao42 t491.length co42), .int .i64 t494, (.slice Ao47 t495.length co47), (.slice Ao48 t498.length co48), (.slice Ao49 t501.length co49)] 27 (0, 0))) ∧ Aside0 (Below w.heap.size w wc))
 case first =>
  have H := HC12.out
  clear HC12
  replace H := Option.bind_eq_some_iff.mp H
  obtain ⟨t506, A500, H⟩ := H
  try dsimp only at H
  have A50 := Aside0.mk A500
  clear A500
  by_cases c51 : t506 = true
  ·subst c51
   rw [if_pos rfl] at H
   have H' := Aside0.mk H
   clear H
   have hnb52 := NB505_447.out
   have hnc52 := NB447_505.out
   have hnb53 := NB505_476.out
   have hnc53 := NB476_505.out
   have hnb54 := NB505_490.out
   have hnc54 := NB490_505.out
   have hcz55_0 := bz5 BK505
   have hnb56 := NB476_447.out
   have hnc56 := NB447_476.out
   have hnb57 := NB476_490.out
   have hnc57 := NB490_476.out
   have hcz58_0 := bz5 BK476
   go_wp2_with (first | ((with_reducible refine gate_callee (f := 16) rfl ?_); refine gl 38 Try.func16 #[.agg #[.slice Ao42 t491.length co42, .int .i64 t494, .slice Ao47 t495.length co47, .slice Ao48 t498.length co48, .slice Ao49 t501.length co49], .agg #[.slice Ao24 t462.length co24, .int .i64 t465, .slice Ao27 t466.length co27, .slice Ao28 t469.length co28, .slice Ao29 t472.length co29]] ?_; (with_reducible refine (laws_eqPool.calls k _ _ t491 t494 _ _ t495 _ _ t498 _ _ t501 _ _ t462 t465 _ _ t466 _ _ t469 _ _ t472 true _ ?side1 ((Kd.R_reads' HO493.out).2.1) ?side3 ((Kd.R_reads' HO497.out).2.1) ?side5 ((Kd.R_reads' HO500.out).2.1) ?side7 ((Kd.R_reads' HO503.out).2.1) ?side9 ((Kd.R_reads' HO464.out).2.1) ?side11 ((Kd.R_reads' HO468.out).2.1) ?side13 ((Kd.R_reads' HO471.out).2.1) ?side15 ((Kd.R_reads' HO474.out).2.1) A50.out).mono ?_); (case side1 => exact rfr _ HO493 BK505); (case side3 => exact rfr _ HO497 BK505); (case side5 => exact rfr _ HO500 BK505); (case side7 => exact rfr _ HO503 BK505); (case side9 => exact rfr _ HO464 BK505); (case side11 => exact rfr _ HO468 BK505); (case side13 => exact rfr _ HO471 BK505); (case side15 => exact rfr _ HO474 BK505); rintro e w59 ⟨rfl, hb⟩; refine ⟨_, rfl, ?_⟩; replace HO451 := Aside0.mk (Kd.R_below (rf HO451 BK505) hb); replace HO455 := Aside0.mk (Kd.R_below (rf HO455 BK505) hb); replace HO458 := Aside0.mk (Kd.R_below (rf HO458 BK505) hb); replace HO461 := Aside0.mk (Kd.R_below (rf HO461 BK505) hb); replace HO464 := Aside0.mk (Kd.R_below (rf HO464 BK505) hb); replace HO468 := Aside0.mk (Kd.R_below (rf HO468 BK505) hb); replace HO471 := Aside0.mk (Kd.R_below (rf HO471 BK505) hb); replace HO474 := Aside0.mk (Kd.R_below (rf HO474 BK505) hb); replace HO479 := Aside0.mk (Kd.R_below (rf HO479 BK505) hb); replace HO483 := Aside0.mk (Kd.R_below (rf HO483 BK505) hb); replace HO486 := Aside0.mk (Kd.R_below (rf HO486 BK505) hb); replace HO489 := Aside0.mk (Kd.R_below (rf HO489 BK505) hb); replace HO493 := Aside0.mk (Kd.R_below (rf HO493 BK505) hb); replace HO497 := Aside0.mk (Kd.R_below (rf HO497 BK505) hb); replace HO500 := Aside0.mk (Kd.R_below (rf HO500 BK505) hb); replace HO503 := Aside0.mk (Kd.R_below (rf HO503 BK505) hb); replace BK447 := Aside0.mk (blk_below (g := gb447) (o := .cells #[.slice A0_0 l0_0.length c0_0, .int .i64 a0_1, .slice A0_2 l0_2.length c0_2, .slice A0_3 l0_3.length c0_3, .slice A0_4 l0_4.length c0_4] 37 (0, 0)) (bf1 BK447 NB447_505) hb); replace BK476 := Aside0.mk (blk_below (g := gb476) (o := .cells #[.slice Ao24 t462.length co24, .int .i64 t465, .slice Ao27 t466.length co27, .slice Ao28 t469.length co28, .slice Ao29 t472.length co29] 27 (0, 0)) (bf1 BK476 NB476_505) hb); replace BK490 := Aside0.mk (blk_below (g := gb490) (o := .cells #[.slice Ao33 t477.length co33, .int .i64 t480, .slice Ao37 t481.length co37, .slice Ao38 t484.length co38, .slice Ao39 t487.length co39] 27 (0, 0)) (bf1 BK490 NB490_505) hb); replace BK505 := Aside0.mk (blk_below (g := gb505) (o := .cells #[.slice Ao42 t491.length co42, .int .i64 t494, .slice Ao47 t495.length co47, .slice Ao48 t498.length co48, .slice Ao49 t501.length co49] 27 (0, 0)) (by (with_reducible repeat (first | refine blk_drewN ?_ _ | refine blk_drew ?_ | refine blk_alloc ?_ _)); refine blk_put (cs := #[.slice Ao42 t491.length co42, .int .i64 t494, .slice Ao47 t495.length co47, .slice Ao48 t498.length co48, .slice none 0 0]) ?_ 4 _ rfl; (with_reducible repeat (first | refine blk_drewN ?_ _ | refine blk_drew ?_ | refine blk_alloc ?_ _)); refine blk_put (cs := #[.slice Ao42 t491.length co42, .int .i64 t494, .slice Ao47 t495.length co47, .slice none 0 0, .slice none 0 0]) ?_ 3 _ rfl; (with_reducible repeat (first | refine blk_drewN ?_ _ | refine blk_drew ?_ | refine blk_alloc ?_ _)); refine blk_put (cs := #[.slice Ao42 t491.length co42, .int .i64 t494, .slice none 0 0, .slice none 0 0, .slice none 0 0]) ?_ 2 _ rfl; (with_reducible repeat (first | refine blk_drewN ?_ _ | refine blk_drew ?_ | refine blk_alloc ?_ _)); refine blk_put (cs := #[.slice Ao42 t491.length co42, .int .i64 0, .slice none 0 0, .slice none 0 0, .slice none 0 0]) ?_ 1 _ rfl; (with_reducible repeat (first | refine blk_drewN ?_ _ | refine blk_drew ?_ | refine blk_alloc ?_ _)); refine blk_put (cs := #[.slice none 0 0, .int .i64 0, .slice none 0 0, .slice none 0 0, .slice none 0 0]) ?_ 0 _ rfl; (with_reducible repeat (first | refine blk_drewN ?_ _ | refine blk_drew ?_ | refine blk_alloc ?_ _)); exact BK505.out) hb); replace HB := Aside0.mk (below_step (be4 HB GE447 GE476 GE490 GE505) hb); (try clear hb)))
   go_meet
   case rel => exact ⟨_, ((t504 != t475)), rs, H', ⟨by first | omega | exact Nat.le_refl _⟩, ⟨rom HO464⟩, ⟨rom HO468⟩, ⟨rom HO471⟩, ⟨rom HO474⟩, ⟨rom HO479⟩, ⟨rom HO483⟩, ⟨rom HO486⟩, ⟨rom HO489⟩, ⟨rom HO493⟩, ⟨rom HO497⟩, ⟨rom HO500⟩, ⟨rom HO503⟩, ⟨bk BK447⟩, ⟨bk BK476⟩, ⟨bk BK490⟩, ⟨bk BK505⟩, ⟨be4 HB GE447 GE476 GE490 GE505⟩⟩
  replace c51 := Bool.eq_false_iff.mpr c51
  subst c51
  rw [if_neg (show ¬ (false = true) by decide)] at H
  have H' := Aside0.mk H
  clear H
  have hnb60 := NB505_447.out
  have hnc60 := NB447_505.out
  have hnb61 := NB505_476.out
  have hnc61 := NB476_505.out
  have hnb62 := NB505_490.out
  have hnc62 := NB490_505.out
  have hcz63_0 := bz5 BK505
  have hnb64 := NB476_447.out
  have hnc64 := NB447_476.out
  have hnb65 := NB476_490.out
  have hnc65 := NB490_476.out
  have hcz66_0 := bz5 BK476
  go_wp2_with (first | ((with_reducible refine gate_callee (f := 16) rfl ?_); refine gl 38 Try.func16 #[.agg #[.slice Ao42 t491.length co42, .int .i64 t494, .slice Ao47 t495.length co47, .slice Ao48 t498.length co48, .slice Ao49 t501.length co49], .agg #[.slice Ao24 t462.length co24, .int .i64 t465, .slice Ao27 t466.length co27, .slice Ao28 t469.length co28, .slice Ao29 t472.length co29]] ?_; (with_reducible refine (laws_eqPool.calls k _ _ t491 t494 _ _ t495 _ _ t498 _ _ t501 _ _ t462 t465 _ _ t466 _ _ t469 _ _ t472 false _ ?side1 ((Kd.R_reads' HO493.out).2.1) ?side3 ((Kd.R_reads' HO497.out).2.1) ?side5 ((Kd.R_reads' HO500.out).2.1) ?side7 ((Kd.R_reads' HO503.out).2.1) ?side9 ((Kd.R_reads' HO464.out).2.1) ?side11 ((Kd.R_reads' HO468.out).2.1) ?side13 ((Kd.R_reads' HO471.out).2.1) ?side15 ((Kd.R_reads' HO474.out).2.1) A50.out).mono ?_); (case side1 => exact rfr _ HO493 BK505); (case side3 => exact rfr _ HO497 BK505); (case side5 => exact rfr _ HO500 BK505); (case side7 => exact rfr _ HO503 BK505); (case side9 => exact rfr _ HO464 BK505); (case side11 => exact rfr _ HO468 BK505); (case side13 => exact rfr _ HO471 BK505); (case side15 => exact rfr _ HO474 BK505); rintro e w67 ⟨rfl, hb⟩; refine ⟨_, rfl, ?_⟩; replace HO451 := Aside0.mk (Kd.R_below (rf HO451 BK505) hb); replace HO455 := Aside0.mk (Kd.R_below (rf HO455 BK505) hb); replace HO458 := Aside0.mk (Kd.R_below (rf HO458 BK505) hb); replace HO461 := Aside0.mk (Kd.R_below (rf HO461 BK505) hb); replace HO464 := Aside0.mk (Kd.R_below (rf HO464 BK505) hb); replace HO468 := Aside0.mk (Kd.R_below (rf HO468 BK505) hb); replace HO471 := Aside0.mk (Kd.R_below (rf HO471 BK505) hb); replace HO474 := Aside0.mk (Kd.R_below (rf HO474 BK505) hb); replace HO479 := Aside0.mk (Kd.R_below (rf HO479 BK505) hb); replace HO483 := Aside0.mk (Kd.R_below (rf HO483 BK505) hb); replace HO486 := Aside0.mk (Kd.R_below (rf HO486 BK505) hb); replace HO489 := Aside0.mk (Kd.R_below (rf HO489 BK505) hb); replace HO493 := Aside0.mk (Kd.R_below (rf HO493 BK505) hb); replace HO497 := Aside0.mk (Kd.R_below (rf HO497 BK505) hb); replace HO500 := Aside0.mk (Kd.R_below (rf HO500 BK505) hb); replace HO503 := Aside0.mk (Kd.R_below (rf HO503 BK505) hb); replace BK447 := Aside0.mk (blk_below (g := gb447) (o := .cells #[.slice A0_0 l0_0.length c0_0, .int .i64 a0_1, .slice A0_2 l0_2.length c0_2, .slice A0_3 l0_3.length c0_3, .slice A0_4 l0_4.length c0_4] 37 (0, 0)) (bf1 BK447 NB447_505) hb); replace BK476 := Aside0.mk (blk_below (g := gb476) (o := .cells #[.slice Ao24 t462.length co24, .int .i64 t465, .slice Ao27 t466.length co27, .slice Ao28 t469.length co28, .slice Ao29 t472.length co29] 27 (0, 0)) (bf1 BK476 NB476_505) hb); replace BK490 := Aside0.mk (blk_below (g := gb490) (o := .cells #[.slice Ao33 t477.length co33, .int .i64 t480, .slice Ao37 t481.length co37, .slice Ao38 t484.length co38, .slice Ao39 t487.length co39] 27 (0, 0)) (bf1 BK490 NB490_505) hb); replace BK505 := Aside0.mk (blk_below (g := gb505) (o := .cells #[.slice Ao42 t491.length co42, .int .i64 t494, .slice Ao47 t495.length co47, .slice Ao48 t498.length co48, .slice Ao49 t501.length co49] 27 (0, 0)) (by (with_reducible repeat (first | refine blk_drewN ?_ _ | refine blk_drew ?_ | refine blk_alloc ?_ _)); refine blk_put (cs := #[.slice Ao42 t491.length co42, .int .i64 t494, .slice Ao47 t495.length co47, .slice Ao48 t498.length co48, .slice none 0 0]) ?_ 4 _ rfl; (with_reducible repeat (first | refine blk_drewN ?_ _ | refine blk_drew ?_ | refine blk_alloc ?_ _)); refine blk_put (cs := #[.slice Ao42 t491.length co42, .int .i64 t494, .slice Ao47 t495.length co47, .slice none 0 0, .slice none 0 0]) ?_ 3 _ rfl; (with_reducible repeat (first | refine blk_drewN ?_ _ | refine blk_drew ?_ | refine blk_alloc ?_ _)); refine blk_put (cs := #[.slice Ao42 t491.length co42, .int .i64 t494, .slice none 0 0, .slice none 0 0, .slice none 0 0]) ?_ 2 _ rfl; (with_reducible repeat (first | refine blk_drewN ?_ _ | refine blk_drew ?_ | refine blk_alloc ?_ _)); refine blk_put (cs := #[.slice Ao42 t491.length co42, .int .i64 0, .slice none 0 0, .slice none 0 0, .slice none 0 0]) ?_ 1 _ rfl; (with_reducible repeat (first | refine blk_drewN ?_ _ | refine blk_drew ?_ | refine blk_alloc ?_ _)); refine blk_put (cs := #[.slice none 0 0, .int .i64 0, .slice none 0 0, .slice none 0 0, .slice none 0 0]) ?_ 0 _ rfl; (with_reducible repeat (first | refine blk_drewN ?_ _ | refine blk_drew ?_ | refine blk_alloc ?_ _)); exact BK505.out) hb); replace HB := Aside0.mk (below_step (be4 HB GE447 GE476 GE490 GE505) hb); (try clear hb)))
  go_meet
  case rel => exact ⟨_, (true), rs, H', ⟨by first | omega | exact Nat.le_refl _⟩, ⟨rom HO464⟩, ⟨rom HO468⟩, ⟨rom HO471⟩, ⟨rom HO474⟩, ⟨rom HO479⟩, ⟨rom HO483⟩, ⟨rom HO486⟩, ⟨rom HO489⟩, ⟨rom HO493⟩, ⟨rom HO497⟩, ⟨rom HO500⟩, ⟨rom HO503⟩, ⟨bk BK447⟩, ⟨bk BK476⟩, ⟨bk BK490⟩, ⟨bk BK505⟩, ⟨be4 HB GE447 GE476 GE490 GE505⟩⟩
 case rest =>
  clear HC12
  try clear c1; try clear c2; try clear p2; try clear c3; try clear c4; try clear c4b0; try clear c5; try clear c6; try clear c11; try clear c16; try clear c19; try clear c21; try clear c25; try clear c34; try clear c35; try clear c38; try clear c39; try clear c43; try clear c44; try clear c45; try clear c51; try clear c52; try clear c53; try clear c54; try clear c56; try clear c57; try clear c60; try clear c61; try clear c62; try clear c64; try clear c65; try clear hcz14_0; try clear hcz16_0; try clear hcz26_0; try clear hcz30_0; try clear hcz36_0; try clear hcz46_0; try clear hcz55_0; try clear hcz58_0; try clear hcz63_0; try clear hcz66_0; try clear hcz6_0
  obtain ⟨kq, x44_11, rfl, HA, HJ11, HO_477000, HO_477002, HO_477003, HO_477004, HO_491000, HO_491002, HO_491003, HO_491004, HO_506000, HO_506002, HO_506003, HO_506004, BK447, BK476, BK490, BK505, HB⟩ := hcut
  cases kq with
  | zero => exact absurd HA.out (by simp [laws_FnExactGiveUp.j0])
  | succ kj11 =>
   have H := HA.out
   clear HA
   simp only [laws_FnExactGiveUp.j0] at H
   by_cases c68 : x44_11 = true
   ·subst c68
    rw [if_pos rfl] at H
    exact absurd ((Option.some.inj H).trans hrt_.out) (by decide)
   replace c68 := Bool.eq_false_iff.mpr c68
   subst c68
   rw [if_neg (show ¬ (false = true) by decide)] at H
   replace H := Option.bind_eq_some_iff.mp H
   obtain ⟨⟨t507, t510, t511, t514, t517⟩, A690, H⟩ := H
   try dsimp only at H
   have A69 := Aside0.mk A690
   clear A690
   replace H := Option.bind_eq_some_iff.mp H
   obtain ⟨t520, A700, H⟩ := H
   try dsimp only at H
   have A70 := Aside0.mk A700
   clear A700
   by_cases c71 : t520 = true
   ·subst c71
    rw [if_pos rfl] at H
    replace H := Option.bind_eq_some_iff.mp H
    obtain ⟨⟨t521, t522, t523, t524, t525⟩, A720, H⟩ := H
    try dsimp only at H
    have A72 := Aside0.mk A720
    clear A720
    have HC73 := Aside0.mk H
    clear H
    try go_wp2
    have n0_ := Aside0.mk (Kd.R_drew HO_477000.out)
    have n1_ := Aside0.mk (Kd.R_drew HO_477002.out)
    have n2_ := Aside0.mk (Kd.R_drew HO_477003.out)
    have n3_ := Aside0.mk (Kd.R_drew HO_477004.out)
    have n4_ := Aside0.mk (Kd.R_drew HO_491000.out)
    have n5_ := Aside0.mk (Kd.R_drew HO_491002.out)
    have n6_ := Aside0.mk (Kd.R_drew HO_491003.out)
    have n7_ := Aside0.mk (Kd.R_drew HO_491004.out)
    have n8_ := Aside0.mk (Kd.R_drew HO_506000.out)
    have n9_ := Aside0.mk (Kd.R_drew HO_506002.out)
    have n10_ := Aside0.mk (Kd.R_drew HO_506003.out)
    have n11_ := Aside0.mk (Kd.R_drew HO_506004.out)
    have n12_ := Aside0.mk (blk_drew BK447.out)
    have n13_ := Aside0.mk (blk_drew BK476.out)
    have n14_ := Aside0.mk (blk_drew BK490.out)
    have n15_ := Aside0.mk (blk_drew BK505.out)
    have n16_ := Aside0.mk (below_drew1 HB.out)
    clear HO_477000
    clear HO_477002
    clear HO_477003
    clear HO_477004
    clear HO_491000
    clear HO_491002
    clear HO_491003
    clear HO_491004
    clear HO_506000
    clear HO_506002
    clear HO_506003
    clear HO_506004
    clear BK447
    clear BK476
    clear BK490
    clear BK505
    clear HB
    have HO_477000 := n0_
    have HO_477002 := n1_
    have HO_477003 := n2_
    have HO_477004 := n3_
    have HO_491000 := n4_
    have HO_491002 := n5_
    have HO_491003 := n6_
    have HO_491004 := n7_
    have HO_506000 := n8_
    have HO_506002 := n9_
    have HO_506003 := n10_
    have HO_506004 := n11_
    have BK447 := n12_
    have BK476 := n13_
    have BK490 := n14_
    have BK505 := n15_
    have HB := n16_
    clear n0_ n1_ n2_ n3_ n4_ n5_ n6_ n7_ n8_ n9_ n10_ n11_ n12_ n13_ n14_ n15_ n16_
    refine start_ (n := 5) (S := fun w' => w'.cell? ⟨gb490, 0, none⟩ = some (.slice Ao33 t477.length co33) ∧ w'.cell? ⟨gb490, 1, none⟩ = some (.int .i64 t480) ∧ w'.cell? ⟨gb490, 2, none⟩ = some (.slice Ao37 t481.length co37) ∧ w'.cell? ⟨gb490, 3, none⟩ = some (.slice Ao38 t484.length co38) ∧ w'.cell? ⟨gb490, 4, none⟩ = some (.slice Ao39 t487.length co39) ∧ w'.cell? ⟨gb447, 0, none⟩ = some (.slice A0_0 l0_0.length c0_0) ∧ w'.cell? ⟨gb447, 1, none⟩ = some (.int .i64 a0_1) ∧ w'.cell? ⟨gb447, 2, none⟩ = some (.slice A0_2 l0_2.length c0_2) ∧ w'.cell? ⟨gb447, 3, none⟩ = some (.slice A0_3 l0_3.length c0_3) ∧ w'.cell? ⟨gb447, 4, none⟩ = some (.slice A0_4 l0_4.length c0_4)) (ds := []) (bv 5 0x0) (by kernel_rfl) rfl rfl ⟨bc0 BK490, bc1 BK490, bc2 BK490, bc3 BK490, bc4 BK490, bc0 BK447, bc1 BK447, bc2 BK447, bc3 BK447, bc4 BK447⟩ (fun hHeld => ?_)
    generalize wc.drew = w74 at HO_477000 HO_477002 HO_477003 HO_477004 HO_491000 HO_491002 HO_491003 HO_491004 HO_506000 HO_506002 HO_506003 HO_506004 BK447 BK476 BK490 BK505 HB hHeld ⊢
    refine take_ (i := 0) (N := some 45) (v := ?_) (a' := ?_) (bv 5 0x1) rfl rfl (by kernel_rfl) (fun _ _ _ h => h) (Or.inl ⟨by rfl, ?_⟩) hHeld ?_ ?_
    rotate_left
    ·rintro w' ⟨s0, s1, s2, s3, s4, s5, s6, s7, s8, s9⟩
     go_simp
     with_reducible rfl
    rotate_left
    ·simp only [aP]
     rfl
    refine take_ (i := 1) (N := some 46) (v := ?_) (a' := ?_) (bv 5 0x3) rfl rfl (by kernel_rfl) (fun _ _ _ h => h) (Or.inl ⟨by rfl, ?_⟩) hHeld ?_ ?_
    rotate_left
    ·rintro w' ⟨s0, s1, s2, s3, s4, s5, s6, s7, s8, s9⟩
     go_simp
     with_reducible rfl
    rotate_left
    ·simp only [aP]
     rfl
    refine one_ (i := 2) (N := some 47) (bv 5 0x7) rfl rfl (by kernel_rfl) (by decide) (fun K hK => ?_)
    refine goes_ Try.func21 (by kernel_rfl) rfl #[.agg #[.slice A0_0 l0_0.length c0_0, .int .i64 a0_1, .slice A0_2 l0_2.length c0_2, .slice A0_3 l0_3.length c0_3, .slice A0_4 l0_4.length c0_4]] (by rfl) rfl rfl ml ?_
    with_reducible refine (laws_toPool.calls kj11 _ _ l0_0 a0_1 _ _ l0_2 _ _ l0_3 _ _ l0_4 t507 t510 t511 t514 t517 _ ?side1 ?side2 ?side3 ?side4 ?side5 ?side6 ?side7 ?side8 A69.out).mono ?_
    (case side1 => exact cb HR0_0 HB)
    (case side2 => exact HC0_0.out)
    (case side3 => exact cb HR0_2 HB)
    (case side4 => exact HC0_2.out)
    (case side5 => exact cb HR0_3 HB)
    (case side6 => exact HC0_3.out)
    (case side7 => exact cb HR0_4 HB)
    (case side8 => exact HC0_4.out)
    rintro e w75 ⟨v508, v512, v515, v518, rfl, ho0, ho1, ho2, ho3, hb⟩
    refine ⟨_, rfl, ?_⟩
    have n0_ := td3 (ro HO_477000) hb ho0 ho1 ho3
    have n1_ := td3 (ro HO_477002) hb ho0 ho1 ho3
    have n2_ := Aside0.mk (Kd.R_elder' (ro HO_477003) (Kd.R_base ho2) hb)
    have n3_ := td3 (ro HO_477004) hb ho0 ho1 ho3
    have n4_ := td3 (ro HO_491000) hb ho0 ho1 ho3
    have n5_ := td3 (ro HO_491002) hb ho0 ho1 ho3
    have n6_ := Aside0.mk (Kd.R_elder' (ro HO_491003) (Kd.R_base ho2) hb)
    have n7_ := td3 (ro HO_491004) hb ho0 ho1 ho3
    have n8_ := td3 (ro HO_506000) hb ho0 ho1 ho3
    have n9_ := td3 (ro HO_506002) hb ho0 ho1 ho3
    have n10_ := Aside0.mk (Kd.R_elder' (ro HO_506003) (Kd.R_base ho2) hb)
    have n11_ := td3 (ro HO_506004) hb ho0 ho1 ho3
    have n12_ := Aside0.mk (Kd.R_lower (nw (nw (nw (nw (nw (nw (nw (nw (nw ho0 HO_477000) HO_477002) HO_477004) HO_491000) HO_491002) HO_491004) HO_506000) HO_506002) HO_506004) (below_size (be4 HB GE447 GE476 GE490 GE505)))
    have n13_ := Aside0.mk (Kd.R_lower (nw (nw (nw (nw (nw (nw (nw (nw (nw ho1 HO_477000) HO_477002) HO_477004) HO_491000) HO_491002) HO_491004) HO_506000) HO_506002) HO_506004) (below_size (be4 HB GE447 GE476 GE490 GE505)))
    have n14_ := Aside0.mk (Kd.R_lower (nw (nw (nw ho2 HO_477003) HO_491003) HO_506003) (below_size (be4 HB GE447 GE476 GE490 GE505)))
    have n15_ := Aside0.mk (Kd.R_lower (nw (nw (nw (nw (nw (nw (nw (nw (nw ho3 HO_477000) HO_477002) HO_477004) HO_491000) HO_491002) HO_491004) HO_506000) HO_506002) HO_506004) (below_size (be4 HB GE447 GE476 GE490 GE505)))
    have n16_ := bb BK447 hb
    have n17_ := bb BK476 hb
    have n18_ := bb BK490 hb
    have n19_ := bb BK505 hb
    have n20_ := Aside0.mk (below_step (be4 HB GE447 GE476 GE490 GE505) hb)
    clear HO_477000
    clear HO_477002
    clear HO_477003
    clear HO_477004
    clear HO_491000
    clear HO_491002
    clear HO_491003
    clear HO_491004
    clear HO_506000
    clear HO_506002
    clear HO_506003
    clear HO_506004
    clear BK447
    clear BK476
    clear BK490
    clear BK505
    clear HB
    have HO_477000 := n0_
    have HO_477002 := n1_
    have HO_477003 := n2_
    have HO_477004 := n3_
    have HO_491000 := n4_
    have HO_491002 := n5_
    have HO_491003 := n6_
    have HO_491004 := n7_
    have HO_506000 := n8_
    have HO_506002 := n9_
    have HO_506003 := n10_
    have HO_506004 := n11_
    have HO509 := n12_
    have HO513 := n13_
    have HO516 := n14_
    have HO519 := n15_
    have BK447 := n16_
    have BK476 := n17_
    have BK490 := n18_
    have BK505 := n19_
    have HB := n20_
    clear n0_ n1_ n2_ n3_ n4_ n5_ n6_ n7_ n8_ n9_ n10_ n11_ n12_ n13_ n14_ n15_ n16_ n17_ n18_ n19_ n20_
    (try clear hb)
    (try clear hb2)
    (try clear hk)
    (try clear hi)
    (try clear ho0)
    (try clear ho1)
    (try clear ho2)
    (try clear ho3)
    obtain ⟨Ao76, co76, eo76⟩ := Kd.R_slice HO509.out
    (first | subst eo76 | (injection eo76 with f1_ f2_ f3_; have f4_ := f1_.symm; have f5_ := f3_.symm; clear f1_ f2_ f3_; subst f4_; subst f5_))
    obtain ⟨Ao77, co77, eo77⟩ := Kd.R_slice HO513.out
    (first | subst eo77 | (injection eo77 with f1_ f2_ f3_; have f4_ := f1_.symm; have f5_ := f3_.symm; clear f1_ f2_ f3_; subst f4_; subst f5_))
    obtain ⟨Ao78, co78, eo78⟩ := Kd.R_slice HO516.out
    (first | subst eo78 | (injection eo78 with f1_ f2_ f3_; have f4_ := f1_.symm; have f5_ := f3_.symm; clear f1_ f2_ f3_; subst f4_; subst f5_))
    obtain ⟨Ao79, co79, eo79⟩ := Kd.R_slice HO519.out
    (first | subst eo79 | (injection eo79 with f1_ f2_ f3_; have f4_ := f1_.symm; have f5_ := f3_.symm; clear f1_ f2_ f3_; subst f4_; subst f5_))
    refine hK.out _ _ ⟨bc0 BK490, bc1 BK490, bc2 BK490, bc3 BK490, bc4 BK490, bc0 BK447, bc1 BK447, bc2 BK447, bc3 BK447, bc4 BK447⟩ (fun hHeld => ?_)
    clear hK K
    refine norm_ (a' := ?_) ?_ ?_
    rotate_left
    ·show Act.put _ (some 47) _ = _
     simp only [aP]
     rfl
    refine one_ (i := 3) (N := some 48) (bv 5 0xf) rfl rfl (by kernel_rfl) (by decide) (fun K hK => ?_)
    refine goes_ Try.func16 (by kernel_rfl) rfl #[.agg #[.slice Ao33 t477.length co33, .int .i64 t480, .slice Ao37 t481.length co37, .slice Ao38 t484.length co38, .slice Ao39 t487.length co39], .agg #[.slice Ao76 t507.length co76, .int .i64 t510, .slice Ao77 t511.length co77, .slice Ao78 t514.length co78, .slice Ao79 t517.length co79]] (by rfl) rfl rfl ml ?_
    with_reducible refine (laws_eqPool.calls kj11 _ _ t477 t480 _ _ t481 _ _ t484 _ _ t487 _ _ t507 t510 _ _ t511 _ _ t514 _ _ t517 true _ ?side1 ?side2 ?side3 ?side4 ?side5 ?side6 ?side7 ?side8 ?side9 ?side10 ?side11 ?side12 ?side13 ?side14 ?side15 ?side16 A70.out).mono ?_
    (case side1 => exact cr HO_491000)
    (case side2 => exact (Kd.R_reads' HO_491000.out).2.1)
    (case side3 => exact cr HO_491002)
    (case side4 => exact (Kd.R_reads' HO_491002.out).2.1)
    (case side5 => exact cr HO_491003)
    (case side6 => exact (Kd.R_reads' HO_491003.out).2.1)
    (case side7 => exact cr HO_491004)
    (case side8 => exact (Kd.R_reads' HO_491004.out).2.1)
    (case side9 => exact cr HO509)
    (case side10 => exact (Kd.R_reads' HO509.out).2.1)
    (case side11 => exact cr HO513)
    (case side12 => exact (Kd.R_reads' HO513.out).2.1)
    (case side13 => exact cr HO516)
    (case side14 => exact (Kd.R_reads' HO516.out).2.1)
    (case side15 => exact cr HO519)
    (case side16 => exact (Kd.R_reads' HO519.out).2.1)
    rintro e w80 ⟨rfl, hb⟩
    refine ⟨_, rfl, ?_⟩
    have n0_ := rb HO_477000 hb
    have n1_ := rb HO_477002 hb
    have n2_ := rb HO_477003 hb
    have n3_ := rb HO_477004 hb
    have n4_ := rb HO_491000 hb
    have n5_ := rb HO_491002 hb
    have n6_ := rb HO_491003 hb
    have n7_ := rb HO_491004 hb
    have n8_ := rb HO_506000 hb
    have n9_ := rb HO_506002 hb
    have n10_ := rb HO_506003 hb
    have n11_ := rb HO_506004 hb
    have n12_ := rb HO509 hb
    have n13_ := rb HO513 hb
    have n14_ := rb HO516 hb
    have n15_ := rb HO519 hb
    have n16_ := bb BK447 hb
    have n17_ := bb BK476 hb
    have n18_ := bb BK490 hb
    have n19_ := bb BK505 hb
    have n20_ := Aside0.mk (below_step (be4 HB GE447 GE476 GE490 GE505) hb)
    clear HO_477000
    clear HO_477002
    clear HO_477003
    clear HO_477004
    clear HO_491000
    clear HO_491002
    clear HO_491003
    clear HO_491004
    clear HO_506000
    clear HO_506002
    clear HO_506003
    clear HO_506004
    clear HO509
    clear HO513
    clear HO516
    clear HO519
    clear BK447
    clear BK476
    clear BK490
    clear BK505
    clear HB
    have HO_477000 := n0_
    have HO_477002 := n1_
    have HO_477003 := n2_
    have HO_477004 := n3_
    have HO_491000 := n4_
    have HO_491002 := n5_
    have HO_491003 := n6_
    have HO_491004 := n7_
    have HO_506000 := n8_
    have HO_506002 := n9_
    have HO_506003 := n10_
    have HO_506004 := n11_
    have HO509 := n12_
    have HO513 := n13_
    have HO516 := n14_
    have HO519 := n15_
    have BK447 := n16_
    have BK476 := n17_
    have BK490 := n18_
    have BK505 := n19_
    have HB := n20_
    clear n0_ n1_ n2_ n3_ n4_ n5_ n6_ n7_ n8_ n9_ n10_ n11_ n12_ n13_ n14_ n15_ n16_ n17_ n18_ n19_ n20_
    (try clear hb)
    (try clear hb2)
    (try clear hk)
    (try clear hi)
    refine hK.out _ _ ⟨bc0 BK490, bc1 BK490, bc2 BK490, bc3 BK490, bc4 BK490, bc0 BK447, bc1 BK447, bc2 BK447, bc3 BK447, bc4 BK447⟩ (fun hHeld => ?_)
    clear hK K
    refine norm_ (a' := ?_) ?_ ?_
    rotate_left
    ·show Act.put _ (some 48) _ = _
     simp only [aP]
     rfl
    refine pure_ (i := 4) (N := some 49) (v := ?_) (a' := ?_) (bv 5 0x1f) rfl rfl (by kernel_rfl) (fun _ _ _ h => h) (Or.inl ⟨by rfl, ?_⟩) ?_ ?_
    rotate_left
    ·intro w'
     go_simp
     with_reducible rfl
    rotate_left
    ·simp only [aP]
     rfl
    refine done_ (by kernel_rfl) ?_
    have hnb81 := NB490_447.out
    have hnc81 := NB447_490.out
    have hnb82 := NB490_476.out
    have hnc82 := NB476_490.out
    have hnb83 := NB490_505.out
    have hnc83 := NB505_490.out
    have hcz84_0 := bz5 BK490
    go_upto_region 14 with (first | ((with_reducible refine gate_callee (f := 17) rfl ?_); refine gl 52 Try.func17 #[.agg #[.slice Ao33 t477.length co33, .int .i64 t480, .slice Ao37 t481.length co37, .slice Ao38 t484.length co38, .slice Ao39 t487.length co39], .int .i64 1] ?_; (with_reducible refine (laws_markPool.calls kj11 (fun k_ => some k_ = (.slice Ao33 t477.length co33 : Value).ownBlock) (.slice Ao33 t477.length co33) t477 t480 (fun k_ => some k_ = (.slice Ao37 t481.length co37 : Value).ownBlock) (.slice Ao37 t481.length co37) t481 (fun k_ => some k_ = (.slice Ao38 t484.length co38 : Value).ownBlock) (.slice Ao38 t484.length co38) t484 (fun k_ => some k_ = (.slice Ao39 t487.length co39 : Value).ownBlock) (.slice Ao39 t487.length co39) t487 1 t521 t522 t523 t524 t525 w _ ?side1 ?side2 ?side3 ?side4 ?side5 ?side6 ?side7 ?side8 ?side9 ?side10 ?side11 A72.out).mono ?_); (case side1 => repeat (first | (with_reducible first | exact HB.out | apply below_alloc | apply pw_below_drewN | apply below_drew1 | refine below_set ?_ GE447.out | refine below_set ?_ GE476.out | refine below_set ?_ GE490.out | refine below_set ?_ GE505.out) | exact HB.out)); (case side2 => exact Kd.R_tight rfl HO_491000.out); (case side3 => exact fun k_ e_ => (HO_491000.out.1 k_ e_.symm).1.1.1.2.2.2.1); (case side4 => exact fun k_ e_ => (HO_491000.out.1 k_ e_.symm).1.1.1.2.2.2.2.1); (case side5 => exact Kd.R_tight rfl HO_491002.out); (case side6 => exact fun k_ e_ => (HO_491002.out.1 k_ e_.symm).1.1.1.2.2.2.1); (case side7 => exact fun k_ e_ => (HO_491002.out.1 k_ e_.symm).1.1.1.2.2.2.2.1); (case side8 => exact Kd.R_tight rfl HO_491003.out); (case side9 => exact Kd.R_tight rfl HO_491004.out); (case side10 => exact fun k_ e_ => (HO_491004.out.1 k_ e_.symm).1.1.1.2.2.2.1); (case side11 => exact fun k_ e_ => (HO_491004.out.1 k_ e_.symm).1.1.1.2.2.2.2.1); rintro e w85 ⟨rfl, hy0, hy1, hy2, hy3, hb, hkp⟩; refine ⟨_, rfl, ?_⟩; replace HO_477000 := Aside0.mk (Kd.R_mono (ok' := fun k_ => nb k_ Ao27 t466.length co27 ∧ nb k_ Ao29 t472.length co29 ∧ nb k_ Ao33 t477.length co33 ∧ nb k_ Ao37 t481.length co37 ∧ nb k_ Ao39 t487.length co39 ∧ nb k_ Ao42 t491.length co42 ∧ nb k_ Ao47 t495.length co47 ∧ nb k_ Ao49 t501.length co49 ∧ nb k_ Ao76 t507.length co76 ∧ nb k_ Ao77 t511.length co77 ∧ nb k_ Ao79 t517.length co79) (Kd.R_keptB ((Kd.R_apart' HO_477000.out (Kd.R_typed HO_491003.out) (by decide))) hkp (fun k_ hk_ hs_ => Or.elim hs_ (fun e_ => (hk_.1.1.1.1.2.2.1) e_) (fun e_ => Or.elim e_ (fun e_ => (hk_.1.1.1.1.2.2.2.1) e_) (fun e_ => Or.elim e_ (fun e_ => (hk_.2) e_) (fun e_ => (hk_.1.1.1.1.2.2.2.2.1) e_))))) cj); replace HO_477002 := Aside0.mk (Kd.R_mono (ok' := fun k_ => nb k_ Ao24 t462.length co24 ∧ nb k_ Ao29 t472.length co29 ∧ nb k_ Ao33 t477.length co33 ∧ nb k_ Ao37 t481.length co37 ∧ nb k_ Ao39 t487.length co39 ∧ nb k_ Ao42 t491.length co42 ∧ nb k_ Ao47 t495.length co47 ∧ nb k_ Ao49 t501.length co49 ∧ nb k_ Ao76 t507.length co76 ∧ nb k_ Ao77 t511.length co77 ∧ nb k_ Ao79 t517.length co79) (Kd.R_keptB ((Kd.R_apart' HO_477002.out (Kd.R_typed HO_491003.out) (by decide))) hkp (fun k_ hk_ hs_ => Or.elim hs_ (fun e_ => (hk_.1.1.1.1.2.2.1) e_) (fun e_ => Or.elim e_ (fun e_ => (hk_.1.1.1.1.2.2.2.1) e_) (fun e_ => Or.elim e_ (fun e_ => (hk_.2) e_) (fun e_ => (hk_.1.1.1.1.2.2.2.2.1) e_))))) cj); replace HO_477003 := Aside0.mk (Kd.R_mono (ok' := fun k_ => nb k_ Ao38 t484.length co38 ∧ nb k_ Ao48 t498.length co48 ∧ nb k_ Ao78 t514.length co78) (Kd.R_keptB ((Kd.R_apart' (Kd.R_apart' (Kd.R_apart' HO_477003.out (Kd.R_typed HO_491000.out) (by decide)) (Kd.R_typed HO_491002.out) (by decide)) (Kd.R_typed HO_491004.out) (by decide))) hkp (fun k_ hk_ hs_ => Or.elim hs_ (fun e_ => (hk_.1.1.2) e_) (fun e_ => Or.elim e_ (fun e_ => (hk_.1.2) e_) (fun e_ => Or.elim e_ (fun e_ => (hk_.1.1.1.1.1) e_) (fun e_ => (hk_.2) e_))))) cj); replace HO_477004 := Aside0.mk (Kd.R_mono (ok' := fun k_ => nb k_ Ao24 t462.length co24 ∧ nb k_ Ao27 t466.length co27 ∧ nb k_ Ao33 t477.length co33 ∧ nb k_ Ao37 t481.length co37 ∧ nb k_ Ao39 t487.length co39 ∧ nb k_ Ao42 t491.length co42 ∧ nb k_ Ao47 t495.length co47 ∧ nb k_ Ao49 t501.length co49 ∧ nb k_ Ao76 t507.length co76 ∧ nb k_ Ao77 t511.length co77 ∧ nb k_ Ao79 t517.length co79) (Kd.R_keptB ((Kd.R_apart' HO_477004.out (Kd.R_typed HO_491003.out) (by decide))) hkp (fun k_ hk_ hs_ => Or.elim hs_ (fun e_ => (hk_.1.1.1.1.2.2.1) e_) (fun e_ => Or.elim e_ (fun e_ => (hk_.1.1.1.1.2.2.2.1) e_) (fun e_ => Or.elim e_ (fun e_ => (hk_.2) e_) (fun e_ => (hk_.1.1.1.1.2.2.2.2.1) e_))))) cj); replace HO_506000 := Aside0.mk (Kd.R_mono (ok' := fun k_ => nb k_ Ao24 t462.length co24 ∧ nb k_ Ao27 t466.length co27 ∧ nb k_ Ao29 t472.length co29 ∧ nb k_ Ao33 t477.length co33 ∧ nb k_ Ao37 t481.length co37 ∧ nb k_ Ao39 t487.length co39 ∧ nb k_ Ao47 t495.length co47 ∧ nb k_ Ao49 t501.length co49 ∧ nb k_ Ao76 t507.length co76 ∧ nb k_ Ao77 t511.length co77 ∧ nb k_ Ao79 t517.length co79) (Kd.R_keptB ((Kd.R_apart' HO_506000.out (Kd.R_typed HO_491003.out) (by decide))) hkp (fun k_ hk_ hs_ => Or.elim hs_ (fun e_ => (hk_.1.1.1.1.2.2.2.1) e_) (fun e_ => Or.elim e_ (fun e_ => (hk_.1.1.1.1.2.2.2.2.1) e_) (fun e_ => Or.elim e_ (fun e_ => (hk_.2) e_) (fun e_ => (hk_.1.1.1.1.2.2.2.2.2.1) e_))))) cj); replace HO_506002 := Aside0.mk (Kd.R_mono (ok' := fun k_ => nb k_ Ao24 t462.length co24 ∧ nb k_ Ao27 t466.length co27 ∧ nb k_ Ao29 t472.length co29 ∧ nb k_ Ao33 t477.length co33 ∧ nb k_ Ao37 t481.length co37 ∧ nb k_ Ao39 t487.length co39 ∧ nb k_ Ao42 t491.length co42 ∧ nb k_ Ao49 t501.length co49 ∧ nb k_ Ao76 t507.length co76 ∧ nb k_ Ao77 t511.length co77 ∧ nb k_ Ao79 t517.length co79) (Kd.R_keptB ((Kd.R_apart' HO_506002.out (Kd.R_typed HO_491003.out) (by decide))) hkp (fun k_ hk_ hs_ => Or.elim hs_ (fun e_ => (hk_.1.1.1.1.2.2.2.1) e_) (fun e_ => Or.elim e_ (fun e_ => (hk_.1.1.1.1.2.2.2.2.1) e_) (fun e_ => Or.elim e_ (fun e_ => (hk_.2) e_) (fun e_ => (hk_.1.1.1.1.2.2.2.2.2.1) e_))))) cj); replace HO_506003 := Aside0.mk (Kd.R_mono (ok' := fun k_ => nb k_ Ao28 t469.length co28 ∧ nb k_ Ao38 t484.length co38 ∧ nb k_ Ao78 t514.length co78) (Kd.R_keptB ((Kd.R_apart' (Kd.R_apart' (Kd.R_apart' HO_506003.out (Kd.R_typed HO_491000.out) (by decide)) (Kd.R_typed HO_491002.out) (by decide)) (Kd.R_typed HO_491004.out) (by decide))) hkp (fun k_ hk_ hs_ => Or.elim hs_ (fun e_ => (hk_.1.1.2) e_) (fun e_ => Or.elim e_ (fun e_ => (hk_.1.2) e_) (fun e_ => Or.elim e_ (fun e_ => (hk_.1.1.1.1.2) e_) (fun e_ => (hk_.2) e_))))) cj); replace HO_506004 := Aside0.mk (Kd.R_mono (ok' := fun k_ => nb k_ Ao24 t462.length co24 ∧ nb k_ Ao27 t466.length co27 ∧ nb k_ Ao29 t472.length co29 ∧ nb k_ Ao33 t477.length co33 ∧ nb k_ Ao37 t481.length co37 ∧ nb k_ Ao39 t487.length co39 ∧ nb k_ Ao42 t491.length co42 ∧ nb k_ Ao47 t495.length co47 ∧ nb k_ Ao76 t507.length co76 ∧ nb k_ Ao77 t511.length co77 ∧ nb k_ Ao79 t517.length co79) (Kd.R_keptB ((Kd.R_apart' HO_506004.out (Kd.R_typed HO_491003.out) (by decide))) hkp (fun k_ hk_ hs_ => Or.elim hs_ (fun e_ => (hk_.1.1.1.1.2.2.2.1) e_) (fun e_ => Or.elim e_ (fun e_ => (hk_.1.1.1.1.2.2.2.2.1) e_) (fun e_ => Or.elim e_ (fun e_ => (hk_.2) e_) (fun e_ => (hk_.1.1.1.1.2.2.2.2.2.1) e_))))) cj); replace BK447 := Aside0.mk (blk_kept (bk BK447) hkp (fun hs_ => Or.elim hs_ (fun e_ => (fun e_ => (Kd.R_ne HO_491000.out BK447.out (by decide)) e_) e_) (fun e_ => Or.elim e_ (fun e_ => (fun e_ => (Kd.R_ne HO_491002.out BK447.out (by decide)) e_) e_) (fun e_ => Or.elim e_ (fun e_ => (fun e_ => (Kd.R_ne HO_491003.out BK447.out (by decide)) e_) e_) (fun e_ => (fun e_ => (Kd.R_ne HO_491004.out BK447.out (by decide)) e_) e_))))); replace BK476 := Aside0.mk (blk_kept (bk BK476) hkp (fun hs_ => Or.elim hs_ (fun e_ => (fun e_ => (Kd.R_ne HO_491000.out BK476.out (by decide)) e_) e_) (fun e_ => Or.elim e_ (fun e_ => (fun e_ => (Kd.R_ne HO_491002.out BK476.out (by decide)) e_) e_) (fun e_ => Or.elim e_ (fun e_ => (fun e_ => (Kd.R_ne HO_491003.out BK476.out (by decide)) e_) e_) (fun e_ => (fun e_ => (Kd.R_ne HO_491004.out BK476.out (by decide)) e_) e_))))); replace BK490 := Aside0.mk (blk_kept (bk BK490) hkp (fun hs_ => Or.elim hs_ (fun e_ => (fun e_ => (Kd.R_ne HO_491000.out BK490.out (by decide)) e_) e_) (fun e_ => Or.elim e_ (fun e_ => (fun e_ => (Kd.R_ne HO_491002.out BK490.out (by decide)) e_) e_) (fun e_ => Or.elim e_ (fun e_ => (fun e_ => (Kd.R_ne HO_491003.out BK490.out (by decide)) e_) e_) (fun e_ => (fun e_ => (Kd.R_ne HO_491004.out BK490.out (by decide)) e_) e_))))); replace BK505 := Aside0.mk (blk_kept (bk BK505) hkp (fun hs_ => Or.elim hs_ (fun e_ => (fun e_ => (Kd.R_ne HO_491000.out BK505.out (by decide)) e_) e_) (fun e_ => Or.elim e_ (fun e_ => (fun e_ => (Kd.R_ne HO_491002.out BK505.out (by decide)) e_) e_) (fun e_ => Or.elim e_ (fun e_ => (fun e_ => (Kd.R_ne HO_491003.out BK505.out (by decide)) e_) e_) (fun e_ => (fun e_ => (Kd.R_ne HO_491004.out BK505.out (by decide)) e_) e_))))); replace HO509 := Aside0.mk (Kd.R_mono (ok' := fun k_ => nb k_ Ao24 t462.length co24 ∧ nb k_ Ao27 t466.length co27 ∧ nb k_ Ao29 t472.length co29 ∧ nb k_ Ao33 t477.length co33 ∧ nb k_ Ao37 t481.length co37 ∧ nb k_ Ao39 t487.length co39 ∧ nb k_ Ao42 t491.length co42 ∧ nb k_ Ao47 t495.length co47 ∧ nb k_ Ao49 t501.length co49 ∧ nb k_ Ao77 t511.length co77 ∧ nb k_ Ao79 t517.length co79) (Kd.R_keptB ((Kd.R_apart' HO509.out (Kd.R_typed HO_491003.out) (by decide))) hkp (fun k_ hk_ hs_ => Or.elim hs_ (fun e_ => (hk_.1.1.1.1.1.1.2) e_) (fun e_ => Or.elim e_ (fun e_ => (hk_.1.1.1.1.1.2) e_) (fun e_ => Or.elim e_ (fun e_ => (hk_.2) e_) (fun e_ => (hk_.1.1.1.1.2) e_))))) cj); replace HO513 := Aside0.mk (Kd.R_mono (ok' := fun k_ => nb k_ Ao24 t462.length co24 ∧ nb k_ Ao27 t466.length co27 ∧ nb k_ Ao29 t472.length co29 ∧ nb k_ Ao33 t477.length co33 ∧ nb k_ Ao37 t481.length co37 ∧ nb k_ Ao39 t487.length co39 ∧ nb k_ Ao42 t491.length co42 ∧ nb k_ Ao47 t495.length co47 ∧ nb k_ Ao49 t501.length co49 ∧ nb k_ Ao76 t507.length co76 ∧ nb k_ Ao79 t517.length co79) (Kd.R_keptB ((Kd.R_apart' HO513.out (Kd.R_typed HO_491003.out) (by decide))) hkp (fun k_ hk_ hs_ => Or.elim hs_ (fun e_ => (hk_.1.1.1.1.1.1.2) e_) (fun e_ => Or.elim e_ (fun e_ => (hk_.1.1.1.1.1.2) e_) (fun e_ => Or.elim e_ (fun e_ => (hk_.2) e_) (fun e_ => (hk_.1.1.1.1.2) e_))))) cj); replace HO516 := Aside0.mk (Kd.R_mono (ok' := fun k_ => nb k_ Ao28 t469.length co28 ∧ nb k_ Ao38 t484.length co38 ∧ nb k_ Ao48 t498.length co48) (Kd.R_keptB ((Kd.R_apart' (Kd.R_apart' (Kd.R_apart' HO516.out (Kd.R_typed HO_491000.out) (by decide)) (Kd.R_typed HO_491002.out) (by decide)) (Kd.R_typed HO_491004.out) (by decide))) hkp (fun k_ hk_ hs_ => Or.elim hs_ (fun e_ => (hk_.1.1.2) e_) (fun e_ => Or.elim e_ (fun e_ => (hk_.1.2) e_) (fun e_ => Or.elim e_ (fun e_ => (hk_.1.1.1.1.2) e_) (fun e_ => (hk_.2) e_))))) cj); replace HO_491000 := Aside0.mk (Kd.R_reok rfl hy0 (fun k_ e_ => HO_491000.out.1 k_ e_)); replace HO_491002 := Aside0.mk (Kd.R_reok rfl hy1 (fun k_ e_ => HO_491002.out.1 k_ e_)); replace HO_491004 := Aside0.mk (Kd.R_reok rfl hy3 (fun k_ e_ => HO_491004.out.1 k_ e_)); replace HO519 := Aside0.mk (Kd.R_mono (ok' := fun k_ => nb k_ Ao24 t462.length co24 ∧ nb k_ Ao27 t466.length co27 ∧ nb k_ Ao29 t472.length co29 ∧ nb k_ Ao33 t477.length co33 ∧ nb k_ Ao37 t481.length co37 ∧ nb k_ Ao39 t487.length co39 ∧ nb k_ Ao42 t491.length co42 ∧ nb k_ Ao47 t495.length co47 ∧ nb k_ Ao49 t501.length co49 ∧ nb k_ Ao76 t507.length co76 ∧ nb k_ Ao77 t511.length co77) (Kd.R_keptB ((Kd.R_apart' HO519.out (Kd.R_typed HO_491003.out) (by decide))) hkp (fun k_ hk_ hs_ => Or.elim hs_ (fun e_ => (hk_.1.1.1.1.1.1.2) e_) (fun e_ => Or.elim e_ (fun e_ => (hk_.1.1.1.1.1.2) e_) (fun e_ => Or.elim e_ (fun e_ => (hk_.2) e_) (fun e_ => (hk_.1.1.1.1.2) e_))))) cj); replace HO_491003 := Aside0.mk (Kd.R_reok rfl hy2 (fun k_ e_ => HO_491003.out.1 k_ e_)); replace HB := Aside0.mk (hb); (try clear hb); (try clear hkp); (try clear hy0); (try clear hy1); (try clear hy2); (try clear hy3)))
    (try simp only [Act.put, List.setIfInBounds_toArray, List.set_cons_zero, List.set_cons_succ])
    go_cut [65] (fun v65 wc => ∃ (kq : Nat) (x65_72 : Bool), v65 = .bool x65_72 ∧ Aside0 (laws_FnExactGiveUp.j1 kq a1 t475 x65_72 l0_0 a0_1 l0_2 l0_3 l0_4 t462 t465 t466 t469 t472 t491 t494 t495 t498 t501 = some r) ∧ Aside0 (kq ≤ kj11) ∧ Aside0 (Kd.R (Kd.int .i64) 3 wc w.heap.size (fun k_ => nb k_ Ao27 t466.length co27 ∧ nb k_ Ao29 t472.length co29 ∧ nb k_ Ao33 t477.length co33 ∧ nb k_ Ao37 t481.length co37 ∧ nb k_ Ao39 t487.length co39 ∧ nb k_ Ao42 t491.length co42 ∧ nb k_ Ao47 t495.length co47 ∧ nb k_ Ao49 t501.length co49) (.slice Ao24 t462.length co24) t462) ∧ Aside0 (Kd.R (Kd.int .i64) 3 wc w.heap.size (fun k_ => nb k_ Ao24 t462.length co24 ∧ nb k_ Ao29 t472.length co29 ∧ nb k_ Ao33 t477.length co33 ∧ nb k_ Ao37 t481.length co37 ∧ nb k_ Ao39 t487.length co39 ∧ nb k_ Ao42 t491.length co42 ∧ nb k_ Ao47 t495.length co47 ∧ nb k_ Ao49 t501.length co49) (.slice Ao27 t466.length co27) t466) ∧ Aside0 (Kd.R k70 70 wc w.heap.size (fun k_ => nb k_ Ao38 t484.length co38 ∧ nb k_ Ao48 t498.length co48) (.slice Ao28 t469.length co28) t469) ∧ Aside0 (Kd.R (Kd.int .i64) 3 wc w.heap.size (fun k_ => nb k_ Ao24 t462.length co24 ∧ nb k_ Ao27 t466.length co27 ∧ nb k_ Ao33 t477.length co33 ∧ nb k_ Ao37 t481.length co37 ∧ nb k_ Ao39 t487.length co39 ∧ nb k_ Ao42 t491.length co42 ∧ nb k_ Ao47 t495.length co47 ∧ nb k_ Ao49 t501.length co49) (.slice Ao29 t472.length co29) t472) ∧ Aside0 (Kd.R (Kd.int .i64) 3 wc w.heap.size (fun k_ => nb k_ Ao24 t462.length co24 ∧ nb k_ Ao27 t466.length co27 ∧ nb k_ Ao29 t472.length co29 ∧ nb k_ Ao37 t481.length co37 ∧ nb k_ Ao39 t487.length co39 ∧ nb k_ Ao42 t491.length co42 ∧ nb k_ Ao47 t495.length co47 ∧ nb k_ Ao49 t501.length co49) (.slice Ao33 t477.length co33) t522) ∧ Aside0 (Kd.R (Kd.int .i64) 3 wc w.heap.size (fun k_ => nb k_ Ao24 t462.length co24 ∧ nb k_ Ao27 t466.length co27 ∧ nb k_ Ao29 t472.length co29 ∧ nb k_ Ao33 t477.length co33 ∧ nb k_ Ao39 t487.length co39 ∧ nb k_ Ao42 t491.length co42 ∧ nb k_ Ao47 t495.length co47 ∧ nb k_ Ao49 t501.length co49) (.slice Ao37 t481.length co37) t523) ∧ Aside0 (Kd.R k70 70 wc w.heap.size (fun k_ => nb k_ Ao28 t469.length co28 ∧ nb k_ Ao48 t498.length co48) (.slice Ao38 t484.length co38) t524) ∧ Aside0 (Kd.R (Kd.int .i64) 3 wc w.heap.size (fun k_ => nb k_ Ao24 t462.length co24 ∧ nb k_ Ao27 t466.length co27 ∧ nb k_ Ao29 t472.length co29 ∧ nb k_ Ao33 t477.length co33 ∧ nb k_ Ao37 t481.length co37 ∧ nb k_ Ao42 t491.length co42 ∧ nb k_ Ao47 t495.length co47 ∧ nb k_ Ao49 t501.length co49) (.slice Ao39 t487.length co39) t525) ∧ Aside0 (Kd.R (Kd.int .i64) 3 wc w.heap.size (fun k_ => nb k_ Ao24 t462.length co24 ∧ nb k_ Ao27 t466.length co27 ∧ nb k_ Ao29 t472.length co29 ∧ nb k_ Ao33 t477.length co33 ∧ nb k_ Ao37 t481.length co37 ∧ nb k_ Ao39 t487.length co39 ∧ nb k_ Ao47 t495.length co47 ∧ nb k_ Ao49 t501.length co49) (.slice Ao42 t491.length co42) t491) ∧ Aside0 (Kd.R (Kd.int .i64) 3 wc w.heap.size (fun k_ => nb k_ Ao24 t462.length co24 ∧ nb k_ Ao27 t466.length co27 ∧ nb k_ Ao29 t472.length co29 ∧ nb k_ Ao33 t477.length co33 ∧ nb k_ Ao37 t481.length co37 ∧ nb k_ Ao39 t487.length co39 ∧ nb k_ Ao42 t491.length co42 ∧ nb k_ Ao49 t501.length co49) (.slice Ao47 t495.length co47) t495) ∧ Aside0 (Kd.R k70 70 wc w.heap.size (fun k_ => nb k_ Ao28 t469.length co28 ∧ nb k_ Ao38 t484.length co38) (.slice Ao48 t498.length co48) t498) ∧ Aside0 (Kd.R (Kd.int .i64) 3 wc w.heap.size (fun k_ => nb k_ Ao24 t462.length co24 ∧ nb k_ Ao27 t466.length co27 ∧ nb k_ Ao29 t472.length co29 ∧ nb k_ Ao33 t477.length co33 ∧ nb k_ Ao37 t481.length co37 ∧ nb k_ Ao39 t487.length co39 ∧ nb k_ Ao42 t491.length co42 ∧ nb k_ Ao47 t495.length co47) (.slice Ao49 t501.length co49) t501) ∧ Aside0 (wc.heap[gb447]? = some (.cells #[(.slice A0_0 l0_0.length c0_0), .int .i64 a0_1, (.slice A0_2 l0_2.length c0_2), (.slice A0_3 l0_3.length c0_3), (.slice A0_4 l0_4.length c0_4)] 37 (0, 0))) ∧ Aside0 (wc.heap[gb476]? = some (.cells #[(.slice Ao24 t462.length co24), .int .i64 t465, (.slice Ao27 t466.length co27), (.slice Ao28 t469.length co28), (.slice Ao29 t472.length co29)] 27 (0, 0))) ∧ Aside0 (wc.heap[gb490]? = some (.cells #[(.slice Ao33 t477.length co33), .int .i64 t480, (.slice Ao37 t481.length co37), (.slice Ao38 t484.length co38), (.slice Ao39 t487.length co39)] 27 (0, 0))) ∧ Aside0 (wc.heap[gb505]? = some (.cells #[(.slice Ao42 t491.length co42), .int .i64 t494, (.slice Ao47 t495.length co47), (.slice Ao48 t498.length co48), (.slice Ao49 t501.length co49)] 27 (0, 0))) ∧ Aside0 (Below w.heap.size w wc))
    case first =>
     have H := HC73.out
     clear HC73
     by_cases c86 : t521 < 0
     ·rw [if_pos c86] at H
      have c86b0 : decide (t521 < 0) = true := decide_eq_true c86
      clear c86
      (first | rw [c86b0] | (simp only [i64_w, i32_w]; rw [c86b0]) | skip)
      have H' := Aside0.mk H
      clear H
      go_wp2
      go_meet
      case rel => exact ⟨_, (true), rs, H', ⟨by have := HJ11.out; first | omega | exact Nat.le_refl _⟩, ⟨rom HO_477000⟩, ⟨rom HO_477002⟩, ⟨rom HO_477003⟩, ⟨rom HO_477004⟩, ⟨rom HO_491000⟩, ⟨rom HO_491002⟩, ⟨rom HO_491003⟩, ⟨rom HO_491004⟩, ⟨rom HO_506000⟩, ⟨rom HO_506002⟩, ⟨rom HO_506003⟩, ⟨rom HO_506004⟩, ⟨bk BK447⟩, ⟨bk BK476⟩, ⟨bk BK490⟩, ⟨bk BK505⟩, ⟨be4 HB GE447 GE476 GE490 GE505⟩⟩
     rw [if_neg c86] at H
     have c86b0 : decide (t521 < 0) = false := decide_eq_false c86
     clear c86
     (first | rw [c86b0] | (simp only [i64_w, i32_w]; rw [c86b0]) | skip)
     replace H := Option.bind_eq_some_iff.mp H
     obtain ⟨t526, A870, H⟩ := H
     try dsimp only at H
     have A87 := Aside0.mk A870
     clear A870
     by_cases c88 : t526 = true
     ·subst c88
      rw [if_pos rfl] at H
      have H' := Aside0.mk H
      clear H
      have hnb89 := NB505_447.out
      have hnc89 := NB447_505.out
      have hnb90 := NB505_476.out
      have hnc90 := NB476_505.out
      have hnb91 := NB505_490.out
      have hnc91 := NB490_505.out
      have hcz92_0 := bz5 BK505
      have hnb93 := NB476_447.out
      have hnc93 := NB447_476.out
      have hnb94 := NB476_490.out
      have hnc94 := NB490_476.out
      have hcz95_0 := bz5 BK476
      go_wp2_with (first | (go_at_call 16; (with_reducible refine (laws_eqPool.calls kj11 _ _ t491 t494 _ _ t495 _ _ t498 _ _ t501 _ _ t462 t465 _ _ t466 _ _ t469 _ _ t472 true _ (cr HO_506000) ((Kd.R_reads' HO_506000.out).2.1) (cr HO_506002) ((Kd.R_reads' HO_506002.out).2.1) (cr HO_506003) ((Kd.R_reads' HO_506003.out).2.1) (cr HO_506004) ((Kd.R_reads' HO_506004.out).2.1) (cr HO_477000) ((Kd.R_reads' HO_477000.out).2.1) (cr HO_477002) ((Kd.R_reads' HO_477002.out).2.1) (cr HO_477003) ((Kd.R_reads' HO_477003.out).2.1) (cr HO_477004) ((Kd.R_reads' HO_477004.out).2.1) A87.out).mono ?_); rintro e w96 ⟨rfl, hb⟩; replace HO_477000 := rb HO_477000 hb; replace HO_477002 := rb HO_477002 hb; replace HO_477003 := rb HO_477003 hb; replace HO_477004 := rb HO_477004 hb; replace HO_491000 := rb HO_491000 hb; replace HO_491002 := rb HO_491002 hb; replace HO_491003 := rb HO_491003 hb; replace HO_491004 := rb HO_491004 hb; replace HO_506000 := rb HO_506000 hb; replace HO_506002 := rb HO_506002 hb; replace HO_506003 := rb HO_506003 hb; replace HO_506004 := rb HO_506004 hb; replace HO509 := rb HO509 hb; replace HO513 := rb HO513 hb; replace HO516 := rb HO516 hb; replace HO519 := rb HO519 hb; replace BK447 := bb BK447 hb; replace BK476 := bb BK476 hb; replace BK490 := bb BK490 hb; replace BK505 := bb BK505 hb; replace HB := Aside0.mk (below_step (be4 HB GE447 GE476 GE490 GE505) hb); (try clear hb)))
      go_meet
      case rel => exact ⟨_, ((t504 != t475)), rs, H', ⟨by have := HJ11.out; first | omega | exact Nat.le_refl _⟩, ⟨rom HO_477000⟩, ⟨rom HO_477002⟩, ⟨rom HO_477003⟩, ⟨rom HO_477004⟩, ⟨rom HO_491000⟩, ⟨rom HO_491002⟩, ⟨rom HO_491003⟩, ⟨rom HO_491004⟩, ⟨rom HO_506000⟩, ⟨rom HO_506002⟩, ⟨rom HO_506003⟩, ⟨rom HO_506004⟩, ⟨bk BK447⟩, ⟨bk BK476⟩, ⟨bk BK490⟩, ⟨bk BK505⟩, ⟨be4 HB GE447 GE476 GE490 GE505⟩⟩
     replace c88 := Bool.eq_false_iff.mpr c88
     subst c88
     rw [if_neg (show ¬ (false = true) by decide)] at H
     have H' := Aside0.mk H
     clear H
     have hnb97 := NB505_447.out
     have hnc97 := NB447_505.out
     have hnb98 := NB505_476.out
     have hnc98 := NB476_505.out
     have hnb99 := NB505_490.out
     have hnc99 := NB490_505.out
     have hcz100_0 := bz5 BK505
     have hnb101 := NB476_447.out
     have hnc101 := NB447_476.out
     have hnb102 := NB476_490.out
     have hnc102 := NB490_476.out
     have hcz103_0 := bz5 BK476
     go_wp2_with (first | (go_at_call 16; (with_reducible refine (laws_eqPool.calls kj11 _ _ t491 t494 _ _ t495 _ _ t498 _ _ t501 _ _ t462 t465 _ _ t466 _ _ t469 _ _ t472 false _ (cr HO_506000) ((Kd.R_reads' HO_506000.out).2.1) (cr HO_506002) ((Kd.R_reads' HO_506002.out).2.1) (cr HO_506003) ((Kd.R_reads' HO_506003.out).2.1) (cr HO_506004) ((Kd.R_reads' HO_506004.out).2.1) (cr HO_477000) ((Kd.R_reads' HO_477000.out).2.1) (cr HO_477002) ((Kd.R_reads' HO_477002.out).2.1) (cr HO_477003) ((Kd.R_reads' HO_477003.out).2.1) (cr HO_477004) ((Kd.R_reads' HO_477004.out).2.1) A87.out).mono ?_); rintro e w104 ⟨rfl, hb⟩; replace HO_477000 := rb HO_477000 hb; replace HO_477002 := rb HO_477002 hb; replace HO_477003 := rb HO_477003 hb; replace HO_477004 := rb HO_477004 hb; replace HO_491000 := rb HO_491000 hb; replace HO_491002 := rb HO_491002 hb; replace HO_491003 := rb HO_491003 hb; replace HO_491004 := rb HO_491004 hb; replace HO_506000 := rb HO_506000 hb; replace HO_506002 := rb HO_506002 hb; replace HO_506003 := rb HO_506003 hb; replace HO_506004 := rb HO_506004 hb; replace HO509 := rb HO509 hb; replace HO513 := rb HO513 hb; replace HO516 := rb HO516 hb; replace HO519 := rb HO519 hb; replace BK447 := bb BK447 hb; replace BK476 := bb BK476 hb; replace BK490 := bb BK490 hb; replace BK505 := bb BK505 hb; replace HB := Aside0.mk (below_step (be4 HB GE447 GE476 GE490 GE505) hb); (try clear hb)))
     go_meet
     case rel => exact ⟨_, (true), rs, H', ⟨by have := HJ11.out; first | omega | exact Nat.le_refl _⟩, ⟨rom HO_477000⟩, ⟨rom HO_477002⟩, ⟨rom HO_477003⟩, ⟨rom HO_477004⟩, ⟨rom HO_491000⟩, ⟨rom HO_491002⟩, ⟨rom HO_491003⟩, ⟨rom HO_491004⟩, ⟨rom HO_506000⟩, ⟨rom HO_506002⟩, ⟨rom HO_506003⟩, ⟨rom HO_506004⟩, ⟨bk BK447⟩, ⟨bk BK476⟩, ⟨bk BK490⟩, ⟨bk BK505⟩, ⟨be4 HB GE447 GE476 GE490 GE505⟩⟩
    case rest =>
     clear HC73
     try clear c1; try clear c2; try clear p2; try clear c3; try clear c4; try clear c4b0; try clear c5; try clear c6; try clear c7; try clear c8; try clear c9; try clear c10; try clear c11; try clear c16; try clear c17; try clear c19; try clear c21; try clear c25; try clear c34; try clear c35; try clear c38; try clear c39; try clear c43; try clear c44; try clear c45; try clear c51; try clear c52; try clear c53; try clear c54; try clear c56; try clear c57; try clear c60; try clear c61; try clear c62; try clear c64; try clear c65; try clear c68; try clear c71; try clear c81; try clear c82; try clear c83; try clear c86; try clear c86b0; try clear c88; try clear c89; try clear c90; try clear c91; try clear c93; try clear c94; try clear c97; try clear c98; try clear c99; try clear c101; try clear c102; try clear hcz100_0; try clear hcz103_0; try clear hcz14_0; try clear hcz16_0; try clear hcz26_0; try clear hcz30_0; try clear hcz36_0; try clear hcz46_0; try clear hcz55_0; try clear hcz58_0; try clear hcz63_0; try clear hcz66_0; try clear hcz6_0; try clear hcz84_0; try clear hcz92_0; try clear hcz95_0; try clear p2
     obtain ⟨kq, x65_72, rfl, HA, HJ72, HO_477000, HO_477002, HO_477003, HO_477004, HO_491000, HO_491002, HO_491003, HO_491004, HO_506000, HO_506002, HO_506003, HO_506004, BK447, BK476, BK490, BK505, HB⟩ := hcut
     have hl491000_72 := (Kd.R_reads' HO_491000.out).1
     rw [hl491000_72] at HO_491000
     (try simp only [hl491000_72])
     (try simp only [hl491000_72] at BK447)
     (try simp only [hl491000_72] at BK476)
     (try simp only [hl491000_72] at BK490)
     (try simp only [hl491000_72] at BK505)
     (try simp only [hl491000_72] at HO_477000)
     (try simp only [hl491000_72] at HO_477002)
     (try simp only [hl491000_72] at HO_477003)
     (try simp only [hl491000_72] at HO_477004)
     (try simp only [hl491000_72] at HO_491002)
     (try simp only [hl491000_72] at HO_491003)
     (try simp only [hl491000_72] at HO_491004)
     (try simp only [hl491000_72] at HO_506000)
     (try simp only [hl491000_72] at HO_506002)
     (try simp only [hl491000_72] at HO_506003)
     (try simp only [hl491000_72] at HO_506004)
     have hl491002_72 := (Kd.R_reads' HO_491002.out).1
     rw [hl491002_72] at HO_491002
     (try simp only [hl491002_72])
     (try simp only [hl491002_72] at BK447)
     (try simp only [hl491002_72] at BK476)
     (try simp only [hl491002_72] at BK490)
     (try simp only [hl491002_72] at BK505)
     (try simp only [hl491002_72] at HO_477000)
     (try simp only [hl491002_72] at HO_477002)
     (try simp only [hl491002_72] at HO_477003)
     (try simp only [hl491002_72] at HO_477004)
     (try simp only [hl491002_72] at HO_491000)
     (try simp only [hl491002_72] at HO_491003)
     (try simp only [hl491002_72] at HO_491004)
     (try simp only [hl491002_72] at HO_506000)
     (try simp only [hl491002_72] at HO_506002)
     (try simp only [hl491002_72] at HO_506003)
     (try simp only [hl491002_72] at HO_506004)
     have hl491003_72 := (Kd.R_reads' HO_491003.out).1
     rw [hl491003_72] at HO_491003
     (try simp only [hl491003_72])
     (try simp only [hl491003_72] at BK447)
     (try simp only [hl491003_72] at BK476)
     (try simp only [hl491003_72] at BK490)
     (try simp only [hl491003_72] at BK505)
     (try simp only [hl491003_72] at HO_477000)
     (try simp only [hl491003_72] at HO_477002)
     (try simp only [hl491003_72] at HO_477003)
     (try simp only [hl491003_72] at HO_477004)
     (try simp only [hl491003_72] at HO_491000)
     (try simp only [hl491003_72] at HO_491002)
     (try simp only [hl491003_72] at HO_491004)
     (try simp only [hl491003_72] at HO_506000)
     (try simp only [hl491003_72] at HO_506002)
     (try simp only [hl491003_72] at HO_506003)
     (try simp only [hl491003_72] at HO_506004)
     have hl491004_72 := (Kd.R_reads' HO_491004.out).1
     rw [hl491004_72] at HO_491004
     (try simp only [hl491004_72])
     (try simp only [hl491004_72] at BK447)
     (try simp only [hl491004_72] at BK476)
     (try simp only [hl491004_72] at BK490)
     (try simp only [hl491004_72] at BK505)
     (try simp only [hl491004_72] at HO_477000)
     (try simp only [hl491004_72] at HO_477002)
     (try simp only [hl491004_72] at HO_477003)
     (try simp only [hl491004_72] at HO_477004)
     (try simp only [hl491004_72] at HO_491000)
     (try simp only [hl491004_72] at HO_491002)
     (try simp only [hl491004_72] at HO_491003)
     (try simp only [hl491004_72] at HO_506000)
     (try simp only [hl491004_72] at HO_506002)
     (try simp only [hl491004_72] at HO_506003)
     (try simp only [hl491004_72] at HO_506004)
     cases kq with
     | zero => exact absurd HA.out (by simp [laws_FnExactGiveUp.j1])
     | succ kj72 =>
      have H := HA.out
      clear HA
      simp only [laws_FnExactGiveUp.j1] at H
      by_cases c105 : x65_72 = true
      ·subst c105
       rw [if_pos rfl] at H
       exact absurd ((Option.some.inj H).trans hrt_.out) (by decide)
      replace c105 := Bool.eq_false_iff.mpr c105
      subst c105
      rw [if_neg (show ¬ (false = true) by decide)] at H
      replace H := Option.bind_eq_some_iff.mp H
      obtain ⟨⟨t527, t528, t529, t530, t531⟩, A1060, H⟩ := H
      try dsimp only at H
      have A106 := Aside0.mk A1060
      clear A1060
      replace H := Option.bind_eq_some_iff.mp H
      obtain ⟨t532, A1070, H⟩ := H
      try dsimp only at H
      have A107 := Aside0.mk A1070
      clear A1070
      by_cases c108 : t532 < 0
      ·rw [if_pos c108] at H
       have c108b0 : decide (t532 < 0) = true := decide_eq_true c108
       clear c108
       exact absurd ((Option.some.inj H).trans hrt_.out) (by decide)
      rw [if_neg c108] at H
      have c108b0 : decide (t532 < 0) = false := decide_eq_false c108
      clear c108
      by_cases c109 : t532 = t527
      ·rw [if_pos c109] at H
       have c109b0 : (t532 == t527) = true := beq_iff_eq.mpr c109
       have c109b1 : (t532 != t527) = false := bne_eq_false_iff_eq.mpr c109
       clear c109
       replace H := Option.bind_eq_some_iff.mp H
       obtain ⟨⟨t533, t536, t537, t540, t543⟩, A1100, H⟩ := H
       try dsimp only at H
       have A110 := Aside0.mk A1100
       clear A1100
       replace H := Option.bind_eq_some_iff.mp H
       obtain ⟨⟨t546, t549, t550, t553, t556, t559⟩, A1110, H⟩ := H
       try dsimp only at H
       have A111 := Aside0.mk A1110
       clear A1110
       have HC112 := Aside0.mk H
       clear H
       have hnb113 := NB505_447.out
       have hnc113 := NB447_505.out
       have hnb114 := NB505_476.out
       have hnc114 := NB476_505.out
       have hnb115 := NB505_490.out
       have hnc115 := NB490_505.out
       have hcz116_0 := bz5 BK505
       go_upto_region 25 with (first | ((with_reducible refine gate_callee (f := 17) rfl ?_); refine gl 68 Try.func17 #[.agg #[.slice Ao42 t491.length co42, .int .i64 t494, .slice Ao47 t495.length co47, .slice Ao48 t498.length co48, .slice Ao49 t501.length co49], .int .i64 1] ?_; (with_reducible refine (laws_markPool.calls kj72 (fun k_ => some k_ = (.slice Ao42 t491.length co42 : Value).ownBlock) (.slice Ao42 t491.length co42) t491 t494 (fun k_ => some k_ = (.slice Ao47 t495.length co47 : Value).ownBlock) (.slice Ao47 t495.length co47) t495 (fun k_ => some k_ = (.slice Ao48 t498.length co48 : Value).ownBlock) (.slice Ao48 t498.length co48) t498 (fun k_ => some k_ = (.slice Ao49 t501.length co49 : Value).ownBlock) (.slice Ao49 t501.length co49) t501 1 t527 t528 t529 t530 t531 w _ ?side1 ?side2 ?side3 ?side4 ?side5 ?side6 ?side7 ?side8 ?side9 ?side10 ?side11 A106.out).mono ?_); (case side1 => repeat (first | (with_reducible first | exact HB.out | apply below_alloc | apply pw_below_drewN | apply below_drew1 | refine below_set ?_ GE447.out | refine below_set ?_ GE476.out | refine below_set ?_ GE490.out | refine below_set ?_ GE505.out) | exact HB.out)); (case side2 => exact Kd.R_tight rfl HO_506000.out); (case side3 => exact fun k_ e_ => (HO_506000.out.1 k_ e_.symm).2.2.2.2.2.2.1); (case side4 => exact fun k_ e_ => (HO_506000.out.1 k_ e_.symm).2.2.2.2.2.2.2); (case side5 => exact Kd.R_tight rfl HO_506002.out); (case side6 => exact fun k_ e_ => (HO_506002.out.1 k_ e_.symm).2.2.2.2.2.2.1); (case side7 => exact fun k_ e_ => (HO_506002.out.1 k_ e_.symm).2.2.2.2.2.2.2); (case side8 => exact Kd.R_tight rfl HO_506003.out); (case side9 => exact Kd.R_tight rfl HO_506004.out); (case side10 => exact fun k_ e_ => (HO_506004.out.1 k_ e_.symm).2.2.2.2.2.2.1); (case side11 => exact fun k_ e_ => (HO_506004.out.1 k_ e_.symm).2.2.2.2.2.2.2); rintro e w117 ⟨rfl, hy0, hy1, hy2, hy3, hb, hkp⟩; refine ⟨_, rfl, ?_⟩; replace HO_477000 := Aside0.mk (Kd.R_mono (ok' := fun k_ => nb k_ Ao27 t466.length co27 ∧ nb k_ Ao29 t472.length co29 ∧ nb k_ Ao33 t522.length co33 ∧ nb k_ Ao37 t523.length co37 ∧ nb k_ Ao39 t525.length co39 ∧ nb k_ Ao42 t491.length co42 ∧ nb k_ Ao47 t495.length co47 ∧ nb k_ Ao49 t501.length co49) (Kd.R_keptB ((Kd.R_apart' HO_477000.out (Kd.R_typed HO_506003.out) (by decide))) hkp (fun k_ hk_ hs_ => Or.elim hs_ (fun e_ => (hk_.1.2.2.2.2.2.1) e_) (fun e_ => Or.elim e_ (fun e_ => (hk_.1.2.2.2.2.2.2.1) e_) (fun e_ => Or.elim e_ (fun e_ => (hk_.2) e_) (fun e_ => (hk_.1.2.2.2.2.2.2.2) e_))))) cj); replace HO_477002 := Aside0.mk (Kd.R_mono (ok' := fun k_ => nb k_ Ao24 t462.length co24 ∧ nb k_ Ao29 t472.length co29 ∧ nb k_ Ao33 t522.length co33 ∧ nb k_ Ao37 t523.length co37 ∧ nb k_ Ao39 t525.length co39 ∧ nb k_ Ao42 t491.length co42 ∧ nb k_ Ao47 t495.length co47 ∧ nb k_ Ao49 t501.length co49) (Kd.R_keptB ((Kd.R_apart' HO_477002.out (Kd.R_typed HO_506003.out) (by decide))) hkp (fun k_ hk_ hs_ => Or.elim hs_ (fun e_ => (hk_.1.2.2.2.2.2.1) e_) (fun e_ => Or.elim e_ (fun e_ => (hk_.1.2.2.2.2.2.2.1) e_) (fun e_ => Or.elim e_ (fun e_ => (hk_.2) e_) (fun e_ => (hk_.1.2.2.2.2.2.2.2) e_))))) cj); replace HO_477003 := Aside0.mk (Kd.R_mono (ok' := fun k_ => nb k_ Ao38 t524.length co38 ∧ nb k_ Ao48 t498.length co48) (Kd.R_keptB ((Kd.R_apart' (Kd.R_apart' (Kd.R_apart' HO_477003.out (Kd.R_typed HO_506000.out) (by decide)) (Kd.R_typed HO_506002.out) (by decide)) (Kd.R_typed HO_506004.out) (by decide))) hkp (fun k_ hk_ hs_ => Or.elim hs_ (fun e_ => (hk_.1.1.2) e_) (fun e_ => Or.elim e_ (fun e_ => (hk_.1.2) e_) (fun e_ => Or.elim e_ (fun e_ => (hk_.1.1.1.2) e_) (fun e_ => (hk_.2) e_))))) cj); replace HO_477004 := Aside0.mk (Kd.R_mono (ok' := fun k_ => nb k_ Ao24 t462.length co24 ∧ nb k_ Ao27 t466.length co27 ∧ nb k_ Ao33 t522.length co33 ∧ nb k_ Ao37 t523.length co37 ∧ nb k_ Ao39 t525.length co39 ∧ nb k_ Ao42 t491.length co42 ∧ nb k_ Ao47 t495.length co47 ∧ nb k_ Ao49 t501.length co49) (Kd.R_keptB ((Kd.R_apart' HO_477004.out (Kd.R_typed HO_506003.out) (by decide))) hkp (fun k_ hk_ hs_ => Or.elim hs_ (fun e_ => (hk_.1.2.2.2.2.2.1) e_) (fun e_ => Or.elim e_ (fun e_ => (hk_.1.2.2.2.2.2.2.1) e_) (fun e_ => Or.elim e_ (fun e_ => (hk_.2) e_) (fun e_ => (hk_.1.2.2.2.2.2.2.2) e_))))) cj); replace HO_491000 := Aside0.mk (Kd.R_mono (ok' := fun k_ => nb k_ Ao24 t462.length co24 ∧ nb k_ Ao27 t466.length co27 ∧ nb k_ Ao29 t472.length co29 ∧ nb k_ Ao37 t523.length co37 ∧ nb k_ Ao39 t525.length co39 ∧ nb k_ Ao42 t491.length co42 ∧ nb k_ Ao47 t495.length co47 ∧ nb k_ Ao49 t501.length co49) (Kd.R_keptB ((Kd.R_apart' HO_491000.out (Kd.R_typed HO_506003.out) (by decide))) hkp (fun k_ hk_ hs_ => Or.elim hs_ (fun e_ => (hk_.1.2.2.2.2.2.1) e_) (fun e_ => Or.elim e_ (fun e_ => (hk_.1.2.2.2.2.2.2.1) e_) (fun e_ => Or.elim e_ (fun e_ => (hk_.2) e_) (fun e_ => (hk_.1.2.2.2.2.2.2.2) e_))))) cj); replace HO_491002 := Aside0.mk (Kd.R_mono (ok' := fun k_ => nb k_ Ao24 t462.length co24 ∧ nb k_ Ao27 t466.length co27 ∧ nb k_ Ao29 t472.length co29 ∧ nb k_ Ao33 t522.length co33 ∧ nb k_ Ao39 t525.length co39 ∧ nb k_ Ao42 t491.length co42 ∧ nb k_ Ao47 t495.length co47 ∧ nb k_ Ao49 t501.length co49) (Kd.R_keptB ((Kd.R_apart' HO_491002.out (Kd.R_typed HO_506003.out) (by decide))) hkp (fun k_ hk_ hs_ => Or.elim hs_ (fun e_ => (hk_.1.2.2.2.2.2.1) e_) (fun e_ => Or.elim e_ (fun e_ => (hk_.1.2.2.2.2.2.2.1) e_) (fun e_ => Or.elim e_ (fun e_ => (hk_.2) e_) (fun e_ => (hk_.1.2.2.2.2.2.2.2) e_))))) cj); replace HO_491003 := Aside0.mk (Kd.R_mono (ok' := fun k_ => nb k_ Ao28 t469.length co28 ∧ nb k_ Ao48 t498.length co48) (Kd.R_keptB ((Kd.R_apart' (Kd.R_apart' (Kd.R_apart' HO_491003.out (Kd.R_typed HO_506000.out) (by decide)) (Kd.R_typed HO_506002.out) (by decide)) (Kd.R_typed HO_506004.out) (by decide))) hkp (fun k_ hk_ hs_ => Or.elim hs_ (fun e_ => (hk_.1.1.2) e_) (fun e_ => Or.elim e_ (fun e_ => (hk_.1.2) e_) (fun e_ => Or.elim e_ (fun e_ => (hk_.1.1.1.2) e_) (fun e_ => (hk_.2) e_))))) cj); replace HO_491004 := Aside0.mk (Kd.R_mono (ok' := fun k_ => nb k_ Ao24 t462.length co24 ∧ nb k_ Ao27 t466.length co27 ∧ nb k_ Ao29 t472.length co29 ∧ nb k_ Ao33 t522.length co33 ∧ nb k_ Ao37 t523.length co37 ∧ nb k_ Ao42 t491.length co42 ∧ nb k_ Ao47 t495.length co47 ∧ nb k_ Ao49 t501.length co49) (Kd.R_keptB ((Kd.R_apart' HO_491004.out (Kd.R_typed HO_506003.out) (by decide))) hkp (fun k_ hk_ hs_ => Or.elim hs_ (fun e_ => (hk_.1.2.2.2.2.2.1) e_) (fun e_ => Or.elim e_ (fun e_ => (hk_.1.2.2.2.2.2.2.1) e_) (fun e_ => Or.elim e_ (fun e_ => (hk_.2) e_) (fun e_ => (hk_.1.2.2.2.2.2.2.2) e_))))) cj); replace BK447 := Aside0.mk (blk_kept (bk BK447) hkp (fun hs_ => Or.elim hs_ (fun e_ => (fun e_ => (Kd.R_ne HO_506000.out BK447.out (by decide)) e_) e_) (fun e_ => Or.elim e_ (fun e_ => (fun e_ => (Kd.R_ne HO_506002.out BK447.out (by decide)) e_) e_) (fun e_ => Or.elim e_ (fun e_ => (fun e_ => (Kd.R_ne HO_506003.out BK447.out (by decide)) e_) e_) (fun e_ => (fun e_ => (Kd.R_ne HO_506004.out BK447.out (by decide)) e_) e_))))); replace BK476 := Aside0.mk (blk_kept (bk BK476) hkp (fun hs_ => Or.elim hs_ (fun e_ => (fun e_ => (Kd.R_ne HO_506000.out BK476.out (by decide)) e_) e_) (fun e_ => Or.elim e_ (fun e_ => (fun e_ => (Kd.R_ne HO_506002.out BK476.out (by decide)) e_) e_) (fun e_ => Or.elim e_ (fun e_ => (fun e_ => (Kd.R_ne HO_506003.out BK476.out (by decide)) e_) e_) (fun e_ => (fun e_ => (Kd.R_ne HO_506004.out BK476.out (by decide)) e_) e_))))); replace BK490 := Aside0.mk (blk_kept (bk BK490) hkp (fun hs_ => Or.elim hs_ (fun e_ => (fun e_ => (Kd.R_ne HO_506000.out BK490.out (by decide)) e_) e_) (fun e_ => Or.elim e_ (fun e_ => (fun e_ => (Kd.R_ne HO_506002.out BK490.out (by decide)) e_) e_) (fun e_ => Or.elim e_ (fun e_ => (fun e_ => (Kd.R_ne HO_506003.out BK490.out (by decide)) e_) e_) (fun e_ => (fun e_ => (Kd.R_ne HO_506004.out BK490.out (by decide)) e_) e_))))); replace BK505 := Aside0.mk (blk_kept (bk BK505) hkp (fun hs_ => Or.elim hs_ (fun e_ => (fun e_ => (Kd.R_ne HO_506000.out BK505.out (by decide)) e_) e_) (fun e_ => Or.elim e_ (fun e_ => (fun e_ => (Kd.R_ne HO_506002.out BK505.out (by decide)) e_) e_) (fun e_ => Or.elim e_ (fun e_ => (fun e_ => (Kd.R_ne HO_506003.out BK505.out (by decide)) e_) e_) (fun e_ => (fun e_ => (Kd.R_ne HO_506004.out BK505.out (by decide)) e_) e_))))); replace HO_506000 := Aside0.mk (Kd.R_reok rfl hy0 (fun k_ e_ => HO_506000.out.1 k_ e_)); replace HO_506002 := Aside0.mk (Kd.R_reok rfl hy1 (fun k_ e_ => HO_506002.out.1 k_ e_)); replace HO_506003 := Aside0.mk (Kd.R_reok rfl hy2 (fun k_ e_ => HO_506003.out.1 k_ e_)); replace HO_506004 := Aside0.mk (Kd.R_reok rfl hy3 (fun k_ e_ => HO_506004.out.1 k_ e_)); replace HB := Aside0.mk (hb); (try clear hb); (try clear hkp); (try clear hy0); (try clear hy1); (try clear hy2); (try clear hy3); have hcz118_0 := bz5 BK505) | ((with_reducible refine gate_callee (f := 18) rfl ?_); refine goesL_ (some 71) rfl rfl Try.func18 (by kernel_rfl) rfl #[.agg #[.slice Ao42 t528.length co42, .int .i64 t494, .slice Ao47 t529.length co47, .slice Ao48 t530.length co48, .slice Ao49 t531.length co49], .int .i64 1] rfl (by (try simp only [List.map_toArray, List.map_cons, List.map_nil]); first | done | (rw [show t528.length = t491.length from (Kd.R_reads' HO_506000.out).1.symm, show t529.length = t495.length from (Kd.R_reads' HO_506002.out).1.symm, show t530.length = t498.length from (Kd.R_reads' HO_506003.out).1.symm, show t531.length = t501.length from (Kd.R_reads' HO_506004.out).1.symm] <;> rfl) | rfl | (simp only [List.length_drop, List.length_take]; rfl)) ?_; (with_reducible refine (laws_heldPool.calls kj72 _ _ t528 t494 _ _ t529 _ _ t530 _ _ t531 1 t532 _ (cr HO_506000) ?side2 (cr HO_506002) ?side4 (cr HO_506003) ?side6 (cr HO_506004) ?side8 A107.out).mono ?_); (case side2 => rw [show t528.length = t491.length from (Kd.R_reads' HO_506000.out).1.symm]; exact (Kd.R_reads' HO_506000.out).2.1); (case side4 => rw [show t529.length = t495.length from (Kd.R_reads' HO_506002.out).1.symm]; exact (Kd.R_reads' HO_506002.out).2.1); (case side6 => rw [show t530.length = t498.length from (Kd.R_reads' HO_506003.out).1.symm]; exact (Kd.R_reads' HO_506003.out).2.1); (case side8 => rw [show t531.length = t501.length from (Kd.R_reads' HO_506004.out).1.symm]; exact (Kd.R_reads' HO_506004.out).2.1); rintro e w119 ⟨rfl, hb⟩; refine ⟨_, rfl, ?_⟩; replace HO_477000 := rb HO_477000 hb; replace HO_477002 := rb HO_477002 hb; replace HO_477003 := rb HO_477003 hb; replace HO_477004 := rb HO_477004 hb; replace HO_491000 := rb HO_491000 hb; replace HO_491002 := rb HO_491002 hb; replace HO_491003 := rb HO_491003 hb; replace HO_491004 := rb HO_491004 hb; replace HO_506000 := rb HO_506000 hb; replace HO_506002 := rb HO_506002 hb; replace HO_506003 := rb HO_506003 hb; replace HO_506004 := rb HO_506004 hb; replace BK447 := bb BK447 hb; replace BK476 := bb BK476 hb; replace BK490 := bb BK490 hb; replace BK505 := bb BK505 hb; replace HB := Aside0.mk (below_step (be4 HB GE447 GE476 GE490 GE505) hb); (try clear hb); have hnb120 := NB447_476.out; have hnc120 := NB476_447.out; have hnb121 := NB447_490.out; have hnc121 := NB490_447.out; have hcz122_0 := bz5 BK447) | ((with_reducible refine gate_callee (f := 21) rfl ?_); refine gl 79 Try.func21 #[.agg #[.slice A0_0 l0_0.length c0_0, .int .i64 a0_1, .slice A0_2 l0_2.length c0_2, .slice A0_3 l0_3.length c0_3, .slice A0_4 l0_4.length c0_4]] ?_; (with_reducible refine (laws_toPool.calls kj72 _ _ l0_0 a0_1 _ _ l0_2 _ _ l0_3 _ _ l0_4 t533 t536 t537 t540 t543 _ (cb HR0_0 HB) HC0_0.out (cb HR0_2 HB) HC0_2.out (cb HR0_3 HB) HC0_3.out (cb HR0_4 HB) HC0_4.out A110.out).mono ?_); rintro e w123 ⟨v534, v538, v541, v544, rfl, ho0, ho1, ho2, ho3, hb⟩; refine ⟨_, rfl, ?_⟩; have HO535 := Aside0.mk (Kd.R_lower (nw (nw (nw (nw (nw (nw (nw (nw (nw ho0 HO_477000) HO_477002) HO_477004) HO_491000) HO_491002) HO_491004) HO_506000) HO_506002) HO_506004) (below_size (be4 HB GE447 GE476 GE490 GE505))); have HO539 := Aside0.mk (Kd.R_lower (nw (nw (nw (nw (nw (nw (nw (nw (nw ho1 HO_477000) HO_477002) HO_477004) HO_491000) HO_491002) HO_491004) HO_506000) HO_506002) HO_506004) (below_size (be4 HB GE447 GE476 GE490 GE505))); have HO542 := Aside0.mk (Kd.R_lower (nw (nw (nw ho2 HO_477003) HO_491003) HO_506003) (below_size (be4 HB GE447 GE476 GE490 GE505))); replace HO_477003 := Aside0.mk (Kd.R_elder' (ro HO_477003) (Kd.R_base ho2) hb); replace HO_491003 := Aside0.mk (Kd.R_elder' (ro HO_491003) (Kd.R_base ho2) hb); replace HO_506003 := Aside0.mk (Kd.R_elder' (ro HO_506003) (Kd.R_base ho2) hb); have HO545 := Aside0.mk (Kd.R_lower (nw (nw (nw (nw (nw (nw (nw (nw (nw ho3 HO_477000) HO_477002) HO_477004) HO_491000) HO_491002) HO_491004) HO_506000) HO_506002) HO_506004) (below_size (be4 HB GE447 GE476 GE490 GE505))); replace HO_477000 := td3 (ro HO_477000) hb ho0 ho1 ho3; replace HO_477002 := td3 (ro HO_477002) hb ho0 ho1 ho3; replace HO_477004 := td3 (ro HO_477004) hb ho0 ho1 ho3; replace HO_491000 := td3 (ro HO_491000) hb ho0 ho1 ho3; replace HO_491002 := td3 (ro HO_491002) hb ho0 ho1 ho3; replace HO_491004 := td3 (ro HO_491004) hb ho0 ho1 ho3; replace HO_506000 := td3 (ro HO_506000) hb ho0 ho1 ho3; replace HO_506002 := td3 (ro HO_506002) hb ho0 ho1 ho3; replace HO_506004 := td3 (ro HO_506004) hb ho0 ho1 ho3; replace BK447 := bb BK447 hb; replace BK476 := bb BK476 hb; replace BK490 := bb BK490 hb; replace BK505 := bb BK505 hb; replace HB := Aside0.mk (below_step (be4 HB GE447 GE476 GE490 GE505) hb); (try clear hb); (try clear ho0); (try clear ho1); (try clear ho2); (try clear ho3); obtain ⟨Ao124, co124, eo124⟩ := Kd.R_slice HO535.out; subst eo124; obtain ⟨Ao125, co125, eo125⟩ := Kd.R_slice HO539.out; subst eo125; obtain ⟨Ao126, co126, eo126⟩ := Kd.R_slice HO542.out; subst eo126; obtain ⟨Ao127, co127, eo127⟩ := Kd.R_slice HO545.out; subst eo127) | ((with_reducible refine gate_callee (f := 39) rfl ?_); refine gl 81 Try.func39 #[.agg #[.slice Ao124 t533.length co124, .int .i64 t536, .slice Ao125 t537.length co125, .slice Ao126 t540.length co126, .slice Ao127 t543.length co127], .int .i64 a1] ?_; (with_reducible refine (impl_GiveUp.calls kj72 _ _ t533 t536 _ _ t537 _ _ t540 _ _ t543 a1 t546 t549 t550 t553 t556 t559 _ (cr HO535) ((Kd.R_reads' HO535.out).2.1) (cr HO539) ((Kd.R_reads' HO539.out).2.1) (cr HO542) ((Kd.R_reads' HO542.out).2.1) (cr HO545) ((Kd.R_reads' HO545.out).2.1) A111.out).mono ?_); rintro e w128 ⟨v547, v551, v554, v557, rfl, ho0, ho1, ho2, ho3, hb⟩; refine ⟨_, rfl, ?_⟩; have HO548 := Aside0.mk (Kd.R_lower (nw (nw (nw (nw (nw (nw (nw (nw (nw (nw (nw (nw ho0 HO_477000) HO_477002) HO_477004) HO_491000) HO_491002) HO_491004) HO_506000) HO_506002) HO_506004) HO535) HO539) HO545) (below_size (be4 HB GE447 GE476 GE490 GE505))); have HO552 := Aside0.mk (Kd.R_lower (nw (nw (nw (nw (nw (nw (nw (nw (nw (nw (nw (nw ho1 HO_477000) HO_477002) HO_477004) HO_491000) HO_491002) HO_491004) HO_506000) HO_506002) HO_506004) HO535) HO539) HO545) (below_size (be4 HB GE447 GE476 GE490 GE505))); have HO555 := Aside0.mk (Kd.R_lower (nw (nw (nw (nw ho2 HO_477003) HO_491003) HO_506003) HO542) (below_size (be4 HB GE447 GE476 GE490 GE505))); replace HO_477003 := Aside0.mk (Kd.R_elder' (ro HO_477003) (Kd.R_base ho2) hb); replace HO_491003 := Aside0.mk (Kd.R_elder' (ro HO_491003) (Kd.R_base ho2) hb); replace HO_506003 := Aside0.mk (Kd.R_elder' (ro HO_506003) (Kd.R_base ho2) hb); replace HO542 := Aside0.mk (Kd.R_elder' (ro HO542) (Kd.R_base ho2) hb); have HO558 := Aside0.mk (Kd.R_lower (nw (nw (nw (nw (nw (nw (nw (nw (nw (nw (nw (nw ho3 HO_477000) HO_477002) HO_477004) HO_491000) HO_491002) HO_491004) HO_506000) HO_506002) HO_506004) HO535) HO539) HO545) (below_size (be4 HB GE447 GE476 GE490 GE505))); replace HO_477000 := td3 (ro HO_477000) hb ho0 ho1 ho3; replace HO_477002 := td3 (ro HO_477002) hb ho0 ho1 ho3; replace HO_477004 := td3 (ro HO_477004) hb ho0 ho1 ho3; replace HO_491000 := td3 (ro HO_491000) hb ho0 ho1 ho3; replace HO_491002 := td3 (ro HO_491002) hb ho0 ho1 ho3; replace HO_491004 := td3 (ro HO_491004) hb ho0 ho1 ho3; replace HO_506000 := td3 (ro HO_506000) hb ho0 ho1 ho3; replace HO_506002 := td3 (ro HO_506002) hb ho0 ho1 ho3; replace HO_506004 := td3 (ro HO_506004) hb ho0 ho1 ho3; replace HO535 := td3 (ro HO535) hb ho0 ho1 ho3; replace HO539 := td3 (ro HO539) hb ho0 ho1 ho3; replace HO545 := td3 (ro HO545) hb ho0 ho1 ho3; replace BK447 := bb BK447 hb; replace BK476 := bb BK476 hb; replace BK490 := bb BK490 hb; replace BK505 := bb BK505 hb; replace HB := Aside0.mk (below_step (be4 HB GE447 GE476 GE490 GE505) hb); (try clear hb); (try clear ho0); (try clear ho1); (try clear ho2); (try clear ho3)) | ((with_reducible refine gate_dst (N := 14) rfl ?_); refine bx 14 #[.slice none 0 0, .int .i64 0, .slice none 0 0, .slice none 0 0, .slice none 0 0] 27 ?_; intro gb560 hg w129 hbox hb; replace HO_477000 := rb HO_477000 hb; replace HO_477002 := rb HO_477002 hb; replace HO_477003 := rb HO_477003 hb; replace HO_477004 := rb HO_477004 hb; replace HO_491000 := rb HO_491000 hb; replace HO_491002 := rb HO_491002 hb; replace HO_491003 := rb HO_491003 hb; replace HO_491004 := rb HO_491004 hb; replace HO_506000 := rb HO_506000 hb; replace HO_506002 := rb HO_506002 hb; replace HO_506003 := rb HO_506003 hb; replace HO_506004 := rb HO_506004 hb; replace HO535 := rb HO535 hb; replace HO539 := rb HO539 hb; replace HO542 := rb HO542 hb; replace HO545 := rb HO545 hb; replace HO548 := rb HO548 hb; replace HO552 := rb HO552 hb; replace HO555 := rb HO555 hb; replace HO558 := rb HO558 hb; have BK560 := am hbox; have GW560 := Aside0.mk ((by rw [hg]; exact (below_size (be4 HB GE447 GE476 GE490 GE505)) : w.heap.size ≤ gb560)); have GE560 := Aside0.mk ((by rw [hg]; exact (below_size (be4 HB GE447 GE476 GE490 GE505)) : w.heap.size ≤ gb560)); replace HB := Aside0.mk (below_step (be4 HB GE447 GE476 GE490 GE505) hb); have NB447_560 := Aside0.mk ((by rw [hg]; exact Nat.ne_of_lt (bl BK447) : gb447 ≠ gb560)); have NB560_447 := Aside0.mk ((by rw [hg]; exact Nat.ne_of_gt (bl BK447) : gb560 ≠ gb447)); replace BK447 := bb BK447 hb; have NB476_560 := Aside0.mk ((by rw [hg]; exact Nat.ne_of_lt (bl BK476) : gb476 ≠ gb560)); have NB560_476 := Aside0.mk ((by rw [hg]; exact Nat.ne_of_gt (bl BK476) : gb560 ≠ gb476)); replace BK476 := bb BK476 hb; have NB490_560 := Aside0.mk ((by rw [hg]; exact Nat.ne_of_lt (bl BK490) : gb490 ≠ gb560)); have NB560_490 := Aside0.mk ((by rw [hg]; exact Nat.ne_of_gt (bl BK490) : gb560 ≠ gb490)); replace BK490 := bb BK490 hb; have NB505_560 := Aside0.mk ((by rw [hg]; exact Nat.ne_of_lt (bl BK505) : gb505 ≠ gb560)); have NB560_505 := Aside0.mk ((by rw [hg]; exact Nat.ne_of_gt (bl BK505) : gb560 ≠ gb505)); replace BK505 := bb BK505 hb; clear hb hbox hg; obtain ⟨Ao130, co130, eo130⟩ := Kd.R_slice HO548.out; subst eo130; have hnb131 := NB560_447.out; have hnc131 := NB447_560.out; have hnb132 := NB560_476.out; have hnc132 := NB476_560.out; have hnb133 := NB560_490.out; have hnc133 := NB490_560.out; have hnb134 := NB560_505.out; have hnc134 := NB505_560.out; have hcz135_0 := bz5 BK560; obtain ⟨Ao136, co136, eo136⟩ := Kd.R_slice HO552.out; subst eo136; obtain ⟨Ao137, co137, eo137⟩ := Kd.R_slice HO555.out; subst eo137; obtain ⟨Ao138, co138, eo138⟩ := Kd.R_slice HO558.out; subst eo138))
       (try simp only [Act.put, List.setIfInBounds_toArray, List.set_cons_zero, List.set_cons_succ])
       go_cut [92] (fun v92 wc => ∃ (kq : Nat) (x92_111 : Bool), v92 = .bool x92_111 ∧ Aside0 (laws_FnExactGiveUp.j2 kq t527 x92_111 t528 t494 t529 t530 t531 = some r) ∧ Aside0 (kq ≤ kj72) ∧ Aside0 (Kd.R (Kd.int .i64) 3 wc w.heap.size (fun k_ => nb k_ Ao27 t466.length co27 ∧ nb k_ Ao29 t472.length co29 ∧ nb k_ Ao33 t522.length co33 ∧ nb k_ Ao37 t523.length co37 ∧ nb k_ Ao39 t525.length co39 ∧ nb k_ Ao42 t491.length co42 ∧ nb k_ Ao47 t495.length co47 ∧ nb k_ Ao49 t501.length co49 ∧ nb k_ Ao130 t546.length co130 ∧ nb k_ Ao136 t550.length co136 ∧ nb k_ Ao138 t556.length co138) (.slice Ao24 t462.length co24) t462) ∧ Aside0 (Kd.R (Kd.int .i64) 3 wc w.heap.size (fun k_ => nb k_ Ao24 t462.length co24 ∧ nb k_ Ao29 t472.length co29 ∧ nb k_ Ao33 t522.length co33 ∧ nb k_ Ao37 t523.length co37 ∧ nb k_ Ao39 t525.length co39 ∧ nb k_ Ao42 t491.length co42 ∧ nb k_ Ao47 t495.length co47 ∧ nb k_ Ao49 t501.length co49 ∧ nb k_ Ao130 t546.length co130 ∧ nb k_ Ao136 t550.length co136 ∧ nb k_ Ao138 t556.length co138) (.slice Ao27 t466.length co27) t466) ∧ Aside0 (Kd.R k70 70 wc w.heap.size (fun k_ => nb k_ Ao38 t524.length co38 ∧ nb k_ Ao48 t498.length co48 ∧ nb k_ Ao137 t553.length co137) (.slice Ao28 t469.length co28) t469) ∧ Aside0 (Kd.R (Kd.int .i64) 3 wc w.heap.size (fun k_ => nb k_ Ao24 t462.length co24 ∧ nb k_ Ao27 t466.length co27 ∧ nb k_ Ao33 t522.length co33 ∧ nb k_ Ao37 t523.length co37 ∧ nb k_ Ao39 t525.length co39 ∧ nb k_ Ao42 t491.length co42 ∧ nb k_ Ao47 t495.length co47 ∧ nb k_ Ao49 t501.length co49 ∧ nb k_ Ao130 t546.length co130 ∧ nb k_ Ao136 t550.length co136 ∧ nb k_ Ao138 t556.length co138) (.slice Ao29 t472.length co29) t472) ∧ Aside0 (Kd.R (Kd.int .i64) 3 wc w.heap.size (fun k_ => nb k_ Ao24 t462.length co24 ∧ nb k_ Ao27 t466.length co27 ∧ nb k_ Ao29 t472.length co29 ∧ nb k_ Ao37 t523.length co37 ∧ nb k_ Ao39 t525.length co39 ∧ nb k_ Ao42 t491.length co42 ∧ nb k_ Ao47 t495.length co47 ∧ nb k_ Ao49 t501.length co49 ∧ nb k_ Ao130 t546.length co130 ∧ nb k_ Ao136 t550.length co136 ∧ nb k_ Ao138 t556.length co138) (.slice Ao33 t522.length co33) t522) ∧ Aside0 (Kd.R (Kd.int .i64) 3 wc w.heap.size (fun k_ => nb k_ Ao24 t462.length co24 ∧ nb k_ Ao27 t466.length co27 ∧ nb k_ Ao29 t472.length co29 ∧ nb k_ Ao33 t522.length co33 ∧ nb k_ Ao39 t525.length co39 ∧ nb k_ Ao42 t491.length co42 ∧ nb k_ Ao47 t495.length co47 ∧ nb k_ Ao49 t501.length co49 ∧ nb k_ Ao130 t546.length co130 ∧ nb k_ Ao136 t550.length co136 ∧ nb k_ Ao138 t556.length co138) (.slice Ao37 t523.length co37) t523) ∧ Aside0 (Kd.R k70 70 wc w.heap.size (fun k_ => nb k_ Ao28 t469.length co28 ∧ nb k_ Ao48 t498.length co48 ∧ nb k_ Ao137 t553.length co137) (.slice Ao38 t524.length co38) t524) ∧ Aside0 (Kd.R (Kd.int .i64) 3 wc w.heap.size (fun k_ => nb k_ Ao24 t462.length co24 ∧ nb k_ Ao27 t466.length co27 ∧ nb k_ Ao29 t472.length co29 ∧ nb k_ Ao33 t522.length co33 ∧ nb k_ Ao37 t523.length co37 ∧ nb k_ Ao42 t491.length co42 ∧ nb k_ Ao47 t495.length co47 ∧ nb k_ Ao49 t501.length co49 ∧ nb k_ Ao130 t546.length co130 ∧ nb k_ Ao136 t550.length co136 ∧ nb k_ Ao138 t556.length co138) (.slice Ao39 t525.length co39) t525) ∧ Aside0 (Kd.R (Kd.int .i64) 3 wc w.heap.size (fun k_ => nb k_ Ao24 t462.length co24 ∧ nb k_ Ao27 t466.length co27 ∧ nb k_ Ao29 t472.length co29 ∧ nb k_ Ao33 t522.length co33 ∧ nb k_ Ao37 t523.length co37 ∧ nb k_ Ao39 t525.length co39 ∧ nb k_ Ao47 t495.length co47 ∧ nb k_ Ao49 t501.length co49 ∧ nb k_ Ao130 t546.length co130 ∧ nb k_ Ao136 t550.length co136 ∧ nb k_ Ao138 t556.length co138) (.slice Ao42 t491.length co42) t528) ∧ Aside0 (Kd.R (Kd.int .i64) 3 wc w.heap.size (fun k_ => nb k_ Ao24 t462.length co24 ∧ nb k_ Ao27 t466.length co27 ∧ nb k_ Ao29 t472.length co29 ∧ nb k_ Ao33 t522.length co33 ∧ nb k_ Ao37 t523.length co37 ∧ nb k_ Ao39 t525.length co39 ∧ nb k_ Ao42 t491.length co42 ∧ nb k_ Ao49 t501.length co49 ∧ nb k_ Ao130 t546.length co130 ∧ nb k_ Ao136 t550.length co136 ∧ nb k_ Ao138 t556.length co138) (.slice Ao47 t495.length co47) t529) ∧ Aside0 (Kd.R k70 70 wc w.heap.size (fun k_ => nb k_ Ao28 t469.length co28 ∧ nb k_ Ao38 t524.length co38 ∧ nb k_ Ao137 t553.length co137) (.slice Ao48 t498.length co48) t530) ∧ Aside0 (Kd.R (Kd.int .i64) 3 wc w.heap.size (fun k_ => nb k_ Ao24 t462.length co24 ∧ nb k_ Ao27 t466.length co27 ∧ nb k_ Ao29 t472.length co29 ∧ nb k_ Ao33 t522.length co33 ∧ nb k_ Ao37 t523.length co37 ∧ nb k_ Ao39 t525.length co39 ∧ nb k_ Ao42 t491.length co42 ∧ nb k_ Ao47 t495.length co47 ∧ nb k_ Ao130 t546.length co130 ∧ nb k_ Ao136 t550.length co136 ∧ nb k_ Ao138 t556.length co138) (.slice Ao49 t501.length co49) t531) ∧ Aside0 (Kd.R (Kd.int .i64) 3 wc w.heap.size (fun k_ => nb k_ Ao24 t462.length co24 ∧ nb k_ Ao27 t466.length co27 ∧ nb k_ Ao29 t472.length co29 ∧ nb k_ Ao33 t522.length co33 ∧ nb k_ Ao37 t523.length co37 ∧ nb k_ Ao39 t525.length co39 ∧ nb k_ Ao42 t491.length co42 ∧ nb k_ Ao47 t495.length co47 ∧ nb k_ Ao49 t501.length co49 ∧ nb k_ Ao136 t550.length co136 ∧ nb k_ Ao138 t556.length co138) (.slice Ao130 t546.length co130) t546) ∧ Aside0 (Kd.R (Kd.int .i64) 3 wc w.heap.size (fun k_ => nb k_ Ao24 t462.length co24 ∧ nb k_ Ao27 t466.length co27 ∧ nb k_ Ao29 t472.length co29 ∧ nb k_ Ao33 t522.length co33 ∧ nb k_ Ao37 t523.length co37 ∧ nb k_ Ao39 t525.length co39 ∧ nb k_ Ao42 t491.length co42 ∧ nb k_ Ao47 t495.length co47 ∧ nb k_ Ao49 t501.length co49 ∧ nb k_ Ao130 t546.length co130 ∧ nb k_ Ao138 t556.length co138) (.slice Ao136 t550.length co136) t550) ∧ Aside0 (Kd.R k70 70 wc w.heap.size (fun k_ => nb k_ Ao28 t469.length co28 ∧ nb k_ Ao38 t524.length co38 ∧ nb k_ Ao48 t498.length co48) (.slice Ao137 t553.length co137) t553) ∧ Aside0 (Kd.R (Kd.int .i64) 3 wc w.heap.size (fun k_ => nb k_ Ao24 t462.length co24 ∧ nb k_ Ao27 t466.length co27 ∧ nb k_ Ao29 t472.length co29 ∧ nb k_ Ao33 t522.length co33 ∧ nb k_ Ao37 t523.length co37 ∧ nb k_ Ao39 t525.length co39 ∧ nb k_ Ao42 t491.length co42 ∧ nb k_ Ao47 t495.length co47 ∧ nb k_ Ao49 t501.length co49 ∧ nb k_ Ao130 t546.length co130 ∧ nb k_ Ao136 t550.length co136) (.slice Ao138 t556.length co138) t556) ∧ Aside0 (wc.heap[gb447]? = some (.cells #[(.slice A0_0 l0_0.length c0_0), .int .i64 a0_1, (.slice A0_2 l0_2.length c0_2), (.slice A0_3 l0_3.length c0_3), (.slice A0_4 l0_4.length c0_4)] 37 (0, 0))) ∧ Aside0 (wc.heap[gb476]? = some (.cells #[(.slice Ao24 t462.length co24), .int .i64 t465, (.slice Ao27 t466.length co27), (.slice Ao28 t469.length co28), (.slice Ao29 t472.length co29)] 27 (0, 0))) ∧ Aside0 (wc.heap[gb490]? = some (.cells #[(.slice Ao33 t522.length co33), .int .i64 t480, (.slice Ao37 t523.length co37), (.slice Ao38 t524.length co38), (.slice Ao39 t525.length co39)] 27 (0, 0))) ∧ Aside0 (wc.heap[gb505]? = some (.cells #[(.slice Ao42 t491.length co42), .int .i64 t494, (.slice Ao47 t495.length co47), (.slice Ao48 t498.length co48), (.slice Ao49 t501.length co49)] 27 (0, 0))) ∧ Aside0 (wc.heap[gb560]? = some (.cells #[(.slice Ao130 t546.length co130), .int .i64 t549, (.slice Ao136 t550.length co136), (.slice Ao137 t553.length co137), (.slice Ao138 t556.length co138)] 27 (0, 0))) ∧ Aside0 (Below w.heap.size w wc))
       case first =>
        have H := HC112.out
        clear HC112
        replace H := Option.bind_eq_some_iff.mp H
        obtain ⟨t561, A1390, H⟩ := H
        try dsimp only at H
        have A139 := Aside0.mk A1390
        clear A1390
        by_cases c140 : t561 = true
        ·subst c140
         rw [if_pos rfl] at H
         have H' := Aside0.mk H
         clear H
         have hnb141 := NB560_447.out
         have hnc141 := NB447_560.out
         have hnb142 := NB560_476.out
         have hnc142 := NB476_560.out
         have hnb143 := NB560_490.out
         have hnc143 := NB490_560.out
         have hnb144 := NB560_505.out
         have hnc144 := NB505_560.out
         have hcz145_0 := bz5 BK560
         have hnb146 := NB476_447.out
         have hnc146 := NB447_476.out
         have hnb147 := NB476_490.out
         have hnc147 := NB490_476.out
         have hnb148 := NB476_505.out
         have hnc148 := NB505_476.out
         have hcz149_0 := bz5 BK476
         go_wp2_with (first | ((with_reducible refine gate_callee (f := 16) rfl ?_); refine gl 86 Try.func16 #[.agg #[.slice Ao130 t546.length co130, .int .i64 t549, .slice Ao136 t550.length co136, .slice Ao137 t553.length co137, .slice Ao138 t556.length co138], .agg #[.slice Ao24 t462.length co24, .int .i64 t465, .slice Ao27 t466.length co27, .slice Ao28 t469.length co28, .slice Ao29 t472.length co29]] ?_; (with_reducible refine (laws_eqPool.calls kj72 _ _ t546 t549 _ _ t550 _ _ t553 _ _ t556 _ _ t462 t465 _ _ t466 _ _ t469 _ _ t472 true _ ?side1 ((Kd.R_reads' HO548.out).2.1) ?side3 ((Kd.R_reads' HO552.out).2.1) ?side5 ((Kd.R_reads' HO555.out).2.1) ?side7 ((Kd.R_reads' HO558.out).2.1) ?side9 ((Kd.R_reads' HO_477000.out).2.1) ?side11 ((Kd.R_reads' HO_477002.out).2.1) ?side13 ((Kd.R_reads' HO_477003.out).2.1) ?side15 ((Kd.R_reads' HO_477004.out).2.1) A139.out).mono ?_); (case side1 => exact rfr _ HO548 BK560); (case side3 => exact rfr _ HO552 BK560); (case side5 => exact rfr _ HO555 BK560); (case side7 => exact rfr _ HO558 BK560); (case side9 => exact rfr _ HO_477000 BK560); (case side11 => exact rfr _ HO_477002 BK560); (case side13 => exact rfr _ HO_477003 BK560); (case side15 => exact rfr _ HO_477004 BK560); rintro e w150 ⟨rfl, hb⟩; refine ⟨_, rfl, ?_⟩; replace HO_477000 := Aside0.mk (Kd.R_below (rf HO_477000 BK560) hb); replace HO_477002 := Aside0.mk (Kd.R_below (rf HO_477002 BK560) hb); replace HO_477003 := Aside0.mk (Kd.R_below (rf HO_477003 BK560) hb); replace HO_477004 := Aside0.mk (Kd.R_below (rf HO_477004 BK560) hb); replace HO_491000 := Aside0.mk (Kd.R_below (rf HO_491000 BK560) hb); replace HO_491002 := Aside0.mk (Kd.R_below (rf HO_491002 BK560) hb); replace HO_491003 := Aside0.mk (Kd.R_below (rf HO_491003 BK560) hb); replace HO_491004 := Aside0.mk (Kd.R_below (rf HO_491004 BK560) hb); replace HO_506000 := Aside0.mk (Kd.R_below (rf HO_506000 BK560) hb); replace HO_506002 := Aside0.mk (Kd.R_below (rf HO_506002 BK560) hb); replace HO_506003 := Aside0.mk (Kd.R_below (rf HO_506003 BK560) hb); replace HO_506004 := Aside0.mk (Kd.R_below (rf HO_506004 BK560) hb); replace HO535 := Aside0.mk (Kd.R_below (rf HO535 BK560) hb); replace HO539 := Aside0.mk (Kd.R_below (rf HO539 BK560) hb); replace HO542 := Aside0.mk (Kd.R_below (rf HO542 BK560) hb); replace HO545 := Aside0.mk (Kd.R_below (rf HO545 BK560) hb); replace HO548 := Aside0.mk (Kd.R_below (rf HO548 BK560) hb); replace HO552 := Aside0.mk (Kd.R_below (rf HO552 BK560) hb); replace HO555 := Aside0.mk (Kd.R_below (rf HO555 BK560) hb); replace HO558 := Aside0.mk (Kd.R_below (rf HO558 BK560) hb); replace BK447 := Aside0.mk (blk_below (g := gb447) (o := .cells #[.slice A0_0 l0_0.length c0_0, .int .i64 a0_1, .slice A0_2 l0_2.length c0_2, .slice A0_3 l0_3.length c0_3, .slice A0_4 l0_4.length c0_4] 37 (0, 0)) (bf1 BK447 NB447_560) hb); replace BK476 := Aside0.mk (blk_below (g := gb476) (o := .cells #[.slice Ao24 t462.length co24, .int .i64 t465, .slice Ao27 t466.length co27, .slice Ao28 t469.length co28, .slice Ao29 t472.length co29] 27 (0, 0)) (bf1 BK476 NB476_560) hb); replace BK490 := Aside0.mk (blk_below (g := gb490) (o := .cells #[.slice Ao33 t522.length co33, .int .i64 t480, .slice Ao37 t523.length co37, .slice Ao38 t524.length co38, .slice Ao39 t525.length co39] 27 (0, 0)) (bf1 BK490 NB490_560) hb); replace BK505 := Aside0.mk (blk_below (g := gb505) (o := .cells #[.slice Ao42 t491.length co42, .int .i64 t494, .slice Ao47 t495.length co47, .slice Ao48 t498.length co48, .slice Ao49 t501.length co49] 27 (0, 0)) (bf1 BK505 NB505_560) hb); replace BK560 := Aside0.mk (blk_below (g := gb560) (o := .cells #[.slice Ao130 t546.length co130, .int .i64 t549, .slice Ao136 t550.length co136, .slice Ao137 t553.length co137, .slice Ao138 t556.length co138] 27 (0, 0)) (by (with_reducible repeat (first | refine blk_drewN ?_ _ | refine blk_drew ?_ | refine blk_alloc ?_ _)); refine blk_put (cs := #[.slice Ao130 t546.length co130, .int .i64 t549, .slice Ao136 t550.length co136, .slice Ao137 t553.length co137, .slice none 0 0]) ?_ 4 _ rfl; (with_reducible repeat (first | refine blk_drewN ?_ _ | refine blk_drew ?_ | refine blk_alloc ?_ _)); refine blk_put (cs := #[.slice Ao130 t546.length co130, .int .i64 t549, .slice Ao136 t550.length co136, .slice none 0 0, .slice none 0 0]) ?_ 3 _ rfl; (with_reducible repeat (first | refine blk_drewN ?_ _ | refine blk_drew ?_ | refine blk_alloc ?_ _)); refine blk_put (cs := #[.slice Ao130 t546.length co130, .int .i64 t549, .slice none 0 0, .slice none 0 0, .slice none 0 0]) ?_ 2 _ rfl; (with_reducible repeat (first | refine blk_drewN ?_ _ | refine blk_drew ?_ | refine blk_alloc ?_ _)); refine blk_put (cs := #[.slice Ao130 t546.length co130, .int .i64 0, .slice none 0 0, .slice none 0 0, .slice none 0 0]) ?_ 1 _ rfl; (with_reducible repeat (first | refine blk_drewN ?_ _ | refine blk_drew ?_ | refine blk_alloc ?_ _)); refine blk_put (cs := #[.slice none 0 0, .int .i64 0, .slice none 0 0, .slice none 0 0, .slice none 0 0]) ?_ 0 _ rfl; (with_reducible repeat (first | refine blk_drewN ?_ _ | refine blk_drew ?_ | refine blk_alloc ?_ _)); exact BK560.out) hb); replace HB := Aside0.mk (below_step (be5 HB GE447 GE476 GE490 GE505 GE560) hb); (try clear hb)))
         go_meet
         case rel => exact ⟨_, ((t559 != t475)), rs, H', ⟨by have := HJ11.out; have := HJ72.out; first | omega | exact Nat.le_refl _⟩, ⟨by (try simp only [hl491000_72, hl491002_72, hl491003_72, hl491004_72]); (with_reducible repeat (first | apply Kd.R_alloc | apply Kd.R_drewN | apply Kd.R_drew)); exact rm HO_477000⟩, ⟨by (try simp only [hl491000_72, hl491002_72, hl491003_72, hl491004_72]); (with_reducible repeat (first | apply Kd.R_alloc | apply Kd.R_drewN | apply Kd.R_drew)); exact rm HO_477002⟩, ⟨by (try simp only [hl491000_72, hl491002_72, hl491003_72, hl491004_72]); (with_reducible repeat (first | apply Kd.R_alloc | apply Kd.R_drewN | apply Kd.R_drew)); exact rm HO_477003⟩, ⟨by (try simp only [hl491000_72, hl491002_72, hl491003_72, hl491004_72]); (with_reducible repeat (first | apply Kd.R_alloc | apply Kd.R_drewN | apply Kd.R_drew)); exact rm HO_477004⟩, ⟨by (try simp only [hl491000_72, hl491002_72, hl491003_72, hl491004_72]); (with_reducible repeat (first | apply Kd.R_alloc | apply Kd.R_drewN | apply Kd.R_drew)); exact rm HO_491000⟩, ⟨by (try simp only [hl491000_72, hl491002_72, hl491003_72, hl491004_72]); (with_reducible repeat (first | apply Kd.R_alloc | apply Kd.R_drewN | apply Kd.R_drew)); exact rm HO_491002⟩, ⟨by (try simp only [hl491000_72, hl491002_72, hl491003_72, hl491004_72]); (with_reducible repeat (first | apply Kd.R_alloc | apply Kd.R_drewN | apply Kd.R_drew)); exact rm HO_491003⟩, ⟨by (try simp only [hl491000_72, hl491002_72, hl491003_72, hl491004_72]); (with_reducible repeat (first | apply Kd.R_alloc | apply Kd.R_drewN | apply Kd.R_drew)); exact rm HO_491004⟩, ⟨by (try simp only [hl491000_72, hl491002_72, hl491003_72, hl491004_72]); (with_reducible repeat (first | apply Kd.R_alloc | apply Kd.R_drewN | apply Kd.R_drew)); exact rm HO_506000⟩, ⟨by (try simp only [hl491000_72, hl491002_72, hl491003_72, hl491004_72]); (with_reducible repeat (first | apply Kd.R_alloc | apply Kd.R_drewN | apply Kd.R_drew)); exact rm HO_506002⟩, ⟨by (try simp only [hl491000_72, hl491002_72, hl491003_72, hl491004_72]); (with_reducible repeat (first | apply Kd.R_alloc | apply Kd.R_drewN | apply Kd.R_drew)); exact rm HO_506003⟩, ⟨by (try simp only [hl491000_72, hl491002_72, hl491003_72, hl491004_72]); (with_reducible repeat (first | apply Kd.R_alloc | apply Kd.R_drewN | apply Kd.R_drew)); exact rm HO_506004⟩, ⟨by (try simp only [hl491000_72, hl491002_72, hl491003_72, hl491004_72]); (with_reducible repeat (first | apply Kd.R_alloc | apply Kd.R_drewN | apply Kd.R_drew)); exact rm HO548⟩, ⟨by (try simp only [hl491000_72, hl491002_72, hl491003_72, hl491004_72]); (with_reducible repeat (first | apply Kd.R_alloc | apply Kd.R_drewN | apply Kd.R_drew)); exact rm HO552⟩, ⟨by (try simp only [hl491000_72, hl491002_72, hl491003_72, hl491004_72]); (with_reducible repeat (first | apply Kd.R_alloc | apply Kd.R_drewN | apply Kd.R_drew)); exact rm HO555⟩, ⟨by (try simp only [hl491000_72, hl491002_72, hl491003_72, hl491004_72]); (with_reducible repeat (first | apply Kd.R_alloc | apply Kd.R_drewN | apply Kd.R_drew)); exact rm HO558⟩, ⟨by (try simp only [hl491000_72, hl491002_72, hl491003_72, hl491004_72]); (with_reducible repeat (first | refine blk_drewN ?_ _ | refine blk_drew ?_ | refine blk_alloc ?_ _)); exact BK447.out⟩, ⟨by (try simp only [hl491000_72, hl491002_72, hl491003_72, hl491004_72]); (with_reducible repeat (first | refine blk_drewN ?_ _ | refine blk_drew ?_ | refine blk_alloc ?_ _)); exact BK476.out⟩, ⟨by (try simp only [hl491000_72, hl491002_72, hl491003_72, hl491004_72]); (with_reducible repeat (first | refine blk_drewN ?_ _ | refine blk_drew ?_ | refine blk_alloc ?_ _)); exact BK490.out⟩, ⟨by (try simp only [hl491000_72, hl491002_72, hl491003_72, hl491004_72]); (with_reducible repeat (first | refine blk_drewN ?_ _ | refine blk_drew ?_ | refine blk_alloc ?_ _)); exact BK505.out⟩, ⟨by (try simp only [hl491000_72, hl491002_72, hl491003_72, hl491004_72]); (with_reducible repeat (first | refine blk_drewN ?_ _ | refine blk_drew ?_ | refine blk_alloc ?_ _)); exact BK560.out⟩, ⟨be5 HB GE447 GE476 GE490 GE505 GE560⟩⟩
        replace c140 := Bool.eq_false_iff.mpr c140
        subst c140
        rw [if_neg (show ¬ (false = true) by decide)] at H
        have H' := Aside0.mk H
        clear H
        have hnb151 := NB560_447.out
        have hnc151 := NB447_560.out
        have hnb152 := NB560_476.out
        have hnc152 := NB476_560.out
        have hnb153 := NB560_490.out
        have hnc153 := NB490_560.out
        have hnb154 := NB560_505.out
        have hnc154 := NB505_560.out
        have hcz155_0 := bz5 BK560
        have hnb156 := NB476_447.out
        have hnc156 := NB447_476.out
        have hnb157 := NB476_490.out
        have hnc157 := NB490_476.out
        have hnb158 := NB476_505.out
        have hnc158 := NB505_476.out
        have hcz159_0 := bz5 BK476
        go_wp2_with (first | ((with_reducible refine gate_callee (f := 16) rfl ?_); refine gl 86 Try.func16 #[.agg #[.slice Ao130 t546.length co130, .int .i64 t549, .slice Ao136 t550.length co136, .slice Ao137 t553.length co137, .slice Ao138 t556.length co138], .agg #[.slice Ao24 t462.length co24, .int .i64 t465, .slice Ao27 t466.length co27, .slice Ao28 t469.length co28, .slice Ao29 t472.length co29]] ?_; (with_reducible refine (laws_eqPool.calls kj72 _ _ t546 t549 _ _ t550 _ _ t553 _ _ t556 _ _ t462 t465 _ _ t466 _ _ t469 _ _ t472 false _ ?side1 ((Kd.R_reads' HO548.out).2.1) ?side3 ((Kd.R_reads' HO552.out).2.1) ?side5 ((Kd.R_reads' HO555.out).2.1) ?side7 ((Kd.R_reads' HO558.out).2.1) ?side9 ((Kd.R_reads' HO_477000.out).2.1) ?side11 ((Kd.R_reads' HO_477002.out).2.1) ?side13 ((Kd.R_reads' HO_477003.out).2.1) ?side15 ((Kd.R_reads' HO_477004.out).2.1) A139.out).mono ?_); (case side1 => exact rfr _ HO548 BK560); (case side3 => exact rfr _ HO552 BK560); (case side5 => exact rfr _ HO555 BK560); (case side7 => exact rfr _ HO558 BK560); (case side9 => exact rfr _ HO_477000 BK560); (case side11 => exact rfr _ HO_477002 BK560); (case side13 => exact rfr _ HO_477003 BK560); (case side15 => exact rfr _ HO_477004 BK560); rintro e w160 ⟨rfl, hb⟩; refine ⟨_, rfl, ?_⟩; replace HO_477000 := Aside0.mk (Kd.R_below (rf HO_477000 BK560) hb); replace HO_477002 := Aside0.mk (Kd.R_below (rf HO_477002 BK560) hb); replace HO_477003 := Aside0.mk (Kd.R_below (rf HO_477003 BK560) hb); replace HO_477004 := Aside0.mk (Kd.R_below (rf HO_477004 BK560) hb); replace HO_491000 := Aside0.mk (Kd.R_below (rf HO_491000 BK560) hb); replace HO_491002 := Aside0.mk (Kd.R_below (rf HO_491002 BK560) hb); replace HO_491003 := Aside0.mk (Kd.R_below (rf HO_491003 BK560) hb); replace HO_491004 := Aside0.mk (Kd.R_below (rf HO_491004 BK560) hb); replace HO_506000 := Aside0.mk (Kd.R_below (rf HO_506000 BK560) hb); replace HO_506002 := Aside0.mk (Kd.R_below (rf HO_506002 BK560) hb); replace HO_506003 := Aside0.mk (Kd.R_below (rf HO_506003 BK560) hb); replace HO_506004 := Aside0.mk (Kd.R_below (rf HO_506004 BK560) hb); replace HO535 := Aside0.mk (Kd.R_below (rf HO535 BK560) hb); replace HO539 := Aside0.mk (Kd.R_below (rf HO539 BK560) hb); replace HO542 := Aside0.mk (Kd.R_below (rf HO542 BK560) hb); replace HO545 := Aside0.mk (Kd.R_below (rf HO545 BK560) hb); replace HO548 := Aside0.mk (Kd.R_below (rf HO548 BK560) hb); replace HO552 := Aside0.mk (Kd.R_below (rf HO552 BK560) hb); replace HO555 := Aside0.mk (Kd.R_below (rf HO555 BK560) hb); replace HO558 := Aside0.mk (Kd.R_below (rf HO558 BK560) hb); replace BK447 := Aside0.mk (blk_below (g := gb447) (o := .cells #[.slice A0_0 l0_0.length c0_0, .int .i64 a0_1, .slice A0_2 l0_2.length c0_2, .slice A0_3 l0_3.length c0_3, .slice A0_4 l0_4.length c0_4] 37 (0, 0)) (bf1 BK447 NB447_560) hb); replace BK476 := Aside0.mk (blk_below (g := gb476) (o := .cells #[.slice Ao24 t462.length co24, .int .i64 t465, .slice Ao27 t466.length co27, .slice Ao28 t469.length co28, .slice Ao29 t472.length co29] 27 (0, 0)) (bf1 BK476 NB476_560) hb); replace BK490 := Aside0.mk (blk_below (g := gb490) (o := .cells #[.slice Ao33 t522.length co33, .int .i64 t480, .slice Ao37 t523.length co37, .slice Ao38 t524.length co38, .slice Ao39 t525.length co39] 27 (0, 0)) (bf1 BK490 NB490_560) hb); replace BK505 := Aside0.mk (blk_below (g := gb505) (o := .cells #[.slice Ao42 t491.length co42, .int .i64 t494, .slice Ao47 t495.length co47, .slice Ao48 t498.length co48, .slice Ao49 t501.length co49] 27 (0, 0)) (bf1 BK505 NB505_560) hb); replace BK560 := Aside0.mk (blk_below (g := gb560) (o := .cells #[.slice Ao130 t546.length co130, .int .i64 t549, .slice Ao136 t550.length co136, .slice Ao137 t553.length co137, .slice Ao138 t556.length co138] 27 (0, 0)) (by (with_reducible repeat (first | refine blk_drewN ?_ _ | refine blk_drew ?_ | refine blk_alloc ?_ _)); refine blk_put (cs := #[.slice Ao130 t546.length co130, .int .i64 t549, .slice Ao136 t550.length co136, .slice Ao137 t553.length co137, .slice none 0 0]) ?_ 4 _ rfl; (with_reducible repeat (first | refine blk_drewN ?_ _ | refine blk_drew ?_ | refine blk_alloc ?_ _)); refine blk_put (cs := #[.slice Ao130 t546.length co130, .int .i64 t549, .slice Ao136 t550.length co136, .slice none 0 0, .slice none 0 0]) ?_ 3 _ rfl; (with_reducible repeat (first | refine blk_drewN ?_ _ | refine blk_drew ?_ | refine blk_alloc ?_ _)); refine blk_put (cs := #[.slice Ao130 t546.length co130, .int .i64 t549, .slice none 0 0, .slice none 0 0, .slice none 0 0]) ?_ 2 _ rfl; (with_reducible repeat (first | refine blk_drewN ?_ _ | refine blk_drew ?_ | refine blk_alloc ?_ _)); refine blk_put (cs := #[.slice Ao130 t546.length co130, .int .i64 0, .slice none 0 0, .slice none 0 0, .slice none 0 0]) ?_ 1 _ rfl; (with_reducible repeat (first | refine blk_drewN ?_ _ | refine blk_drew ?_ | refine blk_alloc ?_ _)); refine blk_put (cs := #[.slice none 0 0, .int .i64 0, .slice none 0 0, .slice none 0 0, .slice none 0 0]) ?_ 0 _ rfl; (with_reducible repeat (first | refine blk_drewN ?_ _ | refine blk_drew ?_ | refine blk_alloc ?_ _)); exact BK560.out) hb); replace HB := Aside0.mk (below_step (be5 HB GE447 GE476 GE490 GE505 GE560) hb); (try clear hb)))
        go_meet
        case rel => exact ⟨_, (true), rs, H', ⟨by have := HJ11.out; have := HJ72.out; first | omega | exact Nat.le_refl _⟩, ⟨by (try simp only [hl491000_72, hl491002_72, hl491003_72, hl491004_72]); (with_reducible repeat (first | apply Kd.R_alloc | apply Kd.R_drewN | apply Kd.R_drew)); exact rm HO_477000⟩, ⟨by (try simp only [hl491000_72, hl491002_72, hl491003_72, hl491004_72]); (with_reducible repeat (first | apply Kd.R_alloc | apply Kd.R_drewN | apply Kd.R_drew)); exact rm HO_477002⟩, ⟨by (try simp only [hl491000_72, hl491002_72, hl491003_72, hl491004_72]); (with_reducible repeat (first | apply Kd.R_alloc | apply Kd.R_drewN | apply Kd.R_drew)); exact rm HO_477003⟩, ⟨by (try simp only [hl491000_72, hl491002_72, hl491003_72, hl491004_72]); (with_reducible repeat (first | apply Kd.R_alloc | apply Kd.R_drewN | apply Kd.R_drew)); exact rm HO_477004⟩, ⟨by (try simp only [hl491000_72, hl491002_72, hl491003_72, hl491004_72]); (with_reducible repeat (first | apply Kd.R_alloc | apply Kd.R_drewN | apply Kd.R_drew)); exact rm HO_491000⟩, ⟨by (try simp only [hl491000_72, hl491002_72, hl491003_72, hl491004_72]); (with_reducible repeat (first | apply Kd.R_alloc | apply Kd.R_drewN | apply Kd.R_drew)); exact rm HO_491002⟩, ⟨by (try simp only [hl491000_72, hl491002_72, hl491003_72, hl491004_72]); (with_reducible repeat (first | apply Kd.R_alloc | apply Kd.R_drewN | apply Kd.R_drew)); exact rm HO_491003⟩, ⟨by (try simp only [hl491000_72, hl491002_72, hl491003_72, hl491004_72]); (with_reducible repeat (first | apply Kd.R_alloc | apply Kd.R_drewN | apply Kd.R_drew)); exact rm HO_491004⟩, ⟨by (try simp only [hl491000_72, hl491002_72, hl491003_72, hl491004_72]); (with_reducible repeat (first | apply Kd.R_alloc | apply Kd.R_drewN | apply Kd.R_drew)); exact rm HO_506000⟩, ⟨by (try simp only [hl491000_72, hl491002_72, hl491003_72, hl491004_72]); (with_reducible repeat (first | apply Kd.R_alloc | apply Kd.R_drewN | apply Kd.R_drew)); exact rm HO_506002⟩, ⟨by (try simp only [hl491000_72, hl491002_72, hl491003_72, hl491004_72]); (with_reducible repeat (first | apply Kd.R_alloc | apply Kd.R_drewN | apply Kd.R_drew)); exact rm HO_506003⟩, ⟨by (try simp only [hl491000_72, hl491002_72, hl491003_72, hl491004_72]); (with_reducible repeat (first | apply Kd.R_alloc | apply Kd.R_drewN | apply Kd.R_drew)); exact rm HO_506004⟩, ⟨by (try simp only [hl491000_72, hl491002_72, hl491003_72, hl491004_72]); (with_reducible repeat (first | apply Kd.R_alloc | apply Kd.R_drewN | apply Kd.R_drew)); exact rm HO548⟩, ⟨by (try simp only [hl491000_72, hl491002_72, hl491003_72, hl491004_72]); (with_reducible repeat (first | apply Kd.R_alloc | apply Kd.R_drewN | apply Kd.R_drew)); exact rm HO552⟩, ⟨by (try simp only [hl491000_72, hl491002_72, hl491003_72, hl491004_72]); (with_reducible repeat (first | apply Kd.R_alloc | apply Kd.R_drewN | apply Kd.R_drew)); exact rm HO555⟩, ⟨by (try simp only [hl491000_72, hl491002_72, hl491003_72, hl491004_72]); (with_reducible repeat (first | apply Kd.R_alloc | apply Kd.R_drewN | apply Kd.R_drew)); exact rm HO558⟩, ⟨by (try simp only [hl491000_72, hl491002_72, hl491003_72, hl491004_72]); (with_reducible repeat (first | refine blk_drewN ?_ _ | refine blk_drew ?_ | refine blk_alloc ?_ _)); exact BK447.out⟩, ⟨by (try simp only [hl491000_72, hl491002_72, hl491003_72, hl491004_72]); (with_reducible repeat (first | refine blk_drewN ?_ _ | refine blk_drew ?_ | refine blk_alloc ?_ _)); exact BK476.out⟩, ⟨by (try simp only [hl491000_72, hl491002_72, hl491003_72, hl491004_72]); (with_reducible repeat (first | refine blk_drewN ?_ _ | refine blk_drew ?_ | refine blk_alloc ?_ _)); exact BK490.out⟩, ⟨by (try simp only [hl491000_72, hl491002_72, hl491003_72, hl491004_72]); (with_reducible repeat (first | refine blk_drewN ?_ _ | refine blk_drew ?_ | refine blk_alloc ?_ _)); exact BK505.out⟩, ⟨by (try simp only [hl491000_72, hl491002_72, hl491003_72, hl491004_72]); (with_reducible repeat (first | refine blk_drewN ?_ _ | refine blk_drew ?_ | refine blk_alloc ?_ _)); exact BK560.out⟩, ⟨be5 HB GE447 GE476 GE490 GE505 GE560⟩⟩
       case rest =>
        clear HC112
        try clear c1; try clear c2; try clear p2; try clear c3; try clear c4; try clear c4b0; try clear c5; try clear c6; try clear c7; try clear c8; try clear c9; try clear c10; try clear c11; try clear c12; try clear c13; try clear c14; try clear c15; try clear c16; try clear c17; try clear c18; try clear c19; try clear c21; try clear c25; try clear c34; try clear c35; try clear c38; try clear c39; try clear c43; try clear c44; try clear c45; try clear c51; try clear c52; try clear c53; try clear c54; try clear c56; try clear c57; try clear c60; try clear c61; try clear c62; try clear c64; try clear c65; try clear c68; try clear c71; try clear c81; try clear c82; try clear c83; try clear c86; try clear c86b0; try clear c88; try clear c89; try clear c90; try clear c91; try clear c93; try clear c94; try clear c97; try clear c98; try clear c99; try clear c101; try clear c102; try clear c105; try clear c108; try clear c108b0; try clear c109; try clear c109b0; try clear c109b1; try clear c113; try clear c114; try clear c115; try clear c120; try clear c121; try clear c131; try clear c132; try clear c133; try clear c134; try clear c140; try clear c141; try clear c142; try clear c143; try clear c144; try clear c146; try clear c147; try clear c148; try clear c151; try clear c152; try clear c153; try clear c154; try clear c156; try clear c157; try clear c158; try clear hcz100_0; try clear hcz103_0; try clear hcz116_0; try clear hcz118_0; try clear hcz122_0; try clear hcz135_0; try clear hcz145_0; try clear hcz149_0; try clear hcz14_0; try clear hcz155_0; try clear hcz159_0; try clear hcz16_0; try clear hcz26_0; try clear hcz30_0; try clear hcz36_0; try clear hcz46_0; try clear hcz55_0; try clear hcz58_0; try clear hcz63_0; try clear hcz66_0; try clear hcz6_0; try clear hcz84_0; try clear hcz92_0; try clear hcz95_0; try clear p2
        obtain ⟨kq, x92_111, rfl, HA, HJ111, HO_477000, HO_477002, HO_477003, HO_477004, HO_491000, HO_491002, HO_491003, HO_491004, HO_506000, HO_506002, HO_506003, HO_506004, HO_561000, HO_561002, HO_561003, HO_561004, BK447, BK476, BK490, BK505, BK560, HB⟩ := hcut
        have hl506000_111 := (Kd.R_reads' HO_506000.out).1
        rw [hl506000_111] at HO_506000
        (try simp only [hl506000_111])
        (try simp only [hl506000_111] at BK447)
        (try simp only [hl506000_111] at BK476)
        (try simp only [hl506000_111] at BK490)
        (try simp only [hl506000_111] at BK505)
        (try simp only [hl506000_111] at BK560)
        (try simp only [hl506000_111] at HO_477000)
        (try simp only [hl506000_111] at HO_477002)
        (try simp only [hl506000_111] at HO_477003)
        (try simp only [hl506000_111] at HO_477004)
        (try simp only [hl506000_111] at HO_491000)
        (try simp only [hl506000_111] at HO_491002)
        (try simp only [hl506000_111] at HO_491003)
        (try simp only [hl506000_111] at HO_491004)
        (try simp only [hl506000_111] at HO_506002)
        (try simp only [hl506000_111] at HO_506003)
        (try simp only [hl506000_111] at HO_506004)
        (try simp only [hl506000_111] at HO_561000)
        (try simp only [hl506000_111] at HO_561002)
        (try simp only [hl506000_111] at HO_561003)
        (try simp only [hl506000_111] at HO_561004)
        have hl506002_111 := (Kd.R_reads' HO_506002.out).1
        rw [hl506002_111] at HO_506002
        (try simp only [hl506002_111])
        (try simp only [hl506002_111] at BK447)
        (try simp only [hl506002_111] at BK476)
        (try simp only [hl506002_111] at BK490)
        (try simp only [hl506002_111] at BK505)
        (try simp only [hl506002_111] at BK560)
        (try simp only [hl506002_111] at HO_477000)
        (try simp only [hl506002_111] at HO_477002)
        (try simp only [hl506002_111] at HO_477003)
        (try simp only [hl506002_111] at HO_477004)
        (try simp only [hl506002_111] at HO_491000)
        (try simp only [hl506002_111] at HO_491002)
        (try simp only [hl506002_111] at HO_491003)
        (try simp only [hl506002_111] at HO_491004)
        (try simp only [hl506002_111] at HO_506000)
        (try simp only [hl506002_111] at HO_506003)
        (try simp only [hl506002_111] at HO_506004)
        (try simp only [hl506002_111] at HO_561000)
        (try simp only [hl506002_111] at HO_561002)
        (try simp only [hl506002_111] at HO_561003)
        (try simp only [hl506002_111] at HO_561004)
        have hl506003_111 := (Kd.R_reads' HO_506003.out).1
        rw [hl506003_111] at HO_506003
        (try simp only [hl506003_111])
        (try simp only [hl506003_111] at BK447)
        (try simp only [hl506003_111] at BK476)
        (try simp only [hl506003_111] at BK490)
        (try simp only [hl506003_111] at BK505)
        (try simp only [hl506003_111] at BK560)
        (try simp only [hl506003_111] at HO_477000)
        (try simp only [hl506003_111] at HO_477002)
        (try simp only [hl506003_111] at HO_477003)
        (try simp only [hl506003_111] at HO_477004)
        (try simp only [hl506003_111] at HO_491000)
        (try simp only [hl506003_111] at HO_491002)
        (try simp only [hl506003_111] at HO_491003)
        (try simp only [hl506003_111] at HO_491004)
        (try simp only [hl506003_111] at HO_506000)
        (try simp only [hl506003_111] at HO_506002)
        (try simp only [hl506003_111] at HO_506004)
        (try simp only [hl506003_111] at HO_561000)
        (try simp only [hl506003_111] at HO_561002)
        (try simp only [hl506003_111] at HO_561003)
        (try simp only [hl506003_111] at HO_561004)
        have hl506004_111 := (Kd.R_reads' HO_506004.out).1
        rw [hl506004_111] at HO_506004
        (try simp only [hl506004_111])
        (try simp only [hl506004_111] at BK447)
        (try simp only [hl506004_111] at BK476)
        (try simp only [hl506004_111] at BK490)
        (try simp only [hl506004_111] at BK505)
        (try simp only [hl506004_111] at BK560)
        (try simp only [hl506004_111] at HO_477000)
        (try simp only [hl506004_111] at HO_477002)
        (try simp only [hl506004_111] at HO_477003)
        (try simp only [hl506004_111] at HO_477004)
        (try simp only [hl506004_111] at HO_491000)
        (try simp only [hl506004_111] at HO_491002)
        (try simp only [hl506004_111] at HO_491003)
        (try simp only [hl506004_111] at HO_491004)
        (try simp only [hl506004_111] at HO_506000)
        (try simp only [hl506004_111] at HO_506002)
        (try simp only [hl506004_111] at HO_506003)
        (try simp only [hl506004_111] at HO_561000)
        (try simp only [hl506004_111] at HO_561002)
        (try simp only [hl506004_111] at HO_561003)
        (try simp only [hl506004_111] at HO_561004)
        cases kq with
        | zero => exact absurd HA.out (by simp [laws_FnExactGiveUp.j2])
        | succ kj111 =>
         have H := HA.out
         clear HA
         simp only [laws_FnExactGiveUp.j2] at H
         by_cases c161 : x92_111 = true
         ·subst c161
          rw [if_pos rfl] at H
          exact absurd ((Option.some.inj H).trans hrt_.out) (by decide)
         replace c161 := Bool.eq_false_iff.mpr c161
         subst c161
         rw [if_neg (show ¬ (false = true) by decide)] at H
         replace H := Option.bind_eq_some_iff.mp H
         obtain ⟨t562, A1620, H⟩ := H
         try dsimp only at H
         have A162 := Aside0.mk A1620
         clear A1620
         by_cases c163 : t562 < 0
         ·rw [if_pos c163] at H
          have c163b0 : decide (t562 < 0) = true := decide_eq_true c163
          clear c163
          exact absurd ((Option.some.inj H).trans hrt_.out) (by decide)
         rw [if_neg c163] at H
         have c163b0 : decide (t562 < 0) = false := decide_eq_false c163
         clear c163
         by_cases c164 : t562 = t527
         ·rw [if_pos c164] at H
          have c164b0 : (t562 == t527) = true := beq_iff_eq.mpr c164
          have c164b1 : (t562 != t527) = false := bne_eq_false_iff_eq.mpr c164
          clear c164
          obtain rfl := Option.some.inj H
          have hnb165 := NB505_447.out
          have hnc165 := NB447_505.out
          have hnb166 := NB505_476.out
          have hnc166 := NB476_505.out
          have hnb167 := NB505_490.out
          have hnc167 := NB490_505.out
          have hnb168 := NB505_560.out
          have hnc168 := NB560_505.out
          have hcz169_0 := bz5 BK505
          go_wp2_with (first | ((with_reducible refine gate_callee (f := 18) rfl ?_); refine gl 95 Try.func18 #[.agg #[.slice Ao42 t528.length co42, .int .i64 t494, .slice Ao47 t529.length co47, .slice Ao48 t530.length co48, .slice Ao49 t531.length co49], .int .i64 1] ?_; (with_reducible refine (laws_heldPool.calls kj111 _ _ t528 t494 _ _ t529 _ _ t530 _ _ t531 1 t562 _ (cr HO_506000) ((Kd.R_reads' HO_506000.out).2.1) (cr HO_506002) ((Kd.R_reads' HO_506002.out).2.1) (cr HO_506003) ((Kd.R_reads' HO_506003.out).2.1) (cr HO_506004) ((Kd.R_reads' HO_506004.out).2.1) A162.out).mono ?_); rintro e w170 ⟨rfl, hb⟩; refine ⟨_, rfl, ?_⟩; replace HO_477000 := rb HO_477000 hb; replace HO_477002 := rb HO_477002 hb; replace HO_477003 := rb HO_477003 hb; replace HO_477004 := rb HO_477004 hb; replace HO_491000 := rb HO_491000 hb; replace HO_491002 := rb HO_491002 hb; replace HO_491003 := rb HO_491003 hb; replace HO_491004 := rb HO_491004 hb; replace HO_506000 := rb HO_506000 hb; replace HO_506002 := rb HO_506002 hb; replace HO_506003 := rb HO_506003 hb; replace HO_506004 := rb HO_506004 hb; replace HO_561000 := rb HO_561000 hb; replace HO_561002 := rb HO_561002 hb; replace HO_561003 := rb HO_561003 hb; replace HO_561004 := rb HO_561004 hb; replace BK447 := bb BK447 hb; replace BK476 := bb BK476 hb; replace BK490 := bb BK490 hb; replace BK505 := bb BK505 hb; replace BK560 := bb BK560 hb; replace HB := Aside0.mk (below_step (be5 HB GE447 GE476 GE490 GE505 GE560) hb); (try clear hb)))
          go_ret
          exact ⟨er, be5 HB GE447 GE476 GE490 GE505 GE560⟩
         rw [if_neg c164] at H
         have c164b0 : (t562 == t527) = false := beq_eq_false_iff_ne.mpr c164
         have c164b1 : (t562 != t527) = true := bne_iff_ne.mpr c164
         exact absurd ((Option.some.inj H).trans hrt_.out) (by decide)
      rw [if_neg c109] at H
      have c109b0 : (t532 == t527) = false := beq_eq_false_iff_ne.mpr c109
      have c109b1 : (t532 != t527) = true := bne_iff_ne.mpr c109
      exact absurd ((Option.some.inj H).trans hrt_.out) (by decide)
   replace c71 := Bool.eq_false_iff.mpr c71
   subst c71
   rw [if_neg (show ¬ (false = true) by decide)] at H
   exact absurd ((Option.some.inj H).trans hrt_.out) (by decide)

end Go.Proofs.Ytdgpidhlbpaolaa.QFnExactGiveUp
