-- made by a program of this session (myprint.py)
import Derived.Test.YtdgpidhlbpaolaaQFnExactTurnx0
import Derived.Test.YtdgpidhlbpaolaaQFnExactTurnx1
import Derived.Test.YtdgpidhlbpaolaaQFnExactTurnx2
import Derived.Test.YtdgpidhlbpaolaaQFnExactTurnx3
import Derived.Test.YtdgpidhlbpaolaaQFnExactTurnx8
import Derived.Test.YtdgpidhlbpaolaaQFnExactTurnx11
namespace Go.Proofs.Ytdgpidhlbpaolaa.QFnExactTurn
open Go.RowKit Go.Proofs.YtdgpidhlbpaolaaW.PrintWords Go.Proofs.YtdgpidhlbpaolaaW.PrintLast Go.Proofs.YtdgpidhlbpaolaaW.PrintMore
attribute [local go_sem] max2_int min2_int max_two min_two max_three min_three max_four min_four   -- for this text's walks alone
set_option linter.unusedVariables false
set_option linter.unusedSimpArgs false

/-! ### laws_FnExactTurn: function 10 -/
mutual
def laws_FnExactTurn.j0 : Nat → Bool → Bool → Bool → List Int → Int → List Int → List (S106) → List Int → List Int → Int → List Int → List (S70) → List Int → List Int → Int → List Int → List (S70) → List Int → List Int → Int → List Int → List (S70) → List Int → Option (Bool)
 | 0, _, _, _, _, _, _, _, _, _, _, _, _, _, _, _, _, _, _, _, _, _, _, _ => none
 | k + 1, x5, x8, x40, x461000, x461001, x461002, x461003, x461004, x490000, x490001, x490002, x490003, x490004, x504000, x504001, x504002, x504003, x504004, x519000, x519001, x519002, x519003, x519004 => if x40 = true then (some false) else ((laws_toPool.f k x461000 x461001 x461002 x461003 x461004).bind fun bt520 => ((laws_eqPool.f k x504000 x504001 x504002 x504003 x504004 bt520.1 bt520.2.1 bt520.2.2.1 bt520.2.2.2.1 bt520.2.2.2.2).bind fun t533 => (if t533 = true then ((laws_markPool.f k x504000 x504001 x504002 x504003 x504004 1).bind fun bt534 => (if bt534.1 < 0 then (laws_FnExactTurn.j1 k x5 true x461000 x461001 x461002 x461003 x461004 x490000 x490001 x490002 x490003 x490004 x519000 x519001 x519002 x519003 x519004) else ((laws_eqPool.f k x519000 x519001 x519002 x519003 x519004 x490000 x490001 x490002 x490003 x490004).bind fun t539 => (if t539 = true then (laws_FnExactTurn.j1 k x5 (x8 != x5) x461000 x461001 x461002 x461003 x461004 x490000 x490001 x490002 x490003 x490004 x519000 x519001 x519002 x519003 x519004) else (laws_FnExactTurn.j1 k x5 true x461000 x461001 x461002 x461003 x461004 x490000 x490001 x490002 x490003 x490004 x519000 x519001 x519002 x519003 x519004))))) else (some false))))
def laws_FnExactTurn.j1 : Nat → Bool → Bool → List Int → Int → List Int → List (S106) → List Int → List Int → Int → List Int → List (S70) → List Int → List Int → Int → List Int → List (S70) → List Int → Option (Bool)
 | 0, _, _, _, _, _, _, _, _, _, _, _, _, _, _, _, _, _ => none
 | k + 1, x5, x61, x461000, x461001, x461002, x461003, x461004, x490000, x490001, x490002, x490003, x490004, x519000, x519001, x519002, x519003, x519004 => if x61 = true then (some false) else ((laws_markPool.f k x519000 x519001 x519002 x519003 x519004 1).bind fun bt540 => ((laws_heldPool.f k bt540.2.1 x519001 bt540.2.2.1 bt540.2.2.2.1 bt540.2.2.2.2 1).bind fun t545 => (if t545 < 0 then (some false) else (if t545 = bt540.1 then ((laws_toPool.f k x461000 x461001 x461002 x461003 x461004).bind fun bt546 => ((impl_Turn.f k bt546.1 bt546.2.1 bt546.2.2.1 bt546.2.2.2.1 bt546.2.2.2.2).bind fun bt559 => ((laws_eqPool.f k bt559.1 bt559.2.1 bt559.2.2.1 bt559.2.2.2.1 bt559.2.2.2.2.1 x490000 x490001 x490002 x490003 x490004).bind fun t574 => (if t574 = true then (laws_FnExactTurn.j2 k bt540.1 (bt559.2.2.2.2.2 != x5) bt540.2.1 x519001 bt540.2.2.1 bt540.2.2.2.1 bt540.2.2.2.2) else (laws_FnExactTurn.j2 k bt540.1 true bt540.2.1 x519001 bt540.2.2.1 bt540.2.2.2.1 bt540.2.2.2.2))))) else (some false)))))
def laws_FnExactTurn.j2 : Nat → Int → Bool → List Int → Int → List Int → List (S70) → List Int → Option (Bool)
 | 0, _, _, _, _, _, _, _ => none
 | k + 1, x10, x87, x519000, x519001, x519002, x519003, x519004 => if x87 = true then (some false) else ((laws_heldPool.f k x519000 x519001 x519002 x519003 x519004 1).bind fun t575 => (if t575 < 0 then (some false) else (if t575 = x10 then (some true) else (some false))))
end
def laws_FnExactTurn.f (k : Nat) (l0_0 : List Int) (a0_1 : Int) (l0_2 : List Int) (l0_3 : List (S106)) (l0_4 : List Int) : Option (Bool) := (laws_szPool.f l0_0 a0_1 l0_2 l0_3 l0_4 1048576).bind fun t461 => (if t461 < 0 then (some true) else ((laws_toPool.f k l0_0 a0_1 l0_2 l0_3 l0_4).bind fun bt462 => ((spec_Turn.f k bt462.1 bt462.2.1 bt462.2.2.1 bt462.2.2.2.1 bt462.2.2.2.2).bind fun bt475 => ((laws_toPool.f k l0_0 a0_1 l0_2 l0_3 l0_4).bind fun bt490 => ((impl_Turn.f k bt490.1 bt490.2.1 bt490.2.2.1 bt490.2.2.2.1 bt490.2.2.2.2).bind fun bt504 => ((laws_eqPool.f k bt504.1 bt504.2.1 bt504.2.2.1 bt504.2.2.2.1 bt504.2.2.2.2.1 bt475.1 bt475.2.1 bt475.2.2.1 bt475.2.2.2.1 bt475.2.2.2.2.1).bind fun t519 => (if t519 = true then (laws_FnExactTurn.j0 k bt475.2.2.2.2.2 bt504.2.2.2.2.2 (bt504.2.2.2.2.2 != bt475.2.2.2.2.2) l0_0 a0_1 l0_2 l0_3 l0_4 bt475.1 bt475.2.1 bt475.2.2.1 bt475.2.2.2.1 bt475.2.2.2.2.1 bt490.1 bt490.2.1 bt490.2.2.1 bt490.2.2.2.1 bt490.2.2.2.2 bt504.1 bt504.2.1 bt504.2.2.1 bt504.2.2.2.1 bt504.2.2.2.2.1) else (laws_FnExactTurn.j0 k bt475.2.2.2.2.2 bt504.2.2.2.2.2 true l0_0 a0_1 l0_2 l0_3 l0_4 bt475.1 bt475.2.1 bt475.2.2.1 bt475.2.2.2.1 bt475.2.2.2.2.1 bt490.1 bt490.2.1 bt490.2.2.1 bt490.2.2.2.1 bt490.2.2.2.2 bt504.1 bt504.2.1 bt504.2.2.1 bt504.2.2.2.1 bt504.2.2.2.2.1))))))))
theorem laws_FnExactTurn.mono_l : ∀ k, (∀ y0 y1 y2 y3 y4 y5 y6 y7 y8 y9 y10 y11 y12 y13 y14 y15 y16 y17 y18 y19 y20 y21 y22, LeO (laws_FnExactTurn.j0 k y0 y1 y2 y3 y4 y5 y6 y7 y8 y9 y10 y11 y12 y13 y14 y15 y16 y17 y18 y19 y20 y21 y22) (laws_FnExactTurn.j0 (k + 1) y0 y1 y2 y3 y4 y5 y6 y7 y8 y9 y10 y11 y12 y13 y14 y15 y16 y17 y18 y19 y20 y21 y22)) ∧ (∀ y0 y1 y2 y3 y4 y5 y6 y7 y8 y9 y10 y11 y12 y13 y14 y15 y16, LeO (laws_FnExactTurn.j1 k y0 y1 y2 y3 y4 y5 y6 y7 y8 y9 y10 y11 y12 y13 y14 y15 y16) (laws_FnExactTurn.j1 (k + 1) y0 y1 y2 y3 y4 y5 y6 y7 y8 y9 y10 y11 y12 y13 y14 y15 y16)) ∧ (∀ y0 y1 y2 y3 y4 y5 y6, LeO (laws_FnExactTurn.j2 k y0 y1 y2 y3 y4 y5 y6) (laws_FnExactTurn.j2 (k + 1) y0 y1 y2 y3 y4 y5 y6))
 | 0 => ⟨fun _ _ _ _ _ _ _ _ _ _ _ _ _ _ _ _ _ _ _ _ _ _ _ r h => by simp [laws_FnExactTurn.j0] at h, fun _ _ _ _ _ _ _ _ _ _ _ _ _ _ _ _ _ r h => by simp [laws_FnExactTurn.j1] at h, fun _ _ _ _ _ _ _ r h => by simp [laws_FnExactTurn.j2] at h⟩
 | k + 1 => by
  obtain ⟨ih0, ih1, ih2⟩ := laws_FnExactTurn.mono_l k
  refine ⟨?_, ?_, ?_⟩
  ·intro y0 y1 y2 y3 y4 y5 y6 y7 y8 y9 y10 y11 y12 y13 y14 y15 y16 y17 y18 y19 y20 y21 y22
   unfold laws_FnExactTurn.j0
   repeat' first
   | (with_reducible exact ih0 _ _ _ _ _ _ _ _ _ _ _ _ _ _ _ _ _ _ _ _ _ _ _)
   | (with_reducible exact ih1 _ _ _ _ _ _ _ _ _ _ _ _ _ _ _ _ _)
   | (with_reducible exact ih2 _ _ _ _ _ _ _)
   | (with_reducible exact impl_Turn.mono _ _ _ _ _ _)
   | (with_reducible exact laws_eqPool.mono _ _ _ _ _ _ _ _ _ _ _)
   | (with_reducible exact laws_heldPool.mono _ _ _ _ _ _ _)
   | (with_reducible exact laws_markPool.mono _ _ _ _ _ _ _)
   | (with_reducible exact laws_toPool.mono _ _ _ _ _ _)
   | (with_reducible exact spec_Turn.mono _ _ _ _ _ _)
   | (with_reducible exact LeO.refl _)
   | (with_reducible exact LeO.none _)
   | (with_reducible refine LeO.ite ?_ ?_)
   | (with_reducible refine LeO.bind ?_ (fun _ => ?_))
   | exact ih0 _ _ _ _ _ _ _ _ _ _ _ _ _ _ _ _ _ _ _ _ _ _ _
   | exact ih1 _ _ _ _ _ _ _ _ _ _ _ _ _ _ _ _ _
   | exact ih2 _ _ _ _ _ _ _
   | exact impl_Turn.mono _ _ _ _ _ _
   | exact laws_eqPool.mono _ _ _ _ _ _ _ _ _ _ _
   | exact laws_heldPool.mono _ _ _ _ _ _ _
   | exact laws_markPool.mono _ _ _ _ _ _ _
   | exact laws_toPool.mono _ _ _ _ _ _
   | exact spec_Turn.mono _ _ _ _ _ _
   | exact LeO.none _
   | refine LeO.ite ?_ ?_
   | refine LeO.bind ?_ (fun _ => ?_)
  ·intro y0 y1 y2 y3 y4 y5 y6 y7 y8 y9 y10 y11 y12 y13 y14 y15 y16
   unfold laws_FnExactTurn.j1
   repeat' first
   | (with_reducible exact ih0 _ _ _ _ _ _ _ _ _ _ _ _ _ _ _ _ _ _ _ _ _ _ _)
   | (with_reducible exact ih1 _ _ _ _ _ _ _ _ _ _ _ _ _ _ _ _ _)
   | (with_reducible exact ih2 _ _ _ _ _ _ _)
   | (with_reducible exact impl_Turn.mono _ _ _ _ _ _)
   | (with_reducible exact laws_eqPool.mono _ _ _ _ _ _ _ _ _ _ _)
   | (with_reducible exact laws_heldPool.mono _ _ _ _ _ _ _)
   | (with_reducible exact laws_markPool.mono _ _ _ _ _ _ _)
   | (with_reducible exact laws_toPool.mono _ _ _ _ _ _)
   | (with_reducible exact spec_Turn.mono _ _ _ _ _ _)
   | (with_reducible exact LeO.refl _)
   | (with_reducible exact LeO.none _)
   | (with_reducible refine LeO.ite ?_ ?_)
   | (with_reducible refine LeO.bind ?_ (fun _ => ?_))
   | exact ih0 _ _ _ _ _ _ _ _ _ _ _ _ _ _ _ _ _ _ _ _ _ _ _
   | exact ih1 _ _ _ _ _ _ _ _ _ _ _ _ _ _ _ _ _
   | exact ih2 _ _ _ _ _ _ _
   | exact impl_Turn.mono _ _ _ _ _ _
   | exact laws_eqPool.mono _ _ _ _ _ _ _ _ _ _ _
   | exact laws_heldPool.mono _ _ _ _ _ _ _
   | exact laws_markPool.mono _ _ _ _ _ _ _
   | exact laws_toPool.mono _ _ _ _ _ _
   | exact spec_Turn.mono _ _ _ _ _ _
   | exact LeO.none _
   | refine LeO.ite ?_ ?_
   | refine LeO.bind ?_ (fun _ => ?_)
  intro y0 y1 y2 y3 y4 y5 y6
  unfold laws_FnExactTurn.j2
  repeat' first
  | (with_reducible exact ih0 _ _ _ _ _ _ _ _ _ _ _ _ _ _ _ _ _ _ _ _ _ _ _)
  | (with_reducible exact ih1 _ _ _ _ _ _ _ _ _ _ _ _ _ _ _ _ _)
  | (with_reducible exact ih2 _ _ _ _ _ _ _)
  | (with_reducible exact impl_Turn.mono _ _ _ _ _ _)
  | (with_reducible exact laws_eqPool.mono _ _ _ _ _ _ _ _ _ _ _)
  | (with_reducible exact laws_heldPool.mono _ _ _ _ _ _ _)
  | (with_reducible exact laws_markPool.mono _ _ _ _ _ _ _)
  | (with_reducible exact laws_toPool.mono _ _ _ _ _ _)
  | (with_reducible exact spec_Turn.mono _ _ _ _ _ _)
  | (with_reducible exact LeO.refl _)
  | (with_reducible exact LeO.none _)
  | (with_reducible refine LeO.ite ?_ ?_)
  | (with_reducible refine LeO.bind ?_ (fun _ => ?_))
  | exact ih0 _ _ _ _ _ _ _ _ _ _ _ _ _ _ _ _ _ _ _ _ _ _ _
  | exact ih1 _ _ _ _ _ _ _ _ _ _ _ _ _ _ _ _ _
  | exact ih2 _ _ _ _ _ _ _
  | exact impl_Turn.mono _ _ _ _ _ _
  | exact laws_eqPool.mono _ _ _ _ _ _ _ _ _ _ _
  | exact laws_heldPool.mono _ _ _ _ _ _ _
  | exact laws_markPool.mono _ _ _ _ _ _ _
  | exact laws_toPool.mono _ _ _ _ _ _
  | exact spec_Turn.mono _ _ _ _ _ _
  | exact LeO.none _
  | refine LeO.ite ?_ ?_
  | refine LeO.bind ?_ (fun _ => ?_)
theorem laws_FnExactTurn.mono : ∀ a0 a1 a2 a3 a4 k, LeO (laws_FnExactTurn.f k a0 a1 a2 a3 a4) (laws_FnExactTurn.f (k + 1) a0 a1 a2 a3 a4) := by
 intro a0 a1 a2 a3 a4 k
 obtain ⟨ih0, ih1, ih2⟩ := laws_FnExactTurn.mono_l k
 unfold laws_FnExactTurn.f
 repeat' first
   | (with_reducible exact ih0 _ _ _ _ _ _ _ _ _ _ _ _ _ _ _ _ _ _ _ _ _ _ _)
   | (with_reducible exact ih1 _ _ _ _ _ _ _ _ _ _ _ _ _ _ _ _ _)
   | (with_reducible exact ih2 _ _ _ _ _ _ _)
   | (with_reducible exact impl_Turn.mono _ _ _ _ _ _)
   | (with_reducible exact laws_eqPool.mono _ _ _ _ _ _ _ _ _ _ _)
   | (with_reducible exact laws_heldPool.mono _ _ _ _ _ _ _)
   | (with_reducible exact laws_markPool.mono _ _ _ _ _ _ _)
   | (with_reducible exact laws_toPool.mono _ _ _ _ _ _)
   | (with_reducible exact spec_Turn.mono _ _ _ _ _ _)
   | (with_reducible exact LeO.refl _)
   | (with_reducible exact LeO.none _)
   | (with_reducible refine LeO.ite ?_ ?_)
   | (with_reducible refine LeO.bind ?_ (fun _ => ?_))
   | exact ih0 _ _ _ _ _ _ _ _ _ _ _ _ _ _ _ _ _ _ _ _ _ _ _
   | exact ih1 _ _ _ _ _ _ _ _ _ _ _ _ _ _ _ _ _
   | exact ih2 _ _ _ _ _ _ _
   | exact impl_Turn.mono _ _ _ _ _ _
   | exact laws_eqPool.mono _ _ _ _ _ _ _ _ _ _ _
   | exact laws_heldPool.mono _ _ _ _ _ _ _
   | exact laws_markPool.mono _ _ _ _ _ _ _
   | exact laws_toPool.mono _ _ _ _ _ _
   | exact spec_Turn.mono _ _ _ _ _ _
   | exact LeO.none _
   | refine LeO.ite ?_ ?_
   | refine LeO.bind ?_ (fun _ => ?_)
set_option maxHeartbeats 8000000 in
set_option maxRecDepth 100000 in
theorem laws_FnExactTurn.calls (k : Nat) (A0_0 : Option Addr) (c0_0 : Nat) (l0_0 : List Int) (a0_1 : Int) (A0_2 : Option Addr) (c0_2 : Nat) (l0_2 : List Int) (A0_3 : Option Addr) (c0_3 : Nat) (l0_3 : List (S106)) (A0_4 : Option Addr) (c0_4 : Nat) (l0_4 : List Int) (r : Bool) (w : World) (hr0_0 : Kd.C (Kd.int .i64) w A0_0 l0_0.length l0_0) (hc0_0 : l0_0.length ≤ c0_0) (hr0_2 : Kd.C (Kd.int .i64) w A0_2 l0_2.length l0_2) (hc0_2 : l0_2.length ≤ c0_2) (hr0_3 : Kd.C k106 w A0_3 l0_3.length l0_3) (hc0_3 : l0_3.length ≤ c0_3) (hr0_4 : Kd.C (Kd.int .i64) w A0_4 l0_4.length l0_4) (hc0_4 : l0_4.length ≤ c0_4) (h : laws_FnExactTurn.f k l0_0 a0_1 l0_2 l0_3 l0_4 = some r) (hrt_ : Aside0 (r = true)) :
  Calls Try.prog 10 #[.agg #[.slice A0_0 l0_0.length c0_0, .int .i64 a0_1, .slice A0_2 l0_2.length c0_2, .slice A0_3 l0_3.length c0_3, .slice A0_4 l0_4.length c0_4]] w fun e w' => e = .returned (.bool r) ∧ Below w.heap.size w w' := by
 have hu37 := Try.underlying37
 have hu27 := Try.underlying27
 have HR0_0 := Aside0.mk hr0_0
 have HC0_0 := Aside0.mk hc0_0
 clear hr0_0 hc0_0
 have HR0_2 := Aside0.mk hr0_2
 have HC0_2 := Aside0.mk hc0_2
 clear hr0_2 hc0_2
 have HR0_3 := Aside0.mk hr0_3
 have HC0_3 := Aside0.mk hc0_3
 clear hr0_3 hc0_3
 have HR0_4 := Aside0.mk hr0_4
 have HC0_4 := Aside0.mk hc0_4
 clear hr0_4 hc0_4
 have HB := Aside0.mk (Below.refl w.heap.size w)
 have H : ((laws_szPool.f l0_0 a0_1 l0_2 l0_3 l0_4 1048576).bind fun t461 => (if t461 < 0 then (some true) else ((laws_toPool.f k l0_0 a0_1 l0_2 l0_3 l0_4).bind fun bt462 => ((spec_Turn.f k bt462.1 bt462.2.1 bt462.2.2.1 bt462.2.2.2.1 bt462.2.2.2.2).bind fun bt475 => ((laws_toPool.f k l0_0 a0_1 l0_2 l0_3 l0_4).bind fun bt490 => ((impl_Turn.f k bt490.1 bt490.2.1 bt490.2.2.1 bt490.2.2.2.1 bt490.2.2.2.2).bind fun bt504 => ((laws_eqPool.f k bt504.1 bt504.2.1 bt504.2.2.1 bt504.2.2.2.1 bt504.2.2.2.2.1 bt475.1 bt475.2.1 bt475.2.2.1 bt475.2.2.2.1 bt475.2.2.2.2.1).bind fun t519 => (if t519 = true then (laws_FnExactTurn.j0 k bt475.2.2.2.2.2 bt504.2.2.2.2.2 (bt504.2.2.2.2.2 != bt475.2.2.2.2.2) l0_0 a0_1 l0_2 l0_3 l0_4 bt475.1 bt475.2.1 bt475.2.2.1 bt475.2.2.2.1 bt475.2.2.2.2.1 bt490.1 bt490.2.1 bt490.2.2.1 bt490.2.2.2.1 bt490.2.2.2.2 bt504.1 bt504.2.1 bt504.2.2.1 bt504.2.2.2.1 bt504.2.2.2.2.1) else (laws_FnExactTurn.j0 k bt475.2.2.2.2.2 bt504.2.2.2.2.2 true l0_0 a0_1 l0_2 l0_3 l0_4 bt475.1 bt475.2.1 bt475.2.2.1 bt475.2.2.2.1 bt475.2.2.2.2.1 bt490.1 bt490.2.1 bt490.2.2.1 bt490.2.2.2.1 bt490.2.2.2.2 bt504.1 bt504.2.1 bt504.2.2.1 bt504.2.2.2.1 bt504.2.2.2.2.1))))))))) = some r := h
 clear h
 replace H := Option.bind_eq_some_iff.mp H
 obtain ⟨t461, A20, H⟩ := H
 try dsimp only at H
 have A2 := Aside0.mk A20
 clear A20
 by_cases c3 : t461 < 0
 ·rw [if_pos c3] at H
  have c3b0 : decide (t461 < 0) = true := decide_eq_true c3
  clear c3
  obtain rfl := Option.some.inj H
  go_enter Try.func10, Try.ntmps10
  go_wp2_with (first | ((with_reducible refine gate_dst (N := 1) rfl ?_); refine bx 1 #[.slice A0_0 l0_0.length c0_0, .int .i64 a0_1, .slice A0_2 l0_2.length c0_2, .slice A0_3 l0_3.length c0_3, .slice A0_4 l0_4.length c0_4] 37 ?_; intro gb460 hg w4 hbox hb; have BK460 := am hbox; have GW460 := gs0 hg HB; have GE460 := gs0 hg HB; replace HB := s0 HB hb; clear hb hbox hg; have hcz5_0 := bz5 BK460) | ((with_reducible refine gate_callee (f := 19) rfl ?_); refine gl 16 Try.func19 #[.agg #[.slice A0_0 l0_0.length c0_0, .int .i64 a0_1, .slice A0_2 l0_2.length c0_2, .slice A0_3 l0_3.length c0_3, .slice A0_4 l0_4.length c0_4], .int .i64 1048576] ?_; (with_reducible refine (laws_szPool.calls _ _ l0_0 a0_1 _ _ l0_2 _ _ l0_3 _ _ l0_4 1048576 t461 _ (cb HR0_0 HB) HC0_0.out (cb HR0_2 HB) HC0_2.out (cb HR0_3 HB) HC0_3.out (cb HR0_4 HB) HC0_4.out A2.out).mono ?_); rintro e w6 ⟨rfl, hb⟩; refine ⟨_, rfl, ?_⟩; replace BK460 := bb BK460 hb; replace HB := Aside0.mk (below_step (be1 HB GE460) hb); (try clear hb)))
  go_ret
  exact ⟨er, be1 HB GE460⟩
 rw [if_neg c3] at H
 have c3b0 : decide (t461 < 0) = false := decide_eq_false c3
 clear c3
 replace H := Option.bind_eq_some_iff.mp H
 obtain ⟨⟨t462, t465, t466, t469, t472⟩, A70, H⟩ := H
 try dsimp only at H
 have A7 := Aside0.mk A70
 clear A70
 replace H := Option.bind_eq_some_iff.mp H
 obtain ⟨⟨t475, t478, t479, t482, t485, t488⟩, A80, H⟩ := H
 try dsimp only at H
 have A8 := Aside0.mk A80
 clear A80
 replace H := Option.bind_eq_some_iff.mp H
 obtain ⟨⟨t490, t493, t494, t497, t500⟩, A90, H⟩ := H
 try dsimp only at H
 have A9 := Aside0.mk A90
 clear A90
 replace H := Option.bind_eq_some_iff.mp H
 obtain ⟨⟨t504, t507, t508, t511, t514, t517⟩, A100, H⟩ := H
 try dsimp only at H
 have A10 := Aside0.mk A100
 clear A100
 have HC11 := Aside0.mk H
 clear H
 go_enter Try.func10, Try.ntmps10
 go_upto_region 8 with (first | ((with_reducible refine gate_dst (N := 1) rfl ?_); refine bx 1 #[.slice A0_0 l0_0.length c0_0, .int .i64 a0_1, .slice A0_2 l0_2.length c0_2, .slice A0_3 l0_3.length c0_3, .slice A0_4 l0_4.length c0_4] 37 ?_; intro gb460 hg w12 hbox hb; have BK460 := am hbox; have GW460 := gs0 hg HB; have GE460 := gs0 hg HB; replace HB := s0 HB hb; clear hb hbox hg; have hcz13_0 := bz5 BK460) | ((with_reducible refine gate_callee (f := 19) rfl ?_); refine gl 16 Try.func19 #[.agg #[.slice A0_0 l0_0.length c0_0, .int .i64 a0_1, .slice A0_2 l0_2.length c0_2, .slice A0_3 l0_3.length c0_3, .slice A0_4 l0_4.length c0_4], .int .i64 1048576] ?_; (with_reducible refine (laws_szPool.calls _ _ l0_0 a0_1 _ _ l0_2 _ _ l0_3 _ _ l0_4 1048576 t461 _ (cb HR0_0 HB) HC0_0.out (cb HR0_2 HB) HC0_2.out (cb HR0_3 HB) HC0_3.out (cb HR0_4 HB) HC0_4.out A2.out).mono ?_); rintro e w14 ⟨rfl, hb⟩; refine ⟨_, rfl, ?_⟩; replace BK460 := bb BK460 hb; replace HB := Aside0.mk (below_step (be1 HB GE460) hb); (try clear hb); have hcz15_0 := bz5 BK460) | ((with_reducible refine gate_callee (f := 21) rfl ?_); refine gl 21 Try.func21 #[.agg #[.slice A0_0 l0_0.length c0_0, .int .i64 a0_1, .slice A0_2 l0_2.length c0_2, .slice A0_3 l0_3.length c0_3, .slice A0_4 l0_4.length c0_4]] ?_; (with_reducible refine (laws_toPool.calls k _ _ l0_0 a0_1 _ _ l0_2 _ _ l0_3 _ _ l0_4 t462 t465 t466 t469 t472 _ (cb HR0_0 HB) HC0_0.out (cb HR0_2 HB) HC0_2.out (cb HR0_3 HB) HC0_3.out (cb HR0_4 HB) HC0_4.out A7.out).mono ?_); rintro e w16 ⟨v463, v467, v470, v473, rfl, ho0, ho1, ho2, ho3, hb⟩; refine ⟨_, rfl, ?_⟩; have HO464 := Aside0.mk (Kd.R_lower ho0 (below_size (be1 HB GE460))); have HO468 := Aside0.mk (Kd.R_lower ho1 (below_size (be1 HB GE460))); have HO471 := Aside0.mk (Kd.R_lower ho2 (below_size (be1 HB GE460))); have HO474 := Aside0.mk (Kd.R_lower ho3 (below_size (be1 HB GE460))); replace BK460 := bb BK460 hb; replace HB := Aside0.mk (below_step (be1 HB GE460) hb); (try clear hb); (try clear ho0); (try clear ho1); (try clear ho2); (try clear ho3); obtain ⟨Ao17, co17, eo17⟩ := Kd.R_slice HO464.out; subst eo17; obtain ⟨Ao18, co18, eo18⟩ := Kd.R_slice HO468.out; subst eo18; obtain ⟨Ao19, co19, eo19⟩ := Kd.R_slice HO471.out; subst eo19; obtain ⟨Ao20, co20, eo20⟩ := Kd.R_slice HO474.out; subst eo20) | ((with_reducible refine gate_callee (f := 36) rfl ?_); refine gl 22 Try.func36 #[.agg #[.slice Ao17 t462.length co17, .int .i64 t465, .slice Ao18 t466.length co18, .slice Ao19 t469.length co19, .slice Ao20 t472.length co20]] ?_; (with_reducible refine (spec_Turn.calls k _ _ t462 t465 _ _ t466 _ _ t469 _ _ t472 t475 t478 t479 t482 t485 t488 _ (cr HO464) ((Kd.R_reads' HO464.out).2.1) (cr HO468) ((Kd.R_reads' HO468.out).2.1) (cr HO471) ((Kd.R_reads' HO471.out).2.1) (cr HO474) ((Kd.R_reads' HO474.out).2.1) A8.out).mono ?_); rintro e w21 ⟨v476, v480, v483, v486, rfl, ho0, ho1, ho2, ho3, hb⟩; refine ⟨_, rfl, ?_⟩; have HO477 := Aside0.mk (Kd.R_lower (nw (nw (nw ho0 HO464) HO468) HO474) (below_size (be1 HB GE460))); have HO481 := Aside0.mk (Kd.R_lower (nw (nw (nw ho1 HO464) HO468) HO474) (below_size (be1 HB GE460))); have HO484 := Aside0.mk (Kd.R_lower (nw ho2 HO471) (below_size (be1 HB GE460))); replace HO471 := Aside0.mk (Kd.R_elder' (ro HO471) (Kd.R_base ho2) hb); have HO487 := Aside0.mk (Kd.R_lower (nw (nw (nw ho3 HO464) HO468) HO474) (below_size (be1 HB GE460))); replace HO464 := td3 (ro HO464) hb ho0 ho1 ho3; replace HO468 := td3 (ro HO468) hb ho0 ho1 ho3; replace HO474 := td3 (ro HO474) hb ho0 ho1 ho3; replace BK460 := bb BK460 hb; replace HB := Aside0.mk (below_step (be1 HB GE460) hb); (try clear hb); (try clear ho0); (try clear ho1); (try clear ho2); (try clear ho3)) | ((with_reducible refine gate_dst (N := 4) rfl ?_); refine bx 4 #[.slice none 0 0, .int .i64 0, .slice none 0 0, .slice none 0 0, .slice none 0 0] 27 ?_; intro gb489 hg w22 hbox hb; replace HO464 := rb HO464 hb; replace HO468 := rb HO468 hb; replace HO471 := rb HO471 hb; replace HO474 := rb HO474 hb; replace HO477 := rb HO477 hb; replace HO481 := rb HO481 hb; replace HO484 := rb HO484 hb; replace HO487 := rb HO487 hb; have BK489 := am hbox; have GW489 := gs1 hg HB GE460; have GE489 := gs1 hg HB GE460; replace HB := Aside0.mk (below_step (be1 HB GE460) hb); have NB460_489 := Aside0.mk ((by rw [hg]; exact Nat.ne_of_lt (bl BK460) : gb460 ≠ gb489)); have NB489_460 := Aside0.mk ((by rw [hg]; exact Nat.ne_of_gt (bl BK460) : gb489 ≠ gb460)); replace BK460 := bb BK460 hb; clear hb hbox hg; obtain ⟨Ao23, co23, eo23⟩ := Kd.R_slice HO477.out; subst eo23; have hnb24 := NB489_460.out; have hnc24 := NB460_489.out; have hcz25_0 := bz5 BK489; obtain ⟨Ao26, co26, eo26⟩ := Kd.R_slice HO481.out; subst eo26; obtain ⟨Ao27, co27, eo27⟩ := Kd.R_slice HO484.out; subst eo27; obtain ⟨Ao28, co28, eo28⟩ := Kd.R_slice HO487.out; subst eo28; have hcz29_0 := bz5 BK460) | ((with_reducible refine gate_callee (f := 21) rfl ?_); refine gl 26 Try.func21 #[.agg #[.slice A0_0 l0_0.length c0_0, .int .i64 a0_1, .slice A0_2 l0_2.length c0_2, .slice A0_3 l0_3.length c0_3, .slice A0_4 l0_4.length c0_4]] ?_; (with_reducible refine (laws_toPool.calls k _ _ l0_0 a0_1 _ _ l0_2 _ _ l0_3 _ _ l0_4 t490 t493 t494 t497 t500 _ ?side1 HC0_0.out ?side3 HC0_2.out ?side5 HC0_3.out ?side7 HC0_4.out A9.out).mono ?_); (case side1 => exact Kd.C_below HR0_0.out (be2 HB GE460 GE489)); (case side3 => exact Kd.C_below HR0_2.out (be2 HB GE460 GE489)); (case side5 => exact Kd.C_below HR0_3.out (be2 HB GE460 GE489)); (case side7 => exact Kd.C_below HR0_4.out (be2 HB GE460 GE489)); rintro e w30 ⟨v491, v495, v498, v501, rfl, ho0, ho1, ho2, ho3, hb⟩; refine ⟨_, rfl, ?_⟩; have HO492 := Aside0.mk (Kd.R_lower (Kd.R_new' (Kd.R_new' (Kd.R_new' (Kd.R_new' (Kd.R_new' (Kd.R_new' ho0 (Kd.R_lt (rf HO464 BK489))) (Kd.R_lt (rf HO468 BK489))) (Kd.R_lt (rf HO474 BK489))) (Kd.R_lt (rf HO477 BK489))) (Kd.R_lt (rf HO481 BK489))) (Kd.R_lt (rf HO487 BK489))) (below_size (be2 HB GE460 GE489))); have HO496 := Aside0.mk (Kd.R_lower (Kd.R_new' (Kd.R_new' (Kd.R_new' (Kd.R_new' (Kd.R_new' (Kd.R_new' ho1 (Kd.R_lt (rf HO464 BK489))) (Kd.R_lt (rf HO468 BK489))) (Kd.R_lt (rf HO474 BK489))) (Kd.R_lt (rf HO477 BK489))) (Kd.R_lt (rf HO481 BK489))) (Kd.R_lt (rf HO487 BK489))) (below_size (be2 HB GE460 GE489))); have HO499 := Aside0.mk (Kd.R_lower (Kd.R_new' (Kd.R_new' ho2 (Kd.R_lt (rf HO471 BK489))) (Kd.R_lt (rf HO484 BK489))) (below_size (be2 HB GE460 GE489))); replace HO471 := Aside0.mk (Kd.R_elder' (rf HO471 BK489) (Kd.R_base ho2) hb); replace HO484 := Aside0.mk (Kd.R_elder' (rf HO484 BK489) (Kd.R_base ho2) hb); have HO502 := Aside0.mk (Kd.R_lower (Kd.R_new' (Kd.R_new' (Kd.R_new' (Kd.R_new' (Kd.R_new' (Kd.R_new' ho3 (Kd.R_lt (rf HO464 BK489))) (Kd.R_lt (rf HO468 BK489))) (Kd.R_lt (rf HO474 BK489))) (Kd.R_lt (rf HO477 BK489))) (Kd.R_lt (rf HO481 BK489))) (Kd.R_lt (rf HO487 BK489))) (below_size (be2 HB GE460 GE489))); replace HO464 := td3 (rf HO464 BK489) hb ho0 ho1 ho3; replace HO468 := td3 (rf HO468 BK489) hb ho0 ho1 ho3; replace HO474 := td3 (rf HO474 BK489) hb ho0 ho1 ho3; replace HO477 := td3 (rf HO477 BK489) hb ho0 ho1 ho3; replace HO481 := td3 (rf HO481 BK489) hb ho0 ho1 ho3; replace HO487 := td3 (rf HO487 BK489) hb ho0 ho1 ho3; replace BK460 := Aside0.mk (blk_below (g := gb460) (o := .cells #[.slice A0_0 l0_0.length c0_0, .int .i64 a0_1, .slice A0_2 l0_2.length c0_2, .slice A0_3 l0_3.length c0_3, .slice A0_4 l0_4.length c0_4] 37 (0, 0)) (bf1 BK460 NB460_489) hb); replace BK489 := Aside0.mk (blk_below (g := gb489) (o := .cells #[.slice Ao23 t475.length co23, .int .i64 t478, .slice Ao26 t479.length co26, .slice Ao27 t482.length co27, .slice Ao28 t485.length co28] 27 (0, 0)) (by (with_reducible repeat (first | refine blk_drewN ?_ _ | refine blk_drew ?_ | refine blk_alloc ?_ _)); refine blk_put (cs := #[.slice Ao23 t475.length co23, .int .i64 t478, .slice Ao26 t479.length co26, .slice Ao27 t482.length co27, .slice none 0 0]) ?_ 4 _ rfl; (with_reducible repeat (first | refine blk_drewN ?_ _ | refine blk_drew ?_ | refine blk_alloc ?_ _)); refine blk_put (cs := #[.slice Ao23 t475.length co23, .int .i64 t478, .slice Ao26 t479.length co26, .slice none 0 0, .slice none 0 0]) ?_ 3 _ rfl; (with_reducible repeat (first | refine blk_drewN ?_ _ | refine blk_drew ?_ | refine blk_alloc ?_ _)); refine blk_put (cs := #[.slice Ao23 t475.length co23, .int .i64 t478, .slice none 0 0, .slice none 0 0, .slice none 0 0]) ?_ 2 _ rfl; (with_reducible repeat (first | refine blk_drewN ?_ _ | refine blk_drew ?_ | refine blk_alloc ?_ _)); refine blk_put (cs := #[.slice Ao23 t475.length co23, .int .i64 0, .slice none 0 0, .slice none 0 0, .slice none 0 0]) ?_ 1 _ rfl; (with_reducible repeat (first | refine blk_drewN ?_ _ | refine blk_drew ?_ | refine blk_alloc ?_ _)); refine blk_put (cs := #[.slice none 0 0, .int .i64 0, .slice none 0 0, .slice none 0 0, .slice none 0 0]) ?_ 0 _ rfl; (with_reducible repeat (first | refine blk_drewN ?_ _ | refine blk_drew ?_ | refine blk_alloc ?_ _)); exact BK489.out) hb); replace HB := Aside0.mk (below_step (be2 HB GE460 GE489) hb); (try clear hb); (try clear ho0); (try clear ho1); (try clear ho2); (try clear ho3)) | ((with_reducible refine gate_dst (N := 6) rfl ?_); refine bx 6 #[.slice none 0 0, .int .i64 0, .slice none 0 0, .slice none 0 0, .slice none 0 0] 27 ?_; intro gb503 hg w31 hbox hb; replace HO464 := rb HO464 hb; replace HO468 := rb HO468 hb; replace HO471 := rb HO471 hb; replace HO474 := rb HO474 hb; replace HO477 := rb HO477 hb; replace HO481 := rb HO481 hb; replace HO484 := rb HO484 hb; replace HO487 := rb HO487 hb; replace HO492 := rb HO492 hb; replace HO496 := rb HO496 hb; replace HO499 := rb HO499 hb; replace HO502 := rb HO502 hb; have BK503 := am hbox; have GW503 := gs2 hg HB GE460 GE489; have GE503 := gs2 hg HB GE460 GE489; replace HB := Aside0.mk (below_step (be2 HB GE460 GE489) hb); have NB460_503 := Aside0.mk ((by rw [hg]; exact Nat.ne_of_lt (bl BK460) : gb460 ≠ gb503)); have NB503_460 := Aside0.mk ((by rw [hg]; exact Nat.ne_of_gt (bl BK460) : gb503 ≠ gb460)); replace BK460 := bb BK460 hb; have NB489_503 := Aside0.mk ((by rw [hg]; exact Nat.ne_of_lt (bl BK489) : gb489 ≠ gb503)); have NB503_489 := Aside0.mk ((by rw [hg]; exact Nat.ne_of_gt (bl BK489) : gb503 ≠ gb489)); replace BK489 := bb BK489 hb; clear hb hbox hg; obtain ⟨Ao32, co32, eo32⟩ := Kd.R_slice HO492.out; subst eo32; have hnb33 := NB503_460.out; have hnc33 := NB460_503.out; have hnb34 := NB503_489.out; have hnc34 := NB489_503.out; have hcz35_0 := bz5 BK503; obtain ⟨Ao36, co36, eo36⟩ := Kd.R_slice HO496.out; subst eo36; obtain ⟨Ao37, co37, eo37⟩ := Kd.R_slice HO499.out; subst eo37; obtain ⟨Ao38, co38, eo38⟩ := Kd.R_slice HO502.out; subst eo38) | ((with_reducible refine gate_callee (f := 37) rfl ?_); refine gl 29 Try.func37 #[.agg #[.slice Ao32 t490.length co32, .int .i64 t493, .slice Ao36 t494.length co36, .slice Ao37 t497.length co37, .slice Ao38 t500.length co38]] ?_; (with_reducible refine (impl_Turn.calls k _ _ t490 t493 _ _ t494 _ _ t497 _ _ t500 t504 t507 t508 t511 t514 t517 _ ?side1 ((Kd.R_reads' HO492.out).2.1) ?side3 ((Kd.R_reads' HO496.out).2.1) ?side5 ((Kd.R_reads' HO499.out).2.1) ?side7 ((Kd.R_reads' HO502.out).2.1) A10.out).mono ?_); (case side1 => exact rfr _ HO492 BK503); (case side3 => exact rfr _ HO496 BK503); (case side5 => exact rfr _ HO499 BK503); (case side7 => exact rfr _ HO502 BK503); rintro e w39 ⟨v505, v509, v512, v515, rfl, ho0, ho1, ho2, ho3, hb⟩; refine ⟨_, rfl, ?_⟩; have HO506 := Aside0.mk (Kd.R_lower (Kd.R_new' (Kd.R_new' (Kd.R_new' (Kd.R_new' (Kd.R_new' (Kd.R_new' (Kd.R_new' (Kd.R_new' (Kd.R_new' ho0 (Kd.R_lt (rf HO464 BK503))) (Kd.R_lt (rf HO468 BK503))) (Kd.R_lt (rf HO474 BK503))) (Kd.R_lt (rf HO477 BK503))) (Kd.R_lt (rf HO481 BK503))) (Kd.R_lt (rf HO487 BK503))) (Kd.R_lt (rf HO492 BK503))) (Kd.R_lt (rf HO496 BK503))) (Kd.R_lt (rf HO502 BK503))) (below_size (be3 HB GE460 GE489 GE503))); have HO510 := Aside0.mk (Kd.R_lower (Kd.R_new' (Kd.R_new' (Kd.R_new' (Kd.R_new' (Kd.R_new' (Kd.R_new' (Kd.R_new' (Kd.R_new' (Kd.R_new' ho1 (Kd.R_lt (rf HO464 BK503))) (Kd.R_lt (rf HO468 BK503))) (Kd.R_lt (rf HO474 BK503))) (Kd.R_lt (rf HO477 BK503))) (Kd.R_lt (rf HO481 BK503))) (Kd.R_lt (rf HO487 BK503))) (Kd.R_lt (rf HO492 BK503))) (Kd.R_lt (rf HO496 BK503))) (Kd.R_lt (rf HO502 BK503))) (below_size (be3 HB GE460 GE489 GE503))); have HO513 := Aside0.mk (Kd.R_lower (Kd.R_new' (Kd.R_new' (Kd.R_new' ho2 (Kd.R_lt (rf HO471 BK503))) (Kd.R_lt (rf HO484 BK503))) (Kd.R_lt (rf HO499 BK503))) (below_size (be3 HB GE460 GE489 GE503))); replace HO471 := Aside0.mk (Kd.R_elder' (rf HO471 BK503) (Kd.R_base ho2) hb); replace HO484 := Aside0.mk (Kd.R_elder' (rf HO484 BK503) (Kd.R_base ho2) hb); replace HO499 := Aside0.mk (Kd.R_elder' (rf HO499 BK503) (Kd.R_base ho2) hb); have HO516 := Aside0.mk (Kd.R_lower (Kd.R_new' (Kd.R_new' (Kd.R_new' (Kd.R_new' (Kd.R_new' (Kd.R_new' (Kd.R_new' (Kd.R_new' (Kd.R_new' ho3 (Kd.R_lt (rf HO464 BK503))) (Kd.R_lt (rf HO468 BK503))) (Kd.R_lt (rf HO474 BK503))) (Kd.R_lt (rf HO477 BK503))) (Kd.R_lt (rf HO481 BK503))) (Kd.R_lt (rf HO487 BK503))) (Kd.R_lt (rf HO492 BK503))) (Kd.R_lt (rf HO496 BK503))) (Kd.R_lt (rf HO502 BK503))) (below_size (be3 HB GE460 GE489 GE503))); replace HO464 := td3 (rf HO464 BK503) hb ho0 ho1 ho3; replace HO468 := td3 (rf HO468 BK503) hb ho0 ho1 ho3; replace HO474 := td3 (rf HO474 BK503) hb ho0 ho1 ho3; replace HO477 := td3 (rf HO477 BK503) hb ho0 ho1 ho3; replace HO481 := td3 (rf HO481 BK503) hb ho0 ho1 ho3; replace HO487 := td3 (rf HO487 BK503) hb ho0 ho1 ho3; replace HO492 := td3 (rf HO492 BK503) hb ho0 ho1 ho3; replace HO496 := td3 (rf HO496 BK503) hb ho0 ho1 ho3; replace HO502 := td3 (rf HO502 BK503) hb ho0 ho1 ho3; replace BK460 := Aside0.mk (blk_below (g := gb460) (o := .cells #[.slice A0_0 l0_0.length c0_0, .int .i64 a0_1, .slice A0_2 l0_2.length c0_2, .slice A0_3 l0_3.length c0_3, .slice A0_4 l0_4.length c0_4] 37 (0, 0)) (bf1 BK460 NB460_503) hb); replace BK489 := Aside0.mk (blk_below (g := gb489) (o := .cells #[.slice Ao23 t475.length co23, .int .i64 t478, .slice Ao26 t479.length co26, .slice Ao27 t482.length co27, .slice Ao28 t485.length co28] 27 (0, 0)) (bf1 BK489 NB489_503) hb); replace BK503 := Aside0.mk (blk_below (g := gb503) (o := .cells #[.slice Ao32 t490.length co32, .int .i64 t493, .slice Ao36 t494.length co36, .slice Ao37 t497.length co37, .slice Ao38 t500.length co38] 27 (0, 0)) (by (with_reducible repeat (first | refine blk_drewN ?_ _ | refine blk_drew ?_ | refine blk_alloc ?_ _)); refine blk_put (cs := #[.slice Ao32 t490.length co32, .int .i64 t493, .slice Ao36 t494.length co36, .slice Ao37 t497.length co37, .slice none 0 0]) ?_ 4 _ rfl; (with_reducible repeat (first | refine blk_drewN ?_ _ | refine blk_drew ?_ | refine blk_alloc ?_ _)); refine blk_put (cs := #[.slice Ao32 t490.length co32, .int .i64 t493, .slice Ao36 t494.length co36, .slice none 0 0, .slice none 0 0]) ?_ 3 _ rfl; (with_reducible repeat (first | refine blk_drewN ?_ _ | refine blk_drew ?_ | refine blk_alloc ?_ _)); refine blk_put (cs := #[.slice Ao32 t490.length co32, .int .i64 t493, .slice none 0 0, .slice none 0 0, .slice none 0 0]) ?_ 2 _ rfl; (with_reducible repeat (first | refine blk_drewN ?_ _ | refine blk_drew ?_ | refine blk_alloc ?_ _)); refine blk_put (cs := #[.slice Ao32 t490.length co32, .int .i64 0, .slice none 0 0, .slice none 0 0, .slice none 0 0]) ?_ 1 _ rfl; (with_reducible repeat (first | refine blk_drewN ?_ _ | refine blk_drew ?_ | refine blk_alloc ?_ _)); refine blk_put (cs := #[.slice none 0 0, .int .i64 0, .slice none 0 0, .slice none 0 0, .slice none 0 0]) ?_ 0 _ rfl; (with_reducible repeat (first | refine blk_drewN ?_ _ | refine blk_drew ?_ | refine blk_alloc ?_ _)); exact BK503.out) hb); replace HB := Aside0.mk (below_step (be3 HB GE460 GE489 GE503) hb); (try clear hb); (try clear ho0); (try clear ho1); (try clear ho2); (try clear ho3)) | ((with_reducible refine gate_dst (N := 7) rfl ?_); refine bx 7 #[.slice none 0 0, .int .i64 0, .slice none 0 0, .slice none 0 0, .slice none 0 0] 27 ?_; intro gb518 hg w40 hbox hb; replace HO464 := rb HO464 hb; replace HO468 := rb HO468 hb; replace HO471 := rb HO471 hb; replace HO474 := rb HO474 hb; replace HO477 := rb HO477 hb; replace HO481 := rb HO481 hb; replace HO484 := rb HO484 hb; replace HO487 := rb HO487 hb; replace HO492 := rb HO492 hb; replace HO496 := rb HO496 hb; replace HO499 := rb HO499 hb; replace HO502 := rb HO502 hb; replace HO506 := rb HO506 hb; replace HO510 := rb HO510 hb; replace HO513 := rb HO513 hb; replace HO516 := rb HO516 hb; have BK518 := am hbox; have GW518 := Aside0.mk ((by rw [hg]; exact (below_size (be3 HB GE460 GE489 GE503)) : w.heap.size ≤ gb518)); have GE518 := Aside0.mk ((by rw [hg]; exact (below_size (be3 HB GE460 GE489 GE503)) : w.heap.size ≤ gb518)); replace HB := Aside0.mk (below_step (be3 HB GE460 GE489 GE503) hb); have NB460_518 := Aside0.mk ((by rw [hg]; exact Nat.ne_of_lt (bl BK460) : gb460 ≠ gb518)); have NB518_460 := Aside0.mk ((by rw [hg]; exact Nat.ne_of_gt (bl BK460) : gb518 ≠ gb460)); replace BK460 := bb BK460 hb; have NB489_518 := Aside0.mk ((by rw [hg]; exact Nat.ne_of_lt (bl BK489) : gb489 ≠ gb518)); have NB518_489 := Aside0.mk ((by rw [hg]; exact Nat.ne_of_gt (bl BK489) : gb518 ≠ gb489)); replace BK489 := bb BK489 hb; have NB503_518 := Aside0.mk ((by rw [hg]; exact Nat.ne_of_lt (bl BK503) : gb503 ≠ gb518)); have NB518_503 := Aside0.mk ((by rw [hg]; exact Nat.ne_of_gt (bl BK503) : gb518 ≠ gb503)); replace BK503 := bb BK503 hb; clear hb hbox hg; obtain ⟨Ao41, co41, eo41⟩ := Kd.R_slice HO506.out; subst eo41; have hnb42 := NB518_460.out; have hnc42 := NB460_518.out; have hnb43 := NB518_489.out; have hnc43 := NB489_518.out; have hnb44 := NB518_503.out; have hnc44 := NB503_518.out; have hcz45_0 := bz5 BK518; obtain ⟨Ao46, co46, eo46⟩ := Kd.R_slice HO510.out; subst eo46; obtain ⟨Ao47, co47, eo47⟩ := Kd.R_slice HO513.out; subst eo47; obtain ⟨Ao48, co48, eo48⟩ := Kd.R_slice HO516.out; subst eo48))
 (try simp only [Act.put, List.setIfInBounds_toArray, List.set_cons_zero, List.set_cons_succ])
 go_cut [40] (fun v40 wc => ∃ (kq : Nat) (x40_10 : Bool), v40 = .bool x40_10 ∧ Aside0 (laws_FnExactTurn.j0 kq t488 t517 x40_10 l0_0 a0_1 l0_2 l0_3 l0_4 t475 t478 t479 t482 t485 t490 t493 t494 t497 t500 t504 t507 t508 t511 t514 = some r) ∧ Aside0 (kq ≤ k) ∧ Aside0 (Kd.R (Kd.int .i64) 3 wc w.heap.size (fun k_ => nb k_ Ao26 t479.length co26 ∧ nb k_ Ao28 t485.length co28 ∧ nb k_ Ao32 t490.length co32 ∧ nb k_ Ao36 t494.length co36 ∧ nb k_ Ao38 t500.length co38 ∧ nb k_ Ao41 t504.length co41 ∧ nb k_ Ao46 t508.length co46 ∧ nb k_ Ao48 t514.length co48) (.slice Ao23 t475.length co23) t475) ∧ Aside0 (Kd.R (Kd.int .i64) 3 wc w.heap.size (fun k_ => nb k_ Ao23 t475.length co23 ∧ nb k_ Ao28 t485.length co28 ∧ nb k_ Ao32 t490.length co32 ∧ nb k_ Ao36 t494.length co36 ∧ nb k_ Ao38 t500.length co38 ∧ nb k_ Ao41 t504.length co41 ∧ nb k_ Ao46 t508.length co46 ∧ nb k_ Ao48 t514.length co48) (.slice Ao26 t479.length co26) t479) ∧ Aside0 (Kd.R k70 70 wc w.heap.size (fun k_ => nb k_ Ao37 t497.length co37 ∧ nb k_ Ao47 t511.length co47) (.slice Ao27 t482.length co27) t482) ∧ Aside0 (Kd.R (Kd.int .i64) 3 wc w.heap.size (fun k_ => nb k_ Ao23 t475.length co23 ∧ nb k_ Ao26 t479.length co26 ∧ nb k_ Ao32 t490.length co32 ∧ nb k_ Ao36 t494.length co36 ∧ nb k_ Ao38 t500.length co38 ∧ nb k_ Ao41 t504.length co41 ∧ nb k_ Ao46 t508.length co46 ∧ nb k_ Ao48 t514.length co48) (.slice Ao28 t485.length co28) t485) ∧ Aside0 (Kd.R (Kd.int .i64) 3 wc w.heap.size (fun k_ => nb k_ Ao23 t475.length co23 ∧ nb k_ Ao26 t479.length co26 ∧ nb k_ Ao28 t485.length co28 ∧ nb k_ Ao36 t494.length co36 ∧ nb k_ Ao38 t500.length co38 ∧ nb k_ Ao41 t504.length co41 ∧ nb k_ Ao46 t508.length co46 ∧ nb k_ Ao48 t514.length co48) (.slice Ao32 t490.length co32) t490) ∧ Aside0 (Kd.R (Kd.int .i64) 3 wc w.heap.size (fun k_ => nb k_ Ao23 t475.length co23 ∧ nb k_ Ao26 t479.length co26 ∧ nb k_ Ao28 t485.length co28 ∧ nb k_ Ao32 t490.length co32 ∧ nb k_ Ao38 t500.length co38 ∧ nb k_ Ao41 t504.length co41 ∧ nb k_ Ao46 t508.length co46 ∧ nb k_ Ao48 t514.length co48) (.slice Ao36 t494.length co36) t494) ∧ Aside0 (Kd.R k70 70 wc w.heap.size (fun k_ => nb k_ Ao27 t482.length co27 ∧ nb k_ Ao47 t511.length co47) (.slice Ao37 t497.length co37) t497) ∧ Aside0 (Kd.R (Kd.int .i64) 3 wc w.heap.size (fun k_ => nb k_ Ao23 t475.length co23 ∧ nb k_ Ao26 t479.length co26 ∧ nb k_ Ao28 t485.length co28 ∧ nb k_ Ao32 t490.length co32 ∧ nb k_ Ao36 t494.length co36 ∧ nb k_ Ao41 t504.length co41 ∧ nb k_ Ao46 t508.length co46 ∧ nb k_ Ao48 t514.length co48) (.slice Ao38 t500.length co38) t500) ∧ Aside0 (Kd.R (Kd.int .i64) 3 wc w.heap.size (fun k_ => nb k_ Ao23 t475.length co23 ∧ nb k_ Ao26 t479.length co26 ∧ nb k_ Ao28 t485.length co28 ∧ nb k_ Ao32 t490.length co32 ∧ nb k_ Ao36 t494.length co36 ∧ nb k_ Ao38 t500.length co38 ∧ nb k_ Ao46 t508.length co46 ∧ nb k_ Ao48 t514.length co48) (.slice Ao41 t504.length co41) t504) ∧ Aside0 (Kd.R (Kd.int .i64) 3 wc w.heap.size (fun k_ => nb k_ Ao23 t475.length co23 ∧ nb k_ Ao26 t479.length co26 ∧ nb k_ Ao28 t485.length co28 ∧ nb k_ Ao32 t490.length co32 ∧ nb k_ Ao36 t494.length co36 ∧ nb k_ Ao38 t500.length co38 ∧ nb k_ Ao41 t504.length co41 ∧ nb k_ Ao48 t514.length co48) (.slice Ao46 t508.length co46) t508) ∧ Aside0 (Kd.R k70 70 wc w.heap.size (fun k_ => nb k_ Ao27 t482.length co27 ∧ nb k_ Ao37 t497.length co37) (.slice Ao47 t511.length co47) t511) ∧ Aside0 (Kd.R (Kd.int .i64) 3 wc w.heap.size (fun k_ => nb k_ Ao23 t475.length co23 ∧ nb k_ Ao26 t479.length co26 ∧ nb k_ Ao28 t485.length co28 ∧ nb k_ Ao32 t490.length co32 ∧ nb k_ Ao36 t494.length co36 ∧ nb k_ Ao38 t500.length co38 ∧ nb k_ Ao41 t504.length co41 ∧ nb k_ Ao46 t508.length co46) (.slice Ao48 t514.length co48) t514) ∧ Aside0 (wc.heap[gb460]? = some (.cells #[(.slice A0_0 l0_0.length c0_0), .int .i64 a0_1, (.slice A0_2 l0_2.length c0_2), (.slice A0_3 l0_3.length c0_3), (.slice A0_4 l0_4.length c0_4)] 37 (0, 0))) ∧ Aside0 (wc.heap[gb489]? = some (.cells #[(.slice Ao23 t475.length co23), .int .i64 t478, (.slice Ao26 t479.length co26), (.slice Ao27 t482.length co27), (.slice Ao28 t485.length co28)] 27 (0, 0))) ∧ Aside0 (wc.heap[gb503]? = some (.cells #[(.slice Ao32 t490.length co32), .int .i64 t493, (.slice Ao36 t494.length co36), (.slice Ao37 t497.length co37), (.slice Ao38 t500.length co38)] 27 (0, 0))) ∧ Aside0 (wc.heap[gb518]? = some (.cells #[(.slice Ao41 t504.length co41), .int .i64 t507, (.slice Ao46 t508.length co46), (.slice Ao47 t511.length co47), (.slice Ao48 t514.length co48)] 27 (0, 0))) ∧ Aside0 (Below w.heap.size w wc))
 case first =>
  have H := HC11.out
  clear HC11
  replace H := Option.bind_eq_some_iff.mp H
  obtain ⟨t519, A490, H⟩ := H
  try dsimp only at H
  have A49 := Aside0.mk A490
  clear A490
  by_cases c50 : t519 = true
  ·subst c50
   rw [if_pos rfl] at H
   have H' := Aside0.mk H
   clear H
   have hnb51 := NB518_460.out
   have hnc51 := NB460_518.out
   have hnb52 := NB518_489.out
   have hnc52 := NB489_518.out
   have hnb53 := NB518_503.out
   have hnc53 := NB503_518.out
   have hcz54_0 := bz5 BK518
   have hnb55 := NB489_460.out
   have hnc55 := NB460_489.out
   have hnb56 := NB489_503.out
   have hnc56 := NB503_489.out
   have hcz57_0 := bz5 BK489
   go_wp2_with (first | ((with_reducible refine gate_callee (f := 16) rfl ?_); refine gl 34 Try.func16 #[.agg #[.slice Ao41 t504.length co41, .int .i64 t507, .slice Ao46 t508.length co46, .slice Ao47 t511.length co47, .slice Ao48 t514.length co48], .agg #[.slice Ao23 t475.length co23, .int .i64 t478, .slice Ao26 t479.length co26, .slice Ao27 t482.length co27, .slice Ao28 t485.length co28]] ?_; (with_reducible refine (laws_eqPool.calls k _ _ t504 t507 _ _ t508 _ _ t511 _ _ t514 _ _ t475 t478 _ _ t479 _ _ t482 _ _ t485 true _ ?side1 ((Kd.R_reads' HO506.out).2.1) ?side3 ((Kd.R_reads' HO510.out).2.1) ?side5 ((Kd.R_reads' HO513.out).2.1) ?side7 ((Kd.R_reads' HO516.out).2.1) ?side9 ((Kd.R_reads' HO477.out).2.1) ?side11 ((Kd.R_reads' HO481.out).2.1) ?side13 ((Kd.R_reads' HO484.out).2.1) ?side15 ((Kd.R_reads' HO487.out).2.1) A49.out).mono ?_); (case side1 => exact rfr _ HO506 BK518); (case side3 => exact rfr _ HO510 BK518); (case side5 => exact rfr _ HO513 BK518); (case side7 => exact rfr _ HO516 BK518); (case side9 => exact rfr _ HO477 BK518); (case side11 => exact rfr _ HO481 BK518); (case side13 => exact rfr _ HO484 BK518); (case side15 => exact rfr _ HO487 BK518); rintro e w58 ⟨rfl, hb⟩; refine ⟨_, rfl, ?_⟩; replace HO464 := Aside0.mk (Kd.R_below (rf HO464 BK518) hb); replace HO468 := Aside0.mk (Kd.R_below (rf HO468 BK518) hb); replace HO471 := Aside0.mk (Kd.R_below (rf HO471 BK518) hb); replace HO474 := Aside0.mk (Kd.R_below (rf HO474 BK518) hb); replace HO477 := Aside0.mk (Kd.R_below (rf HO477 BK518) hb); replace HO481 := Aside0.mk (Kd.R_below (rf HO481 BK518) hb); replace HO484 := Aside0.mk (Kd.R_below (rf HO484 BK518) hb); replace HO487 := Aside0.mk (Kd.R_below (rf HO487 BK518) hb); replace HO492 := Aside0.mk (Kd.R_below (rf HO492 BK518) hb); replace HO496 := Aside0.mk (Kd.R_below (rf HO496 BK518) hb); replace HO499 := Aside0.mk (Kd.R_below (rf HO499 BK518) hb); replace HO502 := Aside0.mk (Kd.R_below (rf HO502 BK518) hb); replace HO506 := Aside0.mk (Kd.R_below (rf HO506 BK518) hb); replace HO510 := Aside0.mk (Kd.R_below (rf HO510 BK518) hb); replace HO513 := Aside0.mk (Kd.R_below (rf HO513 BK518) hb); replace HO516 := Aside0.mk (Kd.R_below (rf HO516 BK518) hb); replace BK460 := Aside0.mk (blk_below (g := gb460) (o := .cells #[.slice A0_0 l0_0.length c0_0, .int .i64 a0_1, .slice A0_2 l0_2.length c0_2, .slice A0_3 l0_3.length c0_3, .slice A0_4 l0_4.length c0_4] 37 (0, 0)) (bf1 BK460 NB460_518) hb); replace BK489 := Aside0.mk (blk_below (g := gb489) (o := .cells #[.slice Ao23 t475.length co23, .int .i64 t478, .slice Ao26 t479.length co26, .slice Ao27 t482.length co27, .slice Ao28 t485.length co28] 27 (0, 0)) (bf1 BK489 NB489_518) hb); replace BK503 := Aside0.mk (blk_below (g := gb503) (o := .cells #[.slice Ao32 t490.length co32, .int .i64 t493, .slice Ao36 t494.length co36, .slice Ao37 t497.length co37, .slice Ao38 t500.length co38] 27 (0, 0)) (bf1 BK503 NB503_518) hb); replace BK518 := Aside0.mk (blk_below (g := gb518) (o := .cells #[.slice Ao41 t504.length co41, .int .i64 t507, .slice Ao46 t508.length co46, .slice Ao47 t511.length co47, .slice Ao48 t514.length co48] 27 (0, 0)) (by (with_reducible repeat (first | refine blk_drewN ?_ _ | refine blk_drew ?_ | refine blk_alloc ?_ _)); refine blk_put (cs := #[.slice Ao41 t504.length co41, .int .i64 t507, .slice Ao46 t508.length co46, .slice Ao47 t511.length co47, .slice none 0 0]) ?_ 4 _ rfl; (with_reducible repeat (first | refine blk_drewN ?_ _ | refine blk_drew ?_ | refine blk_alloc ?_ _)); refine blk_put (cs := #[.slice Ao41 t504.length co41, .int .i64 t507, .slice Ao46 t508.length co46, .slice none 0 0, .slice none 0 0]) ?_ 3 _ rfl; (with_reducible repeat (first | refine blk_drewN ?_ _ | refine blk_drew ?_ | refine blk_alloc ?_ _)); refine blk_put (cs := #[.slice Ao41 t504.length co41, .int .i64 t507, .slice none 0 0, .slice none 0 0, .slice none 0 0]) ?_ 2 _ rfl; (with_reducible repeat (first | refine blk_drewN ?_ _ | refine blk_drew ?_ | refine blk_alloc ?_ _)); refine blk_put (cs := #[.slice Ao41 t504.length co41, .int .i64 0, .slice none 0 0, .slice none 0 0, .slice none 0 0]) ?_ 1 _ rfl; (with_reducible repeat (first | refine blk_drewN ?_ _ | refine blk_drew ?_ | refine blk_alloc ?_ _)); refine blk_put (cs := #[.slice none 0 0, .int .i64 0, .slice none 0 0, .slice none 0 0, .slice none 0 0]) ?_ 0 _ rfl; (with_reducible repeat (first | refine blk_drewN ?_ _ | refine blk_drew ?_ | refine blk_alloc ?_ _)); exact BK518.out) hb); replace HB := Aside0.mk (below_step (be4 HB GE460 GE489 GE503 GE518) hb); (try clear hb)))
   go_meet
   case rel => exact ⟨_, ((t517 != t488)), rs, H', ⟨by first | omega | exact Nat.le_refl _⟩, ⟨rom HO477⟩, ⟨rom HO481⟩, ⟨rom HO484⟩, ⟨rom HO487⟩, ⟨rom HO492⟩, ⟨rom HO496⟩, ⟨rom HO499⟩, ⟨rom HO502⟩, ⟨rom HO506⟩, ⟨rom HO510⟩, ⟨rom HO513⟩, ⟨rom HO516⟩, ⟨bk BK460⟩, ⟨bk BK489⟩, ⟨bk BK503⟩, ⟨bk BK518⟩, ⟨be4 HB GE460 GE489 GE503 GE518⟩⟩
  replace c50 := Bool.eq_false_iff.mpr c50
  subst c50
  rw [if_neg (show ¬ (false = true) by decide)] at H
  have H' := Aside0.mk H
  clear H
  have hnb59 := NB518_460.out
  have hnc59 := NB460_518.out
  have hnb60 := NB518_489.out
  have hnc60 := NB489_518.out
  have hnb61 := NB518_503.out
  have hnc61 := NB503_518.out
  have hcz62_0 := bz5 BK518
  have hnb63 := NB489_460.out
  have hnc63 := NB460_489.out
  have hnb64 := NB489_503.out
  have hnc64 := NB503_489.out
  have hcz65_0 := bz5 BK489
  go_wp2_with (first | ((with_reducible refine gate_callee (f := 16) rfl ?_); refine gl 34 Try.func16 #[.agg #[.slice Ao41 t504.length co41, .int .i64 t507, .slice Ao46 t508.length co46, .slice Ao47 t511.length co47, .slice Ao48 t514.length co48], .agg #[.slice Ao23 t475.length co23, .int .i64 t478, .slice Ao26 t479.length co26, .slice Ao27 t482.length co27, .slice Ao28 t485.length co28]] ?_; (with_reducible refine (laws_eqPool.calls k _ _ t504 t507 _ _ t508 _ _ t511 _ _ t514 _ _ t475 t478 _ _ t479 _ _ t482 _ _ t485 false _ ?side1 ((Kd.R_reads' HO506.out).2.1) ?side3 ((Kd.R_reads' HO510.out).2.1) ?side5 ((Kd.R_reads' HO513.out).2.1) ?side7 ((Kd.R_reads' HO516.out).2.1) ?side9 ((Kd.R_reads' HO477.out).2.1) ?side11 ((Kd.R_reads' HO481.out).2.1) ?side13 ((Kd.R_reads' HO484.out).2.1) ?side15 ((Kd.R_reads' HO487.out).2.1) A49.out).mono ?_); (case side1 => exact rfr _ HO506 BK518); (case side3 => exact rfr _ HO510 BK518); (case side5 => exact rfr _ HO513 BK518); (case side7 => exact rfr _ HO516 BK518); (case side9 => exact rfr _ HO477 BK518); (case side11 => exact rfr _ HO481 BK518); (case side13 => exact rfr _ HO484 BK518); (case side15 => exact rfr _ HO487 BK518); rintro e w66 ⟨rfl, hb⟩; refine ⟨_, rfl, ?_⟩; replace HO464 := Aside0.mk (Kd.R_below (rf HO464 BK518) hb); replace HO468 := Aside0.mk (Kd.R_below (rf HO468 BK518) hb); replace HO471 := Aside0.mk (Kd.R_below (rf HO471 BK518) hb); replace HO474 := Aside0.mk (Kd.R_below (rf HO474 BK518) hb); replace HO477 := Aside0.mk (Kd.R_below (rf HO477 BK518) hb); replace HO481 := Aside0.mk (Kd.R_below (rf HO481 BK518) hb); replace HO484 := Aside0.mk (Kd.R_below (rf HO484 BK518) hb); replace HO487 := Aside0.mk (Kd.R_below (rf HO487 BK518) hb); replace HO492 := Aside0.mk (Kd.R_below (rf HO492 BK518) hb); replace HO496 := Aside0.mk (Kd.R_below (rf HO496 BK518) hb); replace HO499 := Aside0.mk (Kd.R_below (rf HO499 BK518) hb); replace HO502 := Aside0.mk (Kd.R_below (rf HO502 BK518) hb); replace HO506 := Aside0.mk (Kd.R_below (rf HO506 BK518) hb); replace HO510 := Aside0.mk (Kd.R_below (rf HO510 BK518) hb); replace HO513 := Aside0.mk (Kd.R_below (rf HO513 BK518) hb); replace HO516 := Aside0.mk (Kd.R_below (rf HO516 BK518) hb); replace BK460 := Aside0.mk (blk_below (g := gb460) (o := .cells #[.slice A0_0 l0_0.length c0_0, .int .i64 a0_1, .slice A0_2 l0_2.length c0_2, .slice A0_3 l0_3.length c0_3, .slice A0_4 l0_4.length c0_4] 37 (0, 0)) (bf1 BK460 NB460_518) hb); replace BK489 := Aside0.mk (blk_below (g := gb489) (o := .cells #[.slice Ao23 t475.length co23, .int .i64 t478, .slice Ao26 t479.length co26, .slice Ao27 t482.length co27, .slice Ao28 t485.length co28] 27 (0, 0)) (bf1 BK489 NB489_518) hb); replace BK503 := Aside0.mk (blk_below (g := gb503) (o := .cells #[.slice Ao32 t490.length co32, .int .i64 t493, .slice Ao36 t494.length co36, .slice Ao37 t497.length co37, .slice Ao38 t500.length co38] 27 (0, 0)) (bf1 BK503 NB503_518) hb); replace BK518 := Aside0.mk (blk_below (g := gb518) (o := .cells #[.slice Ao41 t504.length co41, .int .i64 t507, .slice Ao46 t508.length co46, .slice Ao47 t511.length co47, .slice Ao48 t514.length co48] 27 (0, 0)) (by (with_reducible repeat (first | refine blk_drewN ?_ _ | refine blk_drew ?_ | refine blk_alloc ?_ _)); refine blk_put (cs := #[.slice Ao41 t504.length co41, .int .i64 t507, .slice Ao46 t508.length co46, .slice Ao47 t511.length co47, .slice none 0 0]) ?_ 4 _ rfl; (with_reducible repeat (first | refine blk_drewN ?_ _ | refine blk_drew ?_ | refine blk_alloc ?_ _)); refine blk_put (cs := #[.slice Ao41 t504.length co41, .int .i64 t507, .slice Ao46 t508.length co46, .slice none 0 0, .slice none 0 0]) ?_ 3 _ rfl; (with_reducible repeat (first | refine blk_drewN ?_ _ | refine blk_drew ?_ | refine blk_alloc ?_ _)); refine blk_put (cs := #[.slice Ao41 t504.length co41, .int .i64 t507, .slice none 0 0, .slice none 0 0, .slice none 0 0]) ?_ 2 _ rfl; (with_reducible repeat (first | refine blk_drewN ?_ _ | refine blk_drew ?_ | refine blk_alloc ?_ _)); refine blk_put (cs := #[.slice Ao41 t504.length co41, .int .i64 0, .slice none 0 0, .slice none 0 0, .slice none 0 0]) ?_ 1 _ rfl; (with_reducible repeat (first | refine blk_drewN ?_ _ | refine blk_drew ?_ | refine blk_alloc ?_ _)); refine blk_put (cs := #[.slice none 0 0, .int .i64 0, .slice none 0 0, .slice none 0 0, .slice none 0 0]) ?_ 0 _ rfl; (with_reducible repeat (first | refine blk_drewN ?_ _ | refine blk_drew ?_ | refine blk_alloc ?_ _)); exact BK518.out) hb); replace HB := Aside0.mk (below_step (be4 HB GE460 GE489 GE503 GE518) hb); (try clear hb)))
  go_meet
  case rel => exact ⟨_, (true), rs, H', ⟨by first | omega | exact Nat.le_refl _⟩, ⟨rom HO477⟩, ⟨rom HO481⟩, ⟨rom HO484⟩, ⟨rom HO487⟩, ⟨rom HO492⟩, ⟨rom HO496⟩, ⟨rom HO499⟩, ⟨rom HO502⟩, ⟨rom HO506⟩, ⟨rom HO510⟩, ⟨rom HO513⟩, ⟨rom HO516⟩, ⟨bk BK460⟩, ⟨bk BK489⟩, ⟨bk BK503⟩, ⟨bk BK518⟩, ⟨be4 HB GE460 GE489 GE503 GE518⟩⟩
 case rest =>
  clear HC11
  try clear c1; try clear c2; try clear p2; try clear c3; try clear c3b0; try clear c4; try clear c5; try clear c6; try clear c10; try clear c16; try clear c19; try clear c21; try clear c24; try clear c33; try clear c34; try clear c36; try clear c37; try clear c42; try clear c43; try clear c44; try clear c50; try clear c51; try clear c52; try clear c53; try clear c55; try clear c56; try clear c59; try clear c60; try clear c61; try clear c63; try clear c64; try clear hcz13_0; try clear hcz15_0; try clear hcz25_0; try clear hcz29_0; try clear hcz35_0; try clear hcz45_0; try clear hcz54_0; try clear hcz57_0; try clear hcz5_0; try clear hcz62_0; try clear hcz65_0
  obtain ⟨kq, x40_10, rfl, HA, HJ10, HO_490000, HO_490002, HO_490003, HO_490004, HO_504000, HO_504002, HO_504003, HO_504004, HO_519000, HO_519002, HO_519003, HO_519004, BK460, BK489, BK503, BK518, HB⟩ := hcut
  cases kq with
  | zero => exact absurd HA.out (by simp [laws_FnExactTurn.j0])
  | succ kj10 =>
   have H := HA.out
   clear HA
   simp only [laws_FnExactTurn.j0] at H
   by_cases c67 : x40_10 = true
   ·subst c67
    rw [if_pos rfl] at H
    exact absurd ((Option.some.inj H).trans hrt_.out) (by decide)
   replace c67 := Bool.eq_false_iff.mpr c67
   subst c67
   rw [if_neg (show ¬ (false = true) by decide)] at H
   replace H := Option.bind_eq_some_iff.mp H
   obtain ⟨⟨t520, t523, t524, t527, t530⟩, A680, H⟩ := H
   try dsimp only at H
   have A68 := Aside0.mk A680
   clear A680
   replace H := Option.bind_eq_some_iff.mp H
   obtain ⟨t533, A690, H⟩ := H
   try dsimp only at H
   have A69 := Aside0.mk A690
   clear A690
   by_cases c70 : t533 = true
   ·subst c70
    rw [if_pos rfl] at H
    replace H := Option.bind_eq_some_iff.mp H
    obtain ⟨⟨t534, t535, t536, t537, t538⟩, A710, H⟩ := H
    try dsimp only at H
    have A71 := Aside0.mk A710
    clear A710
    have HC72 := Aside0.mk H
    clear H
    try go_wp2
    have n0_ := Aside0.mk (Kd.R_drew HO_490000.out)
    have n1_ := Aside0.mk (Kd.R_drew HO_490002.out)
    have n2_ := Aside0.mk (Kd.R_drew HO_490003.out)
    have n3_ := Aside0.mk (Kd.R_drew HO_490004.out)
    have n4_ := Aside0.mk (Kd.R_drew HO_504000.out)
    have n5_ := Aside0.mk (Kd.R_drew HO_504002.out)
    have n6_ := Aside0.mk (Kd.R_drew HO_504003.out)
    have n7_ := Aside0.mk (Kd.R_drew HO_504004.out)
    have n8_ := Aside0.mk (Kd.R_drew HO_519000.out)
    have n9_ := Aside0.mk (Kd.R_drew HO_519002.out)
    have n10_ := Aside0.mk (Kd.R_drew HO_519003.out)
    have n11_ := Aside0.mk (Kd.R_drew HO_519004.out)
    have n12_ := Aside0.mk (blk_drew BK460.out)
    have n13_ := Aside0.mk (blk_drew BK489.out)
    have n14_ := Aside0.mk (blk_drew BK503.out)
    have n15_ := Aside0.mk (blk_drew BK518.out)
    have n16_ := Aside0.mk (below_drew1 HB.out)
    clear HO_490000
    clear HO_490002
    clear HO_490003
    clear HO_490004
    clear HO_504000
    clear HO_504002
    clear HO_504003
    clear HO_504004
    clear HO_519000
    clear HO_519002
    clear HO_519003
    clear HO_519004
    clear BK460
    clear BK489
    clear BK503
    clear BK518
    clear HB
    have HO_490000 := n0_
    have HO_490002 := n1_
    have HO_490003 := n2_
    have HO_490004 := n3_
    have HO_504000 := n4_
    have HO_504002 := n5_
    have HO_504003 := n6_
    have HO_504004 := n7_
    have HO_519000 := n8_
    have HO_519002 := n9_
    have HO_519003 := n10_
    have HO_519004 := n11_
    have BK460 := n12_
    have BK489 := n13_
    have BK503 := n14_
    have BK518 := n15_
    have HB := n16_
    clear n0_ n1_ n2_ n3_ n4_ n5_ n6_ n7_ n8_ n9_ n10_ n11_ n12_ n13_ n14_ n15_ n16_
    refine start_ (n := 5) (S := fun w' => w'.cell? ⟨gb503, 0, none⟩ = some (.slice Ao32 t490.length co32) ∧ w'.cell? ⟨gb503, 1, none⟩ = some (.int .i64 t493) ∧ w'.cell? ⟨gb503, 2, none⟩ = some (.slice Ao36 t494.length co36) ∧ w'.cell? ⟨gb503, 3, none⟩ = some (.slice Ao37 t497.length co37) ∧ w'.cell? ⟨gb503, 4, none⟩ = some (.slice Ao38 t500.length co38) ∧ w'.cell? ⟨gb460, 0, none⟩ = some (.slice A0_0 l0_0.length c0_0) ∧ w'.cell? ⟨gb460, 1, none⟩ = some (.int .i64 a0_1) ∧ w'.cell? ⟨gb460, 2, none⟩ = some (.slice A0_2 l0_2.length c0_2) ∧ w'.cell? ⟨gb460, 3, none⟩ = some (.slice A0_3 l0_3.length c0_3) ∧ w'.cell? ⟨gb460, 4, none⟩ = some (.slice A0_4 l0_4.length c0_4)) (ds := []) (bv 5 0x0) (by kernel_rfl) rfl rfl ⟨bc0 BK503, bc1 BK503, bc2 BK503, bc3 BK503, bc4 BK503, bc0 BK460, bc1 BK460, bc2 BK460, bc3 BK460, bc4 BK460⟩ (fun hHeld => ?_)
    generalize wc.drew = w73 at HO_490000 HO_490002 HO_490003 HO_490004 HO_504000 HO_504002 HO_504003 HO_504004 HO_519000 HO_519002 HO_519003 HO_519004 BK460 BK489 BK503 BK518 HB hHeld ⊢
    refine take_ (i := 0) (N := some 41) (v := ?_) (a' := ?_) (bv 5 0x1) rfl rfl (by kernel_rfl) (fun _ _ _ h => h) (Or.inl ⟨by rfl, ?_⟩) hHeld ?_ ?_
    rotate_left
    ·rintro w' ⟨s0, s1, s2, s3, s4, s5, s6, s7, s8, s9⟩
     go_simp
     with_reducible rfl
    rotate_left
    ·simp only [aP]
     rfl
    refine take_ (i := 1) (N := some 42) (v := ?_) (a' := ?_) (bv 5 0x3) rfl rfl (by kernel_rfl) (fun _ _ _ h => h) (Or.inl ⟨by rfl, ?_⟩) hHeld ?_ ?_
    rotate_left
    ·rintro w' ⟨s0, s1, s2, s3, s4, s5, s6, s7, s8, s9⟩
     go_simp
     with_reducible rfl
    rotate_left
    ·simp only [aP]
     rfl
    refine one_ (i := 2) (N := some 43) (bv 5 0x7) rfl rfl (by kernel_rfl) (by decide) (fun K hK => ?_)
    refine goes_ Try.func21 (by kernel_rfl) rfl #[.agg #[.slice A0_0 l0_0.length c0_0, .int .i64 a0_1, .slice A0_2 l0_2.length c0_2, .slice A0_3 l0_3.length c0_3, .slice A0_4 l0_4.length c0_4]] (by rfl) rfl rfl ml ?_
    with_reducible refine (laws_toPool.calls kj10 _ _ l0_0 a0_1 _ _ l0_2 _ _ l0_3 _ _ l0_4 t520 t523 t524 t527 t530 _ ?side1 ?side2 ?side3 ?side4 ?side5 ?side6 ?side7 ?side8 A68.out).mono ?_
    (case side1 => exact cb HR0_0 HB)
    (case side2 => exact HC0_0.out)
    (case side3 => exact cb HR0_2 HB)
    (case side4 => exact HC0_2.out)
    (case side5 => exact cb HR0_3 HB)
    (case side6 => exact HC0_3.out)
    (case side7 => exact cb HR0_4 HB)
    (case side8 => exact HC0_4.out)
    rintro e w74 ⟨v521, v525, v528, v531, rfl, ho0, ho1, ho2, ho3, hb⟩
    refine ⟨_, rfl, ?_⟩
    have n0_ := td3 (ro HO_490000) hb ho0 ho1 ho3
    have n1_ := td3 (ro HO_490002) hb ho0 ho1 ho3
    have n2_ := Aside0.mk (Kd.R_elder' (ro HO_490003) (Kd.R_base ho2) hb)
    have n3_ := td3 (ro HO_490004) hb ho0 ho1 ho3
    have n4_ := td3 (ro HO_504000) hb ho0 ho1 ho3
    have n5_ := td3 (ro HO_504002) hb ho0 ho1 ho3
    have n6_ := Aside0.mk (Kd.R_elder' (ro HO_504003) (Kd.R_base ho2) hb)
    have n7_ := td3 (ro HO_504004) hb ho0 ho1 ho3
    have n8_ := td3 (ro HO_519000) hb ho0 ho1 ho3
    have n9_ := td3 (ro HO_519002) hb ho0 ho1 ho3
    have n10_ := Aside0.mk (Kd.R_elder' (ro HO_519003) (Kd.R_base ho2) hb)
    have n11_ := td3 (ro HO_519004) hb ho0 ho1 ho3
    have n12_ := Aside0.mk (Kd.R_lower (nw (nw (nw (nw (nw (nw (nw (nw (nw ho0 HO_490000) HO_490002) HO_490004) HO_504000) HO_504002) HO_504004) HO_519000) HO_519002) HO_519004) (below_size (be4 HB GE460 GE489 GE503 GE518)))
    have n13_ := Aside0.mk (Kd.R_lower (nw (nw (nw (nw (nw (nw (nw (nw (nw ho1 HO_490000) HO_490002) HO_490004) HO_504000) HO_504002) HO_504004) HO_519000) HO_519002) HO_519004) (below_size (be4 HB GE460 GE489 GE503 GE518)))
    have n14_ := Aside0.mk (Kd.R_lower (nw (nw (nw ho2 HO_490003) HO_504003) HO_519003) (below_size (be4 HB GE460 GE489 GE503 GE518)))
    have n15_ := Aside0.mk (Kd.R_lower (nw (nw (nw (nw (nw (nw (nw (nw (nw ho3 HO_490000) HO_490002) HO_490004) HO_504000) HO_504002) HO_504004) HO_519000) HO_519002) HO_519004) (below_size (be4 HB GE460 GE489 GE503 GE518)))
    have n16_ := bb BK460 hb
    have n17_ := bb BK489 hb
    have n18_ := bb BK503 hb
    have n19_ := bb BK518 hb
    have n20_ := Aside0.mk (below_step (be4 HB GE460 GE489 GE503 GE518) hb)
    clear HO_490000
    clear HO_490002
    clear HO_490003
    clear HO_490004
    clear HO_504000
    clear HO_504002
    clear HO_504003
    clear HO_504004
    clear HO_519000
    clear HO_519002
    clear HO_519003
    clear HO_519004
    clear BK460
    clear BK489
    clear BK503
    clear BK518
    clear HB
    have HO_490000 := n0_
    have HO_490002 := n1_
    have HO_490003 := n2_
    have HO_490004 := n3_
    have HO_504000 := n4_
    have HO_504002 := n5_
    have HO_504003 := n6_
    have HO_504004 := n7_
    have HO_519000 := n8_
    have HO_519002 := n9_
    have HO_519003 := n10_
    have HO_519004 := n11_
    have HO522 := n12_
    have HO526 := n13_
    have HO529 := n14_
    have HO532 := n15_
    have BK460 := n16_
    have BK489 := n17_
    have BK503 := n18_
    have BK518 := n19_
    have HB := n20_
    clear n0_ n1_ n2_ n3_ n4_ n5_ n6_ n7_ n8_ n9_ n10_ n11_ n12_ n13_ n14_ n15_ n16_ n17_ n18_ n19_ n20_
    (try clear hb)
    (try clear hb2)
    (try clear hk)
    (try clear hi)
    (try clear ho0)
    (try clear ho1)
    (try clear ho2)
    (try clear ho3)
    obtain ⟨Ao75, co75, eo75⟩ := Kd.R_slice HO522.out
    (first | subst eo75 | (injection eo75 with f1_ f2_ f3_; have f4_ := f1_.symm; have f5_ := f3_.symm; clear f1_ f2_ f3_; subst f4_; subst f5_))
    obtain ⟨Ao76, co76, eo76⟩ := Kd.R_slice HO526.out
    (first | subst eo76 | (injection eo76 with f1_ f2_ f3_; have f4_ := f1_.symm; have f5_ := f3_.symm; clear f1_ f2_ f3_; subst f4_; subst f5_))
    obtain ⟨Ao77, co77, eo77⟩ := Kd.R_slice HO529.out
    (first | subst eo77 | (injection eo77 with f1_ f2_ f3_; have f4_ := f1_.symm; have f5_ := f3_.symm; clear f1_ f2_ f3_; subst f4_; subst f5_))
    obtain ⟨Ao78, co78, eo78⟩ := Kd.R_slice HO532.out
    (first | subst eo78 | (injection eo78 with f1_ f2_ f3_; have f4_ := f1_.symm; have f5_ := f3_.symm; clear f1_ f2_ f3_; subst f4_; subst f5_))
    refine hK.out _ _ ⟨bc0 BK503, bc1 BK503, bc2 BK503, bc3 BK503, bc4 BK503, bc0 BK460, bc1 BK460, bc2 BK460, bc3 BK460, bc4 BK460⟩ (fun hHeld => ?_)
    clear hK K
    refine norm_ (a' := ?_) ?_ ?_
    rotate_left
    ·show Act.put _ (some 43) _ = _
     simp only [aP]
     rfl
    refine one_ (i := 3) (N := some 44) (bv 5 0xf) rfl rfl (by kernel_rfl) (by decide) (fun K hK => ?_)
    refine goes_ Try.func16 (by kernel_rfl) rfl #[.agg #[.slice Ao32 t490.length co32, .int .i64 t493, .slice Ao36 t494.length co36, .slice Ao37 t497.length co37, .slice Ao38 t500.length co38], .agg #[.slice Ao75 t520.length co75, .int .i64 t523, .slice Ao76 t524.length co76, .slice Ao77 t527.length co77, .slice Ao78 t530.length co78]] (by rfl) rfl rfl ml ?_
    with_reducible refine (laws_eqPool.calls kj10 _ _ t490 t493 _ _ t494 _ _ t497 _ _ t500 _ _ t520 t523 _ _ t524 _ _ t527 _ _ t530 true _ ?side1 ?side2 ?side3 ?side4 ?side5 ?side6 ?side7 ?side8 ?side9 ?side10 ?side11 ?side12 ?side13 ?side14 ?side15 ?side16 A69.out).mono ?_
    (case side1 => exact cr HO_504000)
    (case side2 => exact (Kd.R_reads' HO_504000.out).2.1)
    (case side3 => exact cr HO_504002)
    (case side4 => exact (Kd.R_reads' HO_504002.out).2.1)
    (case side5 => exact cr HO_504003)
    (case side6 => exact (Kd.R_reads' HO_504003.out).2.1)
    (case side7 => exact cr HO_504004)
    (case side8 => exact (Kd.R_reads' HO_504004.out).2.1)
    (case side9 => exact cr HO522)
    (case side10 => exact (Kd.R_reads' HO522.out).2.1)
    (case side11 => exact cr HO526)
    (case side12 => exact (Kd.R_reads' HO526.out).2.1)
    (case side13 => exact cr HO529)
    (case side14 => exact (Kd.R_reads' HO529.out).2.1)
    (case side15 => exact cr HO532)
    (case side16 => exact (Kd.R_reads' HO532.out).2.1)
    rintro e w79 ⟨rfl, hb⟩
    refine ⟨_, rfl, ?_⟩
    have n0_ := rb HO_490000 hb
    have n1_ := rb HO_490002 hb
    have n2_ := rb HO_490003 hb
    have n3_ := rb HO_490004 hb
    have n4_ := rb HO_504000 hb
    have n5_ := rb HO_504002 hb
    have n6_ := rb HO_504003 hb
    have n7_ := rb HO_504004 hb
    have n8_ := rb HO_519000 hb
    have n9_ := rb HO_519002 hb
    have n10_ := rb HO_519003 hb
    have n11_ := rb HO_519004 hb
    have n12_ := rb HO522 hb
    have n13_ := rb HO526 hb
    have n14_ := rb HO529 hb
    have n15_ := rb HO532 hb
    have n16_ := bb BK460 hb
    have n17_ := bb BK489 hb
    have n18_ := bb BK503 hb
    have n19_ := bb BK518 hb
    have n20_ := Aside0.mk (below_step (be4 HB GE460 GE489 GE503 GE518) hb)
    clear HO_490000
    clear HO_490002
    clear HO_490003
    clear HO_490004
    clear HO_504000
    clear HO_504002
    clear HO_504003
    clear HO_504004
    clear HO_519000
    clear HO_519002
    clear HO_519003
    clear HO_519004
    clear HO522
    clear HO526
    clear HO529
    clear HO532
    clear BK460
    clear BK489
    clear BK503
    clear BK518
    clear HB
    have HO_490000 := n0_
    have HO_490002 := n1_
    have HO_490003 := n2_
    have HO_490004 := n3_
    have HO_504000 := n4_
    have HO_504002 := n5_
    have HO_504003 := n6_
    have HO_504004 := n7_
    have HO_519000 := n8_
    have HO_519002 := n9_
    have HO_519003 := n10_
    have HO_519004 := n11_
    have HO522 := n12_
    have HO526 := n13_
    have HO529 := n14_
    have HO532 := n15_
    have BK460 := n16_
    have BK489 := n17_
    have BK503 := n18_
    have BK518 := n19_
    have HB := n20_
    clear n0_ n1_ n2_ n3_ n4_ n5_ n6_ n7_ n8_ n9_ n10_ n11_ n12_ n13_ n14_ n15_ n16_ n17_ n18_ n19_ n20_
    (try clear hb)
    (try clear hb2)
    (try clear hk)
    (try clear hi)
    refine hK.out _ _ ⟨bc0 BK503, bc1 BK503, bc2 BK503, bc3 BK503, bc4 BK503, bc0 BK460, bc1 BK460, bc2 BK460, bc3 BK460, bc4 BK460⟩ (fun hHeld => ?_)
    clear hK K
    refine norm_ (a' := ?_) ?_ ?_
    rotate_left
    ·show Act.put _ (some 44) _ = _
     simp only [aP]
     rfl
    refine pure_ (i := 4) (N := some 45) (v := ?_) (a' := ?_) (bv 5 0x1f) rfl rfl (by kernel_rfl) (fun _ _ _ h => h) (Or.inl ⟨by rfl, ?_⟩) ?_ ?_
    rotate_left
    ·intro w'
     go_simp
     with_reducible rfl
    rotate_left
    ·simp only [aP]
     rfl
    refine done_ (by kernel_rfl) ?_
    have hnb80 := NB503_460.out
    have hnc80 := NB460_503.out
    have hnb81 := NB503_489.out
    have hnc81 := NB489_503.out
    have hnb82 := NB503_518.out
    have hnc82 := NB518_503.out
    have hcz83_0 := bz5 BK503
    go_upto_region 14 with (first | ((with_reducible refine gate_callee (f := 17) rfl ?_); refine gl 48 Try.func17 #[.agg #[.slice Ao32 t490.length co32, .int .i64 t493, .slice Ao36 t494.length co36, .slice Ao37 t497.length co37, .slice Ao38 t500.length co38], .int .i64 1] ?_; (with_reducible refine (laws_markPool.calls kj10 (fun k_ => some k_ = (.slice Ao32 t490.length co32 : Value).ownBlock) (.slice Ao32 t490.length co32) t490 t493 (fun k_ => some k_ = (.slice Ao36 t494.length co36 : Value).ownBlock) (.slice Ao36 t494.length co36) t494 (fun k_ => some k_ = (.slice Ao37 t497.length co37 : Value).ownBlock) (.slice Ao37 t497.length co37) t497 (fun k_ => some k_ = (.slice Ao38 t500.length co38 : Value).ownBlock) (.slice Ao38 t500.length co38) t500 1 t534 t535 t536 t537 t538 w _ ?side1 ?side2 ?side3 ?side4 ?side5 ?side6 ?side7 ?side8 ?side9 ?side10 ?side11 A71.out).mono ?_); (case side1 => repeat (first | (with_reducible first | exact HB.out | apply below_alloc | apply pw_below_drewN | apply below_drew1 | refine below_set ?_ GE460.out | refine below_set ?_ GE489.out | refine below_set ?_ GE503.out | refine below_set ?_ GE518.out) | exact HB.out)); (case side2 => exact Kd.R_tight rfl HO_504000.out); (case side3 => exact fun k_ e_ => (HO_504000.out.1 k_ e_.symm).1.1.1.2.2.2.1); (case side4 => exact fun k_ e_ => (HO_504000.out.1 k_ e_.symm).1.1.1.2.2.2.2.1); (case side5 => exact Kd.R_tight rfl HO_504002.out); (case side6 => exact fun k_ e_ => (HO_504002.out.1 k_ e_.symm).1.1.1.2.2.2.1); (case side7 => exact fun k_ e_ => (HO_504002.out.1 k_ e_.symm).1.1.1.2.2.2.2.1); (case side8 => exact Kd.R_tight rfl HO_504003.out); (case side9 => exact Kd.R_tight rfl HO_504004.out); (case side10 => exact fun k_ e_ => (HO_504004.out.1 k_ e_.symm).1.1.1.2.2.2.1); (case side11 => exact fun k_ e_ => (HO_504004.out.1 k_ e_.symm).1.1.1.2.2.2.2.1); rintro e w84 ⟨rfl, hy0, hy1, hy2, hy3, hb, hkp⟩; refine ⟨_, rfl, ?_⟩; replace HO_490000 := Aside0.mk (Kd.R_mono (ok' := fun k_ => nb k_ Ao26 t479.length co26 ∧ nb k_ Ao28 t485.length co28 ∧ nb k_ Ao32 t490.length co32 ∧ nb k_ Ao36 t494.length co36 ∧ nb k_ Ao38 t500.length co38 ∧ nb k_ Ao41 t504.length co41 ∧ nb k_ Ao46 t508.length co46 ∧ nb k_ Ao48 t514.length co48 ∧ nb k_ Ao75 t520.length co75 ∧ nb k_ Ao76 t524.length co76 ∧ nb k_ Ao78 t530.length co78) (Kd.R_keptB ((Kd.R_apart' HO_490000.out (Kd.R_typed HO_504003.out) (by decide))) hkp (fun k_ hk_ hs_ => Or.elim hs_ (fun e_ => (hk_.1.1.1.1.2.2.1) e_) (fun e_ => Or.elim e_ (fun e_ => (hk_.1.1.1.1.2.2.2.1) e_) (fun e_ => Or.elim e_ (fun e_ => (hk_.2) e_) (fun e_ => (hk_.1.1.1.1.2.2.2.2.1) e_))))) cj); replace HO_490002 := Aside0.mk (Kd.R_mono (ok' := fun k_ => nb k_ Ao23 t475.length co23 ∧ nb k_ Ao28 t485.length co28 ∧ nb k_ Ao32 t490.length co32 ∧ nb k_ Ao36 t494.length co36 ∧ nb k_ Ao38 t500.length co38 ∧ nb k_ Ao41 t504.length co41 ∧ nb k_ Ao46 t508.length co46 ∧ nb k_ Ao48 t514.length co48 ∧ nb k_ Ao75 t520.length co75 ∧ nb k_ Ao76 t524.length co76 ∧ nb k_ Ao78 t530.length co78) (Kd.R_keptB ((Kd.R_apart' HO_490002.out (Kd.R_typed HO_504003.out) (by decide))) hkp (fun k_ hk_ hs_ => Or.elim hs_ (fun e_ => (hk_.1.1.1.1.2.2.1) e_) (fun e_ => Or.elim e_ (fun e_ => (hk_.1.1.1.1.2.2.2.1) e_) (fun e_ => Or.elim e_ (fun e_ => (hk_.2) e_) (fun e_ => (hk_.1.1.1.1.2.2.2.2.1) e_))))) cj); replace HO_490003 := Aside0.mk (Kd.R_mono (ok' := fun k_ => nb k_ Ao37 t497.length co37 ∧ nb k_ Ao47 t511.length co47 ∧ nb k_ Ao77 t527.length co77) (Kd.R_keptB ((Kd.R_apart' (Kd.R_apart' (Kd.R_apart' HO_490003.out (Kd.R_typed HO_504000.out) (by decide)) (Kd.R_typed HO_504002.out) (by decide)) (Kd.R_typed HO_504004.out) (by decide))) hkp (fun k_ hk_ hs_ => Or.elim hs_ (fun e_ => (hk_.1.1.2) e_) (fun e_ => Or.elim e_ (fun e_ => (hk_.1.2) e_) (fun e_ => Or.elim e_ (fun e_ => (hk_.1.1.1.1.1) e_) (fun e_ => (hk_.2) e_))))) cj); replace HO_490004 := Aside0.mk (Kd.R_mono (ok' := fun k_ => nb k_ Ao23 t475.length co23 ∧ nb k_ Ao26 t479.length co26 ∧ nb k_ Ao32 t490.length co32 ∧ nb k_ Ao36 t494.length co36 ∧ nb k_ Ao38 t500.length co38 ∧ nb k_ Ao41 t504.length co41 ∧ nb k_ Ao46 t508.length co46 ∧ nb k_ Ao48 t514.length co48 ∧ nb k_ Ao75 t520.length co75 ∧ nb k_ Ao76 t524.length co76 ∧ nb k_ Ao78 t530.length co78) (Kd.R_keptB ((Kd.R_apart' HO_490004.out (Kd.R_typed HO_504003.out) (by decide))) hkp (fun k_ hk_ hs_ => Or.elim hs_ (fun e_ => (hk_.1.1.1.1.2.2.1) e_) (fun e_ => Or.elim e_ (fun e_ => (hk_.1.1.1.1.2.2.2.1) e_) (fun e_ => Or.elim e_ (fun e_ => (hk_.2) e_) (fun e_ => (hk_.1.1.1.1.2.2.2.2.1) e_))))) cj); replace HO_519000 := Aside0.mk (Kd.R_mono (ok' := fun k_ => nb k_ Ao23 t475.length co23 ∧ nb k_ Ao26 t479.length co26 ∧ nb k_ Ao28 t485.length co28 ∧ nb k_ Ao32 t490.length co32 ∧ nb k_ Ao36 t494.length co36 ∧ nb k_ Ao38 t500.length co38 ∧ nb k_ Ao46 t508.length co46 ∧ nb k_ Ao48 t514.length co48 ∧ nb k_ Ao75 t520.length co75 ∧ nb k_ Ao76 t524.length co76 ∧ nb k_ Ao78 t530.length co78) (Kd.R_keptB ((Kd.R_apart' HO_519000.out (Kd.R_typed HO_504003.out) (by decide))) hkp (fun k_ hk_ hs_ => Or.elim hs_ (fun e_ => (hk_.1.1.1.1.2.2.2.1) e_) (fun e_ => Or.elim e_ (fun e_ => (hk_.1.1.1.1.2.2.2.2.1) e_) (fun e_ => Or.elim e_ (fun e_ => (hk_.2) e_) (fun e_ => (hk_.1.1.1.1.2.2.2.2.2.1) e_))))) cj); replace HO_519002 := Aside0.mk (Kd.R_mono (ok' := fun k_ => nb k_ Ao23 t475.length co23 ∧ nb k_ Ao26 t479.length co26 ∧ nb k_ Ao28 t485.length co28 ∧ nb k_ Ao32 t490.length co32 ∧ nb k_ Ao36 t494.length co36 ∧ nb k_ Ao38 t500.length co38 ∧ nb k_ Ao41 t504.length co41 ∧ nb k_ Ao48 t514.length co48 ∧ nb k_ Ao75 t520.length co75 ∧ nb k_ Ao76 t524.length co76 ∧ nb k_ Ao78 t530.length co78) (Kd.R_keptB ((Kd.R_apart' HO_519002.out (Kd.R_typed HO_504003.out) (by decide))) hkp (fun k_ hk_ hs_ => Or.elim hs_ (fun e_ => (hk_.1.1.1.1.2.2.2.1) e_) (fun e_ => Or.elim e_ (fun e_ => (hk_.1.1.1.1.2.2.2.2.1) e_) (fun e_ => Or.elim e_ (fun e_ => (hk_.2) e_) (fun e_ => (hk_.1.1.1.1.2.2.2.2.2.1) e_))))) cj); replace HO_519003 := Aside0.mk (Kd.R_mono (ok' := fun k_ => nb k_ Ao27 t482.length co27 ∧ nb k_ Ao37 t497.length co37 ∧ nb k_ Ao77 t527.length co77) (Kd.R_keptB ((Kd.R_apart' (Kd.R_apart' (Kd.R_apart' HO_519003.out (Kd.R_typed HO_504000.out) (by decide)) (Kd.R_typed HO_504002.out) (by decide)) (Kd.R_typed HO_504004.out) (by decide))) hkp (fun k_ hk_ hs_ => Or.elim hs_ (fun e_ => (hk_.1.1.2) e_) (fun e_ => Or.elim e_ (fun e_ => (hk_.1.2) e_) (fun e_ => Or.elim e_ (fun e_ => (hk_.1.1.1.1.2) e_) (fun e_ => (hk_.2) e_))))) cj); replace HO_519004 := Aside0.mk (Kd.R_mono (ok' := fun k_ => nb k_ Ao23 t475.length co23 ∧ nb k_ Ao26 t479.length co26 ∧ nb k_ Ao28 t485.length co28 ∧ nb k_ Ao32 t490.length co32 ∧ nb k_ Ao36 t494.length co36 ∧ nb k_ Ao38 t500.length co38 ∧ nb k_ Ao41 t504.length co41 ∧ nb k_ Ao46 t508.length co46 ∧ nb k_ Ao75 t520.length co75 ∧ nb k_ Ao76 t524.length co76 ∧ nb k_ Ao78 t530.length co78) (Kd.R_keptB ((Kd.R_apart' HO_519004.out (Kd.R_typed HO_504003.out) (by decide))) hkp (fun k_ hk_ hs_ => Or.elim hs_ (fun e_ => (hk_.1.1.1.1.2.2.2.1) e_) (fun e_ => Or.elim e_ (fun e_ => (hk_.1.1.1.1.2.2.2.2.1) e_) (fun e_ => Or.elim e_ (fun e_ => (hk_.2) e_) (fun e_ => (hk_.1.1.1.1.2.2.2.2.2.1) e_))))) cj); replace BK460 := Aside0.mk (blk_kept (bk BK460) hkp (fun hs_ => Or.elim hs_ (fun e_ => (fun e_ => (Kd.R_ne HO_504000.out BK460.out (by decide)) e_) e_) (fun e_ => Or.elim e_ (fun e_ => (fun e_ => (Kd.R_ne HO_504002.out BK460.out (by decide)) e_) e_) (fun e_ => Or.elim e_ (fun e_ => (fun e_ => (Kd.R_ne HO_504003.out BK460.out (by decide)) e_) e_) (fun e_ => (fun e_ => (Kd.R_ne HO_504004.out BK460.out (by decide)) e_) e_))))); replace BK489 := Aside0.mk (blk_kept (bk BK489) hkp (fun hs_ => Or.elim hs_ (fun e_ => (fun e_ => (Kd.R_ne HO_504000.out BK489.out (by decide)) e_) e_) (fun e_ => Or.elim e_ (fun e_ => (fun e_ => (Kd.R_ne HO_504002.out BK489.out (by decide)) e_) e_) (fun e_ => Or.elim e_ (fun e_ => (fun e_ => (Kd.R_ne HO_504003.out BK489.out (by decide)) e_) e_) (fun e_ => (fun e_ => (Kd.R_ne HO_504004.out BK489.out (by decide)) e_) e_))))); replace BK503 := Aside0.mk (blk_kept (bk BK503) hkp (fun hs_ => Or.elim hs_ (fun e_ => (fun e_ => (Kd.R_ne HO_504000.out BK503.out (by decide)) e_) e_) (fun e_ => Or.elim e_ (fun e_ => (fun e_ => (Kd.R_ne HO_504002.out BK503.out (by decide)) e_) e_) (fun e_ => Or.elim e_ (fun e_ => (fun e_ => (Kd.R_ne HO_504003.out BK503.out (by decide)) e_) e_) (fun e_ => (fun e_ => (Kd.R_ne HO_504004.out BK503.out (by decide)) e_) e_))))); replace BK518 := Aside0.mk (blk_kept (bk BK518) hkp (fun hs_ => Or.elim hs_ (fun e_ => (fun e_ => (Kd.R_ne HO_504000.out BK518.out (by decide)) e_) e_) (fun e_ => Or.elim e_ (fun e_ => (fun e_ => (Kd.R_ne HO_504002.out BK518.out (by decide)) e_) e_) (fun e_ => Or.elim e_ (fun e_ => (fun e_ => (Kd.R_ne HO_504003.out BK518.out (by decide)) e_) e_) (fun e_ => (fun e_ => (Kd.R_ne HO_504004.out BK518.out (by decide)) e_) e_))))); replace HO522 := Aside0.mk (Kd.R_mono (ok' := fun k_ => nb k_ Ao23 t475.length co23 ∧ nb k_ Ao26 t479.length co26 ∧ nb k_ Ao28 t485.length co28 ∧ nb k_ Ao32 t490.length co32 ∧ nb k_ Ao36 t494.length co36 ∧ nb k_ Ao38 t500.length co38 ∧ nb k_ Ao41 t504.length co41 ∧ nb k_ Ao46 t508.length co46 ∧ nb k_ Ao48 t514.length co48 ∧ nb k_ Ao76 t524.length co76 ∧ nb k_ Ao78 t530.length co78) (Kd.R_keptB ((Kd.R_apart' HO522.out (Kd.R_typed HO_504003.out) (by decide))) hkp (fun k_ hk_ hs_ => Or.elim hs_ (fun e_ => (hk_.1.1.1.1.1.1.2) e_) (fun e_ => Or.elim e_ (fun e_ => (hk_.1.1.1.1.1.2) e_) (fun e_ => Or.elim e_ (fun e_ => (hk_.2) e_) (fun e_ => (hk_.1.1.1.1.2) e_))))) cj); replace HO526 := Aside0.mk (Kd.R_mono (ok' := fun k_ => nb k_ Ao23 t475.length co23 ∧ nb k_ Ao26 t479.length co26 ∧ nb k_ Ao28 t485.length co28 ∧ nb k_ Ao32 t490.length co32 ∧ nb k_ Ao36 t494.length co36 ∧ nb k_ Ao38 t500.length co38 ∧ nb k_ Ao41 t504.length co41 ∧ nb k_ Ao46 t508.length co46 ∧ nb k_ Ao48 t514.length co48 ∧ nb k_ Ao75 t520.length co75 ∧ nb k_ Ao78 t530.length co78) (Kd.R_keptB ((Kd.R_apart' HO526.out (Kd.R_typed HO_504003.out) (by decide))) hkp (fun k_ hk_ hs_ => Or.elim hs_ (fun e_ => (hk_.1.1.1.1.1.1.2) e_) (fun e_ => Or.elim e_ (fun e_ => (hk_.1.1.1.1.1.2) e_) (fun e_ => Or.elim e_ (fun e_ => (hk_.2) e_) (fun e_ => (hk_.1.1.1.1.2) e_))))) cj); replace HO529 := Aside0.mk (Kd.R_mono (ok' := fun k_ => nb k_ Ao27 t482.length co27 ∧ nb k_ Ao37 t497.length co37 ∧ nb k_ Ao47 t511.length co47) (Kd.R_keptB ((Kd.R_apart' (Kd.R_apart' (Kd.R_apart' HO529.out (Kd.R_typed HO_504000.out) (by decide)) (Kd.R_typed HO_504002.out) (by decide)) (Kd.R_typed HO_504004.out) (by decide))) hkp (fun k_ hk_ hs_ => Or.elim hs_ (fun e_ => (hk_.1.1.2) e_) (fun e_ => Or.elim e_ (fun e_ => (hk_.1.2) e_) (fun e_ => Or.elim e_ (fun e_ => (hk_.1.1.1.1.2) e_) (fun e_ => (hk_.2) e_))))) cj); replace HO_504000 := Aside0.mk (Kd.R_reok rfl hy0 (fun k_ e_ => HO_504000.out.1 k_ e_)); replace HO_504002 := Aside0.mk (Kd.R_reok rfl hy1 (fun k_ e_ => HO_504002.out.1 k_ e_)); replace HO_504004 := Aside0.mk (Kd.R_reok rfl hy3 (fun k_ e_ => HO_504004.out.1 k_ e_)); replace HO532 := Aside0.mk (Kd.R_mono (ok' := fun k_ => nb k_ Ao23 t475.length co23 ∧ nb k_ Ao26 t479.length co26 ∧ nb k_ Ao28 t485.length co28 ∧ nb k_ Ao32 t490.length co32 ∧ nb k_ Ao36 t494.length co36 ∧ nb k_ Ao38 t500.length co38 ∧ nb k_ Ao41 t504.length co41 ∧ nb k_ Ao46 t508.length co46 ∧ nb k_ Ao48 t514.length co48 ∧ nb k_ Ao75 t520.length co75 ∧ nb k_ Ao76 t524.length co76) (Kd.R_keptB ((Kd.R_apart' HO532.out (Kd.R_typed HO_504003.out) (by decide))) hkp (fun k_ hk_ hs_ => Or.elim hs_ (fun e_ => (hk_.1.1.1.1.1.1.2) e_) (fun e_ => Or.elim e_ (fun e_ => (hk_.1.1.1.1.1.2) e_) (fun e_ => Or.elim e_ (fun e_ => (hk_.2) e_) (fun e_ => (hk_.1.1.1.1.2) e_))))) cj); replace HO_504003 := Aside0.mk (Kd.R_reok rfl hy2 (fun k_ e_ => HO_504003.out.1 k_ e_)); replace HB := Aside0.mk (hb); (try clear hb); (try clear hkp); (try clear hy0); (try clear hy1); (try clear hy2); (try clear hy3)))
    (try simp only [Act.put, List.setIfInBounds_toArray, List.set_cons_zero, List.set_cons_succ])
    go_cut [61] (fun v61 wc => ∃ (kq : Nat) (x61_71 : Bool), v61 = .bool x61_71 ∧ Aside0 (laws_FnExactTurn.j1 kq t488 x61_71 l0_0 a0_1 l0_2 l0_3 l0_4 t475 t478 t479 t482 t485 t504 t507 t508 t511 t514 = some r) ∧ Aside0 (kq ≤ kj10) ∧ Aside0 (Kd.R (Kd.int .i64) 3 wc w.heap.size (fun k_ => nb k_ Ao26 t479.length co26 ∧ nb k_ Ao28 t485.length co28 ∧ nb k_ Ao32 t490.length co32 ∧ nb k_ Ao36 t494.length co36 ∧ nb k_ Ao38 t500.length co38 ∧ nb k_ Ao41 t504.length co41 ∧ nb k_ Ao46 t508.length co46 ∧ nb k_ Ao48 t514.length co48) (.slice Ao23 t475.length co23) t475) ∧ Aside0 (Kd.R (Kd.int .i64) 3 wc w.heap.size (fun k_ => nb k_ Ao23 t475.length co23 ∧ nb k_ Ao28 t485.length co28 ∧ nb k_ Ao32 t490.length co32 ∧ nb k_ Ao36 t494.length co36 ∧ nb k_ Ao38 t500.length co38 ∧ nb k_ Ao41 t504.length co41 ∧ nb k_ Ao46 t508.length co46 ∧ nb k_ Ao48 t514.length co48) (.slice Ao26 t479.length co26) t479) ∧ Aside0 (Kd.R k70 70 wc w.heap.size (fun k_ => nb k_ Ao37 t497.length co37 ∧ nb k_ Ao47 t511.length co47) (.slice Ao27 t482.length co27) t482) ∧ Aside0 (Kd.R (Kd.int .i64) 3 wc w.heap.size (fun k_ => nb k_ Ao23 t475.length co23 ∧ nb k_ Ao26 t479.length co26 ∧ nb k_ Ao32 t490.length co32 ∧ nb k_ Ao36 t494.length co36 ∧ nb k_ Ao38 t500.length co38 ∧ nb k_ Ao41 t504.length co41 ∧ nb k_ Ao46 t508.length co46 ∧ nb k_ Ao48 t514.length co48) (.slice Ao28 t485.length co28) t485) ∧ Aside0 (Kd.R (Kd.int .i64) 3 wc w.heap.size (fun k_ => nb k_ Ao23 t475.length co23 ∧ nb k_ Ao26 t479.length co26 ∧ nb k_ Ao28 t485.length co28 ∧ nb k_ Ao36 t494.length co36 ∧ nb k_ Ao38 t500.length co38 ∧ nb k_ Ao41 t504.length co41 ∧ nb k_ Ao46 t508.length co46 ∧ nb k_ Ao48 t514.length co48) (.slice Ao32 t490.length co32) t535) ∧ Aside0 (Kd.R (Kd.int .i64) 3 wc w.heap.size (fun k_ => nb k_ Ao23 t475.length co23 ∧ nb k_ Ao26 t479.length co26 ∧ nb k_ Ao28 t485.length co28 ∧ nb k_ Ao32 t490.length co32 ∧ nb k_ Ao38 t500.length co38 ∧ nb k_ Ao41 t504.length co41 ∧ nb k_ Ao46 t508.length co46 ∧ nb k_ Ao48 t514.length co48) (.slice Ao36 t494.length co36) t536) ∧ Aside0 (Kd.R k70 70 wc w.heap.size (fun k_ => nb k_ Ao27 t482.length co27 ∧ nb k_ Ao47 t511.length co47) (.slice Ao37 t497.length co37) t537) ∧ Aside0 (Kd.R (Kd.int .i64) 3 wc w.heap.size (fun k_ => nb k_ Ao23 t475.length co23 ∧ nb k_ Ao26 t479.length co26 ∧ nb k_ Ao28 t485.length co28 ∧ nb k_ Ao32 t490.length co32 ∧ nb k_ Ao36 t494.length co36 ∧ nb k_ Ao41 t504.length co41 ∧ nb k_ Ao46 t508.length co46 ∧ nb k_ Ao48 t514.length co48) (.slice Ao38 t500.length co38) t538) ∧ Aside0 (Kd.R (Kd.int .i64) 3 wc w.heap.size (fun k_ => nb k_ Ao23 t475.length co23 ∧ nb k_ Ao26 t479.length co26 ∧ nb k_ Ao28 t485.length co28 ∧ nb k_ Ao32 t490.length co32 ∧ nb k_ Ao36 t494.length co36 ∧ nb k_ Ao38 t500.length co38 ∧ nb k_ Ao46 t508.length co46 ∧ nb k_ Ao48 t514.length co48) (.slice Ao41 t504.length co41) t504) ∧ Aside0 (Kd.R (Kd.int .i64) 3 wc w.heap.size (fun k_ => nb k_ Ao23 t475.length co23 ∧ nb k_ Ao26 t479.length co26 ∧ nb k_ Ao28 t485.length co28 ∧ nb k_ Ao32 t490.length co32 ∧ nb k_ Ao36 t494.length co36 ∧ nb k_ Ao38 t500.length co38 ∧ nb k_ Ao41 t504.length co41 ∧ nb k_ Ao48 t514.length co48) (.slice Ao46 t508.length co46) t508) ∧ Aside0 (Kd.R k70 70 wc w.heap.size (fun k_ => nb k_ Ao27 t482.length co27 ∧ nb k_ Ao37 t497.length co37) (.slice Ao47 t511.length co47) t511) ∧ Aside0 (Kd.R (Kd.int .i64) 3 wc w.heap.size (fun k_ => nb k_ Ao23 t475.length co23 ∧ nb k_ Ao26 t479.length co26 ∧ nb k_ Ao28 t485.length co28 ∧ nb k_ Ao32 t490.length co32 ∧ nb k_ Ao36 t494.length co36 ∧ nb k_ Ao38 t500.length co38 ∧ nb k_ Ao41 t504.length co41 ∧ nb k_ Ao46 t508.length co46) (.slice Ao48 t514.length co48) t514) ∧ Aside0 (wc.heap[gb460]? = some (.cells #[(.slice A0_0 l0_0.length c0_0), .int .i64 a0_1, (.slice A0_2 l0_2.length c0_2), (.slice A0_3 l0_3.length c0_3), (.slice A0_4 l0_4.length c0_4)] 37 (0, 0))) ∧ Aside0 (wc.heap[gb489]? = some (.cells #[(.slice Ao23 t475.length co23), .int .i64 t478, (.slice Ao26 t479.length co26), (.slice Ao27 t482.length co27), (.slice Ao28 t485.length co28)] 27 (0, 0))) ∧ Aside0 (wc.heap[gb503]? = some (.cells #[(.slice Ao32 t490.length co32), .int .i64 t493, (.slice Ao36 t494.length co36), (.slice Ao37 t497.length co37), (.slice Ao38 t500.length co38)] 27 (0, 0))) ∧ Aside0 (wc.heap[gb518]? = some (.cells #[(.slice Ao41 t504.length co41), .int .i64 t507, (.slice Ao46 t508.length co46), (.slice Ao47 t511.length co47), (.slice Ao48 t514.length co48)] 27 (0, 0))) ∧ Aside0 (Below w.heap.size w wc))
    case first =>
     have H := HC72.out
     clear HC72
     by_cases c85 : t534 < 0
     ·rw [if_pos c85] at H
      have c85b0 : decide (t534 < 0) = true := decide_eq_true c85
      clear c85
      (first | rw [c85b0] | (simp only [i64_w, i32_w]; rw [c85b0]) | skip)
      have H' := Aside0.mk H
      clear H
      go_wp2
      go_meet
      case rel => exact ⟨_, (true), rs, H', ⟨by have := HJ10.out; first | omega | exact Nat.le_refl _⟩, ⟨rom HO_490000⟩, ⟨rom HO_490002⟩, ⟨rom HO_490003⟩, ⟨rom HO_490004⟩, ⟨rom HO_504000⟩, ⟨rom HO_504002⟩, ⟨rom HO_504003⟩, ⟨rom HO_504004⟩, ⟨rom HO_519000⟩, ⟨rom HO_519002⟩, ⟨rom HO_519003⟩, ⟨rom HO_519004⟩, ⟨bk BK460⟩, ⟨bk BK489⟩, ⟨bk BK503⟩, ⟨bk BK518⟩, ⟨be4 HB GE460 GE489 GE503 GE518⟩⟩
     rw [if_neg c85] at H
     have c85b0 : decide (t534 < 0) = false := decide_eq_false c85
     clear c85
     (first | rw [c85b0] | (simp only [i64_w, i32_w]; rw [c85b0]) | skip)
     replace H := Option.bind_eq_some_iff.mp H
     obtain ⟨t539, A860, H⟩ := H
     try dsimp only at H
     have A86 := Aside0.mk A860
     clear A860
     by_cases c87 : t539 = true
     ·subst c87
      rw [if_pos rfl] at H
      have H' := Aside0.mk H
      clear H
      have hnb88 := NB518_460.out
      have hnc88 := NB460_518.out
      have hnb89 := NB518_489.out
      have hnc89 := NB489_518.out
      have hnb90 := NB518_503.out
      have hnc90 := NB503_518.out
      have hcz91_0 := bz5 BK518
      have hnb92 := NB489_460.out
      have hnc92 := NB460_489.out
      have hnb93 := NB489_503.out
      have hnc93 := NB503_489.out
      have hcz94_0 := bz5 BK489
      go_wp2_with (first | (go_at_call 16; (with_reducible refine (laws_eqPool.calls kj10 _ _ t504 t507 _ _ t508 _ _ t511 _ _ t514 _ _ t475 t478 _ _ t479 _ _ t482 _ _ t485 true _ (cr HO_519000) ((Kd.R_reads' HO_519000.out).2.1) (cr HO_519002) ((Kd.R_reads' HO_519002.out).2.1) (cr HO_519003) ((Kd.R_reads' HO_519003.out).2.1) (cr HO_519004) ((Kd.R_reads' HO_519004.out).2.1) (cr HO_490000) ((Kd.R_reads' HO_490000.out).2.1) (cr HO_490002) ((Kd.R_reads' HO_490002.out).2.1) (cr HO_490003) ((Kd.R_reads' HO_490003.out).2.1) (cr HO_490004) ((Kd.R_reads' HO_490004.out).2.1) A86.out).mono ?_); rintro e w95 ⟨rfl, hb⟩; replace HO_490000 := rb HO_490000 hb; replace HO_490002 := rb HO_490002 hb; replace HO_490003 := rb HO_490003 hb; replace HO_490004 := rb HO_490004 hb; replace HO_504000 := rb HO_504000 hb; replace HO_504002 := rb HO_504002 hb; replace HO_504003 := rb HO_504003 hb; replace HO_504004 := rb HO_504004 hb; replace HO_519000 := rb HO_519000 hb; replace HO_519002 := rb HO_519002 hb; replace HO_519003 := rb HO_519003 hb; replace HO_519004 := rb HO_519004 hb; replace HO522 := rb HO522 hb; replace HO526 := rb HO526 hb; replace HO529 := rb HO529 hb; replace HO532 := rb HO532 hb; replace BK460 := bb BK460 hb; replace BK489 := bb BK489 hb; replace BK503 := bb BK503 hb; replace BK518 := bb BK518 hb; replace HB := Aside0.mk (below_step (be4 HB GE460 GE489 GE503 GE518) hb); (try clear hb)))
      go_meet
      case rel => exact ⟨_, ((t517 != t488)), rs, H', ⟨by have := HJ10.out; first | omega | exact Nat.le_refl _⟩, ⟨rom HO_490000⟩, ⟨rom HO_490002⟩, ⟨rom HO_490003⟩, ⟨rom HO_490004⟩, ⟨rom HO_504000⟩, ⟨rom HO_504002⟩, ⟨rom HO_504003⟩, ⟨rom HO_504004⟩, ⟨rom HO_519000⟩, ⟨rom HO_519002⟩, ⟨rom HO_519003⟩, ⟨rom HO_519004⟩, ⟨bk BK460⟩, ⟨bk BK489⟩, ⟨bk BK503⟩, ⟨bk BK518⟩, ⟨be4 HB GE460 GE489 GE503 GE518⟩⟩
     replace c87 := Bool.eq_false_iff.mpr c87
     subst c87
     rw [if_neg (show ¬ (false = true) by decide)] at H
     have H' := Aside0.mk H
     clear H
     have hnb96 := NB518_460.out
     have hnc96 := NB460_518.out
     have hnb97 := NB518_489.out
     have hnc97 := NB489_518.out
     have hnb98 := NB518_503.out
     have hnc98 := NB503_518.out
     have hcz99_0 := bz5 BK518
     have hnb100 := NB489_460.out
     have hnc100 := NB460_489.out
     have hnb101 := NB489_503.out
     have hnc101 := NB503_489.out
     have hcz102_0 := bz5 BK489
     go_wp2_with (first | (go_at_call 16; (with_reducible refine (laws_eqPool.calls kj10 _ _ t504 t507 _ _ t508 _ _ t511 _ _ t514 _ _ t475 t478 _ _ t479 _ _ t482 _ _ t485 false _ (cr HO_519000) ((Kd.R_reads' HO_519000.out).2.1) (cr HO_519002) ((Kd.R_reads' HO_519002.out).2.1) (cr HO_519003) ((Kd.R_reads' HO_519003.out).2.1) (cr HO_519004) ((Kd.R_reads' HO_519004.out).2.1) (cr HO_490000) ((Kd.R_reads' HO_490000.out).2.1) (cr HO_490002) ((Kd.R_reads' HO_490002.out).2.1) (cr HO_490003) ((Kd.R_reads' HO_490003.out).2.1) (cr HO_490004) ((Kd.R_reads' HO_490004.out).2.1) A86.out).mono ?_); rintro e w103 ⟨rfl, hb⟩; replace HO_490000 := rb HO_490000 hb; replace HO_490002 := rb HO_490002 hb; replace HO_490003 := rb HO_490003 hb; replace HO_490004 := rb HO_490004 hb; replace HO_504000 := rb HO_504000 hb; replace HO_504002 := rb HO_504002 hb; replace HO_504003 := rb HO_504003 hb; replace HO_504004 := rb HO_504004 hb; replace HO_519000 := rb HO_519000 hb; replace HO_519002 := rb HO_519002 hb; replace HO_519003 := rb HO_519003 hb; replace HO_519004 := rb HO_519004 hb; replace HO522 := rb HO522 hb; replace HO526 := rb HO526 hb; replace HO529 := rb HO529 hb; replace HO532 := rb HO532 hb; replace BK460 := bb BK460 hb; replace BK489 := bb BK489 hb; replace BK503 := bb BK503 hb; replace BK518 := bb BK518 hb; replace HB := Aside0.mk (below_step (be4 HB GE460 GE489 GE503 GE518) hb); (try clear hb)))
     go_meet
     case rel => exact ⟨_, (true), rs, H', ⟨by have := HJ10.out; first | omega | exact Nat.le_refl _⟩, ⟨rom HO_490000⟩, ⟨rom HO_490002⟩, ⟨rom HO_490003⟩, ⟨rom HO_490004⟩, ⟨rom HO_504000⟩, ⟨rom HO_504002⟩, ⟨rom HO_504003⟩, ⟨rom HO_504004⟩, ⟨rom HO_519000⟩, ⟨rom HO_519002⟩, ⟨rom HO_519003⟩, ⟨rom HO_519004⟩, ⟨bk BK460⟩, ⟨bk BK489⟩, ⟨bk BK503⟩, ⟨bk BK518⟩, ⟨be4 HB GE460 GE489 GE503 GE518⟩⟩
    case rest =>
     clear HC72
     try clear c1; try clear c2; try clear p2; try clear c3; try clear c3b0; try clear c4; try clear c5; try clear c6; try clear c7; try clear c8; try clear c9; try clear c10; try clear c16; try clear c17; try clear c19; try clear c21; try clear c24; try clear c33; try clear c34; try clear c36; try clear c37; try clear c42; try clear c43; try clear c44; try clear c50; try clear c51; try clear c52; try clear c53; try clear c55; try clear c56; try clear c59; try clear c60; try clear c61; try clear c63; try clear c64; try clear c67; try clear c70; try clear c80; try clear c81; try clear c82; try clear c85; try clear c85b0; try clear c87; try clear c88; try clear c89; try clear c90; try clear c92; try clear c93; try clear c96; try clear c97; try clear c98; try clear c100; try clear c101; try clear hcz102_0; try clear hcz13_0; try clear hcz15_0; try clear hcz25_0; try clear hcz29_0; try clear hcz35_0; try clear hcz45_0; try clear hcz54_0; try clear hcz57_0; try clear hcz5_0; try clear hcz62_0; try clear hcz65_0; try clear hcz83_0; try clear hcz91_0; try clear hcz94_0; try clear hcz99_0; try clear p2
     obtain ⟨kq, x61_71, rfl, HA, HJ71, HO_490000, HO_490002, HO_490003, HO_490004, HO_504000, HO_504002, HO_504003, HO_504004, HO_519000, HO_519002, HO_519003, HO_519004, BK460, BK489, BK503, BK518, HB⟩ := hcut
     have hl504000_71 := (Kd.R_reads' HO_504000.out).1
     rw [hl504000_71] at HO_504000
     (try simp only [hl504000_71])
     (try simp only [hl504000_71] at BK460)
     (try simp only [hl504000_71] at BK489)
     (try simp only [hl504000_71] at BK503)
     (try simp only [hl504000_71] at BK518)
     (try simp only [hl504000_71] at HO_490000)
     (try simp only [hl504000_71] at HO_490002)
     (try simp only [hl504000_71] at HO_490003)
     (try simp only [hl504000_71] at HO_490004)
     (try simp only [hl504000_71] at HO_504002)
     (try simp only [hl504000_71] at HO_504003)
     (try simp only [hl504000_71] at HO_504004)
     (try simp only [hl504000_71] at HO_519000)
     (try simp only [hl504000_71] at HO_519002)
     (try simp only [hl504000_71] at HO_519003)
     (try simp only [hl504000_71] at HO_519004)
     have hl504002_71 := (Kd.R_reads' HO_504002.out).1
     rw [hl504002_71] at HO_504002
     (try simp only [hl504002_71])
     (try simp only [hl504002_71] at BK460)
     (try simp only [hl504002_71] at BK489)
     (try simp only [hl504002_71] at BK503)
     (try simp only [hl504002_71] at BK518)
     (try simp only [hl504002_71] at HO_490000)
     (try simp only [hl504002_71] at HO_490002)
     (try simp only [hl504002_71] at HO_490003)
     (try simp only [hl504002_71] at HO_490004)
     (try simp only [hl504002_71] at HO_504000)
     (try simp only [hl504002_71] at HO_504003)
     (try simp only [hl504002_71] at HO_504004)
     (try simp only [hl504002_71] at HO_519000)
     (try simp only [hl504002_71] at HO_519002)
     (try simp only [hl504002_71] at HO_519003)
     (try simp only [hl504002_71] at HO_519004)
     have hl504003_71 := (Kd.R_reads' HO_504003.out).1
     rw [hl504003_71] at HO_504003
     (try simp only [hl504003_71])
     (try simp only [hl504003_71] at BK460)
     (try simp only [hl504003_71] at BK489)
     (try simp only [hl504003_71] at BK503)
     (try simp only [hl504003_71] at BK518)
     (try simp only [hl504003_71] at HO_490000)
     (try simp only [hl504003_71] at HO_490002)
     (try simp only [hl504003_71] at HO_490003)
     (try simp only [hl504003_71] at HO_490004)
     (try simp only [hl504003_71] at HO_504000)
     (try simp only [hl504003_71] at HO_504002)
     (try simp only [hl504003_71] at HO_504004)
     (try simp only [hl504003_71] at HO_519000)
     (try simp only [hl504003_71] at HO_519002)
     (try simp only [hl504003_71] at HO_519003)
     (try simp only [hl504003_71] at HO_519004)
     have hl504004_71 := (Kd.R_reads' HO_504004.out).1
     rw [hl504004_71] at HO_504004
     (try simp only [hl504004_71])
     (try simp only [hl504004_71] at BK460)
     (try simp only [hl504004_71] at BK489)
     (try simp only [hl504004_71] at BK503)
     (try simp only [hl504004_71] at BK518)
     (try simp only [hl504004_71] at HO_490000)
     (try simp only [hl504004_71] at HO_490002)
     (try simp only [hl504004_71] at HO_490003)
     (try simp only [hl504004_71] at HO_490004)
     (try simp only [hl504004_71] at HO_504000)
     (try simp only [hl504004_71] at HO_504002)
     (try simp only [hl504004_71] at HO_504003)
     (try simp only [hl504004_71] at HO_519000)
     (try simp only [hl504004_71] at HO_519002)
     (try simp only [hl504004_71] at HO_519003)
     (try simp only [hl504004_71] at HO_519004)
     cases kq with
     | zero => exact absurd HA.out (by simp [laws_FnExactTurn.j1])
     | succ kj71 =>
      have H := HA.out
      clear HA
      simp only [laws_FnExactTurn.j1] at H
      by_cases c104 : x61_71 = true
      ·subst c104
       rw [if_pos rfl] at H
       exact absurd ((Option.some.inj H).trans hrt_.out) (by decide)
      replace c104 := Bool.eq_false_iff.mpr c104
      subst c104
      rw [if_neg (show ¬ (false = true) by decide)] at H
      replace H := Option.bind_eq_some_iff.mp H
      obtain ⟨⟨t540, t541, t542, t543, t544⟩, A1050, H⟩ := H
      try dsimp only at H
      have A105 := Aside0.mk A1050
      clear A1050
      replace H := Option.bind_eq_some_iff.mp H
      obtain ⟨t545, A1060, H⟩ := H
      try dsimp only at H
      have A106 := Aside0.mk A1060
      clear A1060
      by_cases c107 : t545 < 0
      ·rw [if_pos c107] at H
       have c107b0 : decide (t545 < 0) = true := decide_eq_true c107
       clear c107
       exact absurd ((Option.some.inj H).trans hrt_.out) (by decide)
      rw [if_neg c107] at H
      have c107b0 : decide (t545 < 0) = false := decide_eq_false c107
      clear c107
      by_cases c108 : t545 = t540
      ·rw [if_pos c108] at H
       have c108b0 : (t545 == t540) = true := beq_iff_eq.mpr c108
       have c108b1 : (t545 != t540) = false := bne_eq_false_iff_eq.mpr c108
       clear c108
       replace H := Option.bind_eq_some_iff.mp H
       obtain ⟨⟨t546, t549, t550, t553, t556⟩, A1090, H⟩ := H
       try dsimp only at H
       have A109 := Aside0.mk A1090
       clear A1090
       replace H := Option.bind_eq_some_iff.mp H
       obtain ⟨⟨t559, t562, t563, t566, t569, t572⟩, A1100, H⟩ := H
       try dsimp only at H
       have A110 := Aside0.mk A1100
       clear A1100
       have HC111 := Aside0.mk H
       clear H
       have hnb112 := NB518_460.out
       have hnc112 := NB460_518.out
       have hnb113 := NB518_489.out
       have hnc113 := NB489_518.out
       have hnb114 := NB518_503.out
       have hnc114 := NB503_518.out
       have hcz115_0 := bz5 BK518
       go_upto_region 25 with (first | ((with_reducible refine gate_callee (f := 17) rfl ?_); refine gl 64 Try.func17 #[.agg #[.slice Ao41 t504.length co41, .int .i64 t507, .slice Ao46 t508.length co46, .slice Ao47 t511.length co47, .slice Ao48 t514.length co48], .int .i64 1] ?_; (with_reducible refine (laws_markPool.calls kj71 (fun k_ => some k_ = (.slice Ao41 t504.length co41 : Value).ownBlock) (.slice Ao41 t504.length co41) t504 t507 (fun k_ => some k_ = (.slice Ao46 t508.length co46 : Value).ownBlock) (.slice Ao46 t508.length co46) t508 (fun k_ => some k_ = (.slice Ao47 t511.length co47 : Value).ownBlock) (.slice Ao47 t511.length co47) t511 (fun k_ => some k_ = (.slice Ao48 t514.length co48 : Value).ownBlock) (.slice Ao48 t514.length co48) t514 1 t540 t541 t542 t543 t544 w _ ?side1 ?side2 ?side3 ?side4 ?side5 ?side6 ?side7 ?side8 ?side9 ?side10 ?side11 A105.out).mono ?_); (case side1 => repeat (first | (with_reducible first | exact HB.out | apply below_alloc | apply pw_below_drewN | apply below_drew1 | refine below_set ?_ GE460.out | refine below_set ?_ GE489.out | refine below_set ?_ GE503.out | refine below_set ?_ GE518.out) | exact HB.out)); (case side2 => exact Kd.R_tight rfl HO_519000.out); (case side3 => exact fun k_ e_ => (HO_519000.out.1 k_ e_.symm).2.2.2.2.2.2.1); (case side4 => exact fun k_ e_ => (HO_519000.out.1 k_ e_.symm).2.2.2.2.2.2.2); (case side5 => exact Kd.R_tight rfl HO_519002.out); (case side6 => exact fun k_ e_ => (HO_519002.out.1 k_ e_.symm).2.2.2.2.2.2.1); (case side7 => exact fun k_ e_ => (HO_519002.out.1 k_ e_.symm).2.2.2.2.2.2.2); (case side8 => exact Kd.R_tight rfl HO_519003.out); (case side9 => exact Kd.R_tight rfl HO_519004.out); (case side10 => exact fun k_ e_ => (HO_519004.out.1 k_ e_.symm).2.2.2.2.2.2.1); (case side11 => exact fun k_ e_ => (HO_519004.out.1 k_ e_.symm).2.2.2.2.2.2.2); rintro e w116 ⟨rfl, hy0, hy1, hy2, hy3, hb, hkp⟩; refine ⟨_, rfl, ?_⟩; replace HO_490000 := Aside0.mk (Kd.R_mono (ok' := fun k_ => nb k_ Ao26 t479.length co26 ∧ nb k_ Ao28 t485.length co28 ∧ nb k_ Ao32 t535.length co32 ∧ nb k_ Ao36 t536.length co36 ∧ nb k_ Ao38 t538.length co38 ∧ nb k_ Ao41 t504.length co41 ∧ nb k_ Ao46 t508.length co46 ∧ nb k_ Ao48 t514.length co48) (Kd.R_keptB ((Kd.R_apart' HO_490000.out (Kd.R_typed HO_519003.out) (by decide))) hkp (fun k_ hk_ hs_ => Or.elim hs_ (fun e_ => (hk_.1.2.2.2.2.2.1) e_) (fun e_ => Or.elim e_ (fun e_ => (hk_.1.2.2.2.2.2.2.1) e_) (fun e_ => Or.elim e_ (fun e_ => (hk_.2) e_) (fun e_ => (hk_.1.2.2.2.2.2.2.2) e_))))) cj); replace HO_490002 := Aside0.mk (Kd.R_mono (ok' := fun k_ => nb k_ Ao23 t475.length co23 ∧ nb k_ Ao28 t485.length co28 ∧ nb k_ Ao32 t535.length co32 ∧ nb k_ Ao36 t536.length co36 ∧ nb k_ Ao38 t538.length co38 ∧ nb k_ Ao41 t504.length co41 ∧ nb k_ Ao46 t508.length co46 ∧ nb k_ Ao48 t514.length co48) (Kd.R_keptB ((Kd.R_apart' HO_490002.out (Kd.R_typed HO_519003.out) (by decide))) hkp (fun k_ hk_ hs_ => Or.elim hs_ (fun e_ => (hk_.1.2.2.2.2.2.1) e_) (fun e_ => Or.elim e_ (fun e_ => (hk_.1.2.2.2.2.2.2.1) e_) (fun e_ => Or.elim e_ (fun e_ => (hk_.2) e_) (fun e_ => (hk_.1.2.2.2.2.2.2.2) e_))))) cj); replace HO_490003 := Aside0.mk (Kd.R_mono (ok' := fun k_ => nb k_ Ao37 t537.length co37 ∧ nb k_ Ao47 t511.length co47) (Kd.R_keptB ((Kd.R_apart' (Kd.R_apart' (Kd.R_apart' HO_490003.out (Kd.R_typed HO_519000.out) (by decide)) (Kd.R_typed HO_519002.out) (by decide)) (Kd.R_typed HO_519004.out) (by decide))) hkp (fun k_ hk_ hs_ => Or.elim hs_ (fun e_ => (hk_.1.1.2) e_) (fun e_ => Or.elim e_ (fun e_ => (hk_.1.2) e_) (fun e_ => Or.elim e_ (fun e_ => (hk_.1.1.1.2) e_) (fun e_ => (hk_.2) e_))))) cj); replace HO_490004 := Aside0.mk (Kd.R_mono (ok' := fun k_ => nb k_ Ao23 t475.length co23 ∧ nb k_ Ao26 t479.length co26 ∧ nb k_ Ao32 t535.length co32 ∧ nb k_ Ao36 t536.length co36 ∧ nb k_ Ao38 t538.length co38 ∧ nb k_ Ao41 t504.length co41 ∧ nb k_ Ao46 t508.length co46 ∧ nb k_ Ao48 t514.length co48) (Kd.R_keptB ((Kd.R_apart' HO_490004.out (Kd.R_typed HO_519003.out) (by decide))) hkp (fun k_ hk_ hs_ => Or.elim hs_ (fun e_ => (hk_.1.2.2.2.2.2.1) e_) (fun e_ => Or.elim e_ (fun e_ => (hk_.1.2.2.2.2.2.2.1) e_) (fun e_ => Or.elim e_ (fun e_ => (hk_.2) e_) (fun e_ => (hk_.1.2.2.2.2.2.2.2) e_))))) cj); replace HO_504000 := Aside0.mk (Kd.R_mono (ok' := fun k_ => nb k_ Ao23 t475.length co23 ∧ nb k_ Ao26 t479.length co26 ∧ nb k_ Ao28 t485.length co28 ∧ nb k_ Ao36 t536.length co36 ∧ nb k_ Ao38 t538.length co38 ∧ nb k_ Ao41 t504.length co41 ∧ nb k_ Ao46 t508.length co46 ∧ nb k_ Ao48 t514.length co48) (Kd.R_keptB ((Kd.R_apart' HO_504000.out (Kd.R_typed HO_519003.out) (by decide))) hkp (fun k_ hk_ hs_ => Or.elim hs_ (fun e_ => (hk_.1.2.2.2.2.2.1) e_) (fun e_ => Or.elim e_ (fun e_ => (hk_.1.2.2.2.2.2.2.1) e_) (fun e_ => Or.elim e_ (fun e_ => (hk_.2) e_) (fun e_ => (hk_.1.2.2.2.2.2.2.2) e_))))) cj); replace HO_504002 := Aside0.mk (Kd.R_mono (ok' := fun k_ => nb k_ Ao23 t475.length co23 ∧ nb k_ Ao26 t479.length co26 ∧ nb k_ Ao28 t485.length co28 ∧ nb k_ Ao32 t535.length co32 ∧ nb k_ Ao38 t538.length co38 ∧ nb k_ Ao41 t504.length co41 ∧ nb k_ Ao46 t508.length co46 ∧ nb k_ Ao48 t514.length co48) (Kd.R_keptB ((Kd.R_apart' HO_504002.out (Kd.R_typed HO_519003.out) (by decide))) hkp (fun k_ hk_ hs_ => Or.elim hs_ (fun e_ => (hk_.1.2.2.2.2.2.1) e_) (fun e_ => Or.elim e_ (fun e_ => (hk_.1.2.2.2.2.2.2.1) e_) (fun e_ => Or.elim e_ (fun e_ => (hk_.2) e_) (fun e_ => (hk_.1.2.2.2.2.2.2.2) e_))))) cj); replace HO_504003 := Aside0.mk (Kd.R_mono (ok' := fun k_ => nb k_ Ao27 t482.length co27 ∧ nb k_ Ao47 t511.length co47) (Kd.R_keptB ((Kd.R_apart' (Kd.R_apart' (Kd.R_apart' HO_504003.out (Kd.R_typed HO_519000.out) (by decide)) (Kd.R_typed HO_519002.out) (by decide)) (Kd.R_typed HO_519004.out) (by decide))) hkp (fun k_ hk_ hs_ => Or.elim hs_ (fun e_ => (hk_.1.1.2) e_) (fun e_ => Or.elim e_ (fun e_ => (hk_.1.2) e_) (fun e_ => Or.elim e_ (fun e_ => (hk_.1.1.1.2) e_) (fun e_ => (hk_.2) e_))))) cj); replace HO_504004 := Aside0.mk (Kd.R_mono (ok' := fun k_ => nb k_ Ao23 t475.length co23 ∧ nb k_ Ao26 t479.length co26 ∧ nb k_ Ao28 t485.length co28 ∧ nb k_ Ao32 t535.length co32 ∧ nb k_ Ao36 t536.length co36 ∧ nb k_ Ao41 t504.length co41 ∧ nb k_ Ao46 t508.length co46 ∧ nb k_ Ao48 t514.length co48) (Kd.R_keptB ((Kd.R_apart' HO_504004.out (Kd.R_typed HO_519003.out) (by decide))) hkp (fun k_ hk_ hs_ => Or.elim hs_ (fun e_ => (hk_.1.2.2.2.2.2.1) e_) (fun e_ => Or.elim e_ (fun e_ => (hk_.1.2.2.2.2.2.2.1) e_) (fun e_ => Or.elim e_ (fun e_ => (hk_.2) e_) (fun e_ => (hk_.1.2.2.2.2.2.2.2) e_))))) cj); replace BK460 := Aside0.mk (blk_kept (bk BK460) hkp (fun hs_ => Or.elim hs_ (fun e_ => (fun e_ => (Kd.R_ne HO_519000.out BK460.out (by decide)) e_) e_) (fun e_ => Or.elim e_ (fun e_ => (fun e_ => (Kd.R_ne HO_519002.out BK460.out (by decide)) e_) e_) (fun e_ => Or.elim e_ (fun e_ => (fun e_ => (Kd.R_ne HO_519003.out BK460.out (by decide)) e_) e_) (fun e_ => (fun e_ => (Kd.R_ne HO_519004.out BK460.out (by decide)) e_) e_))))); replace BK489 := Aside0.mk (blk_kept (bk BK489) hkp (fun hs_ => Or.elim hs_ (fun e_ => (fun e_ => (Kd.R_ne HO_519000.out BK489.out (by decide)) e_) e_) (fun e_ => Or.elim e_ (fun e_ => (fun e_ => (Kd.R_ne HO_519002.out BK489.out (by decide)) e_) e_) (fun e_ => Or.elim e_ (fun e_ => (fun e_ => (Kd.R_ne HO_519003.out BK489.out (by decide)) e_) e_) (fun e_ => (fun e_ => (Kd.R_ne HO_519004.out BK489.out (by decide)) e_) e_))))); replace BK503 := Aside0.mk (blk_kept (bk BK503) hkp (fun hs_ => Or.elim hs_ (fun e_ => (fun e_ => (Kd.R_ne HO_519000.out BK503.out (by decide)) e_) e_) (fun e_ => Or.elim e_ (fun e_ => (fun e_ => (Kd.R_ne HO_519002.out BK503.out (by decide)) e_) e_) (fun e_ => Or.elim e_ (fun e_ => (fun e_ => (Kd.R_ne HO_519003.out BK503.out (by decide)) e_) e_) (fun e_ => (fun e_ => (Kd.R_ne HO_519004.out BK503.out (by decide)) e_) e_))))); replace BK518 := Aside0.mk (blk_kept (bk BK518) hkp (fun hs_ => Or.elim hs_ (fun e_ => (fun e_ => (Kd.R_ne HO_519000.out BK518.out (by decide)) e_) e_) (fun e_ => Or.elim e_ (fun e_ => (fun e_ => (Kd.R_ne HO_519002.out BK518.out (by decide)) e_) e_) (fun e_ => Or.elim e_ (fun e_ => (fun e_ => (Kd.R_ne HO_519003.out BK518.out (by decide)) e_) e_) (fun e_ => (fun e_ => (Kd.R_ne HO_519004.out BK518.out (by decide)) e_) e_))))); replace HO_519000 := Aside0.mk (Kd.R_reok rfl hy0 (fun k_ e_ => HO_519000.out.1 k_ e_)); replace HO_519002 := Aside0.mk (Kd.R_reok rfl hy1 (fun k_ e_ => HO_519002.out.1 k_ e_)); replace HO_519003 := Aside0.mk (Kd.R_reok rfl hy2 (fun k_ e_ => HO_519003.out.1 k_ e_)); replace HO_519004 := Aside0.mk (Kd.R_reok rfl hy3 (fun k_ e_ => HO_519004.out.1 k_ e_)); replace HB := Aside0.mk (hb); (try clear hb); (try clear hkp); (try clear hy0); (try clear hy1); (try clear hy2); (try clear hy3); have hcz117_0 := bz5 BK518) | ((with_reducible refine gate_callee (f := 18) rfl ?_); refine goesL_ (some 67) rfl rfl Try.func18 (by kernel_rfl) rfl #[.agg #[.slice Ao41 t541.length co41, .int .i64 t507, .slice Ao46 t542.length co46, .slice Ao47 t543.length co47, .slice Ao48 t544.length co48], .int .i64 1] rfl (by (try simp only [List.map_toArray, List.map_cons, List.map_nil]); first | done | (rw [show t541.length = t504.length from (Kd.R_reads' HO_519000.out).1.symm, show t542.length = t508.length from (Kd.R_reads' HO_519002.out).1.symm, show t543.length = t511.length from (Kd.R_reads' HO_519003.out).1.symm, show t544.length = t514.length from (Kd.R_reads' HO_519004.out).1.symm] <;> rfl) | rfl | (simp only [List.length_drop, List.length_take]; rfl)) ?_; (with_reducible refine (laws_heldPool.calls kj71 _ _ t541 t507 _ _ t542 _ _ t543 _ _ t544 1 t545 _ (cr HO_519000) ?side2 (cr HO_519002) ?side4 (cr HO_519003) ?side6 (cr HO_519004) ?side8 A106.out).mono ?_); (case side2 => rw [show t541.length = t504.length from (Kd.R_reads' HO_519000.out).1.symm]; exact (Kd.R_reads' HO_519000.out).2.1); (case side4 => rw [show t542.length = t508.length from (Kd.R_reads' HO_519002.out).1.symm]; exact (Kd.R_reads' HO_519002.out).2.1); (case side6 => rw [show t543.length = t511.length from (Kd.R_reads' HO_519003.out).1.symm]; exact (Kd.R_reads' HO_519003.out).2.1); (case side8 => rw [show t544.length = t514.length from (Kd.R_reads' HO_519004.out).1.symm]; exact (Kd.R_reads' HO_519004.out).2.1); rintro e w118 ⟨rfl, hb⟩; refine ⟨_, rfl, ?_⟩; replace HO_490000 := rb HO_490000 hb; replace HO_490002 := rb HO_490002 hb; replace HO_490003 := rb HO_490003 hb; replace HO_490004 := rb HO_490004 hb; replace HO_504000 := rb HO_504000 hb; replace HO_504002 := rb HO_504002 hb; replace HO_504003 := rb HO_504003 hb; replace HO_504004 := rb HO_504004 hb; replace HO_519000 := rb HO_519000 hb; replace HO_519002 := rb HO_519002 hb; replace HO_519003 := rb HO_519003 hb; replace HO_519004 := rb HO_519004 hb; replace BK460 := bb BK460 hb; replace BK489 := bb BK489 hb; replace BK503 := bb BK503 hb; replace BK518 := bb BK518 hb; replace HB := Aside0.mk (below_step (be4 HB GE460 GE489 GE503 GE518) hb); (try clear hb); have hnb119 := NB460_489.out; have hnc119 := NB489_460.out; have hnb120 := NB460_503.out; have hnc120 := NB503_460.out; have hcz121_0 := bz5 BK460) | ((with_reducible refine gate_callee (f := 21) rfl ?_); refine gl 75 Try.func21 #[.agg #[.slice A0_0 l0_0.length c0_0, .int .i64 a0_1, .slice A0_2 l0_2.length c0_2, .slice A0_3 l0_3.length c0_3, .slice A0_4 l0_4.length c0_4]] ?_; (with_reducible refine (laws_toPool.calls kj71 _ _ l0_0 a0_1 _ _ l0_2 _ _ l0_3 _ _ l0_4 t546 t549 t550 t553 t556 _ (cb HR0_0 HB) HC0_0.out (cb HR0_2 HB) HC0_2.out (cb HR0_3 HB) HC0_3.out (cb HR0_4 HB) HC0_4.out A109.out).mono ?_); rintro e w122 ⟨v547, v551, v554, v557, rfl, ho0, ho1, ho2, ho3, hb⟩; refine ⟨_, rfl, ?_⟩; have HO548 := Aside0.mk (Kd.R_lower (nw (nw (nw (nw (nw (nw (nw (nw (nw ho0 HO_490000) HO_490002) HO_490004) HO_504000) HO_504002) HO_504004) HO_519000) HO_519002) HO_519004) (below_size (be4 HB GE460 GE489 GE503 GE518))); have HO552 := Aside0.mk (Kd.R_lower (nw (nw (nw (nw (nw (nw (nw (nw (nw ho1 HO_490000) HO_490002) HO_490004) HO_504000) HO_504002) HO_504004) HO_519000) HO_519002) HO_519004) (below_size (be4 HB GE460 GE489 GE503 GE518))); have HO555 := Aside0.mk (Kd.R_lower (nw (nw (nw ho2 HO_490003) HO_504003) HO_519003) (below_size (be4 HB GE460 GE489 GE503 GE518))); replace HO_490003 := Aside0.mk (Kd.R_elder' (ro HO_490003) (Kd.R_base ho2) hb); replace HO_504003 := Aside0.mk (Kd.R_elder' (ro HO_504003) (Kd.R_base ho2) hb); replace HO_519003 := Aside0.mk (Kd.R_elder' (ro HO_519003) (Kd.R_base ho2) hb); have HO558 := Aside0.mk (Kd.R_lower (nw (nw (nw (nw (nw (nw (nw (nw (nw ho3 HO_490000) HO_490002) HO_490004) HO_504000) HO_504002) HO_504004) HO_519000) HO_519002) HO_519004) (below_size (be4 HB GE460 GE489 GE503 GE518))); replace HO_490000 := td3 (ro HO_490000) hb ho0 ho1 ho3; replace HO_490002 := td3 (ro HO_490002) hb ho0 ho1 ho3; replace HO_490004 := td3 (ro HO_490004) hb ho0 ho1 ho3; replace HO_504000 := td3 (ro HO_504000) hb ho0 ho1 ho3; replace HO_504002 := td3 (ro HO_504002) hb ho0 ho1 ho3; replace HO_504004 := td3 (ro HO_504004) hb ho0 ho1 ho3; replace HO_519000 := td3 (ro HO_519000) hb ho0 ho1 ho3; replace HO_519002 := td3 (ro HO_519002) hb ho0 ho1 ho3; replace HO_519004 := td3 (ro HO_519004) hb ho0 ho1 ho3; replace BK460 := bb BK460 hb; replace BK489 := bb BK489 hb; replace BK503 := bb BK503 hb; replace BK518 := bb BK518 hb; replace HB := Aside0.mk (below_step (be4 HB GE460 GE489 GE503 GE518) hb); (try clear hb); (try clear ho0); (try clear ho1); (try clear ho2); (try clear ho3); obtain ⟨Ao123, co123, eo123⟩ := Kd.R_slice HO548.out; subst eo123; obtain ⟨Ao124, co124, eo124⟩ := Kd.R_slice HO552.out; subst eo124; obtain ⟨Ao125, co125, eo125⟩ := Kd.R_slice HO555.out; subst eo125; obtain ⟨Ao126, co126, eo126⟩ := Kd.R_slice HO558.out; subst eo126) | ((with_reducible refine gate_callee (f := 37) rfl ?_); refine gl 76 Try.func37 #[.agg #[.slice Ao123 t546.length co123, .int .i64 t549, .slice Ao124 t550.length co124, .slice Ao125 t553.length co125, .slice Ao126 t556.length co126]] ?_; (with_reducible refine (impl_Turn.calls kj71 _ _ t546 t549 _ _ t550 _ _ t553 _ _ t556 t559 t562 t563 t566 t569 t572 _ (cr HO548) ((Kd.R_reads' HO548.out).2.1) (cr HO552) ((Kd.R_reads' HO552.out).2.1) (cr HO555) ((Kd.R_reads' HO555.out).2.1) (cr HO558) ((Kd.R_reads' HO558.out).2.1) A110.out).mono ?_); rintro e w127 ⟨v560, v564, v567, v570, rfl, ho0, ho1, ho2, ho3, hb⟩; refine ⟨_, rfl, ?_⟩; have HO561 := Aside0.mk (Kd.R_lower (nw (nw (nw (nw (nw (nw (nw (nw (nw (nw (nw (nw ho0 HO_490000) HO_490002) HO_490004) HO_504000) HO_504002) HO_504004) HO_519000) HO_519002) HO_519004) HO548) HO552) HO558) (below_size (be4 HB GE460 GE489 GE503 GE518))); have HO565 := Aside0.mk (Kd.R_lower (nw (nw (nw (nw (nw (nw (nw (nw (nw (nw (nw (nw ho1 HO_490000) HO_490002) HO_490004) HO_504000) HO_504002) HO_504004) HO_519000) HO_519002) HO_519004) HO548) HO552) HO558) (below_size (be4 HB GE460 GE489 GE503 GE518))); have HO568 := Aside0.mk (Kd.R_lower (nw (nw (nw (nw ho2 HO_490003) HO_504003) HO_519003) HO555) (below_size (be4 HB GE460 GE489 GE503 GE518))); replace HO_490003 := Aside0.mk (Kd.R_elder' (ro HO_490003) (Kd.R_base ho2) hb); replace HO_504003 := Aside0.mk (Kd.R_elder' (ro HO_504003) (Kd.R_base ho2) hb); replace HO_519003 := Aside0.mk (Kd.R_elder' (ro HO_519003) (Kd.R_base ho2) hb); replace HO555 := Aside0.mk (Kd.R_elder' (ro HO555) (Kd.R_base ho2) hb); have HO571 := Aside0.mk (Kd.R_lower (nw (nw (nw (nw (nw (nw (nw (nw (nw (nw (nw (nw ho3 HO_490000) HO_490002) HO_490004) HO_504000) HO_504002) HO_504004) HO_519000) HO_519002) HO_519004) HO548) HO552) HO558) (below_size (be4 HB GE460 GE489 GE503 GE518))); replace HO_490000 := td3 (ro HO_490000) hb ho0 ho1 ho3; replace HO_490002 := td3 (ro HO_490002) hb ho0 ho1 ho3; replace HO_490004 := td3 (ro HO_490004) hb ho0 ho1 ho3; replace HO_504000 := td3 (ro HO_504000) hb ho0 ho1 ho3; replace HO_504002 := td3 (ro HO_504002) hb ho0 ho1 ho3; replace HO_504004 := td3 (ro HO_504004) hb ho0 ho1 ho3; replace HO_519000 := td3 (ro HO_519000) hb ho0 ho1 ho3; replace HO_519002 := td3 (ro HO_519002) hb ho0 ho1 ho3; replace HO_519004 := td3 (ro HO_519004) hb ho0 ho1 ho3; replace HO548 := td3 (ro HO548) hb ho0 ho1 ho3; replace HO552 := td3 (ro HO552) hb ho0 ho1 ho3; replace HO558 := td3 (ro HO558) hb ho0 ho1 ho3; replace BK460 := bb BK460 hb; replace BK489 := bb BK489 hb; replace BK503 := bb BK503 hb; replace BK518 := bb BK518 hb; replace HB := Aside0.mk (below_step (be4 HB GE460 GE489 GE503 GE518) hb); (try clear hb); (try clear ho0); (try clear ho1); (try clear ho2); (try clear ho3)) | ((with_reducible refine gate_dst (N := 12) rfl ?_); refine bx 12 #[.slice none 0 0, .int .i64 0, .slice none 0 0, .slice none 0 0, .slice none 0 0] 27 ?_; intro gb573 hg w128 hbox hb; replace HO_490000 := rb HO_490000 hb; replace HO_490002 := rb HO_490002 hb; replace HO_490003 := rb HO_490003 hb; replace HO_490004 := rb HO_490004 hb; replace HO_504000 := rb HO_504000 hb; replace HO_504002 := rb HO_504002 hb; replace HO_504003 := rb HO_504003 hb; replace HO_504004 := rb HO_504004 hb; replace HO_519000 := rb HO_519000 hb; replace HO_519002 := rb HO_519002 hb; replace HO_519003 := rb HO_519003 hb; replace HO_519004 := rb HO_519004 hb; replace HO548 := rb HO548 hb; replace HO552 := rb HO552 hb; replace HO555 := rb HO555 hb; replace HO558 := rb HO558 hb; replace HO561 := rb HO561 hb; replace HO565 := rb HO565 hb; replace HO568 := rb HO568 hb; replace HO571 := rb HO571 hb; have BK573 := am hbox; have GW573 := Aside0.mk ((by rw [hg]; exact (below_size (be4 HB GE460 GE489 GE503 GE518)) : w.heap.size ≤ gb573)); have GE573 := Aside0.mk ((by rw [hg]; exact (below_size (be4 HB GE460 GE489 GE503 GE518)) : w.heap.size ≤ gb573)); replace HB := Aside0.mk (below_step (be4 HB GE460 GE489 GE503 GE518) hb); have NB460_573 := Aside0.mk ((by rw [hg]; exact Nat.ne_of_lt (bl BK460) : gb460 ≠ gb573)); have NB573_460 := Aside0.mk ((by rw [hg]; exact Nat.ne_of_gt (bl BK460) : gb573 ≠ gb460)); replace BK460 := bb BK460 hb; have NB489_573 := Aside0.mk ((by rw [hg]; exact Nat.ne_of_lt (bl BK489) : gb489 ≠ gb573)); have NB573_489 := Aside0.mk ((by rw [hg]; exact Nat.ne_of_gt (bl BK489) : gb573 ≠ gb489)); replace BK489 := bb BK489 hb; have NB503_573 := Aside0.mk ((by rw [hg]; exact Nat.ne_of_lt (bl BK503) : gb503 ≠ gb573)); have NB573_503 := Aside0.mk ((by rw [hg]; exact Nat.ne_of_gt (bl BK503) : gb573 ≠ gb503)); replace BK503 := bb BK503 hb; have NB518_573 := Aside0.mk ((by rw [hg]; exact Nat.ne_of_lt (bl BK518) : gb518 ≠ gb573)); have NB573_518 := Aside0.mk ((by rw [hg]; exact Nat.ne_of_gt (bl BK518) : gb573 ≠ gb518)); replace BK518 := bb BK518 hb; clear hb hbox hg; obtain ⟨Ao129, co129, eo129⟩ := Kd.R_slice HO561.out; subst eo129; have hnb130 := NB573_460.out; have hnc130 := NB460_573.out; have hnb131 := NB573_489.out; have hnc131 := NB489_573.out; have hnb132 := NB573_503.out; have hnc132 := NB503_573.out; have hnb133 := NB573_518.out; have hnc133 := NB518_573.out; have hcz134_0 := bz5 BK573; obtain ⟨Ao135, co135, eo135⟩ := Kd.R_slice HO565.out; subst eo135; obtain ⟨Ao136, co136, eo136⟩ := Kd.R_slice HO568.out; subst eo136; obtain ⟨Ao137, co137, eo137⟩ := Kd.R_slice HO571.out; subst eo137))
       (try simp only [Act.put, List.setIfInBounds_toArray, List.set_cons_zero, List.set_cons_succ])
       go_cut [87] (fun v87 wc => ∃ (kq : Nat) (x87_110 : Bool), v87 = .bool x87_110 ∧ Aside0 (laws_FnExactTurn.j2 kq t540 x87_110 t541 t507 t542 t543 t544 = some r) ∧ Aside0 (kq ≤ kj71) ∧ Aside0 (Kd.R (Kd.int .i64) 3 wc w.heap.size (fun k_ => nb k_ Ao26 t479.length co26 ∧ nb k_ Ao28 t485.length co28 ∧ nb k_ Ao32 t535.length co32 ∧ nb k_ Ao36 t536.length co36 ∧ nb k_ Ao38 t538.length co38 ∧ nb k_ Ao41 t504.length co41 ∧ nb k_ Ao46 t508.length co46 ∧ nb k_ Ao48 t514.length co48 ∧ nb k_ Ao129 t559.length co129 ∧ nb k_ Ao135 t563.length co135 ∧ nb k_ Ao137 t569.length co137) (.slice Ao23 t475.length co23) t475) ∧ Aside0 (Kd.R (Kd.int .i64) 3 wc w.heap.size (fun k_ => nb k_ Ao23 t475.length co23 ∧ nb k_ Ao28 t485.length co28 ∧ nb k_ Ao32 t535.length co32 ∧ nb k_ Ao36 t536.length co36 ∧ nb k_ Ao38 t538.length co38 ∧ nb k_ Ao41 t504.length co41 ∧ nb k_ Ao46 t508.length co46 ∧ nb k_ Ao48 t514.length co48 ∧ nb k_ Ao129 t559.length co129 ∧ nb k_ Ao135 t563.length co135 ∧ nb k_ Ao137 t569.length co137) (.slice Ao26 t479.length co26) t479) ∧ Aside0 (Kd.R k70 70 wc w.heap.size (fun k_ => nb k_ Ao37 t537.length co37 ∧ nb k_ Ao47 t511.length co47 ∧ nb k_ Ao136 t566.length co136) (.slice Ao27 t482.length co27) t482) ∧ Aside0 (Kd.R (Kd.int .i64) 3 wc w.heap.size (fun k_ => nb k_ Ao23 t475.length co23 ∧ nb k_ Ao26 t479.length co26 ∧ nb k_ Ao32 t535.length co32 ∧ nb k_ Ao36 t536.length co36 ∧ nb k_ Ao38 t538.length co38 ∧ nb k_ Ao41 t504.length co41 ∧ nb k_ Ao46 t508.length co46 ∧ nb k_ Ao48 t514.length co48 ∧ nb k_ Ao129 t559.length co129 ∧ nb k_ Ao135 t563.length co135 ∧ nb k_ Ao137 t569.length co137) (.slice Ao28 t485.length co28) t485) ∧ Aside0 (Kd.R (Kd.int .i64) 3 wc w.heap.size (fun k_ => nb k_ Ao23 t475.length co23 ∧ nb k_ Ao26 t479.length co26 ∧ nb k_ Ao28 t485.length co28 ∧ nb k_ Ao36 t536.length co36 ∧ nb k_ Ao38 t538.length co38 ∧ nb k_ Ao41 t504.length co41 ∧ nb k_ Ao46 t508.length co46 ∧ nb k_ Ao48 t514.length co48 ∧ nb k_ Ao129 t559.length co129 ∧ nb k_ Ao135 t563.length co135 ∧ nb k_ Ao137 t569.length co137) (.slice Ao32 t535.length co32) t535) ∧ Aside0 (Kd.R (Kd.int .i64) 3 wc w.heap.size (fun k_ => nb k_ Ao23 t475.length co23 ∧ nb k_ Ao26 t479.length co26 ∧ nb k_ Ao28 t485.length co28 ∧ nb k_ Ao32 t535.length co32 ∧ nb k_ Ao38 t538.length co38 ∧ nb k_ Ao41 t504.length co41 ∧ nb k_ Ao46 t508.length co46 ∧ nb k_ Ao48 t514.length co48 ∧ nb k_ Ao129 t559.length co129 ∧ nb k_ Ao135 t563.length co135 ∧ nb k_ Ao137 t569.length co137) (.slice Ao36 t536.length co36) t536) ∧ Aside0 (Kd.R k70 70 wc w.heap.size (fun k_ => nb k_ Ao27 t482.length co27 ∧ nb k_ Ao47 t511.length co47 ∧ nb k_ Ao136 t566.length co136) (.slice Ao37 t537.length co37) t537) ∧ Aside0 (Kd.R (Kd.int .i64) 3 wc w.heap.size (fun k_ => nb k_ Ao23 t475.length co23 ∧ nb k_ Ao26 t479.length co26 ∧ nb k_ Ao28 t485.length co28 ∧ nb k_ Ao32 t535.length co32 ∧ nb k_ Ao36 t536.length co36 ∧ nb k_ Ao41 t504.length co41 ∧ nb k_ Ao46 t508.length co46 ∧ nb k_ Ao48 t514.length co48 ∧ nb k_ Ao129 t559.length co129 ∧ nb k_ Ao135 t563.length co135 ∧ nb k_ Ao137 t569.length co137) (.slice Ao38 t538.length co38) t538) ∧ Aside0 (Kd.R (Kd.int .i64) 3 wc w.heap.size (fun k_ => nb k_ Ao23 t475.length co23 ∧ nb k_ Ao26 t479.length co26 ∧ nb k_ Ao28 t485.length co28 ∧ nb k_ Ao32 t535.length co32 ∧ nb k_ Ao36 t536.length co36 ∧ nb k_ Ao38 t538.length co38 ∧ nb k_ Ao46 t508.length co46 ∧ nb k_ Ao48 t514.length co48 ∧ nb k_ Ao129 t559.length co129 ∧ nb k_ Ao135 t563.length co135 ∧ nb k_ Ao137 t569.length co137) (.slice Ao41 t504.length co41) t541) ∧ Aside0 (Kd.R (Kd.int .i64) 3 wc w.heap.size (fun k_ => nb k_ Ao23 t475.length co23 ∧ nb k_ Ao26 t479.length co26 ∧ nb k_ Ao28 t485.length co28 ∧ nb k_ Ao32 t535.length co32 ∧ nb k_ Ao36 t536.length co36 ∧ nb k_ Ao38 t538.length co38 ∧ nb k_ Ao41 t504.length co41 ∧ nb k_ Ao48 t514.length co48 ∧ nb k_ Ao129 t559.length co129 ∧ nb k_ Ao135 t563.length co135 ∧ nb k_ Ao137 t569.length co137) (.slice Ao46 t508.length co46) t542) ∧ Aside0 (Kd.R k70 70 wc w.heap.size (fun k_ => nb k_ Ao27 t482.length co27 ∧ nb k_ Ao37 t537.length co37 ∧ nb k_ Ao136 t566.length co136) (.slice Ao47 t511.length co47) t543) ∧ Aside0 (Kd.R (Kd.int .i64) 3 wc w.heap.size (fun k_ => nb k_ Ao23 t475.length co23 ∧ nb k_ Ao26 t479.length co26 ∧ nb k_ Ao28 t485.length co28 ∧ nb k_ Ao32 t535.length co32 ∧ nb k_ Ao36 t536.length co36 ∧ nb k_ Ao38 t538.length co38 ∧ nb k_ Ao41 t504.length co41 ∧ nb k_ Ao46 t508.length co46 ∧ nb k_ Ao129 t559.length co129 ∧ nb k_ Ao135 t563.length co135 ∧ nb k_ Ao137 t569.length co137) (.slice Ao48 t514.length co48) t544) ∧ Aside0 (Kd.R (Kd.int .i64) 3 wc w.heap.size (fun k_ => nb k_ Ao23 t475.length co23 ∧ nb k_ Ao26 t479.length co26 ∧ nb k_ Ao28 t485.length co28 ∧ nb k_ Ao32 t535.length co32 ∧ nb k_ Ao36 t536.length co36 ∧ nb k_ Ao38 t538.length co38 ∧ nb k_ Ao41 t504.length co41 ∧ nb k_ Ao46 t508.length co46 ∧ nb k_ Ao48 t514.length co48 ∧ nb k_ Ao135 t563.length co135 ∧ nb k_ Ao137 t569.length co137) (.slice Ao129 t559.length co129) t559) ∧ Aside0 (Kd.R (Kd.int .i64) 3 wc w.heap.size (fun k_ => nb k_ Ao23 t475.length co23 ∧ nb k_ Ao26 t479.length co26 ∧ nb k_ Ao28 t485.length co28 ∧ nb k_ Ao32 t535.length co32 ∧ nb k_ Ao36 t536.length co36 ∧ nb k_ Ao38 t538.length co38 ∧ nb k_ Ao41 t504.length co41 ∧ nb k_ Ao46 t508.length co46 ∧ nb k_ Ao48 t514.length co48 ∧ nb k_ Ao129 t559.length co129 ∧ nb k_ Ao137 t569.length co137) (.slice Ao135 t563.length co135) t563) ∧ Aside0 (Kd.R k70 70 wc w.heap.size (fun k_ => nb k_ Ao27 t482.length co27 ∧ nb k_ Ao37 t537.length co37 ∧ nb k_ Ao47 t511.length co47) (.slice Ao136 t566.length co136) t566) ∧ Aside0 (Kd.R (Kd.int .i64) 3 wc w.heap.size (fun k_ => nb k_ Ao23 t475.length co23 ∧ nb k_ Ao26 t479.length co26 ∧ nb k_ Ao28 t485.length co28 ∧ nb k_ Ao32 t535.length co32 ∧ nb k_ Ao36 t536.length co36 ∧ nb k_ Ao38 t538.length co38 ∧ nb k_ Ao41 t504.length co41 ∧ nb k_ Ao46 t508.length co46 ∧ nb k_ Ao48 t514.length co48 ∧ nb k_ Ao129 t559.length co129 ∧ nb k_ Ao135 t563.length co135) (.slice Ao137 t569.length co137) t569) ∧ Aside0 (wc.heap[gb460]? = some (.cells #[(.slice A0_0 l0_0.length c0_0), .int .i64 a0_1, (.slice A0_2 l0_2.length c0_2), (.slice A0_3 l0_3.length c0_3), (.slice A0_4 l0_4.length c0_4)] 37 (0, 0))) ∧ Aside0 (wc.heap[gb489]? = some (.cells #[(.slice Ao23 t475.length co23), .int .i64 t478, (.slice Ao26 t479.length co26), (.slice Ao27 t482.length co27), (.slice Ao28 t485.length co28)] 27 (0, 0))) ∧ Aside0 (wc.heap[gb503]? = some (.cells #[(.slice Ao32 t535.length co32), .int .i64 t493, (.slice Ao36 t536.length co36), (.slice Ao37 t537.length co37), (.slice Ao38 t538.length co38)] 27 (0, 0))) ∧ Aside0 (wc.heap[gb518]? = some (.cells #[(.slice Ao41 t504.length co41), .int .i64 t507, (.slice Ao46 t508.length co46), (.slice Ao47 t511.length co47), (.slice Ao48 t514.length co48)] 27 (0, 0))) ∧ Aside0 (wc.heap[gb573]? = some (.cells #[(.slice Ao129 t559.length co129), .int .i64 t562, (.slice Ao135 t563.length co135), (.slice Ao136 t566.length co136), (.slice Ao137 t569.length co137)] 27 (0, 0))) ∧ Aside0 (Below w.heap.size w wc))
       case first =>
        have H := HC111.out
        clear HC111
        replace H := Option.bind_eq_some_iff.mp H
        obtain ⟨t574, A1380, H⟩ := H
        try dsimp only at H
        have A138 := Aside0.mk A1380
        clear A1380
        by_cases c139 : t574 = true
        ·subst c139
         rw [if_pos rfl] at H
         have H' := Aside0.mk H
         clear H
         have hnb140 := NB573_460.out
         have hnc140 := NB460_573.out
         have hnb141 := NB573_489.out
         have hnc141 := NB489_573.out
         have hnb142 := NB573_503.out
         have hnc142 := NB503_573.out
         have hnb143 := NB573_518.out
         have hnc143 := NB518_573.out
         have hcz144_0 := bz5 BK573
         have hnb145 := NB489_460.out
         have hnc145 := NB460_489.out
         have hnb146 := NB489_503.out
         have hnc146 := NB503_489.out
         have hnb147 := NB489_518.out
         have hnc147 := NB518_489.out
         have hcz148_0 := bz5 BK489
         go_wp2_with (first | ((with_reducible refine gate_callee (f := 16) rfl ?_); refine gl 81 Try.func16 #[.agg #[.slice Ao129 t559.length co129, .int .i64 t562, .slice Ao135 t563.length co135, .slice Ao136 t566.length co136, .slice Ao137 t569.length co137], .agg #[.slice Ao23 t475.length co23, .int .i64 t478, .slice Ao26 t479.length co26, .slice Ao27 t482.length co27, .slice Ao28 t485.length co28]] ?_; (with_reducible refine (laws_eqPool.calls kj71 _ _ t559 t562 _ _ t563 _ _ t566 _ _ t569 _ _ t475 t478 _ _ t479 _ _ t482 _ _ t485 true _ ?side1 ((Kd.R_reads' HO561.out).2.1) ?side3 ((Kd.R_reads' HO565.out).2.1) ?side5 ((Kd.R_reads' HO568.out).2.1) ?side7 ((Kd.R_reads' HO571.out).2.1) ?side9 ((Kd.R_reads' HO_490000.out).2.1) ?side11 ((Kd.R_reads' HO_490002.out).2.1) ?side13 ((Kd.R_reads' HO_490003.out).2.1) ?side15 ((Kd.R_reads' HO_490004.out).2.1) A138.out).mono ?_); (case side1 => exact rfr _ HO561 BK573); (case side3 => exact rfr _ HO565 BK573); (case side5 => exact rfr _ HO568 BK573); (case side7 => exact rfr _ HO571 BK573); (case side9 => exact rfr _ HO_490000 BK573); (case side11 => exact rfr _ HO_490002 BK573); (case side13 => exact rfr _ HO_490003 BK573); (case side15 => exact rfr _ HO_490004 BK573); rintro e w149 ⟨rfl, hb⟩; refine ⟨_, rfl, ?_⟩; replace HO_490000 := Aside0.mk (Kd.R_below (rf HO_490000 BK573) hb); replace HO_490002 := Aside0.mk (Kd.R_below (rf HO_490002 BK573) hb); replace HO_490003 := Aside0.mk (Kd.R_below (rf HO_490003 BK573) hb); replace HO_490004 := Aside0.mk (Kd.R_below (rf HO_490004 BK573) hb); replace HO_504000 := Aside0.mk (Kd.R_below (rf HO_504000 BK573) hb); replace HO_504002 := Aside0.mk (Kd.R_below (rf HO_504002 BK573) hb); replace HO_504003 := Aside0.mk (Kd.R_below (rf HO_504003 BK573) hb); replace HO_504004 := Aside0.mk (Kd.R_below (rf HO_504004 BK573) hb); replace HO_519000 := Aside0.mk (Kd.R_below (rf HO_519000 BK573) hb); replace HO_519002 := Aside0.mk (Kd.R_below (rf HO_519002 BK573) hb); replace HO_519003 := Aside0.mk (Kd.R_below (rf HO_519003 BK573) hb); replace HO_519004 := Aside0.mk (Kd.R_below (rf HO_519004 BK573) hb); replace HO548 := Aside0.mk (Kd.R_below (rf HO548 BK573) hb); replace HO552 := Aside0.mk (Kd.R_below (rf HO552 BK573) hb); replace HO555 := Aside0.mk (Kd.R_below (rf HO555 BK573) hb); replace HO558 := Aside0.mk (Kd.R_below (rf HO558 BK573) hb); replace HO561 := Aside0.mk (Kd.R_below (rf HO561 BK573) hb); replace HO565 := Aside0.mk (Kd.R_below (rf HO565 BK573) hb); replace HO568 := Aside0.mk (Kd.R_below (rf HO568 BK573) hb); replace HO571 := Aside0.mk (Kd.R_below (rf HO571 BK573) hb); replace BK460 := Aside0.mk (blk_below (g := gb460) (o := .cells #[.slice A0_0 l0_0.length c0_0, .int .i64 a0_1, .slice A0_2 l0_2.length c0_2, .slice A0_3 l0_3.length c0_3, .slice A0_4 l0_4.length c0_4] 37 (0, 0)) (bf1 BK460 NB460_573) hb); replace BK489 := Aside0.mk (blk_below (g := gb489) (o := .cells #[.slice Ao23 t475.length co23, .int .i64 t478, .slice Ao26 t479.length co26, .slice Ao27 t482.length co27, .slice Ao28 t485.length co28] 27 (0, 0)) (bf1 BK489 NB489_573) hb); replace BK503 := Aside0.mk (blk_below (g := gb503) (o := .cells #[.slice Ao32 t535.length co32, .int .i64 t493, .slice Ao36 t536.length co36, .slice Ao37 t537.length co37, .slice Ao38 t538.length co38] 27 (0, 0)) (bf1 BK503 NB503_573) hb); replace BK518 := Aside0.mk (blk_below (g := gb518) (o := .cells #[.slice Ao41 t504.length co41, .int .i64 t507, .slice Ao46 t508.length co46, .slice Ao47 t511.length co47, .slice Ao48 t514.length co48] 27 (0, 0)) (bf1 BK518 NB518_573) hb); replace BK573 := Aside0.mk (blk_below (g := gb573) (o := .cells #[.slice Ao129 t559.length co129, .int .i64 t562, .slice Ao135 t563.length co135, .slice Ao136 t566.length co136, .slice Ao137 t569.length co137] 27 (0, 0)) (by (with_reducible repeat (first | refine blk_drewN ?_ _ | refine blk_drew ?_ | refine blk_alloc ?_ _)); refine blk_put (cs := #[.slice Ao129 t559.length co129, .int .i64 t562, .slice Ao135 t563.length co135, .slice Ao136 t566.length co136, .slice none 0 0]) ?_ 4 _ rfl; (with_reducible repeat (first | refine blk_drewN ?_ _ | refine blk_drew ?_ | refine blk_alloc ?_ _)); refine blk_put (cs := #[.slice Ao129 t559.length co129, .int .i64 t562, .slice Ao135 t563.length co135, .slice none 0 0, .slice none 0 0]) ?_ 3 _ rfl; (with_reducible repeat (first | refine blk_drewN ?_ _ | refine blk_drew ?_ | refine blk_alloc ?_ _)); refine blk_put (cs := #[.slice Ao129 t559.length co129, .int .i64 t562, .slice none 0 0, .slice none 0 0, .slice none 0 0]) ?_ 2 _ rfl; (with_reducible repeat (first | refine blk_drewN ?_ _ | refine blk_drew ?_ | refine blk_alloc ?_ _)); refine blk_put (cs := #[.slice Ao129 t559.length co129, .int .i64 0, .slice none 0 0, .slice none 0 0, .slice none 0 0]) ?_ 1 _ rfl; (with_reducible repeat (first | refine blk_drewN ?_ _ | refine blk_drew ?_ | refine blk_alloc ?_ _)); refine blk_put (cs := #[.slice none 0 0, .int .i64 0, .slice none 0 0, .slice none 0 0, .slice none 0 0]) ?_ 0 _ rfl; (with_reducible repeat (first | refine blk_drewN ?_ _ | refine blk_drew ?_ | refine blk_alloc ?_ _)); exact BK573.out) hb); replace HB := Aside0.mk (below_step (be5 HB GE460 GE489 GE503 GE518 GE573) hb); (try clear hb)))
         go_meet
         case rel => exact ⟨_, ((t572 != t488)), rs, H', ⟨by have := HJ10.out; have := HJ71.out; first | omega | exact Nat.le_refl _⟩, ⟨by (try simp only [hl504000_71, hl504002_71, hl504003_71, hl504004_71]); (with_reducible repeat (first | apply Kd.R_alloc | apply Kd.R_drewN | apply Kd.R_drew)); exact rm HO_490000⟩, ⟨by (try simp only [hl504000_71, hl504002_71, hl504003_71, hl504004_71]); (with_reducible repeat (first | apply Kd.R_alloc | apply Kd.R_drewN | apply Kd.R_drew)); exact rm HO_490002⟩, ⟨by (try simp only [hl504000_71, hl504002_71, hl504003_71, hl504004_71]); (with_reducible repeat (first | apply Kd.R_alloc | apply Kd.R_drewN | apply Kd.R_drew)); exact rm HO_490003⟩, ⟨by (try simp only [hl504000_71, hl504002_71, hl504003_71, hl504004_71]); (with_reducible repeat (first | apply Kd.R_alloc | apply Kd.R_drewN | apply Kd.R_drew)); exact rm HO_490004⟩, ⟨by (try simp only [hl504000_71, hl504002_71, hl504003_71, hl504004_71]); (with_reducible repeat (first | apply Kd.R_alloc | apply Kd.R_drewN | apply Kd.R_drew)); exact rm HO_504000⟩, ⟨by (try simp only [hl504000_71, hl504002_71, hl504003_71, hl504004_71]); (with_reducible repeat (first | apply Kd.R_alloc | apply Kd.R_drewN | apply Kd.R_drew)); exact rm HO_504002⟩, ⟨by (try simp only [hl504000_71, hl504002_71, hl504003_71, hl504004_71]); (with_reducible repeat (first | apply Kd.R_alloc | apply Kd.R_drewN | apply Kd.R_drew)); exact rm HO_504003⟩, ⟨by (try simp only [hl504000_71, hl504002_71, hl504003_71, hl504004_71]); (with_reducible repeat (first | apply Kd.R_alloc | apply Kd.R_drewN | apply Kd.R_drew)); exact rm HO_504004⟩, ⟨by (try simp only [hl504000_71, hl504002_71, hl504003_71, hl504004_71]); (with_reducible repeat (first | apply Kd.R_alloc | apply Kd.R_drewN | apply Kd.R_drew)); exact rm HO_519000⟩, ⟨by (try simp only [hl504000_71, hl504002_71, hl504003_71, hl504004_71]); (with_reducible repeat (first | apply Kd.R_alloc | apply Kd.R_drewN | apply Kd.R_drew)); exact rm HO_519002⟩, ⟨by (try simp only [hl504000_71, hl504002_71, hl504003_71, hl504004_71]); (with_reducible repeat (first | apply Kd.R_alloc | apply Kd.R_drewN | apply Kd.R_drew)); exact rm HO_519003⟩, ⟨by (try simp only [hl504000_71, hl504002_71, hl504003_71, hl504004_71]); (with_reducible repeat (first | apply Kd.R_alloc | apply Kd.R_drewN | apply Kd.R_drew)); exact rm HO_519004⟩, ⟨by (try simp only [hl504000_71, hl504002_71, hl504003_71, hl504004_71]); (with_reducible repeat (first | apply Kd.R_alloc | apply Kd.R_drewN | apply Kd.R_drew)); exact rm HO561⟩, ⟨by (try simp only [hl504000_71, hl504002_71, hl504003_71, hl504004_71]); (with_reducible repeat (first | apply Kd.R_alloc | apply Kd.R_drewN | apply Kd.R_drew)); exact rm HO565⟩, ⟨by (try simp only [hl504000_71, hl504002_71, hl504003_71, hl504004_71]); (with_reducible repeat (first | apply Kd.R_alloc | apply Kd.R_drewN | apply Kd.R_drew)); exact rm HO568⟩, ⟨by (try simp only [hl504000_71, hl504002_71, hl504003_71, hl504004_71]); (with_reducible repeat (first | apply Kd.R_alloc | apply Kd.R_drewN | apply Kd.R_drew)); exact rm HO571⟩, ⟨by (try simp only [hl504000_71, hl504002_71, hl504003_71, hl504004_71]); (with_reducible repeat (first | refine blk_drewN ?_ _ | refine blk_drew ?_ | refine blk_alloc ?_ _)); exact BK460.out⟩, ⟨by (try simp only [hl504000_71, hl504002_71, hl504003_71, hl504004_71]); (with_reducible repeat (first | refine blk_drewN ?_ _ | refine blk_drew ?_ | refine blk_alloc ?_ _)); exact BK489.out⟩, ⟨by (try simp only [hl504000_71, hl504002_71, hl504003_71, hl504004_71]); (with_reducible repeat (first | refine blk_drewN ?_ _ | refine blk_drew ?_ | refine blk_alloc ?_ _)); exact BK503.out⟩, ⟨by (try simp only [hl504000_71, hl504002_71, hl504003_71, hl504004_71]); (with_reducible repeat (first | refine blk_drewN ?_ _ | refine blk_drew ?_ | refine blk_alloc ?_ _)); exact BK518.out⟩, ⟨by (try simp only [hl504000_71, hl504002_71, hl504003_71, hl504004_71]); (with_reducible repeat (first | refine blk_drewN ?_ _ | refine blk_drew ?_ | refine blk_alloc ?_ _)); exact BK573.out⟩, ⟨be5 HB GE460 GE489 GE503 GE518 GE573⟩⟩
        replace c139 := Bool.eq_false_iff.mpr c139
        subst c139
        rw [if_neg (show ¬ (false = true) by decide)] at H
        have H' := Aside0.mk H
        clear H
        have hnb150 := NB573_460.out
        have hnc150 := NB460_573.out
        have hnb151 := NB573_489.out
        have hnc151 := NB489_573.out
        have hnb152 := NB573_503.out
        have hnc152 := NB503_573.out
        have hnb153 := NB573_518.out
        have hnc153 := NB518_573.out
        have hcz154_0 := bz5 BK573
        have hnb155 := NB489_460.out
        have hnc155 := NB460_489.out
        have hnb156 := NB489_503.out
        have hnc156 := NB503_489.out
        have hnb157 := NB489_518.out
        have hnc157 := NB518_489.out
        have hcz158_0 := bz5 BK489
        go_wp2_with (first | ((with_reducible refine gate_callee (f := 16) rfl ?_); refine gl 81 Try.func16 #[.agg #[.slice Ao129 t559.length co129, .int .i64 t562, .slice Ao135 t563.length co135, .slice Ao136 t566.length co136, .slice Ao137 t569.length co137], .agg #[.slice Ao23 t475.length co23, .int .i64 t478, .slice Ao26 t479.length co26, .slice Ao27 t482.length co27, .slice Ao28 t485.length co28]] ?_; (with_reducible refine (laws_eqPool.calls kj71 _ _ t559 t562 _ _ t563 _ _ t566 _ _ t569 _ _ t475 t478 _ _ t479 _ _ t482 _ _ t485 false _ ?side1 ((Kd.R_reads' HO561.out).2.1) ?side3 ((Kd.R_reads' HO565.out).2.1) ?side5 ((Kd.R_reads' HO568.out).2.1) ?side7 ((Kd.R_reads' HO571.out).2.1) ?side9 ((Kd.R_reads' HO_490000.out).2.1) ?side11 ((Kd.R_reads' HO_490002.out).2.1) ?side13 ((Kd.R_reads' HO_490003.out).2.1) ?side15 ((Kd.R_reads' HO_490004.out).2.1) A138.out).mono ?_); (case side1 => exact rfr _ HO561 BK573); (case side3 => exact rfr _ HO565 BK573); (case side5 => exact rfr _ HO568 BK573); (case side7 => exact rfr _ HO571 BK573); (case side9 => exact rfr _ HO_490000 BK573); (case side11 => exact rfr _ HO_490002 BK573); (case side13 => exact rfr _ HO_490003 BK573); (case side15 => exact rfr _ HO_490004 BK573); rintro e w159 ⟨rfl, hb⟩; refine ⟨_, rfl, ?_⟩; replace HO_490000 := Aside0.mk (Kd.R_below (rf HO_490000 BK573) hb); replace HO_490002 := Aside0.mk (Kd.R_below (rf HO_490002 BK573) hb); replace HO_490003 := Aside0.mk (Kd.R_below (rf HO_490003 BK573) hb); replace HO_490004 := Aside0.mk (Kd.R_below (rf HO_490004 BK573) hb); replace HO_504000 := Aside0.mk (Kd.R_below (rf HO_504000 BK573) hb); replace HO_504002 := Aside0.mk (Kd.R_below (rf HO_504002 BK573) hb); replace HO_504003 := Aside0.mk (Kd.R_below (rf HO_504003 BK573) hb); replace HO_504004 := Aside0.mk (Kd.R_below (rf HO_504004 BK573) hb); replace HO_519000 := Aside0.mk (Kd.R_below (rf HO_519000 BK573) hb); replace HO_519002 := Aside0.mk (Kd.R_below (rf HO_519002 BK573) hb); replace HO_519003 := Aside0.mk (Kd.R_below (rf HO_519003 BK573) hb); replace HO_519004 := Aside0.mk (Kd.R_below (rf HO_519004 BK573) hb); replace HO548 := Aside0.mk (Kd.R_below (rf HO548 BK573) hb); replace HO552 := Aside0.mk (Kd.R_below (rf HO552 BK573) hb); replace HO555 := Aside0.mk (Kd.R_below (rf HO555 BK573) hb); replace HO558 := Aside0.mk (Kd.R_below (rf HO558 BK573) hb); replace HO561 := Aside0.mk (Kd.R_below (rf HO561 BK573) hb); replace HO565 := Aside0.mk (Kd.R_below (rf HO565 BK573) hb); replace HO568 := Aside0.mk (Kd.R_below (rf HO568 BK573) hb); replace HO571 := Aside0.mk (Kd.R_below (rf HO571 BK573) hb); replace BK460 := Aside0.mk (blk_below (g := gb460) (o := .cells #[.slice A0_0 l0_0.length c0_0, .int .i64 a0_1, .slice A0_2 l0_2.length c0_2, .slice A0_3 l0_3.length c0_3, .slice A0_4 l0_4.length c0_4] 37 (0, 0)) (bf1 BK460 NB460_573) hb); replace BK489 := Aside0.mk (blk_below (g := gb489) (o := .cells #[.slice Ao23 t475.length co23, .int .i64 t478, .slice Ao26 t479.length co26, .slice Ao27 t482.length co27, .slice Ao28 t485.length co28] 27 (0, 0)) (bf1 BK489 NB489_573) hb); replace BK503 := Aside0.mk (blk_below (g := gb503) (o := .cells #[.slice Ao32 t535.length co32, .int .i64 t493, .slice Ao36 t536.length co36, .slice Ao37 t537.length co37, .slice Ao38 t538.length co38] 27 (0, 0)) (bf1 BK503 NB503_573) hb); replace BK518 := Aside0.mk (blk_below (g := gb518) (o := .cells #[.slice Ao41 t504.length co41, .int .i64 t507, .slice Ao46 t508.length co46, .slice Ao47 t511.length co47, .slice Ao48 t514.length co48] 27 (0, 0)) (bf1 BK518 NB518_573) hb); replace BK573 := Aside0.mk (blk_below (g := gb573) (o := .cells #[.slice Ao129 t559.length co129, .int .i64 t562, .slice Ao135 t563.length co135, .slice Ao136 t566.length co136, .slice Ao137 t569.length co137] 27 (0, 0)) (by (with_reducible repeat (first | refine blk_drewN ?_ _ | refine blk_drew ?_ | refine blk_alloc ?_ _)); refine blk_put (cs := #[.slice Ao129 t559.length co129, .int .i64 t562, .slice Ao135 t563.length co135, .slice Ao136 t566.length co136, .slice none 0 0]) ?_ 4 _ rfl; (with_reducible repeat (first | refine blk_drewN ?_ _ | refine blk_drew ?_ | refine blk_alloc ?_ _)); refine blk_put (cs := #[.slice Ao129 t559.length co129, .int .i64 t562, .slice Ao135 t563.length co135, .slice none 0 0, .slice none 0 0]) ?_ 3 _ rfl; (with_reducible repeat (first | refine blk_drewN ?_ _ | refine blk_drew ?_ | refine blk_alloc ?_ _)); refine blk_put (cs := #[.slice Ao129 t559.length co129, .int .i64 t562, .slice none 0 0, .slice none 0 0, .slice none 0 0]) ?_ 2 _ rfl; (with_reducible repeat (first | refine blk_drewN ?_ _ | refine blk_drew ?_ | refine blk_alloc ?_ _)); refine blk_put (cs := #[.slice Ao129 t559.length co129, .int .i64 0, .slice none 0 0, .slice none 0 0, .slice none 0 0]) ?_ 1 _ rfl; (with_reducible repeat (first | refine blk_drewN ?_ _ | refine blk_drew ?_ | refine blk_alloc ?_ _)); refine blk_put (cs := #[.slice none 0 0, .int .i64 0, .slice none 0 0, .slice none 0 0, .slice none 0 0]) ?_ 0 _ rfl; (with_reducible repeat (first | refine blk_drewN ?_ _ | refine blk_drew ?_ | refine blk_alloc ?_ _)); exact BK573.out) hb); replace HB := Aside0.mk (below_step (be5 HB GE460 GE489 GE503 GE518 GE573) hb); (try clear hb)))
        go_meet
        case rel => exact ⟨_, (true), rs, H', ⟨by have := HJ10.out; have := HJ71.out; first | omega | exact Nat.le_refl _⟩, ⟨by (try simp only [hl504000_71, hl504002_71, hl504003_71, hl504004_71]); (with_reducible repeat (first | apply Kd.R_alloc | apply Kd.R_drewN | apply Kd.R_drew)); exact rm HO_490000⟩, ⟨by (try simp only [hl504000_71, hl504002_71, hl504003_71, hl504004_71]); (with_reducible repeat (first | apply Kd.R_alloc | apply Kd.R_drewN | apply Kd.R_drew)); exact rm HO_490002⟩, ⟨by (try simp only [hl504000_71, hl504002_71, hl504003_71, hl504004_71]); (with_reducible repeat (first | apply Kd.R_alloc | apply Kd.R_drewN | apply Kd.R_drew)); exact rm HO_490003⟩, ⟨by (try simp only [hl504000_71, hl504002_71, hl504003_71, hl504004_71]); (with_reducible repeat (first | apply Kd.R_alloc | apply Kd.R_drewN | apply Kd.R_drew)); exact rm HO_490004⟩, ⟨by (try simp only [hl504000_71, hl504002_71, hl504003_71, hl504004_71]); (with_reducible repeat (first | apply Kd.R_alloc | apply Kd.R_drewN | apply Kd.R_drew)); exact rm HO_504000⟩, ⟨by (try simp only [hl504000_71, hl504002_71, hl504003_71, hl504004_71]); (with_reducible repeat (first | apply Kd.R_alloc | apply Kd.R_drewN | apply Kd.R_drew)); exact rm HO_504002⟩, ⟨by (try simp only [hl504000_71, hl504002_71, hl504003_71, hl504004_71]); (with_reducible repeat (first | apply Kd.R_alloc | apply Kd.R_drewN | apply Kd.R_drew)); exact rm HO_504003⟩, ⟨by (try simp only [hl504000_71, hl504002_71, hl504003_71, hl504004_71]); (with_reducible repeat (first | apply Kd.R_alloc | apply Kd.R_drewN | apply Kd.R_drew)); exact rm HO_504004⟩, ⟨by (try simp only [hl504000_71, hl504002_71, hl504003_71, hl504004_71]); (with_reducible repeat (first | apply Kd.R_alloc | apply Kd.R_drewN | apply Kd.R_drew)); exact rm HO_519000⟩, ⟨by (try simp only [hl504000_71, hl504002_71, hl504003_71, hl504004_71]); (with_reducible repeat (first | apply Kd.R_alloc | apply Kd.R_drewN | apply Kd.R_drew)); exact rm HO_519002⟩, ⟨by (try simp only [hl504000_71, hl504002_71, hl504003_71, hl504004_71]); (with_reducible repeat (first | apply Kd.R_alloc | apply Kd.R_drewN | apply Kd.R_drew)); exact rm HO_519003⟩, ⟨by (try simp only [hl504000_71, hl504002_71, hl504003_71, hl504004_71]); (with_reducible repeat (first | apply Kd.R_alloc | apply Kd.R_drewN | apply Kd.R_drew)); exact rm HO_519004⟩, ⟨by (try simp only [hl504000_71, hl504002_71, hl504003_71, hl504004_71]); (with_reducible repeat (first | apply Kd.R_alloc | apply Kd.R_drewN | apply Kd.R_drew)); exact rm HO561⟩, ⟨by (try simp only [hl504000_71, hl504002_71, hl504003_71, hl504004_71]); (with_reducible repeat (first | apply Kd.R_alloc | apply Kd.R_drewN | apply Kd.R_drew)); exact rm HO565⟩, ⟨by (try simp only [hl504000_71, hl504002_71, hl504003_71, hl504004_71]); (with_reducible repeat (first | apply Kd.R_alloc | apply Kd.R_drewN | apply Kd.R_drew)); exact rm HO568⟩, ⟨by (try simp only [hl504000_71, hl504002_71, hl504003_71, hl504004_71]); (with_reducible repeat (first | apply Kd.R_alloc | apply Kd.R_drewN | apply Kd.R_drew)); exact rm HO571⟩, ⟨by (try simp only [hl504000_71, hl504002_71, hl504003_71, hl504004_71]); (with_reducible repeat (first | refine blk_drewN ?_ _ | refine blk_drew ?_ | refine blk_alloc ?_ _)); exact BK460.out⟩, ⟨by (try simp only [hl504000_71, hl504002_71, hl504003_71, hl504004_71]); (with_reducible repeat (first | refine blk_drewN ?_ _ | refine blk_drew ?_ | refine blk_alloc ?_ _)); exact BK489.out⟩, ⟨by (try simp only [hl504000_71, hl504002_71, hl504003_71, hl504004_71]); (with_reducible repeat (first | refine blk_drewN ?_ _ | refine blk_drew ?_ | refine blk_alloc ?_ _)); exact BK503.out⟩, ⟨by (try simp only [hl504000_71, hl504002_71, hl504003_71, hl504004_71]); (with_reducible repeat (first | refine blk_drewN ?_ _ | refine blk_drew ?_ | refine blk_alloc ?_ _)); exact BK518.out⟩, ⟨by (try simp only [hl504000_71, hl504002_71, hl504003_71, hl504004_71]); (with_reducible repeat (first | refine blk_drewN ?_ _ | refine blk_drew ?_ | refine blk_alloc ?_ _)); exact BK573.out⟩, ⟨be5 HB GE460 GE489 GE503 GE518 GE573⟩⟩
       case rest =>
        clear HC111
        try clear c1; try clear c2; try clear p2; try clear c3; try clear c3b0; try clear c4; try clear c5; try clear c6; try clear c7; try clear c8; try clear c9; try clear c10; try clear c11; try clear c12; try clear c13; try clear c14; try clear c15; try clear c16; try clear c17; try clear c18; try clear c19; try clear c21; try clear c24; try clear c33; try clear c34; try clear c36; try clear c37; try clear c42; try clear c43; try clear c44; try clear c50; try clear c51; try clear c52; try clear c53; try clear c55; try clear c56; try clear c59; try clear c60; try clear c61; try clear c63; try clear c64; try clear c67; try clear c70; try clear c80; try clear c81; try clear c82; try clear c85; try clear c85b0; try clear c87; try clear c88; try clear c89; try clear c90; try clear c92; try clear c93; try clear c96; try clear c97; try clear c98; try clear c100; try clear c101; try clear c104; try clear c107; try clear c107b0; try clear c108; try clear c108b0; try clear c108b1; try clear c112; try clear c113; try clear c114; try clear c119; try clear c120; try clear c130; try clear c131; try clear c132; try clear c133; try clear c139; try clear c140; try clear c141; try clear c142; try clear c143; try clear c145; try clear c146; try clear c147; try clear c150; try clear c151; try clear c152; try clear c153; try clear c155; try clear c156; try clear c157; try clear hcz102_0; try clear hcz115_0; try clear hcz117_0; try clear hcz121_0; try clear hcz134_0; try clear hcz13_0; try clear hcz144_0; try clear hcz148_0; try clear hcz154_0; try clear hcz158_0; try clear hcz15_0; try clear hcz25_0; try clear hcz29_0; try clear hcz35_0; try clear hcz45_0; try clear hcz54_0; try clear hcz57_0; try clear hcz5_0; try clear hcz62_0; try clear hcz65_0; try clear hcz83_0; try clear hcz91_0; try clear hcz94_0; try clear hcz99_0; try clear p2
        obtain ⟨kq, x87_110, rfl, HA, HJ110, HO_490000, HO_490002, HO_490003, HO_490004, HO_504000, HO_504002, HO_504003, HO_504004, HO_519000, HO_519002, HO_519003, HO_519004, HO_574000, HO_574002, HO_574003, HO_574004, BK460, BK489, BK503, BK518, BK573, HB⟩ := hcut
        have hl519000_110 := (Kd.R_reads' HO_519000.out).1
        rw [hl519000_110] at HO_519000
        (try simp only [hl519000_110])
        (try simp only [hl519000_110] at BK460)
        (try simp only [hl519000_110] at BK489)
        (try simp only [hl519000_110] at BK503)
        (try simp only [hl519000_110] at BK518)
        (try simp only [hl519000_110] at BK573)
        (try simp only [hl519000_110] at HO_490000)
        (try simp only [hl519000_110] at HO_490002)
        (try simp only [hl519000_110] at HO_490003)
        (try simp only [hl519000_110] at HO_490004)
        (try simp only [hl519000_110] at HO_504000)
        (try simp only [hl519000_110] at HO_504002)
        (try simp only [hl519000_110] at HO_504003)
        (try simp only [hl519000_110] at HO_504004)
        (try simp only [hl519000_110] at HO_519002)
        (try simp only [hl519000_110] at HO_519003)
        (try simp only [hl519000_110] at HO_519004)
        (try simp only [hl519000_110] at HO_574000)
        (try simp only [hl519000_110] at HO_574002)
        (try simp only [hl519000_110] at HO_574003)
        (try simp only [hl519000_110] at HO_574004)
        have hl519002_110 := (Kd.R_reads' HO_519002.out).1
        rw [hl519002_110] at HO_519002
        (try simp only [hl519002_110])
        (try simp only [hl519002_110] at BK460)
        (try simp only [hl519002_110] at BK489)
        (try simp only [hl519002_110] at BK503)
        (try simp only [hl519002_110] at BK518)
        (try simp only [hl519002_110] at BK573)
        (try simp only [hl519002_110] at HO_490000)
        (try simp only [hl519002_110] at HO_490002)
        (try simp only [hl519002_110] at HO_490003)
        (try simp only [hl519002_110] at HO_490004)
        (try simp only [hl519002_110] at HO_504000)
        (try simp only [hl519002_110] at HO_504002)
        (try simp only [hl519002_110] at HO_504003)
        (try simp only [hl519002_110] at HO_504004)
        (try simp only [hl519002_110] at HO_519000)
        (try simp only [hl519002_110] at HO_519003)
        (try simp only [hl519002_110] at HO_519004)
        (try simp only [hl519002_110] at HO_574000)
        (try simp only [hl519002_110] at HO_574002)
        (try simp only [hl519002_110] at HO_574003)
        (try simp only [hl519002_110] at HO_574004)
        have hl519003_110 := (Kd.R_reads' HO_519003.out).1
        rw [hl519003_110] at HO_519003
        (try simp only [hl519003_110])
        (try simp only [hl519003_110] at BK460)
        (try simp only [hl519003_110] at BK489)
        (try simp only [hl519003_110] at BK503)
        (try simp only [hl519003_110] at BK518)
        (try simp only [hl519003_110] at BK573)
        (try simp only [hl519003_110] at HO_490000)
        (try simp only [hl519003_110] at HO_490002)
        (try simp only [hl519003_110] at HO_490003)
        (try simp only [hl519003_110] at HO_490004)
        (try simp only [hl519003_110] at HO_504000)
        (try simp only [hl519003_110] at HO_504002)
        (try simp only [hl519003_110] at HO_504003)
        (try simp only [hl519003_110] at HO_504004)
        (try simp only [hl519003_110] at HO_519000)
        (try simp only [hl519003_110] at HO_519002)
        (try simp only [hl519003_110] at HO_519004)
        (try simp only [hl519003_110] at HO_574000)
        (try simp only [hl519003_110] at HO_574002)
        (try simp only [hl519003_110] at HO_574003)
        (try simp only [hl519003_110] at HO_574004)
        have hl519004_110 := (Kd.R_reads' HO_519004.out).1
        rw [hl519004_110] at HO_519004
        (try simp only [hl519004_110])
        (try simp only [hl519004_110] at BK460)
        (try simp only [hl519004_110] at BK489)
        (try simp only [hl519004_110] at BK503)
        (try simp only [hl519004_110] at BK518)
        (try simp only [hl519004_110] at BK573)
        (try simp only [hl519004_110] at HO_490000)
        (try simp only [hl519004_110] at HO_490002)
        (try simp only [hl519004_110] at HO_490003)
        (try simp only [hl519004_110] at HO_490004)
        (try simp only [hl519004_110] at HO_504000)
        (try simp only [hl519004_110] at HO_504002)
        (try simp only [hl519004_110] at HO_504003)
        (try simp only [hl519004_110] at HO_504004)
        (try simp only [hl519004_110] at HO_519000)
        (try simp only [hl519004_110] at HO_519002)
        (try simp only [hl519004_110] at HO_519003)
        (try simp only [hl519004_110] at HO_574000)
        (try simp only [hl519004_110] at HO_574002)
        (try simp only [hl519004_110] at HO_574003)
        (try simp only [hl519004_110] at HO_574004)
        cases kq with
        | zero => exact absurd HA.out (by simp [laws_FnExactTurn.j2])
        | succ kj110 =>
         have H := HA.out
         clear HA
         simp only [laws_FnExactTurn.j2] at H
         by_cases c160 : x87_110 = true
         ·subst c160
          rw [if_pos rfl] at H
          exact absurd ((Option.some.inj H).trans hrt_.out) (by decide)
         replace c160 := Bool.eq_false_iff.mpr c160
         subst c160
         rw [if_neg (show ¬ (false = true) by decide)] at H
         replace H := Option.bind_eq_some_iff.mp H
         obtain ⟨t575, A1610, H⟩ := H
         try dsimp only at H
         have A161 := Aside0.mk A1610
         clear A1610
         by_cases c162 : t575 < 0
         ·rw [if_pos c162] at H
          have c162b0 : decide (t575 < 0) = true := decide_eq_true c162
          clear c162
          exact absurd ((Option.some.inj H).trans hrt_.out) (by decide)
         rw [if_neg c162] at H
         have c162b0 : decide (t575 < 0) = false := decide_eq_false c162
         clear c162
         by_cases c163 : t575 = t540
         ·rw [if_pos c163] at H
          have c163b0 : (t575 == t540) = true := beq_iff_eq.mpr c163
          have c163b1 : (t575 != t540) = false := bne_eq_false_iff_eq.mpr c163
          clear c163
          obtain rfl := Option.some.inj H
          have hnb164 := NB518_460.out
          have hnc164 := NB460_518.out
          have hnb165 := NB518_489.out
          have hnc165 := NB489_518.out
          have hnb166 := NB518_503.out
          have hnc166 := NB503_518.out
          have hnb167 := NB518_573.out
          have hnc167 := NB573_518.out
          have hcz168_0 := bz5 BK518
          go_wp2_with (first | ((with_reducible refine gate_callee (f := 18) rfl ?_); refine gl 90 Try.func18 #[.agg #[.slice Ao41 t541.length co41, .int .i64 t507, .slice Ao46 t542.length co46, .slice Ao47 t543.length co47, .slice Ao48 t544.length co48], .int .i64 1] ?_; (with_reducible refine (laws_heldPool.calls kj110 _ _ t541 t507 _ _ t542 _ _ t543 _ _ t544 1 t575 _ (cr HO_519000) ((Kd.R_reads' HO_519000.out).2.1) (cr HO_519002) ((Kd.R_reads' HO_519002.out).2.1) (cr HO_519003) ((Kd.R_reads' HO_519003.out).2.1) (cr HO_519004) ((Kd.R_reads' HO_519004.out).2.1) A161.out).mono ?_); rintro e w169 ⟨rfl, hb⟩; refine ⟨_, rfl, ?_⟩; replace HO_490000 := rb HO_490000 hb; replace HO_490002 := rb HO_490002 hb; replace HO_490003 := rb HO_490003 hb; replace HO_490004 := rb HO_490004 hb; replace HO_504000 := rb HO_504000 hb; replace HO_504002 := rb HO_504002 hb; replace HO_504003 := rb HO_504003 hb; replace HO_504004 := rb HO_504004 hb; replace HO_519000 := rb HO_519000 hb; replace HO_519002 := rb HO_519002 hb; replace HO_519003 := rb HO_519003 hb; replace HO_519004 := rb HO_519004 hb; replace HO_574000 := rb HO_574000 hb; replace HO_574002 := rb HO_574002 hb; replace HO_574003 := rb HO_574003 hb; replace HO_574004 := rb HO_574004 hb; replace BK460 := bb BK460 hb; replace BK489 := bb BK489 hb; replace BK503 := bb BK503 hb; replace BK518 := bb BK518 hb; replace BK573 := bb BK573 hb; replace HB := Aside0.mk (below_step (be5 HB GE460 GE489 GE503 GE518 GE573) hb); (try clear hb)))
          go_ret
          exact ⟨er, be5 HB GE460 GE489 GE503 GE518 GE573⟩
         rw [if_neg c163] at H
         have c163b0 : (t575 == t540) = false := beq_eq_false_iff_ne.mpr c163
         have c163b1 : (t575 != t540) = true := bne_iff_ne.mpr c163
         exact absurd ((Option.some.inj H).trans hrt_.out) (by decide)
      rw [if_neg c108] at H
      have c108b0 : (t545 == t540) = false := beq_eq_false_iff_ne.mpr c108
      have c108b1 : (t545 != t540) = true := bne_iff_ne.mpr c108
      exact absurd ((Option.some.inj H).trans hrt_.out) (by decide)
   replace c70 := Bool.eq_false_iff.mpr c70
   subst c70
   rw [if_neg (show ¬ (false = true) by decide)] at H
   exact absurd ((Option.some.inj H).trans hrt_.out) (by decide)

end Go.Proofs.Ytdgpidhlbpaolaa.QFnExactTurn
