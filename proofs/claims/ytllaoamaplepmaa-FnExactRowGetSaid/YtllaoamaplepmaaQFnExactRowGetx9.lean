-- made by a program of this session (myprint.py)
import Derived.Test.YtllaoamaplepmaaQFnExactRowGetx0
import Derived.Test.YtllaoamaplepmaaQFnExactRowGetx1
import Derived.Test.YtllaoamaplepmaaQFnExactRowGetx2
import Derived.Test.YtllaoamaplepmaaQFnExactRowGetx3
import Derived.Test.YtllaoamaplepmaaQFnExactRowGetx5
import Derived.Test.YtllaoamaplepmaaQFnExactRowGetx8
namespace Go.Proofs.Ytllaoamaplepmaa.QFnExactRowGet
open Go.RowKit Go.Proofs.YtllaoamaplepmaaW.PrintWords Go.Proofs.YtllaoamaplepmaaW.PrintLast Go.Proofs.YtllaoamaplepmaaW.PrintMore
attribute [local go_sem] max2_int min2_int max_two min_two max_three min_three max_four min_four   -- for this text's walks alone
set_option linter.unusedVariables false
set_option linter.unusedSimpArgs false

/-! ### laws_FnExactRowGet: function 13 -/
mutual
def laws_FnExactRowGet.j0 : Nat → ByteArray → ByteArray → Bool → ByteArray → Bool → Bool → Int → Int → List (S100) → Int → Int → List (S84) → Int → Int → List (S84) → Int → Int → List (S84) → Option (Bool)
 | 0, _, _, _, _, _, _, _, _, _, _, _, _, _, _, _, _, _, _ => none
 | k + 1, x1, x7, x8, x11, x12, x57, x275000, x275001, x275002, x289000, x289001, x289002, x295000, x295001, x295002, x303000, x303001, x303002 => if x57 = true then (some false) else ((laws_toRow.f k x275000 x275001 x275002).bind fun bt304 => ((laws_eqRow.f k x295000 x295001 x295002 bt304.1 bt304.2.1 bt304.2.2).bind fun t309 => (if t309 = true then ((laws_markRow.f k x295000 x295001 x295002 1).bind fun bt310 => (if bt310.1 < 0 then (laws_FnExactRowGet.j1 k x1 x7 x8 true x275000 x275001 x275002 x289000 x289001 x289002 x303000 x303001 x303002) else ((laws_eqRow.f k x303000 x303001 x303002 x289000 x289001 x289002).bind fun t312 => (if t312 = true then (if x11.toList = x7.toList then (laws_FnExactRowGet.j1 k x1 x7 x8 (x12 != x8) x275000 x275001 x275002 x289000 x289001 x289002 x303000 x303001 x303002) else (laws_FnExactRowGet.j1 k x1 x7 x8 true x275000 x275001 x275002 x289000 x289001 x289002 x303000 x303001 x303002)) else (laws_FnExactRowGet.j1 k x1 x7 x8 true x275000 x275001 x275002 x289000 x289001 x289002 x303000 x303001 x303002))))) else (some false))))
def laws_FnExactRowGet.j1 : Nat → ByteArray → ByteArray → Bool → Bool → Int → Int → List (S100) → Int → Int → List (S84) → Int → Int → List (S84) → Option (Bool)
 | 0, _, _, _, _, _, _, _, _, _, _, _, _, _ => none
 | k + 1, x1, x7, x8, x83, x275000, x275001, x275002, x289000, x289001, x289002, x303000, x303001, x303002 => if x83 = true then (some false) else ((laws_markRow.f k x303000 x303001 x303002 1).bind fun bt313 => ((laws_heldRow.f k x303000 x303001 bt313.2 1).bind fun t315 => (if t315 < 0 then (some false) else (if t315 = bt313.1 then ((laws_toRow.f k x275000 x275001 x275002).bind fun bt316 => ((impl_RowGet.f k bt316.1 bt316.2.1 bt316.2.2 x1).bind fun bt321 => ((laws_eqRow.f k bt321.1 bt321.2.1 bt321.2.2.1 x289000 x289001 x289002).bind fun t329 => (if t329 = true then (if bt321.2.2.2.1.toList = x7.toList then (laws_FnExactRowGet.j2 k bt313.1 (bt321.2.2.2.2 != x8) x303000 x303001 bt313.2) else (laws_FnExactRowGet.j2 k bt313.1 true x303000 x303001 bt313.2)) else (laws_FnExactRowGet.j2 k bt313.1 true x303000 x303001 bt313.2))))) else (some false)))))
def laws_FnExactRowGet.j2 : Nat → Int → Bool → Int → Int → List (S84) → Option (Bool)
 | 0, _, _, _, _, _ => none
 | k + 1, x14, x116, x303000, x303001, x303002 => if x116 = true then (some false) else ((laws_heldRow.f k x303000 x303001 x303002 1).bind fun t330 => (if t330 < 0 then (some false) else (if t330 = x14 then (some true) else (some false))))
end
def laws_FnExactRowGet.f (k : Nat) (a0_0 : Int) (a0_1 : Int) (l0_2 : List (S100)) (a1 : ByteArray) : Option (Bool) := if (a1.size : Int) > 1048576 then (some true) else ((laws_szRow.f k a0_0 a0_1 l0_2 1048576).bind fun t275 => (if t275 < 0 then (some true) else ((laws_toRow.f k a0_0 a0_1 l0_2).bind fun bt276 => ((spec_RowGet.f k bt276.1 bt276.2.1 bt276.2.2 a1).bind fun bt281 => ((laws_toRow.f k a0_0 a0_1 l0_2).bind fun bt289 => ((impl_RowGet.f k bt289.1 bt289.2.1 bt289.2.2 a1).bind fun bt295 => ((laws_eqRow.f k bt295.1 bt295.2.1 bt295.2.2.1 bt281.1 bt281.2.1 bt281.2.2.1).bind fun t303 => (if t303 = true then (if bt295.2.2.2.1.toList = bt281.2.2.2.1.toList then (laws_FnExactRowGet.j0 k a1 bt281.2.2.2.1 bt281.2.2.2.2 bt295.2.2.2.1 bt295.2.2.2.2 (bt295.2.2.2.2 != bt281.2.2.2.2) a0_0 a0_1 l0_2 bt281.1 bt281.2.1 bt281.2.2.1 bt289.1 bt289.2.1 bt289.2.2 bt295.1 bt295.2.1 bt295.2.2.1) else (laws_FnExactRowGet.j0 k a1 bt281.2.2.2.1 bt281.2.2.2.2 bt295.2.2.2.1 bt295.2.2.2.2 true a0_0 a0_1 l0_2 bt281.1 bt281.2.1 bt281.2.2.1 bt289.1 bt289.2.1 bt289.2.2 bt295.1 bt295.2.1 bt295.2.2.1)) else (laws_FnExactRowGet.j0 k a1 bt281.2.2.2.1 bt281.2.2.2.2 bt295.2.2.2.1 bt295.2.2.2.2 true a0_0 a0_1 l0_2 bt281.1 bt281.2.1 bt281.2.2.1 bt289.1 bt289.2.1 bt289.2.2 bt295.1 bt295.2.1 bt295.2.2.1)))))))))
theorem laws_FnExactRowGet.mono_l : ∀ k, (∀ y0 y1 y2 y3 y4 y5 y6 y7 y8 y9 y10 y11 y12 y13 y14 y15 y16 y17, LeO (laws_FnExactRowGet.j0 k y0 y1 y2 y3 y4 y5 y6 y7 y8 y9 y10 y11 y12 y13 y14 y15 y16 y17) (laws_FnExactRowGet.j0 (k + 1) y0 y1 y2 y3 y4 y5 y6 y7 y8 y9 y10 y11 y12 y13 y14 y15 y16 y17)) ∧ (∀ y0 y1 y2 y3 y4 y5 y6 y7 y8 y9 y10 y11 y12, LeO (laws_FnExactRowGet.j1 k y0 y1 y2 y3 y4 y5 y6 y7 y8 y9 y10 y11 y12) (laws_FnExactRowGet.j1 (k + 1) y0 y1 y2 y3 y4 y5 y6 y7 y8 y9 y10 y11 y12)) ∧ (∀ y0 y1 y2 y3 y4, LeO (laws_FnExactRowGet.j2 k y0 y1 y2 y3 y4) (laws_FnExactRowGet.j2 (k + 1) y0 y1 y2 y3 y4))
 | 0 => ⟨fun _ _ _ _ _ _ _ _ _ _ _ _ _ _ _ _ _ _ r h => by simp [laws_FnExactRowGet.j0] at h, fun _ _ _ _ _ _ _ _ _ _ _ _ _ r h => by simp [laws_FnExactRowGet.j1] at h, fun _ _ _ _ _ r h => by simp [laws_FnExactRowGet.j2] at h⟩
 | k + 1 => by
  obtain ⟨ih0, ih1, ih2⟩ := laws_FnExactRowGet.mono_l k
  refine ⟨?_, ?_, ?_⟩
  ·intro y0 y1 y2 y3 y4 y5 y6 y7 y8 y9 y10 y11 y12 y13 y14 y15 y16 y17
   unfold laws_FnExactRowGet.j0
   repeat' first
   | (with_reducible exact ih0 _ _ _ _ _ _ _ _ _ _ _ _ _ _ _ _ _ _)
   | (with_reducible exact ih1 _ _ _ _ _ _ _ _ _ _ _ _ _)
   | (with_reducible exact ih2 _ _ _ _ _)
   | (with_reducible exact impl_RowGet.mono _ _ _ _ _)
   | (with_reducible exact laws_eqRow.mono _ _ _ _ _ _ _)
   | (with_reducible exact laws_heldRow.mono _ _ _ _ _)
   | (with_reducible exact laws_markRow.mono _ _ _ _ _)
   | (with_reducible exact laws_szRow.mono _ _ _ _ _)
   | (with_reducible exact laws_toRow.mono _ _ _ _)
   | (with_reducible exact spec_RowGet.mono _ _ _ _ _)
   | (with_reducible exact LeO.refl _)
   | (with_reducible exact LeO.none _)
   | (with_reducible refine LeO.ite ?_ ?_)
   | (with_reducible refine LeO.bind ?_ (fun _ => ?_))
   | exact ih0 _ _ _ _ _ _ _ _ _ _ _ _ _ _ _ _ _ _
   | exact ih1 _ _ _ _ _ _ _ _ _ _ _ _ _
   | exact ih2 _ _ _ _ _
   | exact impl_RowGet.mono _ _ _ _ _
   | exact laws_eqRow.mono _ _ _ _ _ _ _
   | exact laws_heldRow.mono _ _ _ _ _
   | exact laws_markRow.mono _ _ _ _ _
   | exact laws_szRow.mono _ _ _ _ _
   | exact laws_toRow.mono _ _ _ _
   | exact spec_RowGet.mono _ _ _ _ _
   | exact LeO.none _
   | refine LeO.ite ?_ ?_
   | refine LeO.bind ?_ (fun _ => ?_)
  ·intro y0 y1 y2 y3 y4 y5 y6 y7 y8 y9 y10 y11 y12
   unfold laws_FnExactRowGet.j1
   repeat' first
   | (with_reducible exact ih0 _ _ _ _ _ _ _ _ _ _ _ _ _ _ _ _ _ _)
   | (with_reducible exact ih1 _ _ _ _ _ _ _ _ _ _ _ _ _)
   | (with_reducible exact ih2 _ _ _ _ _)
   | (with_reducible exact impl_RowGet.mono _ _ _ _ _)
   | (with_reducible exact laws_eqRow.mono _ _ _ _ _ _ _)
   | (with_reducible exact laws_heldRow.mono _ _ _ _ _)
   | (with_reducible exact laws_markRow.mono _ _ _ _ _)
   | (with_reducible exact laws_szRow.mono _ _ _ _ _)
   | (with_reducible exact laws_toRow.mono _ _ _ _)
   | (with_reducible exact spec_RowGet.mono _ _ _ _ _)
   | (with_reducible exact LeO.refl _)
   | (with_reducible exact LeO.none _)
   | (with_reducible refine LeO.ite ?_ ?_)
   | (with_reducible refine LeO.bind ?_ (fun _ => ?_))
   | exact ih0 _ _ _ _ _ _ _ _ _ _ _ _ _ _ _ _ _ _
   | exact ih1 _ _ _ _ _ _ _ _ _ _ _ _ _
   | exact ih2 _ _ _ _ _
   | exact impl_RowGet.mono _ _ _ _ _
   | exact laws_eqRow.mono _ _ _ _ _ _ _
   | exact laws_heldRow.mono _ _ _ _ _
   | exact laws_markRow.mono _ _ _ _ _
   | exact laws_szRow.mono _ _ _ _ _
   | exact laws_toRow.mono _ _ _ _
   | exact spec_RowGet.mono _ _ _ _ _
   | exact LeO.none _
   | refine LeO.ite ?_ ?_
   | refine LeO.bind ?_ (fun _ => ?_)
  intro y0 y1 y2 y3 y4
  unfold laws_FnExactRowGet.j2
  repeat' first
  | (with_reducible exact ih0 _ _ _ _ _ _ _ _ _ _ _ _ _ _ _ _ _ _)
  | (with_reducible exact ih1 _ _ _ _ _ _ _ _ _ _ _ _ _)
  | (with_reducible exact ih2 _ _ _ _ _)
  | (with_reducible exact impl_RowGet.mono _ _ _ _ _)
  | (with_reducible exact laws_eqRow.mono _ _ _ _ _ _ _)
  | (with_reducible exact laws_heldRow.mono _ _ _ _ _)
  | (with_reducible exact laws_markRow.mono _ _ _ _ _)
  | (with_reducible exact laws_szRow.mono _ _ _ _ _)
  | (with_reducible exact laws_toRow.mono _ _ _ _)
  | (with_reducible exact spec_RowGet.mono _ _ _ _ _)
  | (with_reducible exact LeO.refl _)
  | (with_reducible exact LeO.none _)
  | (with_reducible refine LeO.ite ?_ ?_)
  | (with_reducible refine LeO.bind ?_ (fun _ => ?_))
  | exact ih0 _ _ _ _ _ _ _ _ _ _ _ _ _ _ _ _ _ _
  | exact ih1 _ _ _ _ _ _ _ _ _ _ _ _ _
  | exact ih2 _ _ _ _ _
  | exact impl_RowGet.mono _ _ _ _ _
  | exact laws_eqRow.mono _ _ _ _ _ _ _
  | exact laws_heldRow.mono _ _ _ _ _
  | exact laws_markRow.mono _ _ _ _ _
  | exact laws_szRow.mono _ _ _ _ _
  | exact laws_toRow.mono _ _ _ _
  | exact spec_RowGet.mono _ _ _ _ _
  | exact LeO.none _
  | refine LeO.ite ?_ ?_
  | refine LeO.bind ?_ (fun _ => ?_)
theorem laws_FnExactRowGet.mono : ∀ a0 a1 a2 a3 k, LeO (laws_FnExactRowGet.f k a0 a1 a2 a3) (laws_FnExactRowGet.f (k + 1) a0 a1 a2 a3) := by
 intro a0 a1 a2 a3 k
 obtain ⟨ih0, ih1, ih2⟩ := laws_FnExactRowGet.mono_l k
 unfold laws_FnExactRowGet.f
 repeat' first
   | (with_reducible exact ih0 _ _ _ _ _ _ _ _ _ _ _ _ _ _ _ _ _ _)
   | (with_reducible exact ih1 _ _ _ _ _ _ _ _ _ _ _ _ _)
   | (with_reducible exact ih2 _ _ _ _ _)
   | (with_reducible exact impl_RowGet.mono _ _ _ _ _)
   | (with_reducible exact laws_eqRow.mono _ _ _ _ _ _ _)
   | (with_reducible exact laws_heldRow.mono _ _ _ _ _)
   | (with_reducible exact laws_markRow.mono _ _ _ _ _)
   | (with_reducible exact laws_szRow.mono _ _ _ _ _)
   | (with_reducible exact laws_toRow.mono _ _ _ _)
   | (with_reducible exact spec_RowGet.mono _ _ _ _ _)
   | (with_reducible exact LeO.refl _)
   | (with_reducible exact LeO.none _)
   | (with_reducible refine LeO.ite ?_ ?_)
   | (with_reducible refine LeO.bind ?_ (fun _ => ?_))
   | exact ih0 _ _ _ _ _ _ _ _ _ _ _ _ _ _ _ _ _ _
   | exact ih1 _ _ _ _ _ _ _ _ _ _ _ _ _
   | exact ih2 _ _ _ _ _
   | exact impl_RowGet.mono _ _ _ _ _
   | exact laws_eqRow.mono _ _ _ _ _ _ _
   | exact laws_heldRow.mono _ _ _ _ _
   | exact laws_markRow.mono _ _ _ _ _
   | exact laws_szRow.mono _ _ _ _ _
   | exact laws_toRow.mono _ _ _ _
   | exact spec_RowGet.mono _ _ _ _ _
   | exact LeO.none _
   | refine LeO.ite ?_ ?_
   | refine LeO.bind ?_ (fun _ => ?_)
set_option maxHeartbeats 8000000 in
set_option maxRecDepth 100000 in
theorem laws_FnExactRowGet.calls (k : Nat) (a0_0 : Int) (a0_1 : Int) (A0_2 : Option Addr) (c0_2 : Nat) (l0_2 : List (S100)) (a1 : ByteArray) (r : Bool) (w : World) (hr0_2 : Kd.C k100 w A0_2 l0_2.length l0_2) (hc0_2 : l0_2.length ≤ c0_2) (h : laws_FnExactRowGet.f k a0_0 a0_1 l0_2 a1 = some r) (hrt_ : Aside0 (r = true)) :
  Calls Try.prog 13 #[.agg #[.int .i64 a0_0, .int .i64 a0_1, .slice A0_2 l0_2.length c0_2], .string a1] w fun e w' => e = .returned (.bool r) ∧ Below w.heap.size w w' := by
 have hu48 := Try.underlying48
 have hu53 := Try.underlying53
 have HR0_2 := Aside0.mk hr0_2
 have HC0_2 := Aside0.mk hc0_2
 clear hr0_2 hc0_2
 have HB := Aside0.mk (Below.refl w.heap.size w)
 have H : (if (a1.size : Int) > 1048576 then (some true) else ((laws_szRow.f k a0_0 a0_1 l0_2 1048576).bind fun t275 => (if t275 < 0 then (some true) else ((laws_toRow.f k a0_0 a0_1 l0_2).bind fun bt276 => ((spec_RowGet.f k bt276.1 bt276.2.1 bt276.2.2 a1).bind fun bt281 => ((laws_toRow.f k a0_0 a0_1 l0_2).bind fun bt289 => ((impl_RowGet.f k bt289.1 bt289.2.1 bt289.2.2 a1).bind fun bt295 => ((laws_eqRow.f k bt295.1 bt295.2.1 bt295.2.2.1 bt281.1 bt281.2.1 bt281.2.2.1).bind fun t303 => (if t303 = true then (if bt295.2.2.2.1.toList = bt281.2.2.2.1.toList then (laws_FnExactRowGet.j0 k a1 bt281.2.2.2.1 bt281.2.2.2.2 bt295.2.2.2.1 bt295.2.2.2.2 (bt295.2.2.2.2 != bt281.2.2.2.2) a0_0 a0_1 l0_2 bt281.1 bt281.2.1 bt281.2.2.1 bt289.1 bt289.2.1 bt289.2.2 bt295.1 bt295.2.1 bt295.2.2.1) else (laws_FnExactRowGet.j0 k a1 bt281.2.2.2.1 bt281.2.2.2.2 bt295.2.2.2.1 bt295.2.2.2.2 true a0_0 a0_1 l0_2 bt281.1 bt281.2.1 bt281.2.2.1 bt289.1 bt289.2.1 bt289.2.2 bt295.1 bt295.2.1 bt295.2.2.1)) else (laws_FnExactRowGet.j0 k a1 bt281.2.2.2.1 bt281.2.2.2.2 bt295.2.2.2.1 bt295.2.2.2.2 true a0_0 a0_1 l0_2 bt281.1 bt281.2.1 bt281.2.2.1 bt289.1 bt289.2.1 bt289.2.2 bt295.1 bt295.2.1 bt295.2.2.1)))))))))) = some r := h
 clear h
 by_cases c3 : (a1.size : Int) > 1048576
 ·rw [if_pos c3] at H
  have c3b0 : decide (1048576 < (a1.size : Int)) = true := decide_eq_true c3
  have c3b1 : decide (1048576 < a1.size) = true := decide_eq_true (by omega)
  clear c3
  obtain rfl := Option.some.inj H
  go_enter Try.func13, Try.ntmps13
  go_wp2_with (first | ((with_reducible refine gate_dst (N := 2) rfl ?_); refine bx 2 #[.int .i64 a0_0, .int .i64 a0_1, .slice A0_2 l0_2.length c0_2] 48 ?_; intro gb274 hg w4 hbox hb; have BK274 := am hbox; have GW274 := gs0 hg HB; have GE274 := gs0 hg HB; replace HB := s0 HB hb; clear hb hbox hg))
  go_ret
  exact ⟨er, be1 HB GE274⟩
 rw [if_neg c3] at H
 have c3b0 : decide (1048576 < (a1.size : Int)) = false := decide_eq_false c3
 have c3b1 : decide (1048576 < a1.size) = false := decide_eq_false (by omega)
 clear c3
 replace H := Option.bind_eq_some_iff.mp H
 obtain ⟨t275, A50, H⟩ := H
 try dsimp only at H
 have A5 := Aside0.mk A50
 clear A50
 by_cases c6 : t275 < 0
 ·rw [if_pos c6] at H
  have c6b0 : decide (t275 < 0) = true := decide_eq_true c6
  clear c6
  obtain rfl := Option.some.inj H
  go_enter Try.func13, Try.ntmps13
  go_wp2_with (first | ((with_reducible refine gate_dst (N := 2) rfl ?_); refine bx 2 #[.int .i64 a0_0, .int .i64 a0_1, .slice A0_2 l0_2.length c0_2] 48 ?_; intro gb274 hg w7 hbox hb; have BK274 := am hbox; have GW274 := gs0 hg HB; have GE274 := gs0 hg HB; replace HB := s0 HB hb; clear hb hbox hg; have hcz8_0 := bz3 BK274) | ((with_reducible refine gate_callee (f := 41) rfl ?_); refine gl 24 Try.func41 #[.agg #[.int .i64 a0_0, .int .i64 a0_1, .slice A0_2 l0_2.length c0_2], .int .i64 1048576] ?_; (with_reducible refine (laws_szRow.calls k a0_0 a0_1 _ _ l0_2 1048576 t275 _ (cb HR0_2 HB) HC0_2.out A5.out).mono ?_); rintro e w9 ⟨rfl, hb⟩; refine ⟨_, rfl, ?_⟩; replace BK274 := bb BK274 hb; replace HB := Aside0.mk (below_step (be1 HB GE274) hb); (try clear hb)))
  go_ret
  exact ⟨er, be1 HB GE274⟩
 rw [if_neg c6] at H
 have c6b0 : decide (t275 < 0) = false := decide_eq_false c6
 clear c6
 replace H := Option.bind_eq_some_iff.mp H
 obtain ⟨⟨t276, t277, t278⟩, A100, H⟩ := H
 try dsimp only at H
 have A10 := Aside0.mk A100
 clear A100
 replace H := Option.bind_eq_some_iff.mp H
 obtain ⟨⟨t281, t282, t283, t286, t287⟩, A110, H⟩ := H
 try dsimp only at H
 have A11 := Aside0.mk A110
 clear A110
 replace H := Option.bind_eq_some_iff.mp H
 obtain ⟨⟨t289, t290, t291⟩, A120, H⟩ := H
 try dsimp only at H
 have A12 := Aside0.mk A120
 clear A120
 replace H := Option.bind_eq_some_iff.mp H
 obtain ⟨⟨t295, t296, t297, t300, t301⟩, A130, H⟩ := H
 try dsimp only at H
 have A13 := Aside0.mk A130
 clear A130
 have HC14 := Aside0.mk H
 clear H
 go_enter Try.func13, Try.ntmps13
 go_upto_region 10 with (first | ((with_reducible refine gate_dst (N := 2) rfl ?_); refine bx 2 #[.int .i64 a0_0, .int .i64 a0_1, .slice A0_2 l0_2.length c0_2] 48 ?_; intro gb274 hg w15 hbox hb; have BK274 := am hbox; have GW274 := gs0 hg HB; have GE274 := gs0 hg HB; replace HB := s0 HB hb; clear hb hbox hg; have hcz16_0 := bz3 BK274) | ((with_reducible refine gate_callee (f := 41) rfl ?_); refine gl 24 Try.func41 #[.agg #[.int .i64 a0_0, .int .i64 a0_1, .slice A0_2 l0_2.length c0_2], .int .i64 1048576] ?_; (with_reducible refine (laws_szRow.calls k a0_0 a0_1 _ _ l0_2 1048576 t275 _ (cb HR0_2 HB) HC0_2.out A5.out).mono ?_); rintro e w17 ⟨rfl, hb⟩; refine ⟨_, rfl, ?_⟩; replace BK274 := bb BK274 hb; replace HB := Aside0.mk (below_step (be1 HB GE274) hb); (try clear hb); have hcz18_0 := bz3 BK274) | ((with_reducible refine gate_callee (f := 43) rfl ?_); refine gl 29 Try.func43 #[.agg #[.int .i64 a0_0, .int .i64 a0_1, .slice A0_2 l0_2.length c0_2]] ?_; (with_reducible refine (laws_toRow.calls k a0_0 a0_1 _ _ l0_2 t276 t277 t278 _ (cb HR0_2 HB) HC0_2.out A10.out).mono ?_); rintro e w19 ⟨v279, rfl, ho0, hb⟩; refine ⟨_, rfl, ?_⟩; have HO280 := Aside0.mk (Kd.R_lower ho0 (below_size (be1 HB GE274))); replace BK274 := bb BK274 hb; replace HB := Aside0.mk (below_step (be1 HB GE274) hb); (try clear hb); (try clear ho0); obtain ⟨Ao20, co20, eo20⟩ := Kd.R_slice HO280.out; subst eo20) | ((with_reducible refine gate_callee (f := 52) rfl ?_); refine gl 31 Try.func52 #[.agg #[.int .i64 t276, .int .i64 t277, .slice Ao20 t278.length co20], .string a1] ?_; (with_reducible refine (spec_RowGet.calls k t276 t277 _ _ t278 a1 t281 t282 t283 t286 t287 _ (cr HO280) ((Kd.R_reads' HO280.out).2.1) A11.out).mono ?_); rintro e w21 ⟨v284, rfl, ho0, hb⟩; refine ⟨_, rfl, ?_⟩; have HO285 := Aside0.mk (Kd.R_lower (nw ho0 HO280) (below_size (be1 HB GE274))); replace HO280 := Aside0.mk (Kd.R_elder' (ro HO280) (Kd.R_base ho0) hb); replace BK274 := bb BK274 hb; replace HB := Aside0.mk (below_step (be1 HB GE274) hb); (try clear hb); (try clear ho0)) | ((with_reducible refine gate_dst (N := 6) rfl ?_); refine bx 6 #[.int .i64 0, .int .i64 0, .slice none 0 0] 53 ?_; intro gb288 hg w22 hbox hb; replace HO280 := rb HO280 hb; replace HO285 := rb HO285 hb; have BK288 := am hbox; have GW288 := gs1 hg HB GE274; have GE288 := gs1 hg HB GE274; replace HB := Aside0.mk (below_step (be1 HB GE274) hb); have NB274_288 := Aside0.mk ((by rw [hg]; exact Nat.ne_of_lt (bl BK274) : gb274 ≠ gb288)); have NB288_274 := Aside0.mk ((by rw [hg]; exact Nat.ne_of_gt (bl BK274) : gb288 ≠ gb274)); replace BK274 := bb BK274 hb; clear hb hbox hg; have hnb23 := NB288_274.out; have hnc23 := NB274_288.out; have hcz24_0 := bz3 BK288; obtain ⟨Ao25, co25, eo25⟩ := Kd.R_slice HO285.out; subst eo25; have hcz26_0 := bz3 BK274) | ((with_reducible refine gate_callee (f := 43) rfl ?_); refine gl 36 Try.func43 #[.agg #[.int .i64 a0_0, .int .i64 a0_1, .slice A0_2 l0_2.length c0_2]] ?_; (with_reducible refine (laws_toRow.calls k a0_0 a0_1 _ _ l0_2 t289 t290 t291 _ ?side1 HC0_2.out A12.out).mono ?_); (case side1 => exact Kd.C_below HR0_2.out (be2 HB GE274 GE288)); rintro e w27 ⟨v292, rfl, ho0, hb⟩; refine ⟨_, rfl, ?_⟩; have HO293 := Aside0.mk (Kd.R_lower (Kd.R_new' (Kd.R_new' ho0 (Kd.R_lt (rf HO280 BK288))) (Kd.R_lt (rf HO285 BK288))) (below_size (be2 HB GE274 GE288))); replace HO280 := Aside0.mk (Kd.R_elder' (rf HO280 BK288) (Kd.R_base ho0) hb); replace HO285 := Aside0.mk (Kd.R_elder' (rf HO285 BK288) (Kd.R_base ho0) hb); replace BK274 := Aside0.mk (blk_below (g := gb274) (o := .cells #[.int .i64 a0_0, .int .i64 a0_1, .slice A0_2 l0_2.length c0_2] 48 (0, 0)) (bf1 BK274 NB274_288) hb); replace BK288 := Aside0.mk (blk_below (g := gb288) (o := .cells #[.int .i64 t281, .int .i64 t282, .slice Ao25 t283.length co25] 53 (0, 0)) (by (with_reducible repeat (first | refine blk_drewN ?_ _ | refine blk_drew ?_ | refine blk_alloc ?_ _)); refine blk_put (cs := #[.int .i64 t281, .int .i64 t282, .slice none 0 0]) ?_ 2 _ rfl; (with_reducible repeat (first | refine blk_drewN ?_ _ | refine blk_drew ?_ | refine blk_alloc ?_ _)); refine blk_put (cs := #[.int .i64 t281, .int .i64 0, .slice none 0 0]) ?_ 1 _ rfl; (with_reducible repeat (first | refine blk_drewN ?_ _ | refine blk_drew ?_ | refine blk_alloc ?_ _)); refine blk_put (cs := #[.int .i64 0, .int .i64 0, .slice none 0 0]) ?_ 0 _ rfl; (with_reducible repeat (first | refine blk_drewN ?_ _ | refine blk_drew ?_ | refine blk_alloc ?_ _)); exact BK288.out) hb); replace HB := Aside0.mk (below_step (be2 HB GE274 GE288) hb); (try clear hb); (try clear ho0)) | ((with_reducible refine gate_dst (N := 9) rfl ?_); refine bx 9 #[.int .i64 0, .int .i64 0, .slice none 0 0] 53 ?_; intro gb294 hg w28 hbox hb; replace HO280 := rb HO280 hb; replace HO285 := rb HO285 hb; replace HO293 := rb HO293 hb; have BK294 := am hbox; have GW294 := gs2 hg HB GE274 GE288; have GE294 := gs2 hg HB GE274 GE288; replace HB := Aside0.mk (below_step (be2 HB GE274 GE288) hb); have NB274_294 := Aside0.mk ((by rw [hg]; exact Nat.ne_of_lt (bl BK274) : gb274 ≠ gb294)); have NB294_274 := Aside0.mk ((by rw [hg]; exact Nat.ne_of_gt (bl BK274) : gb294 ≠ gb274)); replace BK274 := bb BK274 hb; have NB288_294 := Aside0.mk ((by rw [hg]; exact Nat.ne_of_lt (bl BK288) : gb288 ≠ gb294)); have NB294_288 := Aside0.mk ((by rw [hg]; exact Nat.ne_of_gt (bl BK288) : gb294 ≠ gb288)); replace BK288 := bb BK288 hb; clear hb hbox hg; have hnb29 := NB294_274.out; have hnc29 := NB274_294.out; have hnb30 := NB294_288.out; have hnc30 := NB288_294.out; have hcz31_0 := bz3 BK294; obtain ⟨Ao32, co32, eo32⟩ := Kd.R_slice HO293.out; subst eo32) | ((with_reducible refine gate_callee (f := 53) rfl ?_); refine gl 40 Try.func53 #[.agg #[.int .i64 t289, .int .i64 t290, .slice Ao32 t291.length co32], .string a1] ?_; (with_reducible refine (impl_RowGet.calls k t289 t290 _ _ t291 a1 t295 t296 t297 t300 t301 _ ?side1 ((Kd.R_reads' HO293.out).2.1) A13.out).mono ?_); (case side1 => exact rfr _ HO293 BK294); rintro e w33 ⟨v298, rfl, ho0, hb⟩; refine ⟨_, rfl, ?_⟩; have HO299 := Aside0.mk (Kd.R_lower (Kd.R_new' (Kd.R_new' (Kd.R_new' ho0 (Kd.R_lt (rf HO280 BK294))) (Kd.R_lt (rf HO285 BK294))) (Kd.R_lt (rf HO293 BK294))) (below_size (be3 HB GE274 GE288 GE294))); replace HO280 := Aside0.mk (Kd.R_elder' (rf HO280 BK294) (Kd.R_base ho0) hb); replace HO285 := Aside0.mk (Kd.R_elder' (rf HO285 BK294) (Kd.R_base ho0) hb); replace HO293 := Aside0.mk (Kd.R_elder' (rf HO293 BK294) (Kd.R_base ho0) hb); replace BK274 := Aside0.mk (blk_below (g := gb274) (o := .cells #[.int .i64 a0_0, .int .i64 a0_1, .slice A0_2 l0_2.length c0_2] 48 (0, 0)) (bf1 BK274 NB274_294) hb); replace BK288 := Aside0.mk (blk_below (g := gb288) (o := .cells #[.int .i64 t281, .int .i64 t282, .slice Ao25 t283.length co25] 53 (0, 0)) (bf1 BK288 NB288_294) hb); replace BK294 := Aside0.mk (blk_below (g := gb294) (o := .cells #[.int .i64 t289, .int .i64 t290, .slice Ao32 t291.length co32] 53 (0, 0)) (by (with_reducible repeat (first | refine blk_drewN ?_ _ | refine blk_drew ?_ | refine blk_alloc ?_ _)); refine blk_put (cs := #[.int .i64 t289, .int .i64 t290, .slice none 0 0]) ?_ 2 _ rfl; (with_reducible repeat (first | refine blk_drewN ?_ _ | refine blk_drew ?_ | refine blk_alloc ?_ _)); refine blk_put (cs := #[.int .i64 t289, .int .i64 0, .slice none 0 0]) ?_ 1 _ rfl; (with_reducible repeat (first | refine blk_drewN ?_ _ | refine blk_drew ?_ | refine blk_alloc ?_ _)); refine blk_put (cs := #[.int .i64 0, .int .i64 0, .slice none 0 0]) ?_ 0 _ rfl; (with_reducible repeat (first | refine blk_drewN ?_ _ | refine blk_drew ?_ | refine blk_alloc ?_ _)); exact BK294.out) hb); replace HB := Aside0.mk (below_step (be3 HB GE274 GE288 GE294) hb); (try clear hb); (try clear ho0)) | ((with_reducible refine gate_dst (N := 10) rfl ?_); refine bx 10 #[.int .i64 0, .int .i64 0, .slice none 0 0] 53 ?_; intro gb302 hg w34 hbox hb; replace HO280 := rb HO280 hb; replace HO285 := rb HO285 hb; replace HO293 := rb HO293 hb; replace HO299 := rb HO299 hb; have BK302 := am hbox; have GW302 := Aside0.mk ((by rw [hg]; exact (below_size (be3 HB GE274 GE288 GE294)) : w.heap.size ≤ gb302)); have GE302 := Aside0.mk ((by rw [hg]; exact (below_size (be3 HB GE274 GE288 GE294)) : w.heap.size ≤ gb302)); replace HB := Aside0.mk (below_step (be3 HB GE274 GE288 GE294) hb); have NB274_302 := Aside0.mk ((by rw [hg]; exact Nat.ne_of_lt (bl BK274) : gb274 ≠ gb302)); have NB302_274 := Aside0.mk ((by rw [hg]; exact Nat.ne_of_gt (bl BK274) : gb302 ≠ gb274)); replace BK274 := bb BK274 hb; have NB288_302 := Aside0.mk ((by rw [hg]; exact Nat.ne_of_lt (bl BK288) : gb288 ≠ gb302)); have NB302_288 := Aside0.mk ((by rw [hg]; exact Nat.ne_of_gt (bl BK288) : gb302 ≠ gb288)); replace BK288 := bb BK288 hb; have NB294_302 := Aside0.mk ((by rw [hg]; exact Nat.ne_of_lt (bl BK294) : gb294 ≠ gb302)); have NB302_294 := Aside0.mk ((by rw [hg]; exact Nat.ne_of_gt (bl BK294) : gb302 ≠ gb294)); replace BK294 := bb BK294 hb; clear hb hbox hg; have hnb35 := NB302_274.out; have hnc35 := NB274_302.out; have hnb36 := NB302_288.out; have hnc36 := NB288_302.out; have hnb37 := NB302_294.out; have hnc37 := NB294_302.out; have hcz38_0 := bz3 BK302; obtain ⟨Ao39, co39, eo39⟩ := Kd.R_slice HO299.out; subst eo39))
 (try simp only [Act.put, List.setIfInBounds_toArray, List.set_cons_zero, List.set_cons_succ])
 go_cut [57] (fun v57 wc => ∃ (kq : Nat) (x57_13 : Bool), v57 = .bool x57_13 ∧ Aside0 (laws_FnExactRowGet.j0 kq a1 t286 t287 t300 t301 x57_13 a0_0 a0_1 l0_2 t281 t282 t283 t289 t290 t291 t295 t296 t297 = some r) ∧ Aside0 (kq ≤ k) ∧ Aside0 (Kd.R k84 84 wc w.heap.size (fun k_ => nb k_ Ao32 t291.length co32 ∧ nb k_ Ao39 t297.length co39) (.slice Ao25 t283.length co25) t283) ∧ Aside0 (Kd.R k84 84 wc w.heap.size (fun k_ => nb k_ Ao25 t283.length co25 ∧ nb k_ Ao39 t297.length co39) (.slice Ao32 t291.length co32) t291) ∧ Aside0 (Kd.R k84 84 wc w.heap.size (fun k_ => nb k_ Ao25 t283.length co25 ∧ nb k_ Ao32 t291.length co32) (.slice Ao39 t297.length co39) t297) ∧ Aside0 (wc.heap[gb274]? = some (.cells #[.int .i64 a0_0, .int .i64 a0_1, (.slice A0_2 l0_2.length c0_2)] 48 (0, 0))) ∧ Aside0 (wc.heap[gb288]? = some (.cells #[.int .i64 t281, .int .i64 t282, (.slice Ao25 t283.length co25)] 53 (0, 0))) ∧ Aside0 (wc.heap[gb294]? = some (.cells #[.int .i64 t289, .int .i64 t290, (.slice Ao32 t291.length co32)] 53 (0, 0))) ∧ Aside0 (wc.heap[gb302]? = some (.cells #[.int .i64 t295, .int .i64 t296, (.slice Ao39 t297.length co39)] 53 (0, 0))) ∧ Aside0 (Below w.heap.size w wc))
 case first =>
  have H := HC14.out
  clear HC14
  replace H := Option.bind_eq_some_iff.mp H
  obtain ⟨t303, A400, H⟩ := H
  try dsimp only at H
  have A40 := Aside0.mk A400
  clear A400
  by_cases c41 : t303 = true
  ·subst c41
   rw [if_pos rfl] at H
   by_cases c42 : t300.toList = t286.toList
   ·rw [if_pos c42] at H
    have c42b0 : (t300.toList == t286.toList) = true := beq_iff_eq.mpr c42
    have c42b1 : (t300.toList != t286.toList) = false := bne_eq_false_iff_eq.mpr c42
    clear c42
    (first | rw [c42b0] | (simp only [i64_w, i32_w]; rw [c42b0]) | skip)
    have H' := Aside0.mk H
    clear H
    have hnb43 := NB302_274.out
    have hnc43 := NB274_302.out
    have hnb44 := NB302_288.out
    have hnc44 := NB288_302.out
    have hnb45 := NB302_294.out
    have hnc45 := NB294_302.out
    have hcz46_0 := bz3 BK302
    have hnb47 := NB288_274.out
    have hnc47 := NB274_288.out
    have hnb48 := NB288_294.out
    have hnc48 := NB294_288.out
    have hcz49_0 := bz3 BK288
    go_wp2_with (first | ((with_reducible refine gate_callee (f := 45) rfl ?_); refine gl 46 Try.func45 #[.agg #[.int .i64 t295, .int .i64 t296, .slice Ao39 t297.length co39], .agg #[.int .i64 t281, .int .i64 t282, .slice Ao25 t283.length co25]] ?_; (with_reducible refine (laws_eqRow.calls k t295 t296 _ _ t297 t281 t282 _ _ t283 true _ ?side1 ((Kd.R_reads' HO299.out).2.1) ?side3 ((Kd.R_reads' HO285.out).2.1) A40.out).mono ?_); (case side1 => exact rfr _ HO299 BK302); (case side3 => exact rfr _ HO285 BK302); rintro e w50 ⟨rfl, hb⟩; refine ⟨_, rfl, ?_⟩; replace HO280 := Aside0.mk (Kd.R_below (rf HO280 BK302) hb); replace HO285 := Aside0.mk (Kd.R_below (rf HO285 BK302) hb); replace HO293 := Aside0.mk (Kd.R_below (rf HO293 BK302) hb); replace HO299 := Aside0.mk (Kd.R_below (rf HO299 BK302) hb); replace BK274 := Aside0.mk (blk_below (g := gb274) (o := .cells #[.int .i64 a0_0, .int .i64 a0_1, .slice A0_2 l0_2.length c0_2] 48 (0, 0)) (bf1 BK274 NB274_302) hb); replace BK288 := Aside0.mk (blk_below (g := gb288) (o := .cells #[.int .i64 t281, .int .i64 t282, .slice Ao25 t283.length co25] 53 (0, 0)) (bf1 BK288 NB288_302) hb); replace BK294 := Aside0.mk (blk_below (g := gb294) (o := .cells #[.int .i64 t289, .int .i64 t290, .slice Ao32 t291.length co32] 53 (0, 0)) (bf1 BK294 NB294_302) hb); replace BK302 := Aside0.mk (blk_below (g := gb302) (o := .cells #[.int .i64 t295, .int .i64 t296, .slice Ao39 t297.length co39] 53 (0, 0)) (by (with_reducible repeat (first | refine blk_drewN ?_ _ | refine blk_drew ?_ | refine blk_alloc ?_ _)); refine blk_put (cs := #[.int .i64 t295, .int .i64 t296, .slice none 0 0]) ?_ 2 _ rfl; (with_reducible repeat (first | refine blk_drewN ?_ _ | refine blk_drew ?_ | refine blk_alloc ?_ _)); refine blk_put (cs := #[.int .i64 t295, .int .i64 0, .slice none 0 0]) ?_ 1 _ rfl; (with_reducible repeat (first | refine blk_drewN ?_ _ | refine blk_drew ?_ | refine blk_alloc ?_ _)); refine blk_put (cs := #[.int .i64 0, .int .i64 0, .slice none 0 0]) ?_ 0 _ rfl; (with_reducible repeat (first | refine blk_drewN ?_ _ | refine blk_drew ?_ | refine blk_alloc ?_ _)); exact BK302.out) hb); replace HB := Aside0.mk (below_step (be4 HB GE274 GE288 GE294 GE302) hb); (try clear hb)))
    go_meet
    case rel => exact ⟨_, ((t301 != t287)), rs, H', ⟨by first | omega | exact Nat.le_refl _⟩, ⟨rom HO285⟩, ⟨rom HO293⟩, ⟨rom HO299⟩, ⟨bk BK274⟩, ⟨bk BK288⟩, ⟨bk BK294⟩, ⟨bk BK302⟩, ⟨be4 HB GE274 GE288 GE294 GE302⟩⟩
   rw [if_neg c42] at H
   have c42b0 : (t300.toList == t286.toList) = false := beq_eq_false_iff_ne.mpr c42
   have c42b1 : (t300.toList != t286.toList) = true := bne_iff_ne.mpr c42
   (first | rw [c42b0] | (simp only [i64_w, i32_w]; rw [c42b0]) | skip)
   have H' := Aside0.mk H
   clear H
   have hnb51 := NB302_274.out
   have hnc51 := NB274_302.out
   have hnb52 := NB302_288.out
   have hnc52 := NB288_302.out
   have hnb53 := NB302_294.out
   have hnc53 := NB294_302.out
   have hcz54_0 := bz3 BK302
   have hnb55 := NB288_274.out
   have hnc55 := NB274_288.out
   have hnb56 := NB288_294.out
   have hnc56 := NB294_288.out
   have hcz57_0 := bz3 BK288
   go_wp2_with (first | ((with_reducible refine gate_callee (f := 45) rfl ?_); refine gl 46 Try.func45 #[.agg #[.int .i64 t295, .int .i64 t296, .slice Ao39 t297.length co39], .agg #[.int .i64 t281, .int .i64 t282, .slice Ao25 t283.length co25]] ?_; (with_reducible refine (laws_eqRow.calls k t295 t296 _ _ t297 t281 t282 _ _ t283 true _ ?side1 ((Kd.R_reads' HO299.out).2.1) ?side3 ((Kd.R_reads' HO285.out).2.1) A40.out).mono ?_); (case side1 => exact rfr _ HO299 BK302); (case side3 => exact rfr _ HO285 BK302); rintro e w58 ⟨rfl, hb⟩; refine ⟨_, rfl, ?_⟩; replace HO280 := Aside0.mk (Kd.R_below (rf HO280 BK302) hb); replace HO285 := Aside0.mk (Kd.R_below (rf HO285 BK302) hb); replace HO293 := Aside0.mk (Kd.R_below (rf HO293 BK302) hb); replace HO299 := Aside0.mk (Kd.R_below (rf HO299 BK302) hb); replace BK274 := Aside0.mk (blk_below (g := gb274) (o := .cells #[.int .i64 a0_0, .int .i64 a0_1, .slice A0_2 l0_2.length c0_2] 48 (0, 0)) (bf1 BK274 NB274_302) hb); replace BK288 := Aside0.mk (blk_below (g := gb288) (o := .cells #[.int .i64 t281, .int .i64 t282, .slice Ao25 t283.length co25] 53 (0, 0)) (bf1 BK288 NB288_302) hb); replace BK294 := Aside0.mk (blk_below (g := gb294) (o := .cells #[.int .i64 t289, .int .i64 t290, .slice Ao32 t291.length co32] 53 (0, 0)) (bf1 BK294 NB294_302) hb); replace BK302 := Aside0.mk (blk_below (g := gb302) (o := .cells #[.int .i64 t295, .int .i64 t296, .slice Ao39 t297.length co39] 53 (0, 0)) (by (with_reducible repeat (first | refine blk_drewN ?_ _ | refine blk_drew ?_ | refine blk_alloc ?_ _)); refine blk_put (cs := #[.int .i64 t295, .int .i64 t296, .slice none 0 0]) ?_ 2 _ rfl; (with_reducible repeat (first | refine blk_drewN ?_ _ | refine blk_drew ?_ | refine blk_alloc ?_ _)); refine blk_put (cs := #[.int .i64 t295, .int .i64 0, .slice none 0 0]) ?_ 1 _ rfl; (with_reducible repeat (first | refine blk_drewN ?_ _ | refine blk_drew ?_ | refine blk_alloc ?_ _)); refine blk_put (cs := #[.int .i64 0, .int .i64 0, .slice none 0 0]) ?_ 0 _ rfl; (with_reducible repeat (first | refine blk_drewN ?_ _ | refine blk_drew ?_ | refine blk_alloc ?_ _)); exact BK302.out) hb); replace HB := Aside0.mk (below_step (be4 HB GE274 GE288 GE294 GE302) hb); (try clear hb)))
   go_meet
   case rel => exact ⟨_, (true), rs, H', ⟨by first | omega | exact Nat.le_refl _⟩, ⟨rom HO285⟩, ⟨rom HO293⟩, ⟨rom HO299⟩, ⟨bk BK274⟩, ⟨bk BK288⟩, ⟨bk BK294⟩, ⟨bk BK302⟩, ⟨be4 HB GE274 GE288 GE294 GE302⟩⟩
  replace c41 := Bool.eq_false_iff.mpr c41
  subst c41
  rw [if_neg (show ¬ (false = true) by decide)] at H
  have H' := Aside0.mk H
  clear H
  have hnb59 := NB302_274.out
  have hnc59 := NB274_302.out
  have hnb60 := NB302_288.out
  have hnc60 := NB288_302.out
  have hnb61 := NB302_294.out
  have hnc61 := NB294_302.out
  have hcz62_0 := bz3 BK302
  have hnb63 := NB288_274.out
  have hnc63 := NB274_288.out
  have hnb64 := NB288_294.out
  have hnc64 := NB294_288.out
  have hcz65_0 := bz3 BK288
  go_wp2_with (first | ((with_reducible refine gate_callee (f := 45) rfl ?_); refine gl 46 Try.func45 #[.agg #[.int .i64 t295, .int .i64 t296, .slice Ao39 t297.length co39], .agg #[.int .i64 t281, .int .i64 t282, .slice Ao25 t283.length co25]] ?_; (with_reducible refine (laws_eqRow.calls k t295 t296 _ _ t297 t281 t282 _ _ t283 false _ ?side1 ((Kd.R_reads' HO299.out).2.1) ?side3 ((Kd.R_reads' HO285.out).2.1) A40.out).mono ?_); (case side1 => exact rfr _ HO299 BK302); (case side3 => exact rfr _ HO285 BK302); rintro e w66 ⟨rfl, hb⟩; refine ⟨_, rfl, ?_⟩; replace HO280 := Aside0.mk (Kd.R_below (rf HO280 BK302) hb); replace HO285 := Aside0.mk (Kd.R_below (rf HO285 BK302) hb); replace HO293 := Aside0.mk (Kd.R_below (rf HO293 BK302) hb); replace HO299 := Aside0.mk (Kd.R_below (rf HO299 BK302) hb); replace BK274 := Aside0.mk (blk_below (g := gb274) (o := .cells #[.int .i64 a0_0, .int .i64 a0_1, .slice A0_2 l0_2.length c0_2] 48 (0, 0)) (bf1 BK274 NB274_302) hb); replace BK288 := Aside0.mk (blk_below (g := gb288) (o := .cells #[.int .i64 t281, .int .i64 t282, .slice Ao25 t283.length co25] 53 (0, 0)) (bf1 BK288 NB288_302) hb); replace BK294 := Aside0.mk (blk_below (g := gb294) (o := .cells #[.int .i64 t289, .int .i64 t290, .slice Ao32 t291.length co32] 53 (0, 0)) (bf1 BK294 NB294_302) hb); replace BK302 := Aside0.mk (blk_below (g := gb302) (o := .cells #[.int .i64 t295, .int .i64 t296, .slice Ao39 t297.length co39] 53 (0, 0)) (by (with_reducible repeat (first | refine blk_drewN ?_ _ | refine blk_drew ?_ | refine blk_alloc ?_ _)); refine blk_put (cs := #[.int .i64 t295, .int .i64 t296, .slice none 0 0]) ?_ 2 _ rfl; (with_reducible repeat (first | refine blk_drewN ?_ _ | refine blk_drew ?_ | refine blk_alloc ?_ _)); refine blk_put (cs := #[.int .i64 t295, .int .i64 0, .slice none 0 0]) ?_ 1 _ rfl; (with_reducible repeat (first | refine blk_drewN ?_ _ | refine blk_drew ?_ | refine blk_alloc ?_ _)); refine blk_put (cs := #[.int .i64 0, .int .i64 0, .slice none 0 0]) ?_ 0 _ rfl; (with_reducible repeat (first | refine blk_drewN ?_ _ | refine blk_drew ?_ | refine blk_alloc ?_ _)); exact BK302.out) hb); replace HB := Aside0.mk (below_step (be4 HB GE274 GE288 GE294 GE302) hb); (try clear hb)))
  go_meet
  case rel => exact ⟨_, (true), rs, H', ⟨by first | omega | exact Nat.le_refl _⟩, ⟨rom HO285⟩, ⟨rom HO293⟩, ⟨rom HO299⟩, ⟨bk BK274⟩, ⟨bk BK288⟩, ⟨bk BK294⟩, ⟨bk BK302⟩, ⟨be4 HB GE274 GE288 GE294 GE302⟩⟩
 case rest =>
  clear HC14
  try clear c1; try clear c2; try clear p2; try clear c3; try clear c3b0; try clear c3b1; try clear c4; try clear c5; try clear c6; try clear c6b0; try clear c13; try clear c23; try clear c29; try clear c30; try clear c35; try clear c36; try clear c37; try clear c41; try clear c42; try clear c42b0; try clear c42b1; try clear c43; try clear c44; try clear c45; try clear c47; try clear c48; try clear c51; try clear c52; try clear c53; try clear c55; try clear c56; try clear c59; try clear c60; try clear c61; try clear c63; try clear c64; try clear hcz16_0; try clear hcz18_0; try clear hcz24_0; try clear hcz26_0; try clear hcz31_0; try clear hcz38_0; try clear hcz46_0; try clear hcz49_0; try clear hcz54_0; try clear hcz57_0; try clear hcz62_0; try clear hcz65_0; try clear hcz8_0
  obtain ⟨kq, x57_13, rfl, HA, HJ13, HO_289002, HO_295002, HO_303002, BK274, BK288, BK294, BK302, HB⟩ := hcut
  cases kq with
  | zero => exact absurd HA.out (by simp [laws_FnExactRowGet.j0])
  | succ kj13 =>
   have H := HA.out
   clear HA
   simp only [laws_FnExactRowGet.j0] at H
   by_cases c67 : x57_13 = true
   ·subst c67
    rw [if_pos rfl] at H
    exact absurd ((Option.some.inj H).trans hrt_.out) (by decide)
   replace c67 := Bool.eq_false_iff.mpr c67
   subst c67
   rw [if_neg (show ¬ (false = true) by decide)] at H
   replace H := Option.bind_eq_some_iff.mp H
   obtain ⟨⟨t304, t305, t306⟩, A680, H⟩ := H
   try dsimp only at H
   have A68 := Aside0.mk A680
   clear A680
   replace H := Option.bind_eq_some_iff.mp H
   obtain ⟨t309, A690, H⟩ := H
   try dsimp only at H
   have A69 := Aside0.mk A690
   clear A690
   by_cases c70 : t309 = true
   ·subst c70
    rw [if_pos rfl] at H
    replace H := Option.bind_eq_some_iff.mp H
    obtain ⟨⟨t310, t311⟩, A710, H⟩ := H
    try dsimp only at H
    have A71 := Aside0.mk A710
    clear A710
    have HC72 := Aside0.mk H
    clear H
    try go_wp2
    have n0_ := Aside0.mk (Kd.R_drew HO_289002.out)
    have n1_ := Aside0.mk (Kd.R_drew HO_295002.out)
    have n2_ := Aside0.mk (Kd.R_drew HO_303002.out)
    have n3_ := Aside0.mk (blk_drew BK274.out)
    have n4_ := Aside0.mk (blk_drew BK288.out)
    have n5_ := Aside0.mk (blk_drew BK294.out)
    have n6_ := Aside0.mk (blk_drew BK302.out)
    have n7_ := Aside0.mk (below_drew1 HB.out)
    clear HO_289002
    clear HO_295002
    clear HO_303002
    clear BK274
    clear BK288
    clear BK294
    clear BK302
    clear HB
    have HO_289002 := n0_
    have HO_295002 := n1_
    have HO_303002 := n2_
    have BK274 := n3_
    have BK288 := n4_
    have BK294 := n5_
    have BK302 := n6_
    have HB := n7_
    clear n0_ n1_ n2_ n3_ n4_ n5_ n6_ n7_
    refine start_ (n := 5) (S := fun w' => w'.cell? ⟨gb294, 0, none⟩ = some (.int .i64 t289) ∧ w'.cell? ⟨gb294, 1, none⟩ = some (.int .i64 t290) ∧ w'.cell? ⟨gb294, 2, none⟩ = some (.slice Ao32 t291.length co32) ∧ w'.cell? ⟨gb274, 0, none⟩ = some (.int .i64 a0_0) ∧ w'.cell? ⟨gb274, 1, none⟩ = some (.int .i64 a0_1) ∧ w'.cell? ⟨gb274, 2, none⟩ = some (.slice A0_2 l0_2.length c0_2)) (ds := []) (bv 5 0x0) (by kernel_rfl) rfl rfl ⟨bc0 BK294, bc1 BK294, bc2 BK294, bc0 BK274, bc1 BK274, bc2 BK274⟩ (fun hHeld => ?_)
    generalize wc.drew = w73 at HO_289002 HO_295002 HO_303002 BK274 BK288 BK294 BK302 HB hHeld ⊢
    refine take_ (i := 0) (N := some 58) (v := ?_) (a' := ?_) (bv 5 0x1) rfl rfl (by kernel_rfl) (fun _ _ _ h => h) (Or.inl ⟨by rfl, ?_⟩) hHeld ?_ ?_
    rotate_left
    ·rintro w' ⟨s0, s1, s2, s3, s4, s5⟩
     go_simp
     with_reducible rfl
    rotate_left
    ·simp only [aP]
     rfl
    refine take_ (i := 1) (N := some 59) (v := ?_) (a' := ?_) (bv 5 0x3) rfl rfl (by kernel_rfl) (fun _ _ _ h => h) (Or.inl ⟨by rfl, ?_⟩) hHeld ?_ ?_
    rotate_left
    ·rintro w' ⟨s0, s1, s2, s3, s4, s5⟩
     go_simp
     with_reducible rfl
    rotate_left
    ·simp only [aP]
     rfl
    refine one_ (i := 2) (N := some 60) (bv 5 0x7) rfl rfl (by kernel_rfl) (by decide) (fun K hK => ?_)
    refine goes_ Try.func43 (by kernel_rfl) rfl #[.agg #[.int .i64 a0_0, .int .i64 a0_1, .slice A0_2 l0_2.length c0_2]] (by rfl) rfl rfl ml ?_
    with_reducible refine (laws_toRow.calls kj13 a0_0 a0_1 _ _ l0_2 t304 t305 t306 _ ?side1 ?side2 A68.out).mono ?_
    (case side1 => exact cb HR0_2 HB)
    (case side2 => exact HC0_2.out)
    rintro e w74 ⟨v307, rfl, ho0, hb⟩
    refine ⟨_, rfl, ?_⟩
    have n0_ := Aside0.mk (Kd.R_elder' (ro HO_289002) (Kd.R_base ho0) hb)
    have n1_ := Aside0.mk (Kd.R_elder' (ro HO_295002) (Kd.R_base ho0) hb)
    have n2_ := Aside0.mk (Kd.R_elder' (ro HO_303002) (Kd.R_base ho0) hb)
    have n3_ := Aside0.mk (Kd.R_lower (nw (nw (nw ho0 HO_289002) HO_295002) HO_303002) (below_size (be4 HB GE274 GE288 GE294 GE302)))
    have n4_ := bb BK274 hb
    have n5_ := bb BK288 hb
    have n6_ := bb BK294 hb
    have n7_ := bb BK302 hb
    have n8_ := Aside0.mk (below_step (be4 HB GE274 GE288 GE294 GE302) hb)
    clear HO_289002
    clear HO_295002
    clear HO_303002
    clear BK274
    clear BK288
    clear BK294
    clear BK302
    clear HB
    have HO_289002 := n0_
    have HO_295002 := n1_
    have HO_303002 := n2_
    have HO308 := n3_
    have BK274 := n4_
    have BK288 := n5_
    have BK294 := n6_
    have BK302 := n7_
    have HB := n8_
    clear n0_ n1_ n2_ n3_ n4_ n5_ n6_ n7_ n8_
    (try clear hb)
    (try clear hb2)
    (try clear hk)
    (try clear hi)
    (try clear ho0)
    obtain ⟨Ao75, co75, eo75⟩ := Kd.R_slice HO308.out
    (first | subst eo75 | (injection eo75 with f1_ f2_ f3_; have f4_ := f1_.symm; have f5_ := f3_.symm; clear f1_ f2_ f3_; subst f4_; subst f5_))
    refine hK.out _ _ ⟨bc0 BK294, bc1 BK294, bc2 BK294, bc0 BK274, bc1 BK274, bc2 BK274⟩ (fun hHeld => ?_)
    clear hK K
    refine norm_ (a' := ?_) ?_ ?_
    rotate_left
    ·show Act.put _ (some 60) _ = _
     simp only [aP]
     rfl
    refine one_ (i := 3) (N := some 61) (bv 5 0xf) rfl rfl (by kernel_rfl) (by decide) (fun K hK => ?_)
    refine goes_ Try.func45 (by kernel_rfl) rfl #[.agg #[.int .i64 t289, .int .i64 t290, .slice Ao32 t291.length co32], .agg #[.int .i64 t304, .int .i64 t305, .slice Ao75 t306.length co75]] (by rfl) rfl rfl ml ?_
    with_reducible refine (laws_eqRow.calls kj13 t289 t290 _ _ t291 t304 t305 _ _ t306 true _ ?side1 ?side2 ?side3 ?side4 A69.out).mono ?_
    (case side1 => exact cr HO_295002)
    (case side2 => exact (Kd.R_reads' HO_295002.out).2.1)
    (case side3 => exact cr HO308)
    (case side4 => exact (Kd.R_reads' HO308.out).2.1)
    rintro e w76 ⟨rfl, hb⟩
    refine ⟨_, rfl, ?_⟩
    have n0_ := rb HO_289002 hb
    have n1_ := rb HO_295002 hb
    have n2_ := rb HO_303002 hb
    have n3_ := rb HO308 hb
    have n4_ := bb BK274 hb
    have n5_ := bb BK288 hb
    have n6_ := bb BK294 hb
    have n7_ := bb BK302 hb
    have n8_ := Aside0.mk (below_step (be4 HB GE274 GE288 GE294 GE302) hb)
    clear HO_289002
    clear HO_295002
    clear HO_303002
    clear HO308
    clear BK274
    clear BK288
    clear BK294
    clear BK302
    clear HB
    have HO_289002 := n0_
    have HO_295002 := n1_
    have HO_303002 := n2_
    have HO308 := n3_
    have BK274 := n4_
    have BK288 := n5_
    have BK294 := n6_
    have BK302 := n7_
    have HB := n8_
    clear n0_ n1_ n2_ n3_ n4_ n5_ n6_ n7_ n8_
    (try clear hb)
    (try clear hb2)
    (try clear hk)
    (try clear hi)
    refine hK.out _ _ ⟨bc0 BK294, bc1 BK294, bc2 BK294, bc0 BK274, bc1 BK274, bc2 BK274⟩ (fun hHeld => ?_)
    clear hK K
    refine norm_ (a' := ?_) ?_ ?_
    rotate_left
    ·show Act.put _ (some 61) _ = _
     simp only [aP]
     rfl
    refine pure_ (i := 4) (N := some 62) (v := ?_) (a' := ?_) (bv 5 0x1f) rfl rfl (by kernel_rfl) (fun _ _ _ h => h) (Or.inl ⟨by rfl, ?_⟩) ?_ ?_
    rotate_left
    ·intro w'
     go_simp
     with_reducible rfl
    rotate_left
    ·simp only [aP]
     rfl
    refine done_ (by kernel_rfl) ?_
    have hnb77 := NB294_274.out
    have hnc77 := NB274_294.out
    have hnb78 := NB294_288.out
    have hnc78 := NB288_294.out
    have hnb79 := NB294_302.out
    have hnc79 := NB302_294.out
    have hcz80_0 := bz3 BK294
    go_upto_region 16 with (first | ((with_reducible refine gate_callee (f := 48) rfl ?_); refine gl 65 Try.func48 #[.agg #[.int .i64 t289, .int .i64 t290, .slice Ao32 t291.length co32], .int .i64 1] ?_; (with_reducible refine (laws_markRow.calls kj13 t289 t290 (fun k_ => some k_ = (.slice Ao32 t291.length co32 : Value).ownBlock) (.slice Ao32 t291.length co32) t291 1 t310 t311 w _ ?side1 ?side2 A71.out).mono ?_); (case side1 => repeat (first | (with_reducible first | exact HB.out | apply below_alloc | apply pw_below_drewN | apply below_drew1 | refine below_set ?_ GE274.out | refine below_set ?_ GE288.out | refine below_set ?_ GE294.out | refine below_set ?_ GE302.out) | exact HB.out)); (case side2 => exact Kd.R_tight rfl HO_295002.out); rintro e w81 ⟨rfl, hy0, hb, hkp⟩; refine ⟨_, rfl, ?_⟩; replace HO_289002 := Aside0.mk (Kd.R_mono (ok' := fun k_ => nb k_ Ao32 t291.length co32 ∧ nb k_ Ao39 t297.length co39 ∧ nb k_ Ao75 t306.length co75) (Kd.R_keptB (HO_289002.out) hkp (fun k_ hk_ hs_ => by first | exact hk_.1.1 hs_ | exact hk_ hs_ | exact hk_.1 hs_ | exact hk_.2 hs_ | exact hk_.1.1 hs_ | exact hk_.1.2 hs_ | exact hk_.2.1 hs_ | exact hk_.2.2 hs_ | exact hk_.1.1.1 hs_ | exact hk_.1.1.2 hs_ | exact hk_.1.2.1 hs_ | exact hk_.1.2.2 hs_ | exact hk_.2.1.1 hs_ | exact hk_.2.1.2 hs_ | exact hk_.2.2.1 hs_ | exact hk_.2.2.2 hs_ | exact hk_.1.1.1.1 hs_ | exact hk_.1.1.1.2 hs_ | exact hk_.1.1.2.1 hs_ | exact hk_.1.1.2.2 hs_ | exact hk_.1.2.1.1 hs_ | exact hk_.1.2.1.2 hs_ | exact hk_.1.2.2.1 hs_ | exact hk_.1.2.2.2 hs_ | exact hk_.2.1.1.1 hs_ | exact hk_.2.1.1.2 hs_ | exact hk_.2.1.2.1 hs_ | exact hk_.2.1.2.2 hs_ | exact hk_.2.2.1.1 hs_ | exact hk_.2.2.1.2 hs_ | exact hk_.2.2.2.1 hs_ | exact hk_.2.2.2.2 hs_)) cj); replace HO_303002 := Aside0.mk (Kd.R_mono (ok' := fun k_ => nb k_ Ao25 t283.length co25 ∧ nb k_ Ao32 t291.length co32 ∧ nb k_ Ao75 t306.length co75) (Kd.R_keptB (HO_303002.out) hkp (fun k_ hk_ hs_ => by first | exact hk_.1.2 hs_ | exact hk_ hs_ | exact hk_.1 hs_ | exact hk_.2 hs_ | exact hk_.1.1 hs_ | exact hk_.1.2 hs_ | exact hk_.2.1 hs_ | exact hk_.2.2 hs_ | exact hk_.1.1.1 hs_ | exact hk_.1.1.2 hs_ | exact hk_.1.2.1 hs_ | exact hk_.1.2.2 hs_ | exact hk_.2.1.1 hs_ | exact hk_.2.1.2 hs_ | exact hk_.2.2.1 hs_ | exact hk_.2.2.2 hs_ | exact hk_.1.1.1.1 hs_ | exact hk_.1.1.1.2 hs_ | exact hk_.1.1.2.1 hs_ | exact hk_.1.1.2.2 hs_ | exact hk_.1.2.1.1 hs_ | exact hk_.1.2.1.2 hs_ | exact hk_.1.2.2.1 hs_ | exact hk_.1.2.2.2 hs_ | exact hk_.2.1.1.1 hs_ | exact hk_.2.1.1.2 hs_ | exact hk_.2.1.2.1 hs_ | exact hk_.2.1.2.2 hs_ | exact hk_.2.2.1.1 hs_ | exact hk_.2.2.1.2 hs_ | exact hk_.2.2.2.1 hs_ | exact hk_.2.2.2.2 hs_)) cj); replace BK274 := Aside0.mk (blk_kept (bk BK274) hkp (fun hs_ => (fun e_ => (Kd.R_ne HO_295002.out BK274.out (by decide)) e_) hs_)); replace BK288 := Aside0.mk (blk_kept (bk BK288) hkp (fun hs_ => (fun e_ => (Kd.R_ne HO_295002.out BK288.out (by decide)) e_) hs_)); replace BK294 := Aside0.mk (blk_kept (bk BK294) hkp (fun hs_ => (fun e_ => (Kd.R_ne HO_295002.out BK294.out (by decide)) e_) hs_)); replace BK302 := Aside0.mk (blk_kept (bk BK302) hkp (fun hs_ => (fun e_ => (Kd.R_ne HO_295002.out BK302.out (by decide)) e_) hs_)); replace HO_295002 := Aside0.mk (Kd.R_reok rfl hy0 (fun k_ e_ => HO_295002.out.1 k_ e_)); replace HO308 := Aside0.mk (Kd.R_mono (ok' := fun k_ => nb k_ Ao25 t283.length co25 ∧ nb k_ Ao32 t291.length co32 ∧ nb k_ Ao39 t297.length co39) (Kd.R_keptB (HO308.out) hkp (fun k_ hk_ hs_ => by first | exact hk_.1.2 hs_ | exact hk_ hs_ | exact hk_.1 hs_ | exact hk_.2 hs_ | exact hk_.1.1 hs_ | exact hk_.1.2 hs_ | exact hk_.2.1 hs_ | exact hk_.2.2 hs_ | exact hk_.1.1.1 hs_ | exact hk_.1.1.2 hs_ | exact hk_.1.2.1 hs_ | exact hk_.1.2.2 hs_ | exact hk_.2.1.1 hs_ | exact hk_.2.1.2 hs_ | exact hk_.2.2.1 hs_ | exact hk_.2.2.2 hs_ | exact hk_.1.1.1.1 hs_ | exact hk_.1.1.1.2 hs_ | exact hk_.1.1.2.1 hs_ | exact hk_.1.1.2.2 hs_ | exact hk_.1.2.1.1 hs_ | exact hk_.1.2.1.2 hs_ | exact hk_.1.2.2.1 hs_ | exact hk_.1.2.2.2 hs_ | exact hk_.2.1.1.1 hs_ | exact hk_.2.1.1.2 hs_ | exact hk_.2.1.2.1 hs_ | exact hk_.2.1.2.2 hs_ | exact hk_.2.2.1.1 hs_ | exact hk_.2.2.1.2 hs_ | exact hk_.2.2.2.1 hs_ | exact hk_.2.2.2.2 hs_)) cj); replace HB := Aside0.mk (hb); (try clear hb); (try clear hkp); (try clear hy0)))
    (try simp only [Act.put, List.setIfInBounds_toArray, List.set_cons_zero, List.set_cons_succ])
    go_cut [83] (fun v83 wc => ∃ (kq : Nat) (x83_71 : Bool), v83 = .bool x83_71 ∧ Aside0 (laws_FnExactRowGet.j1 kq a1 t286 t287 x83_71 a0_0 a0_1 l0_2 t281 t282 t283 t295 t296 t297 = some r) ∧ Aside0 (kq ≤ kj13) ∧ Aside0 (Kd.R k84 84 wc w.heap.size (fun k_ => nb k_ Ao32 t291.length co32 ∧ nb k_ Ao39 t297.length co39) (.slice Ao25 t283.length co25) t283) ∧ Aside0 (Kd.R k84 84 wc w.heap.size (fun k_ => nb k_ Ao25 t283.length co25 ∧ nb k_ Ao39 t297.length co39) (.slice Ao32 t291.length co32) t311) ∧ Aside0 (Kd.R k84 84 wc w.heap.size (fun k_ => nb k_ Ao25 t283.length co25 ∧ nb k_ Ao32 t291.length co32) (.slice Ao39 t297.length co39) t297) ∧ Aside0 (wc.heap[gb274]? = some (.cells #[.int .i64 a0_0, .int .i64 a0_1, (.slice A0_2 l0_2.length c0_2)] 48 (0, 0))) ∧ Aside0 (wc.heap[gb288]? = some (.cells #[.int .i64 t281, .int .i64 t282, (.slice Ao25 t283.length co25)] 53 (0, 0))) ∧ Aside0 (wc.heap[gb294]? = some (.cells #[.int .i64 t289, .int .i64 t290, (.slice Ao32 t291.length co32)] 53 (0, 0))) ∧ Aside0 (wc.heap[gb302]? = some (.cells #[.int .i64 t295, .int .i64 t296, (.slice Ao39 t297.length co39)] 53 (0, 0))) ∧ Aside0 (Below w.heap.size w wc))
    case first =>
     have H := HC72.out
     clear HC72
     by_cases c82 : t310 < 0
     ·rw [if_pos c82] at H
      have c82b0 : decide (t310 < 0) = true := decide_eq_true c82
      clear c82
      (first | rw [c82b0] | (simp only [i64_w, i32_w]; rw [c82b0]) | skip)
      have H' := Aside0.mk H
      clear H
      go_wp2
      go_meet
      case rel => exact ⟨_, (true), rs, H', ⟨by have := HJ13.out; first | omega | exact Nat.le_refl _⟩, ⟨rom HO_289002⟩, ⟨rom HO_295002⟩, ⟨rom HO_303002⟩, ⟨bk BK274⟩, ⟨bk BK288⟩, ⟨bk BK294⟩, ⟨bk BK302⟩, ⟨be4 HB GE274 GE288 GE294 GE302⟩⟩
     rw [if_neg c82] at H
     have c82b0 : decide (t310 < 0) = false := decide_eq_false c82
     clear c82
     (first | rw [c82b0] | (simp only [i64_w, i32_w]; rw [c82b0]) | skip)
     replace H := Option.bind_eq_some_iff.mp H
     obtain ⟨t312, A830, H⟩ := H
     try dsimp only at H
     have A83 := Aside0.mk A830
     clear A830
     by_cases c84 : t312 = true
     ·subst c84
      rw [if_pos rfl] at H
      by_cases c85 : t300.toList = t286.toList
      ·rw [if_pos c85] at H
       have c85b0 : (t300.toList == t286.toList) = true := beq_iff_eq.mpr c85
       have c85b1 : (t300.toList != t286.toList) = false := bne_eq_false_iff_eq.mpr c85
       clear c85
       have H' := Aside0.mk H
       clear H
       have hnb86 := NB302_274.out
       have hnc86 := NB274_302.out
       have hnb87 := NB302_288.out
       have hnc87 := NB288_302.out
       have hnb88 := NB302_294.out
       have hnc88 := NB294_302.out
       have hcz89_0 := bz3 BK302
       have hnb90 := NB288_274.out
       have hnc90 := NB274_288.out
       have hnb91 := NB288_294.out
       have hnc91 := NB294_288.out
       have hcz92_0 := bz3 BK288
       go_wp2_with (first | (go_at_call 45; (with_reducible refine (laws_eqRow.calls kj13 t295 t296 _ _ t297 t281 t282 _ _ t283 true _ (cr HO_303002) ((Kd.R_reads' HO_303002.out).2.1) (cr HO_289002) ((Kd.R_reads' HO_289002.out).2.1) A83.out).mono ?_); rintro e w93 ⟨rfl, hb⟩; replace HO_289002 := rb HO_289002 hb; replace HO_295002 := rb HO_295002 hb; replace HO_303002 := rb HO_303002 hb; replace HO308 := rb HO308 hb; replace BK274 := bb BK274 hb; replace BK288 := bb BK288 hb; replace BK294 := bb BK294 hb; replace BK302 := bb BK302 hb; replace HB := Aside0.mk (below_step (be4 HB GE274 GE288 GE294 GE302) hb); (try clear hb)))
       go_meet
       case rel => exact ⟨_, ((t301 != t287)), rs, H', ⟨by have := HJ13.out; first | omega | exact Nat.le_refl _⟩, ⟨rom HO_289002⟩, ⟨rom HO_295002⟩, ⟨rom HO_303002⟩, ⟨bk BK274⟩, ⟨bk BK288⟩, ⟨bk BK294⟩, ⟨bk BK302⟩, ⟨be4 HB GE274 GE288 GE294 GE302⟩⟩
      rw [if_neg c85] at H
      have c85b0 : (t300.toList == t286.toList) = false := beq_eq_false_iff_ne.mpr c85
      have c85b1 : (t300.toList != t286.toList) = true := bne_iff_ne.mpr c85
      have H' := Aside0.mk H
      clear H
      have hnb94 := NB302_274.out
      have hnc94 := NB274_302.out
      have hnb95 := NB302_288.out
      have hnc95 := NB288_302.out
      have hnb96 := NB302_294.out
      have hnc96 := NB294_302.out
      have hcz97_0 := bz3 BK302
      have hnb98 := NB288_274.out
      have hnc98 := NB274_288.out
      have hnb99 := NB288_294.out
      have hnc99 := NB294_288.out
      have hcz100_0 := bz3 BK288
      go_wp2_with (first | (go_at_call 45; (with_reducible refine (laws_eqRow.calls kj13 t295 t296 _ _ t297 t281 t282 _ _ t283 true _ (cr HO_303002) ((Kd.R_reads' HO_303002.out).2.1) (cr HO_289002) ((Kd.R_reads' HO_289002.out).2.1) A83.out).mono ?_); rintro e w101 ⟨rfl, hb⟩; replace HO_289002 := rb HO_289002 hb; replace HO_295002 := rb HO_295002 hb; replace HO_303002 := rb HO_303002 hb; replace HO308 := rb HO308 hb; replace BK274 := bb BK274 hb; replace BK288 := bb BK288 hb; replace BK294 := bb BK294 hb; replace BK302 := bb BK302 hb; replace HB := Aside0.mk (below_step (be4 HB GE274 GE288 GE294 GE302) hb); (try clear hb)))
      go_meet
      case rel => exact ⟨_, (true), rs, H', ⟨by have := HJ13.out; first | omega | exact Nat.le_refl _⟩, ⟨rom HO_289002⟩, ⟨rom HO_295002⟩, ⟨rom HO_303002⟩, ⟨bk BK274⟩, ⟨bk BK288⟩, ⟨bk BK294⟩, ⟨bk BK302⟩, ⟨be4 HB GE274 GE288 GE294 GE302⟩⟩
     replace c84 := Bool.eq_false_iff.mpr c84
     subst c84
     rw [if_neg (show ¬ (false = true) by decide)] at H
     have H' := Aside0.mk H
     clear H
     have hnb102 := NB302_274.out
     have hnc102 := NB274_302.out
     have hnb103 := NB302_288.out
     have hnc103 := NB288_302.out
     have hnb104 := NB302_294.out
     have hnc104 := NB294_302.out
     have hcz105_0 := bz3 BK302
     have hnb106 := NB288_274.out
     have hnc106 := NB274_288.out
     have hnb107 := NB288_294.out
     have hnc107 := NB294_288.out
     have hcz108_0 := bz3 BK288
     go_wp2_with (first | (go_at_call 45; (with_reducible refine (laws_eqRow.calls kj13 t295 t296 _ _ t297 t281 t282 _ _ t283 false _ (cr HO_303002) ((Kd.R_reads' HO_303002.out).2.1) (cr HO_289002) ((Kd.R_reads' HO_289002.out).2.1) A83.out).mono ?_); rintro e w109 ⟨rfl, hb⟩; replace HO_289002 := rb HO_289002 hb; replace HO_295002 := rb HO_295002 hb; replace HO_303002 := rb HO_303002 hb; replace HO308 := rb HO308 hb; replace BK274 := bb BK274 hb; replace BK288 := bb BK288 hb; replace BK294 := bb BK294 hb; replace BK302 := bb BK302 hb; replace HB := Aside0.mk (below_step (be4 HB GE274 GE288 GE294 GE302) hb); (try clear hb)))
     go_meet
     case rel => exact ⟨_, (true), rs, H', ⟨by have := HJ13.out; first | omega | exact Nat.le_refl _⟩, ⟨rom HO_289002⟩, ⟨rom HO_295002⟩, ⟨rom HO_303002⟩, ⟨bk BK274⟩, ⟨bk BK288⟩, ⟨bk BK294⟩, ⟨bk BK302⟩, ⟨be4 HB GE274 GE288 GE294 GE302⟩⟩
    case rest =>
     clear HC72
     try clear c1; try clear c2; try clear p2; try clear c3; try clear c3b0; try clear c3b1; try clear c4; try clear c5; try clear c6; try clear c6b0; try clear c7; try clear c8; try clear c9; try clear c10; try clear c13; try clear c23; try clear c29; try clear c30; try clear c35; try clear c36; try clear c37; try clear c41; try clear c42; try clear c42b0; try clear c42b1; try clear c43; try clear c44; try clear c45; try clear c47; try clear c48; try clear c51; try clear c52; try clear c53; try clear c55; try clear c56; try clear c59; try clear c60; try clear c61; try clear c63; try clear c64; try clear c67; try clear c70; try clear c77; try clear c78; try clear c79; try clear c82; try clear c82b0; try clear c84; try clear c85; try clear c85b0; try clear c85b1; try clear c86; try clear c87; try clear c88; try clear c90; try clear c91; try clear c94; try clear c95; try clear c96; try clear c98; try clear c99; try clear c102; try clear c103; try clear c104; try clear c106; try clear c107; try clear hcz100_0; try clear hcz105_0; try clear hcz108_0; try clear hcz16_0; try clear hcz18_0; try clear hcz24_0; try clear hcz26_0; try clear hcz31_0; try clear hcz38_0; try clear hcz46_0; try clear hcz49_0; try clear hcz54_0; try clear hcz57_0; try clear hcz62_0; try clear hcz65_0; try clear hcz80_0; try clear hcz89_0; try clear hcz8_0; try clear hcz92_0; try clear hcz97_0; try clear p2
     obtain ⟨kq, x83_71, rfl, HA, HJ71, HO_289002, HO_295002, HO_303002, BK274, BK288, BK294, BK302, HB⟩ := hcut
     have hl295002_71 := (Kd.R_reads' HO_295002.out).1
     rw [hl295002_71] at HO_295002
     (try simp only [hl295002_71])
     (try simp only [hl295002_71] at BK274)
     (try simp only [hl295002_71] at BK288)
     (try simp only [hl295002_71] at BK294)
     (try simp only [hl295002_71] at BK302)
     (try simp only [hl295002_71] at HO_289002)
     (try simp only [hl295002_71] at HO_303002)
     cases kq with
     | zero => exact absurd HA.out (by simp [laws_FnExactRowGet.j1])
     | succ kj71 =>
      have H := HA.out
      clear HA
      simp only [laws_FnExactRowGet.j1] at H
      by_cases c110 : x83_71 = true
      ·subst c110
       rw [if_pos rfl] at H
       exact absurd ((Option.some.inj H).trans hrt_.out) (by decide)
      replace c110 := Bool.eq_false_iff.mpr c110
      subst c110
      rw [if_neg (show ¬ (false = true) by decide)] at H
      replace H := Option.bind_eq_some_iff.mp H
      obtain ⟨⟨t313, t314⟩, A1110, H⟩ := H
      try dsimp only at H
      have A111 := Aside0.mk A1110
      clear A1110
      replace H := Option.bind_eq_some_iff.mp H
      obtain ⟨t315, A1120, H⟩ := H
      try dsimp only at H
      have A112 := Aside0.mk A1120
      clear A1120
      by_cases c113 : t315 < 0
      ·rw [if_pos c113] at H
       have c113b0 : decide (t315 < 0) = true := decide_eq_true c113
       clear c113
       exact absurd ((Option.some.inj H).trans hrt_.out) (by decide)
      rw [if_neg c113] at H
      have c113b0 : decide (t315 < 0) = false := decide_eq_false c113
      clear c113
      by_cases c114 : t315 = t313
      ·rw [if_pos c114] at H
       have c114b0 : (t315 == t313) = true := beq_iff_eq.mpr c114
       have c114b1 : (t315 != t313) = false := bne_eq_false_iff_eq.mpr c114
       clear c114
       replace H := Option.bind_eq_some_iff.mp H
       obtain ⟨⟨t316, t317, t318⟩, A1150, H⟩ := H
       try dsimp only at H
       have A115 := Aside0.mk A1150
       clear A1150
       replace H := Option.bind_eq_some_iff.mp H
       obtain ⟨⟨t321, t322, t323, t326, t327⟩, A1160, H⟩ := H
       try dsimp only at H
       have A116 := Aside0.mk A1160
       clear A1160
       have HC117 := Aside0.mk H
       clear H
       have hnb118 := NB302_274.out
       have hnc118 := NB274_302.out
       have hnb119 := NB302_288.out
       have hnc119 := NB288_302.out
       have hnb120 := NB302_294.out
       have hnc120 := NB294_302.out
       have hcz121_0 := bz3 BK302
       go_upto_region 27 with (first | ((with_reducible refine gate_callee (f := 48) rfl ?_); refine gl 86 Try.func48 #[.agg #[.int .i64 t295, .int .i64 t296, .slice Ao39 t297.length co39], .int .i64 1] ?_; (with_reducible refine (laws_markRow.calls kj71 t295 t296 (fun k_ => some k_ = (.slice Ao39 t297.length co39 : Value).ownBlock) (.slice Ao39 t297.length co39) t297 1 t313 t314 w _ ?side1 ?side2 A111.out).mono ?_); (case side1 => repeat (first | (with_reducible first | exact HB.out | apply below_alloc | apply pw_below_drewN | apply below_drew1 | refine below_set ?_ GE274.out | refine below_set ?_ GE288.out | refine below_set ?_ GE294.out | refine below_set ?_ GE302.out) | exact HB.out)); (case side2 => exact Kd.R_tight rfl HO_303002.out); rintro e w122 ⟨rfl, hy0, hb, hkp⟩; refine ⟨_, rfl, ?_⟩; replace HO_289002 := Aside0.mk (Kd.R_mono (ok' := fun k_ => nb k_ Ao32 t311.length co32 ∧ nb k_ Ao39 t297.length co39) (Kd.R_keptB (HO_289002.out) hkp (fun k_ hk_ hs_ => by first | exact hk_.2 hs_ | exact hk_ hs_ | exact hk_.1 hs_ | exact hk_.2 hs_ | exact hk_.1.1 hs_ | exact hk_.1.2 hs_ | exact hk_.2.1 hs_ | exact hk_.2.2 hs_ | exact hk_.1.1.1 hs_ | exact hk_.1.1.2 hs_ | exact hk_.1.2.1 hs_ | exact hk_.1.2.2 hs_ | exact hk_.2.1.1 hs_ | exact hk_.2.1.2 hs_ | exact hk_.2.2.1 hs_ | exact hk_.2.2.2 hs_ | exact hk_.1.1.1.1 hs_ | exact hk_.1.1.1.2 hs_ | exact hk_.1.1.2.1 hs_ | exact hk_.1.1.2.2 hs_ | exact hk_.1.2.1.1 hs_ | exact hk_.1.2.1.2 hs_ | exact hk_.1.2.2.1 hs_ | exact hk_.1.2.2.2 hs_ | exact hk_.2.1.1.1 hs_ | exact hk_.2.1.1.2 hs_ | exact hk_.2.1.2.1 hs_ | exact hk_.2.1.2.2 hs_ | exact hk_.2.2.1.1 hs_ | exact hk_.2.2.1.2 hs_ | exact hk_.2.2.2.1 hs_ | exact hk_.2.2.2.2 hs_)) cj); replace HO_295002 := Aside0.mk (Kd.R_mono (ok' := fun k_ => nb k_ Ao25 t283.length co25 ∧ nb k_ Ao39 t297.length co39) (Kd.R_keptB (HO_295002.out) hkp (fun k_ hk_ hs_ => by first | exact hk_.2 hs_ | exact hk_ hs_ | exact hk_.1 hs_ | exact hk_.2 hs_ | exact hk_.1.1 hs_ | exact hk_.1.2 hs_ | exact hk_.2.1 hs_ | exact hk_.2.2 hs_ | exact hk_.1.1.1 hs_ | exact hk_.1.1.2 hs_ | exact hk_.1.2.1 hs_ | exact hk_.1.2.2 hs_ | exact hk_.2.1.1 hs_ | exact hk_.2.1.2 hs_ | exact hk_.2.2.1 hs_ | exact hk_.2.2.2 hs_ | exact hk_.1.1.1.1 hs_ | exact hk_.1.1.1.2 hs_ | exact hk_.1.1.2.1 hs_ | exact hk_.1.1.2.2 hs_ | exact hk_.1.2.1.1 hs_ | exact hk_.1.2.1.2 hs_ | exact hk_.1.2.2.1 hs_ | exact hk_.1.2.2.2 hs_ | exact hk_.2.1.1.1 hs_ | exact hk_.2.1.1.2 hs_ | exact hk_.2.1.2.1 hs_ | exact hk_.2.1.2.2 hs_ | exact hk_.2.2.1.1 hs_ | exact hk_.2.2.1.2 hs_ | exact hk_.2.2.2.1 hs_ | exact hk_.2.2.2.2 hs_)) cj); replace BK274 := Aside0.mk (blk_kept (bk BK274) hkp (fun hs_ => (fun e_ => (Kd.R_ne HO_303002.out BK274.out (by decide)) e_) hs_)); replace BK288 := Aside0.mk (blk_kept (bk BK288) hkp (fun hs_ => (fun e_ => (Kd.R_ne HO_303002.out BK288.out (by decide)) e_) hs_)); replace BK294 := Aside0.mk (blk_kept (bk BK294) hkp (fun hs_ => (fun e_ => (Kd.R_ne HO_303002.out BK294.out (by decide)) e_) hs_)); replace BK302 := Aside0.mk (blk_kept (bk BK302) hkp (fun hs_ => (fun e_ => (Kd.R_ne HO_303002.out BK302.out (by decide)) e_) hs_)); replace HO_303002 := Aside0.mk (Kd.R_reok rfl hy0 (fun k_ e_ => HO_303002.out.1 k_ e_)); replace HB := Aside0.mk (hb); (try clear hb); (try clear hkp); (try clear hy0); have hcz123_0 := bz3 BK302) | ((with_reducible refine gate_callee (f := 49) rfl ?_); refine goesL_ (some 89) rfl rfl Try.func49 (by kernel_rfl) rfl #[.agg #[.int .i64 t295, .int .i64 t296, .slice Ao39 t314.length co39], .int .i64 1] rfl (by (try simp only [List.map_toArray, List.map_cons, List.map_nil]); first | done | (rw [show t314.length = t297.length from (Kd.R_reads' HO_303002.out).1.symm] <;> rfl) | rfl | (simp only [List.length_drop, List.length_take]; rfl)) ?_; (with_reducible refine (laws_heldRow.calls kj71 t295 t296 _ _ t314 1 t315 _ (cr HO_303002) ?side2 A112.out).mono ?_); (case side2 => rw [show t314.length = t297.length from (Kd.R_reads' HO_303002.out).1.symm]; exact (Kd.R_reads' HO_303002.out).2.1); rintro e w124 ⟨rfl, hb⟩; refine ⟨_, rfl, ?_⟩; replace HO_289002 := rb HO_289002 hb; replace HO_295002 := rb HO_295002 hb; replace HO_303002 := rb HO_303002 hb; replace BK274 := bb BK274 hb; replace BK288 := bb BK288 hb; replace BK294 := bb BK294 hb; replace BK302 := bb BK302 hb; replace HB := Aside0.mk (below_step (be4 HB GE274 GE288 GE294 GE302) hb); (try clear hb); have hnb125 := NB274_288.out; have hnc125 := NB288_274.out; have hnb126 := NB274_294.out; have hnc126 := NB294_274.out; have hcz127_0 := bz3 BK274) | ((with_reducible refine gate_callee (f := 43) rfl ?_); refine gl 97 Try.func43 #[.agg #[.int .i64 a0_0, .int .i64 a0_1, .slice A0_2 l0_2.length c0_2]] ?_; (with_reducible refine (laws_toRow.calls kj71 a0_0 a0_1 _ _ l0_2 t316 t317 t318 _ (cb HR0_2 HB) HC0_2.out A115.out).mono ?_); rintro e w128 ⟨v319, rfl, ho0, hb⟩; refine ⟨_, rfl, ?_⟩; have HO320 := Aside0.mk (Kd.R_lower (nw (nw (nw ho0 HO_289002) HO_295002) HO_303002) (below_size (be4 HB GE274 GE288 GE294 GE302))); replace HO_289002 := Aside0.mk (Kd.R_elder' (ro HO_289002) (Kd.R_base ho0) hb); replace HO_295002 := Aside0.mk (Kd.R_elder' (ro HO_295002) (Kd.R_base ho0) hb); replace HO_303002 := Aside0.mk (Kd.R_elder' (ro HO_303002) (Kd.R_base ho0) hb); replace BK274 := bb BK274 hb; replace BK288 := bb BK288 hb; replace BK294 := bb BK294 hb; replace BK302 := bb BK302 hb; replace HB := Aside0.mk (below_step (be4 HB GE274 GE288 GE294 GE302) hb); (try clear hb); (try clear ho0); obtain ⟨Ao129, co129, eo129⟩ := Kd.R_slice HO320.out; subst eo129) | ((with_reducible refine gate_callee (f := 53) rfl ?_); refine gl 99 Try.func53 #[.agg #[.int .i64 t316, .int .i64 t317, .slice Ao129 t318.length co129], .string a1] ?_; (with_reducible refine (impl_RowGet.calls kj71 t316 t317 _ _ t318 a1 t321 t322 t323 t326 t327 _ (cr HO320) ((Kd.R_reads' HO320.out).2.1) A116.out).mono ?_); rintro e w130 ⟨v324, rfl, ho0, hb⟩; refine ⟨_, rfl, ?_⟩; have HO325 := Aside0.mk (Kd.R_lower (nw (nw (nw (nw ho0 HO_289002) HO_295002) HO_303002) HO320) (below_size (be4 HB GE274 GE288 GE294 GE302))); replace HO_289002 := Aside0.mk (Kd.R_elder' (ro HO_289002) (Kd.R_base ho0) hb); replace HO_295002 := Aside0.mk (Kd.R_elder' (ro HO_295002) (Kd.R_base ho0) hb); replace HO_303002 := Aside0.mk (Kd.R_elder' (ro HO_303002) (Kd.R_base ho0) hb); replace HO320 := Aside0.mk (Kd.R_elder' (ro HO320) (Kd.R_base ho0) hb); replace BK274 := bb BK274 hb; replace BK288 := bb BK288 hb; replace BK294 := bb BK294 hb; replace BK302 := bb BK302 hb; replace HB := Aside0.mk (below_step (be4 HB GE274 GE288 GE294 GE302) hb); (try clear hb); (try clear ho0)) | ((with_reducible refine gate_dst (N := 16) rfl ?_); refine bx 16 #[.int .i64 0, .int .i64 0, .slice none 0 0] 53 ?_; intro gb328 hg w131 hbox hb; replace HO_289002 := rb HO_289002 hb; replace HO_295002 := rb HO_295002 hb; replace HO_303002 := rb HO_303002 hb; replace HO320 := rb HO320 hb; replace HO325 := rb HO325 hb; have BK328 := am hbox; have GW328 := Aside0.mk ((by rw [hg]; exact (below_size (be4 HB GE274 GE288 GE294 GE302)) : w.heap.size ≤ gb328)); have GE328 := Aside0.mk ((by rw [hg]; exact (below_size (be4 HB GE274 GE288 GE294 GE302)) : w.heap.size ≤ gb328)); replace HB := Aside0.mk (below_step (be4 HB GE274 GE288 GE294 GE302) hb); have NB274_328 := Aside0.mk ((by rw [hg]; exact Nat.ne_of_lt (bl BK274) : gb274 ≠ gb328)); have NB328_274 := Aside0.mk ((by rw [hg]; exact Nat.ne_of_gt (bl BK274) : gb328 ≠ gb274)); replace BK274 := bb BK274 hb; have NB288_328 := Aside0.mk ((by rw [hg]; exact Nat.ne_of_lt (bl BK288) : gb288 ≠ gb328)); have NB328_288 := Aside0.mk ((by rw [hg]; exact Nat.ne_of_gt (bl BK288) : gb328 ≠ gb288)); replace BK288 := bb BK288 hb; have NB294_328 := Aside0.mk ((by rw [hg]; exact Nat.ne_of_lt (bl BK294) : gb294 ≠ gb328)); have NB328_294 := Aside0.mk ((by rw [hg]; exact Nat.ne_of_gt (bl BK294) : gb328 ≠ gb294)); replace BK294 := bb BK294 hb; have NB302_328 := Aside0.mk ((by rw [hg]; exact Nat.ne_of_lt (bl BK302) : gb302 ≠ gb328)); have NB328_302 := Aside0.mk ((by rw [hg]; exact Nat.ne_of_gt (bl BK302) : gb328 ≠ gb302)); replace BK302 := bb BK302 hb; clear hb hbox hg; have hnb132 := NB328_274.out; have hnc132 := NB274_328.out; have hnb133 := NB328_288.out; have hnc133 := NB288_328.out; have hnb134 := NB328_294.out; have hnc134 := NB294_328.out; have hnb135 := NB328_302.out; have hnc135 := NB302_328.out; have hcz136_0 := bz3 BK328; obtain ⟨Ao137, co137, eo137⟩ := Kd.R_slice HO325.out; subst eo137))
       (try simp only [Act.put, List.setIfInBounds_toArray, List.set_cons_zero, List.set_cons_succ])
       go_cut [116] (fun v116 wc => ∃ (kq : Nat) (x116_116 : Bool), v116 = .bool x116_116 ∧ Aside0 (laws_FnExactRowGet.j2 kq t313 x116_116 t295 t296 t314 = some r) ∧ Aside0 (kq ≤ kj71) ∧ Aside0 (Kd.R k84 84 wc w.heap.size (fun k_ => nb k_ Ao32 t311.length co32 ∧ nb k_ Ao39 t297.length co39 ∧ nb k_ Ao137 t323.length co137) (.slice Ao25 t283.length co25) t283) ∧ Aside0 (Kd.R k84 84 wc w.heap.size (fun k_ => nb k_ Ao25 t283.length co25 ∧ nb k_ Ao39 t297.length co39 ∧ nb k_ Ao137 t323.length co137) (.slice Ao32 t311.length co32) t311) ∧ Aside0 (Kd.R k84 84 wc w.heap.size (fun k_ => nb k_ Ao25 t283.length co25 ∧ nb k_ Ao32 t311.length co32 ∧ nb k_ Ao137 t323.length co137) (.slice Ao39 t297.length co39) t314) ∧ Aside0 (Kd.R k84 84 wc w.heap.size (fun k_ => nb k_ Ao25 t283.length co25 ∧ nb k_ Ao32 t311.length co32 ∧ nb k_ Ao39 t297.length co39) (.slice Ao137 t323.length co137) t323) ∧ Aside0 (wc.heap[gb274]? = some (.cells #[.int .i64 a0_0, .int .i64 a0_1, (.slice A0_2 l0_2.length c0_2)] 48 (0, 0))) ∧ Aside0 (wc.heap[gb288]? = some (.cells #[.int .i64 t281, .int .i64 t282, (.slice Ao25 t283.length co25)] 53 (0, 0))) ∧ Aside0 (wc.heap[gb294]? = some (.cells #[.int .i64 t289, .int .i64 t290, (.slice Ao32 t311.length co32)] 53 (0, 0))) ∧ Aside0 (wc.heap[gb302]? = some (.cells #[.int .i64 t295, .int .i64 t296, (.slice Ao39 t297.length co39)] 53 (0, 0))) ∧ Aside0 (wc.heap[gb328]? = some (.cells #[.int .i64 t321, .int .i64 t322, (.slice Ao137 t323.length co137)] 53 (0, 0))) ∧ Aside0 (Below w.heap.size w wc))
       case first =>
        have H := HC117.out
        clear HC117
        replace H := Option.bind_eq_some_iff.mp H
        obtain ⟨t329, A1380, H⟩ := H
        try dsimp only at H
        have A138 := Aside0.mk A1380
        clear A1380
        by_cases c139 : t329 = true
        ·subst c139
         rw [if_pos rfl] at H
         by_cases c140 : t326.toList = t286.toList
         ·rw [if_pos c140] at H
          have c140b0 : (t326.toList == t286.toList) = true := beq_iff_eq.mpr c140
          have c140b1 : (t326.toList != t286.toList) = false := bne_eq_false_iff_eq.mpr c140
          clear c140
          (first | rw [c140b0] | (simp only [i64_w, i32_w]; rw [c140b0]) | skip)
          have H' := Aside0.mk H
          clear H
          have hnb141 := NB328_274.out
          have hnc141 := NB274_328.out
          have hnb142 := NB328_288.out
          have hnc142 := NB288_328.out
          have hnb143 := NB328_294.out
          have hnc143 := NB294_328.out
          have hnb144 := NB328_302.out
          have hnc144 := NB302_328.out
          have hcz145_0 := bz3 BK328
          have hnb146 := NB288_274.out
          have hnc146 := NB274_288.out
          have hnb147 := NB288_294.out
          have hnc147 := NB294_288.out
          have hnb148 := NB288_302.out
          have hnc148 := NB302_288.out
          have hcz149_0 := bz3 BK288
          go_wp2_with (first | ((with_reducible refine gate_callee (f := 45) rfl ?_); refine gl 105 Try.func45 #[.agg #[.int .i64 t321, .int .i64 t322, .slice Ao137 t323.length co137], .agg #[.int .i64 t281, .int .i64 t282, .slice Ao25 t283.length co25]] ?_; (with_reducible refine (laws_eqRow.calls kj71 t321 t322 _ _ t323 t281 t282 _ _ t283 true _ ?side1 ((Kd.R_reads' HO325.out).2.1) ?side3 ((Kd.R_reads' HO_289002.out).2.1) A138.out).mono ?_); (case side1 => exact rfr _ HO325 BK328); (case side3 => exact rfr _ HO_289002 BK328); rintro e w150 ⟨rfl, hb⟩; refine ⟨_, rfl, ?_⟩; replace HO_289002 := Aside0.mk (Kd.R_below (rf HO_289002 BK328) hb); replace HO_295002 := Aside0.mk (Kd.R_below (rf HO_295002 BK328) hb); replace HO_303002 := Aside0.mk (Kd.R_below (rf HO_303002 BK328) hb); replace HO320 := Aside0.mk (Kd.R_below (rf HO320 BK328) hb); replace HO325 := Aside0.mk (Kd.R_below (rf HO325 BK328) hb); replace BK274 := Aside0.mk (blk_below (g := gb274) (o := .cells #[.int .i64 a0_0, .int .i64 a0_1, .slice A0_2 l0_2.length c0_2] 48 (0, 0)) (bf1 BK274 NB274_328) hb); replace BK288 := Aside0.mk (blk_below (g := gb288) (o := .cells #[.int .i64 t281, .int .i64 t282, .slice Ao25 t283.length co25] 53 (0, 0)) (bf1 BK288 NB288_328) hb); replace BK294 := Aside0.mk (blk_below (g := gb294) (o := .cells #[.int .i64 t289, .int .i64 t290, .slice Ao32 t311.length co32] 53 (0, 0)) (bf1 BK294 NB294_328) hb); replace BK302 := Aside0.mk (blk_below (g := gb302) (o := .cells #[.int .i64 t295, .int .i64 t296, .slice Ao39 t297.length co39] 53 (0, 0)) (bf1 BK302 NB302_328) hb); replace BK328 := Aside0.mk (blk_below (g := gb328) (o := .cells #[.int .i64 t321, .int .i64 t322, .slice Ao137 t323.length co137] 53 (0, 0)) (by (with_reducible repeat (first | refine blk_drewN ?_ _ | refine blk_drew ?_ | refine blk_alloc ?_ _)); refine blk_put (cs := #[.int .i64 t321, .int .i64 t322, .slice none 0 0]) ?_ 2 _ rfl; (with_reducible repeat (first | refine blk_drewN ?_ _ | refine blk_drew ?_ | refine blk_alloc ?_ _)); refine blk_put (cs := #[.int .i64 t321, .int .i64 0, .slice none 0 0]) ?_ 1 _ rfl; (with_reducible repeat (first | refine blk_drewN ?_ _ | refine blk_drew ?_ | refine blk_alloc ?_ _)); refine blk_put (cs := #[.int .i64 0, .int .i64 0, .slice none 0 0]) ?_ 0 _ rfl; (with_reducible repeat (first | refine blk_drewN ?_ _ | refine blk_drew ?_ | refine blk_alloc ?_ _)); exact BK328.out) hb); replace HB := Aside0.mk (below_step (be5 HB GE274 GE288 GE294 GE302 GE328) hb); (try clear hb)))
          go_meet
          case rel => exact ⟨_, ((t327 != t287)), rs, H', ⟨by have := HJ13.out; have := HJ71.out; first | omega | exact Nat.le_refl _⟩, ⟨by (try simp only [hl295002_71]); (with_reducible repeat (first | apply Kd.R_alloc | apply Kd.R_drewN | apply Kd.R_drew)); exact rm HO_289002⟩, ⟨by (try simp only [hl295002_71]); (with_reducible repeat (first | apply Kd.R_alloc | apply Kd.R_drewN | apply Kd.R_drew)); exact rm HO_295002⟩, ⟨by (try simp only [hl295002_71]); (with_reducible repeat (first | apply Kd.R_alloc | apply Kd.R_drewN | apply Kd.R_drew)); exact rm HO_303002⟩, ⟨by (try simp only [hl295002_71]); (with_reducible repeat (first | apply Kd.R_alloc | apply Kd.R_drewN | apply Kd.R_drew)); exact rm HO325⟩, ⟨by (try simp only [hl295002_71]); (with_reducible repeat (first | refine blk_drewN ?_ _ | refine blk_drew ?_ | refine blk_alloc ?_ _)); exact BK274.out⟩, ⟨by (try simp only [hl295002_71]); (with_reducible repeat (first | refine blk_drewN ?_ _ | refine blk_drew ?_ | refine blk_alloc ?_ _)); exact BK288.out⟩, ⟨by (try simp only [hl295002_71]); (with_reducible repeat (first | refine blk_drewN ?_ _ | refine blk_drew ?_ | refine blk_alloc ?_ _)); exact BK294.out⟩, ⟨by (try simp only [hl295002_71]); (with_reducible repeat (first | refine blk_drewN ?_ _ | refine blk_drew ?_ | refine blk_alloc ?_ _)); exact BK302.out⟩, ⟨by (try simp only [hl295002_71]); (with_reducible repeat (first | refine blk_drewN ?_ _ | refine blk_drew ?_ | refine blk_alloc ?_ _)); exact BK328.out⟩, ⟨be5 HB GE274 GE288 GE294 GE302 GE328⟩⟩
         rw [if_neg c140] at H
         have c140b0 : (t326.toList == t286.toList) = false := beq_eq_false_iff_ne.mpr c140
         have c140b1 : (t326.toList != t286.toList) = true := bne_iff_ne.mpr c140
         (first | rw [c140b0] | (simp only [i64_w, i32_w]; rw [c140b0]) | skip)
         have H' := Aside0.mk H
         clear H
         have hnb151 := NB328_274.out
         have hnc151 := NB274_328.out
         have hnb152 := NB328_288.out
         have hnc152 := NB288_328.out
         have hnb153 := NB328_294.out
         have hnc153 := NB294_328.out
         have hnb154 := NB328_302.out
         have hnc154 := NB302_328.out
         have hcz155_0 := bz3 BK328
         have hnb156 := NB288_274.out
         have hnc156 := NB274_288.out
         have hnb157 := NB288_294.out
         have hnc157 := NB294_288.out
         have hnb158 := NB288_302.out
         have hnc158 := NB302_288.out
         have hcz159_0 := bz3 BK288
         go_wp2_with (first | ((with_reducible refine gate_callee (f := 45) rfl ?_); refine gl 105 Try.func45 #[.agg #[.int .i64 t321, .int .i64 t322, .slice Ao137 t323.length co137], .agg #[.int .i64 t281, .int .i64 t282, .slice Ao25 t283.length co25]] ?_; (with_reducible refine (laws_eqRow.calls kj71 t321 t322 _ _ t323 t281 t282 _ _ t283 true _ ?side1 ((Kd.R_reads' HO325.out).2.1) ?side3 ((Kd.R_reads' HO_289002.out).2.1) A138.out).mono ?_); (case side1 => exact rfr _ HO325 BK328); (case side3 => exact rfr _ HO_289002 BK328); rintro e w160 ⟨rfl, hb⟩; refine ⟨_, rfl, ?_⟩; replace HO_289002 := Aside0.mk (Kd.R_below (rf HO_289002 BK328) hb); replace HO_295002 := Aside0.mk (Kd.R_below (rf HO_295002 BK328) hb); replace HO_303002 := Aside0.mk (Kd.R_below (rf HO_303002 BK328) hb); replace HO320 := Aside0.mk (Kd.R_below (rf HO320 BK328) hb); replace HO325 := Aside0.mk (Kd.R_below (rf HO325 BK328) hb); replace BK274 := Aside0.mk (blk_below (g := gb274) (o := .cells #[.int .i64 a0_0, .int .i64 a0_1, .slice A0_2 l0_2.length c0_2] 48 (0, 0)) (bf1 BK274 NB274_328) hb); replace BK288 := Aside0.mk (blk_below (g := gb288) (o := .cells #[.int .i64 t281, .int .i64 t282, .slice Ao25 t283.length co25] 53 (0, 0)) (bf1 BK288 NB288_328) hb); replace BK294 := Aside0.mk (blk_below (g := gb294) (o := .cells #[.int .i64 t289, .int .i64 t290, .slice Ao32 t311.length co32] 53 (0, 0)) (bf1 BK294 NB294_328) hb); replace BK302 := Aside0.mk (blk_below (g := gb302) (o := .cells #[.int .i64 t295, .int .i64 t296, .slice Ao39 t297.length co39] 53 (0, 0)) (bf1 BK302 NB302_328) hb); replace BK328 := Aside0.mk (blk_below (g := gb328) (o := .cells #[.int .i64 t321, .int .i64 t322, .slice Ao137 t323.length co137] 53 (0, 0)) (by (with_reducible repeat (first | refine blk_drewN ?_ _ | refine blk_drew ?_ | refine blk_alloc ?_ _)); refine blk_put (cs := #[.int .i64 t321, .int .i64 t322, .slice none 0 0]) ?_ 2 _ rfl; (with_reducible repeat (first | refine blk_drewN ?_ _ | refine blk_drew ?_ | refine blk_alloc ?_ _)); refine blk_put (cs := #[.int .i64 t321, .int .i64 0, .slice none 0 0]) ?_ 1 _ rfl; (with_reducible repeat (first | refine blk_drewN ?_ _ | refine blk_drew ?_ | refine blk_alloc ?_ _)); refine blk_put (cs := #[.int .i64 0, .int .i64 0, .slice none 0 0]) ?_ 0 _ rfl; (with_reducible repeat (first | refine blk_drewN ?_ _ | refine blk_drew ?_ | refine blk_alloc ?_ _)); exact BK328.out) hb); replace HB := Aside0.mk (below_step (be5 HB GE274 GE288 GE294 GE302 GE328) hb); (try clear hb)))
         go_meet
         case rel => exact ⟨_, (true), rs, H', ⟨by have := HJ13.out; have := HJ71.out; first | omega | exact Nat.le_refl _⟩, ⟨by (try simp only [hl295002_71]); (with_reducible repeat (first | apply Kd.R_alloc | apply Kd.R_drewN | apply Kd.R_drew)); exact rm HO_289002⟩, ⟨by (try simp only [hl295002_71]); (with_reducible repeat (first | apply Kd.R_alloc | apply Kd.R_drewN | apply Kd.R_drew)); exact rm HO_295002⟩, ⟨by (try simp only [hl295002_71]); (with_reducible repeat (first | apply Kd.R_alloc | apply Kd.R_drewN | apply Kd.R_drew)); exact rm HO_303002⟩, ⟨by (try simp only [hl295002_71]); (with_reducible repeat (first | apply Kd.R_alloc | apply Kd.R_drewN | apply Kd.R_drew)); exact rm HO325⟩, ⟨by (try simp only [hl295002_71]); (with_reducible repeat (first | refine blk_drewN ?_ _ | refine blk_drew ?_ | refine blk_alloc ?_ _)); exact BK274.out⟩, ⟨by (try simp only [hl295002_71]); (with_reducible repeat (first | refine blk_drewN ?_ _ | refine blk_drew ?_ | refine blk_alloc ?_ _)); exact BK288.out⟩, ⟨by (try simp only [hl295002_71]); (with_reducible repeat (first | refine blk_drewN ?_ _ | refine blk_drew ?_ | refine blk_alloc ?_ _)); exact BK294.out⟩, ⟨by (try simp only [hl295002_71]); (with_reducible repeat (first | refine blk_drewN ?_ _ | refine blk_drew ?_ | refine blk_alloc ?_ _)); exact BK302.out⟩, ⟨by (try simp only [hl295002_71]); (with_reducible repeat (first | refine blk_drewN ?_ _ | refine blk_drew ?_ | refine blk_alloc ?_ _)); exact BK328.out⟩, ⟨be5 HB GE274 GE288 GE294 GE302 GE328⟩⟩
        replace c139 := Bool.eq_false_iff.mpr c139
        subst c139
        rw [if_neg (show ¬ (false = true) by decide)] at H
        have H' := Aside0.mk H
        clear H
        have hnb161 := NB328_274.out
        have hnc161 := NB274_328.out
        have hnb162 := NB328_288.out
        have hnc162 := NB288_328.out
        have hnb163 := NB328_294.out
        have hnc163 := NB294_328.out
        have hnb164 := NB328_302.out
        have hnc164 := NB302_328.out
        have hcz165_0 := bz3 BK328
        have hnb166 := NB288_274.out
        have hnc166 := NB274_288.out
        have hnb167 := NB288_294.out
        have hnc167 := NB294_288.out
        have hnb168 := NB288_302.out
        have hnc168 := NB302_288.out
        have hcz169_0 := bz3 BK288
        go_wp2_with (first | ((with_reducible refine gate_callee (f := 45) rfl ?_); refine gl 105 Try.func45 #[.agg #[.int .i64 t321, .int .i64 t322, .slice Ao137 t323.length co137], .agg #[.int .i64 t281, .int .i64 t282, .slice Ao25 t283.length co25]] ?_; (with_reducible refine (laws_eqRow.calls kj71 t321 t322 _ _ t323 t281 t282 _ _ t283 false _ ?side1 ((Kd.R_reads' HO325.out).2.1) ?side3 ((Kd.R_reads' HO_289002.out).2.1) A138.out).mono ?_); (case side1 => exact rfr _ HO325 BK328); (case side3 => exact rfr _ HO_289002 BK328); rintro e w170 ⟨rfl, hb⟩; refine ⟨_, rfl, ?_⟩; replace HO_289002 := Aside0.mk (Kd.R_below (rf HO_289002 BK328) hb); replace HO_295002 := Aside0.mk (Kd.R_below (rf HO_295002 BK328) hb); replace HO_303002 := Aside0.mk (Kd.R_below (rf HO_303002 BK328) hb); replace HO320 := Aside0.mk (Kd.R_below (rf HO320 BK328) hb); replace HO325 := Aside0.mk (Kd.R_below (rf HO325 BK328) hb); replace BK274 := Aside0.mk (blk_below (g := gb274) (o := .cells #[.int .i64 a0_0, .int .i64 a0_1, .slice A0_2 l0_2.length c0_2] 48 (0, 0)) (bf1 BK274 NB274_328) hb); replace BK288 := Aside0.mk (blk_below (g := gb288) (o := .cells #[.int .i64 t281, .int .i64 t282, .slice Ao25 t283.length co25] 53 (0, 0)) (bf1 BK288 NB288_328) hb); replace BK294 := Aside0.mk (blk_below (g := gb294) (o := .cells #[.int .i64 t289, .int .i64 t290, .slice Ao32 t311.length co32] 53 (0, 0)) (bf1 BK294 NB294_328) hb); replace BK302 := Aside0.mk (blk_below (g := gb302) (o := .cells #[.int .i64 t295, .int .i64 t296, .slice Ao39 t297.length co39] 53 (0, 0)) (bf1 BK302 NB302_328) hb); replace BK328 := Aside0.mk (blk_below (g := gb328) (o := .cells #[.int .i64 t321, .int .i64 t322, .slice Ao137 t323.length co137] 53 (0, 0)) (by (with_reducible repeat (first | refine blk_drewN ?_ _ | refine blk_drew ?_ | refine blk_alloc ?_ _)); refine blk_put (cs := #[.int .i64 t321, .int .i64 t322, .slice none 0 0]) ?_ 2 _ rfl; (with_reducible repeat (first | refine blk_drewN ?_ _ | refine blk_drew ?_ | refine blk_alloc ?_ _)); refine blk_put (cs := #[.int .i64 t321, .int .i64 0, .slice none 0 0]) ?_ 1 _ rfl; (with_reducible repeat (first | refine blk_drewN ?_ _ | refine blk_drew ?_ | refine blk_alloc ?_ _)); refine blk_put (cs := #[.int .i64 0, .int .i64 0, .slice none 0 0]) ?_ 0 _ rfl; (with_reducible repeat (first | refine blk_drewN ?_ _ | refine blk_drew ?_ | refine blk_alloc ?_ _)); exact BK328.out) hb); replace HB := Aside0.mk (below_step (be5 HB GE274 GE288 GE294 GE302 GE328) hb); (try clear hb)))
        go_meet
        case rel => exact ⟨_, (true), rs, H', ⟨by have := HJ13.out; have := HJ71.out; first | omega | exact Nat.le_refl _⟩, ⟨by (try simp only [hl295002_71]); (with_reducible repeat (first | apply Kd.R_alloc | apply Kd.R_drewN | apply Kd.R_drew)); exact rm HO_289002⟩, ⟨by (try simp only [hl295002_71]); (with_reducible repeat (first | apply Kd.R_alloc | apply Kd.R_drewN | apply Kd.R_drew)); exact rm HO_295002⟩, ⟨by (try simp only [hl295002_71]); (with_reducible repeat (first | apply Kd.R_alloc | apply Kd.R_drewN | apply Kd.R_drew)); exact rm HO_303002⟩, ⟨by (try simp only [hl295002_71]); (with_reducible repeat (first | apply Kd.R_alloc | apply Kd.R_drewN | apply Kd.R_drew)); exact rm HO325⟩, ⟨by (try simp only [hl295002_71]); (with_reducible repeat (first | refine blk_drewN ?_ _ | refine blk_drew ?_ | refine blk_alloc ?_ _)); exact BK274.out⟩, ⟨by (try simp only [hl295002_71]); (with_reducible repeat (first | refine blk_drewN ?_ _ | refine blk_drew ?_ | refine blk_alloc ?_ _)); exact BK288.out⟩, ⟨by (try simp only [hl295002_71]); (with_reducible repeat (first | refine blk_drewN ?_ _ | refine blk_drew ?_ | refine blk_alloc ?_ _)); exact BK294.out⟩, ⟨by (try simp only [hl295002_71]); (with_reducible repeat (first | refine blk_drewN ?_ _ | refine blk_drew ?_ | refine blk_alloc ?_ _)); exact BK302.out⟩, ⟨by (try simp only [hl295002_71]); (with_reducible repeat (first | refine blk_drewN ?_ _ | refine blk_drew ?_ | refine blk_alloc ?_ _)); exact BK328.out⟩, ⟨be5 HB GE274 GE288 GE294 GE302 GE328⟩⟩
       case rest =>
        clear HC117
        try clear c1; try clear c2; try clear p2; try clear c3; try clear c3b0; try clear c3b1; try clear c4; try clear c5; try clear c6; try clear c6b0; try clear c7; try clear c8; try clear c9; try clear c10; try clear c11; try clear c12; try clear c13; try clear c14; try clear c15; try clear c16; try clear c23; try clear c29; try clear c30; try clear c35; try clear c36; try clear c37; try clear c41; try clear c42; try clear c42b0; try clear c42b1; try clear c43; try clear c44; try clear c45; try clear c47; try clear c48; try clear c49; try clear c51; try clear c52; try clear c53; try clear c55; try clear c56; try clear c59; try clear c60; try clear c61; try clear c63; try clear c64; try clear c67; try clear c70; try clear c77; try clear c78; try clear c79; try clear c82; try clear c82b0; try clear c84; try clear c85; try clear c85b0; try clear c85b1; try clear c86; try clear c87; try clear c88; try clear c90; try clear c91; try clear c94; try clear c95; try clear c96; try clear c98; try clear c99; try clear c102; try clear c103; try clear c104; try clear c106; try clear c107; try clear c110; try clear c113; try clear c113b0; try clear c114; try clear c114b0; try clear c114b1; try clear c118; try clear c119; try clear c120; try clear c125; try clear c126; try clear c132; try clear c133; try clear c134; try clear c135; try clear c139; try clear c140; try clear c140b0; try clear c140b1; try clear c141; try clear c142; try clear c143; try clear c144; try clear c146; try clear c147; try clear c148; try clear c151; try clear c152; try clear c153; try clear c154; try clear c156; try clear c157; try clear c158; try clear c161; try clear c162; try clear c163; try clear c164; try clear c166; try clear c167; try clear c168; try clear hcz100_0; try clear hcz105_0; try clear hcz108_0; try clear hcz121_0; try clear hcz123_0; try clear hcz127_0; try clear hcz136_0; try clear hcz145_0; try clear hcz149_0; try clear hcz155_0; try clear hcz159_0; try clear hcz165_0; try clear hcz169_0; try clear hcz16_0; try clear hcz18_0; try clear hcz24_0; try clear hcz26_0; try clear hcz31_0; try clear hcz38_0; try clear hcz46_0; try clear hcz49_0; try clear hcz54_0; try clear hcz57_0; try clear hcz62_0; try clear hcz65_0; try clear hcz80_0; try clear hcz89_0; try clear hcz8_0; try clear hcz92_0; try clear hcz97_0; try clear p2
        obtain ⟨kq, x116_116, rfl, HA, HJ116, HO_289002, HO_295002, HO_303002, HO_329002, BK274, BK288, BK294, BK302, BK328, HB⟩ := hcut
        have hl303002_116 := (Kd.R_reads' HO_303002.out).1
        rw [hl303002_116] at HO_303002
        (try simp only [hl303002_116])
        (try simp only [hl303002_116] at BK274)
        (try simp only [hl303002_116] at BK288)
        (try simp only [hl303002_116] at BK294)
        (try simp only [hl303002_116] at BK302)
        (try simp only [hl303002_116] at BK328)
        (try simp only [hl303002_116] at HO_289002)
        (try simp only [hl303002_116] at HO_295002)
        (try simp only [hl303002_116] at HO_329002)
        cases kq with
        | zero => exact absurd HA.out (by simp [laws_FnExactRowGet.j2])
        | succ kj116 =>
         have H := HA.out
         clear HA
         simp only [laws_FnExactRowGet.j2] at H
         by_cases c171 : x116_116 = true
         ·subst c171
          rw [if_pos rfl] at H
          exact absurd ((Option.some.inj H).trans hrt_.out) (by decide)
         replace c171 := Bool.eq_false_iff.mpr c171
         subst c171
         rw [if_neg (show ¬ (false = true) by decide)] at H
         replace H := Option.bind_eq_some_iff.mp H
         obtain ⟨t330, A1720, H⟩ := H
         try dsimp only at H
         have A172 := Aside0.mk A1720
         clear A1720
         by_cases c173 : t330 < 0
         ·rw [if_pos c173] at H
          have c173b0 : decide (t330 < 0) = true := decide_eq_true c173
          clear c173
          exact absurd ((Option.some.inj H).trans hrt_.out) (by decide)
         rw [if_neg c173] at H
         have c173b0 : decide (t330 < 0) = false := decide_eq_false c173
         clear c173
         by_cases c174 : t330 = t313
         ·rw [if_pos c174] at H
          have c174b0 : (t330 == t313) = true := beq_iff_eq.mpr c174
          have c174b1 : (t330 != t313) = false := bne_eq_false_iff_eq.mpr c174
          clear c174
          obtain rfl := Option.some.inj H
          have hnb175 := NB302_274.out
          have hnc175 := NB274_302.out
          have hnb176 := NB302_288.out
          have hnc176 := NB288_302.out
          have hnb177 := NB302_294.out
          have hnc177 := NB294_302.out
          have hnb178 := NB302_328.out
          have hnc178 := NB328_302.out
          have hcz179_0 := bz3 BK302
          go_wp2_with (first | ((with_reducible refine gate_callee (f := 49) rfl ?_); refine gl 119 Try.func49 #[.agg #[.int .i64 t295, .int .i64 t296, .slice Ao39 t314.length co39], .int .i64 1] ?_; (with_reducible refine (laws_heldRow.calls kj116 t295 t296 _ _ t314 1 t330 _ (cr HO_303002) ((Kd.R_reads' HO_303002.out).2.1) A172.out).mono ?_); rintro e w180 ⟨rfl, hb⟩; refine ⟨_, rfl, ?_⟩; replace HO_289002 := rb HO_289002 hb; replace HO_295002 := rb HO_295002 hb; replace HO_303002 := rb HO_303002 hb; replace HO_329002 := rb HO_329002 hb; replace BK274 := bb BK274 hb; replace BK288 := bb BK288 hb; replace BK294 := bb BK294 hb; replace BK302 := bb BK302 hb; replace BK328 := bb BK328 hb; replace HB := Aside0.mk (below_step (be5 HB GE274 GE288 GE294 GE302 GE328) hb); (try clear hb)))
          go_ret
          exact ⟨er, be5 HB GE274 GE288 GE294 GE302 GE328⟩
         rw [if_neg c174] at H
         have c174b0 : (t330 == t313) = false := beq_eq_false_iff_ne.mpr c174
         have c174b1 : (t330 != t313) = true := bne_iff_ne.mpr c174
         exact absurd ((Option.some.inj H).trans hrt_.out) (by decide)
      rw [if_neg c114] at H
      have c114b0 : (t315 == t313) = false := beq_eq_false_iff_ne.mpr c114
      have c114b1 : (t315 != t313) = true := bne_iff_ne.mpr c114
      exact absurd ((Option.some.inj H).trans hrt_.out) (by decide)
   replace c70 := Bool.eq_false_iff.mpr c70
   subst c70
   rw [if_neg (show ¬ (false = true) by decide)] at H
   exact absurd ((Option.some.inj H).trans hrt_.out) (by decide)

end Go.Proofs.Ytllaoamaplepmaa.QFnExactRowGet
