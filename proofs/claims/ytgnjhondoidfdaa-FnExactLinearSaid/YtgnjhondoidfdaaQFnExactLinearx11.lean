-- made by a program of this session (myprint.py)
import Derived.Test.YtgnjhondoidfdaaQFnExactLinearx0
import Derived.Test.YtgnjhondoidfdaaQFnExactLinearx1
import Derived.Test.YtgnjhondoidfdaaQFnExactLinearx5
import Derived.Test.YtgnjhondoidfdaaQFnExactLinearx9
import Derived.Test.YtgnjhondoidfdaaQFnExactLinearx10
namespace Go.Proofs.Ytgnjhondoidfdaa.QFnExactLinear
open Go.RowKit Go.Proofs.YtgnjhondoidfdaaW.PrintWords Go.Proofs.YtgnjhondoidfdaaW.PrintLast Go.Proofs.YtgnjhondoidfdaaW.PrintMore
attribute [local go_sem] max2_int min2_int max_two min_two max_three min_three max_four min_four   -- for this text's walks alone
set_option linter.unusedVariables false
set_option linter.unusedSimpArgs false

/-! ### laws_FnExactLinear: function 3 -/
mutual
def laws_FnExactLinear.j0 : Nat → Int → List Int → List (S40) → List Int → Bool → List Int → List (S38) → List Int → Bool → Bool → Option (Bool)
 | 0, _, _, _, _, _, _, _, _, _, _ => none
 | k + 1, x0, x1, x2, x8, x9, dS, dT, bq, ea, eb => if eb = true then (some false) else ((laws_toIntS.f k x1).bind fun aE => ((laws_eqIntS.f k dS aE).bind fun bD => (if bD = true then ((laws_toFactS.f k x2).bind fun a4 => ((laws_eqFactS.f k dT a4).bind fun bF => (if bF = true then ((laws_markIntS.f k dS 1).bind fun b3 => ((laws_markFactS.f k dT b3.1).bind fun b4 => (if b4.1 < 0 then (laws_FnExactLinear.j1 k x0 x1 x2 x8 x9 bq true) else ((laws_eqIntS.f k bq x8).bind fun bG => (if bG = true then (laws_FnExactLinear.j1 k x0 x1 x2 x8 x9 bq (ea != x9)) else (laws_FnExactLinear.j1 k x0 x1 x2 x8 x9 bq true)))))) else (some false)))) else (some false))))
def laws_FnExactLinear.j1 : Nat → Int → List Int → List (S40) → List Int → Bool → List Int → Bool → Option (Bool)
 | 0, _, _, _, _, _, _, _ => none
 | k + 1, x0, x1, x2, x8, x9, bq, ec => if ec = true then (some false) else ((laws_markIntS.f k bq 1).bind fun aH => ((laws_heldIntS.f k aH.2 1).bind fun ay => (if ay < 0 then (some false) else (if ay = aH.1 then ((laws_toIntS.f k x1).bind fun a8 => ((laws_toFactS.f k x2).bind fun a9 => ((impl_Linear.f k x0 a8 a9).bind fun br => ((laws_eqIntS.f k br.1 x8).bind fun bH => (if bH = true then (laws_FnExactLinear.j2 k aH.2 aH.1 (br.2 != x9)) else (laws_FnExactLinear.j2 k aH.2 aH.1 true)))))) else (some false)))))
def laws_FnExactLinear.j2 : Nat → List Int → Int → Bool → Option (Bool)
 | 0, _, _, _ => none
 | k + 1, bq, ed, cI => if cI = true then (some false) else ((laws_heldIntS.f k bq 1).bind fun az => (if az < 0 then (some false) else (if az = ed then (some true) else (some false))))
end
def laws_FnExactLinear.f (k : Nat) (a0 : Int) (l1 : List Int) (l2 : List (S40)) : Option (Bool) := if (l1.length : Int) > 1048576 then (some true) else ((laws_szFactS.f l2 1048576).bind fun aJ => (if aJ < 0 then (some true) else ((laws_toIntS.f k l1).bind fun aW => ((laws_toFactS.f k l2).bind fun aX => ((spec_Linear.f k a0 aW aX).bind fun aj => ((laws_toIntS.f k l1).bind fun ac => ((laws_toFactS.f k l2).bind fun ai => ((impl_Linear.f k a0 ac ai).bind fun ak => ((laws_eqIntS.f k ak.1 aj.1).bind fun ba => (if ba = true then (laws_FnExactLinear.j0 k a0 l1 l2 aj.1 aj.2 ac ai ak.1 ak.2 (ak.2 != aj.2)) else (laws_FnExactLinear.j0 k a0 l1 l2 aj.1 aj.2 ac ai ak.1 ak.2 true)))))))))))
theorem laws_FnExactLinear.mono_l : ∀ k, (∀ y0 y1 y2 y3 y4 y5 y6 y7 y8 y9, LeO (laws_FnExactLinear.j0 k y0 y1 y2 y3 y4 y5 y6 y7 y8 y9) (laws_FnExactLinear.j0 (k + 1) y0 y1 y2 y3 y4 y5 y6 y7 y8 y9)) ∧ (∀ y0 y1 y2 y3 y4 y5 y6, LeO (laws_FnExactLinear.j1 k y0 y1 y2 y3 y4 y5 y6) (laws_FnExactLinear.j1 (k + 1) y0 y1 y2 y3 y4 y5 y6)) ∧ (∀ y0 y1 y2, LeO (laws_FnExactLinear.j2 k y0 y1 y2) (laws_FnExactLinear.j2 (k + 1) y0 y1 y2))
 | 0 => ⟨fun _ _ _ _ _ _ _ _ _ _ r h => by simp [laws_FnExactLinear.j0] at h, fun _ _ _ _ _ _ _ r h => by simp [laws_FnExactLinear.j1] at h, fun _ _ _ r h => by simp [laws_FnExactLinear.j2] at h⟩
 | k + 1 => by
  obtain ⟨bf, bg, bh⟩ := laws_FnExactLinear.mono_l k; refine ⟨?_, ?_, ?_⟩
  ·intro y0 y1 y2 y3 y4 y5 y6 y7 y8 y9; unfold laws_FnExactLinear.j0
   repeat' first | (with_reducible first | apply bf | apply bg | apply bh | apply impl_Linear.mono | apply laws_eqFactS.mono | apply laws_eqIntS.mono | apply laws_heldIntS.mono | apply laws_markFactS.mono | apply laws_markIntS.mono | apply laws_toFactS.mono | apply laws_toIntS.mono | apply spec_Linear.mono | apply lr | apply ln | apply li | refine lb ?_ fun _ => ?_) | apply bf | apply bg | apply bh | apply ln | apply li | refine lb ?_ fun _ => ?_
  ·intro y0 y1 y2 y3 y4 y5 y6; unfold laws_FnExactLinear.j1
   repeat' first | (with_reducible first | apply bf | apply bg | apply bh | apply impl_Linear.mono | apply laws_eqFactS.mono | apply laws_eqIntS.mono | apply laws_heldIntS.mono | apply laws_markFactS.mono | apply laws_markIntS.mono | apply laws_toFactS.mono | apply laws_toIntS.mono | apply spec_Linear.mono | apply lr | apply ln | apply li | refine lb ?_ fun _ => ?_) | apply bf | apply bg | apply bh | apply ln | apply li | refine lb ?_ fun _ => ?_
  intro y0 y1 y2; unfold laws_FnExactLinear.j2
  repeat' first | (with_reducible first | apply bf | apply bg | apply bh | apply impl_Linear.mono | apply laws_eqFactS.mono | apply laws_eqIntS.mono | apply laws_heldIntS.mono | apply laws_markFactS.mono | apply laws_markIntS.mono | apply laws_toFactS.mono | apply laws_toIntS.mono | apply spec_Linear.mono | apply lr | apply ln | apply li | refine lb ?_ fun _ => ?_) | apply bf | apply bg | apply bh | apply ln | apply li | refine lb ?_ fun _ => ?_
theorem laws_FnExactLinear.mono : ∀ a0 a1 a2 k, LeO (laws_FnExactLinear.f k a0 a1 a2) (laws_FnExactLinear.f (k + 1) a0 a1 a2) := by
 intro a0 a1 a2 k; obtain ⟨bf, bg, bh⟩ := laws_FnExactLinear.mono_l k; unfold laws_FnExactLinear.f
 repeat' first | (with_reducible first | apply bf | apply bg | apply bh | apply impl_Linear.mono | apply laws_eqFactS.mono | apply laws_eqIntS.mono | apply laws_heldIntS.mono | apply laws_markFactS.mono | apply laws_markIntS.mono | apply laws_toFactS.mono | apply laws_toIntS.mono | apply spec_Linear.mono | apply lr | apply ln | apply li | refine lb ?_ fun _ => ?_) | apply bf | apply bg | apply bh | apply ln | apply li | refine lb ?_ fun _ => ?_
set_option maxHeartbeats 8000000 in
set_option maxRecDepth 100000 in
theorem laws_FnExactLinear.calls (k : Nat) (a0 : Int) (A1 : Option Addr) (c1 : Nat) (l1 : List Int) (A2 : Option Addr) (c2 : Nat) (l2 : List (S40)) (r : Bool) (w : World) (dU : Kd.C (Kd.int .i64) w A1 l1.length l1) (dV : l1.length ≤ c1) (dW : Kd.C k40 w A2 l2.length l2) (dX : l2.length ≤ c2) (h : laws_FnExactLinear.f k a0 l1 l2 = some r) (hrt_ : Aside0 (r = true)) :
  Calls Try.prog 3 #[.int .i64 a0, .slice A1 l1.length c1, .slice A2 l2.length c2] w fun e w' => e = .returned (.bool r) ∧ Below w.heap.size w w' := by
 have cE := Aside0.mk dU; have cF := Aside0.mk dV; clear dU dV; have bS := Aside0.mk dW; have bU := Aside0.mk dX; clear dW dX; have HB := Aside0.mk (Below.refl w.heap.size w); have H : (if (l1.length : Int) > 1048576 then (some true) else ((laws_szFactS.f l2 1048576).bind fun aJ => (if aJ < 0 then (some true) else ((laws_toIntS.f k l1).bind fun aW => ((laws_toFactS.f k l2).bind fun aX => ((spec_Linear.f k a0 aW aX).bind fun aj => ((laws_toIntS.f k l1).bind fun ac => ((laws_toFactS.f k l2).bind fun ai => ((impl_Linear.f k a0 ac ai).bind fun ak => ((laws_eqIntS.f k ak.1 aj.1).bind fun ba => (if ba = true then (laws_FnExactLinear.j0 k a0 l1 l2 aj.1 aj.2 ac ai ak.1 ak.2 (ak.2 != aj.2)) else (laws_FnExactLinear.j0 k a0 l1 l2 aj.1 aj.2 ac ai ak.1 ak.2 true)))))))))))) = some r := h; clear h
 by_cases c4 : (l1.length : Int) > 1048576
 ·rw [if_pos c4] at H; have bi : decide (1048576 < (l1.length : Int)) = true := decide_eq_true c4; have bj : decide (1048576 < l1.length) = true := decide_eq_true (by omega); clear c4; obtain rfl := Option.some.inj H
  go_enter Try.func3, Try.ntmps3
  go_wp2
  go_ret
  exact ⟨er, be HB⟩
 rw [if_neg c4] at H; have bi : decide (1048576 < (l1.length : Int)) = false := decide_eq_false c4; have bj : decide (1048576 < l1.length) = false := decide_eq_false (by omega); clear c4; obtain ⟨aJ, A5, H⟩ := ob H
 try dsimp only at H
 by_cases c6 : aJ < 0
 ·rw [if_pos c6] at H; have bm : decide (aJ < 0) = true := decide_eq_true c6; clear c6; obtain rfl := Option.some.inj H
  go_enter Try.func3, Try.ntmps3
  go_wp2_with (first | ((with_reducible refine gate_callee (f := 4) rfl ?_); refine gl 24 Try.func4 #[.slice A2 l2.length c2, .int .i64 1048576] ?_; (with_reducible refine (laws_szFactS.calls _ _ l2 1048576 aJ _ ?side1 ?side2 A5.out).mono ?_); (case side1 => repeat (first | exact bS.out | (with_reducible refine Kd.C_alloc ?_ _) | (with_reducible refine Kd.C_drewN ?_ _) | (with_reducible refine Kd.C_drew ?_))); (case side2 => exact bU.out); rintro e w' ⟨rfl, ⟨nd, rfl⟩⟩; refine ⟨_, rfl, ?_⟩))
  go_ret
  exact ⟨er, be HB⟩
 rw [if_neg c6] at H; have bm : decide (aJ < 0) = false := decide_eq_false c6; clear c6; obtain ⟨aW, A7, H⟩ := ob H
 try dsimp only at H
 obtain ⟨aX, A8, H⟩ := ob H
 try dsimp only at H
 obtain ⟨⟨aq, a5⟩, A9, H⟩ := ob H
 try dsimp only at H
 obtain ⟨ac, ee, H⟩ := ob H
 try dsimp only at H
 obtain ⟨ai, ef, H⟩ := ob H
 try dsimp only at H
 obtain ⟨⟨al, bn⟩, eg, H⟩ := ob H
 try dsimp only at H
 have bI := Aside0.mk H; clear H
 go_enter Try.func3, Try.ntmps3
 go_upto_region 11 with (first | ((with_reducible refine gate_callee (f := 4) rfl ?_); refine gl 24 Try.func4 #[.slice A2 l2.length c2, .int .i64 1048576] ?_; (with_reducible refine (laws_szFactS.calls _ _ l2 1048576 aJ _ ?side1 ?side2 A5.out).mono ?_); (case side1 => repeat (first | exact bS.out | (with_reducible refine Kd.C_alloc ?_ _) | (with_reducible refine Kd.C_drewN ?_ _) | (with_reducible refine Kd.C_drew ?_))); (case side2 => exact bU.out); rintro e w' ⟨rfl, ⟨nd, rfl⟩⟩; refine ⟨_, rfl, ?_⟩) | ((with_reducible refine gate_callee (f := 6) rfl ?_); refine gl 30 Try.func6 #[.slice A1 l1.length c1] ?_; (with_reducible refine (laws_toIntS.calls k _ _ l1 aW _ ?side1 ?side2 A7.out).mono ?_); (case side1 => repeat (first | exact cE.out | (with_reducible refine Kd.C_alloc ?_ _) | (with_reducible refine Kd.C_drewN ?_ _) | (with_reducible refine Kd.C_drew ?_))); (case side2 => exact cF.out); rintro e eX ⟨eh, rfl, ah, hb⟩; refine ⟨_, rfl, ?_⟩; have ae := rl0 ah HB; replace HB := s0 HB hb; (try clear hb); (try clear ah)) | ((with_reducible refine gate_callee (f := 7) rfl ?_); refine gl 32 Try.func7 #[.slice A2 l2.length c2] ?_; (with_reducible refine (laws_toFactS.calls k _ _ l2 aX _ (cb bS HB) ?side2 A8.out).mono ?_); (case side2 => exact bU.out); rintro e eY ⟨ei, rfl, ah, hb⟩; refine ⟨_, rfl, ?_⟩; replace ae := rb ae hb; have an := rl0 ah HB; replace HB := s0 HB hb; (try clear hb); (try clear ah); obtain ⟨cK, cL, cM⟩ := Kd.R_slice ae.out; subst cM; obtain ⟨cN, cO, cP⟩ := Kd.R_slice an.out; subst cP) | ((with_reducible refine gate_callee (f := 5) rfl ?_); refine gl 33 Try.func5 #[.int .i64 a0, .slice cK aW.length cL, .slice cN aX.length cO] ?_; (with_reducible refine (spec_Linear.calls k a0 _ _ aW _ _ aX aq a5 _ (cr ae) ((Kd.R_reads' ae.out).2.1) (cr an) ((Kd.R_reads' an.out).2.1) A9.out).mono ?_); rintro e eZ ⟨aF, rfl, ah, hb⟩; refine ⟨_, rfl, ?_⟩; replace an := rb an hb; have af := Aside0.mk (Kd.R_lower (nw ah ae) (below_size (be HB))); replace ae := Aside0.mk (Kd.R_elder' (ro ae) (Kd.R_base ah) hb); replace HB := s0 HB hb; (try clear hb); (try clear ah)) | ((with_reducible refine gate_callee (f := 6) rfl ?_); refine gl 37 Try.func6 #[.slice A1 l1.length c1] ?_; (with_reducible refine (laws_toIntS.calls k _ _ l1 ac _ (cb cE HB) ?side2 ee.out).mono ?_); (case side2 => exact cF.out); rintro e e0 ⟨ej, rfl, ah, hb⟩; refine ⟨_, rfl, ?_⟩; replace an := rb an hb; have ap := Aside0.mk (Kd.R_lower (nw (nw ah ae) af) (below_size (be HB))); replace ae := Aside0.mk (Kd.R_elder' (ro ae) (Kd.R_base ah) hb); replace af := Aside0.mk (Kd.R_elder' (ro af) (Kd.R_base ah) hb); replace HB := s0 HB hb; (try clear hb); (try clear ah)) | ((with_reducible refine gate_callee (f := 7) rfl ?_); refine gl 39 Try.func7 #[.slice A2 l2.length c2] ?_; (with_reducible refine (laws_toFactS.calls k _ _ l2 ai _ (cb bS HB) ?side2 ef.out).mono ?_); (case side2 => exact bU.out); rintro e e1 ⟨ek, rfl, ah, hb⟩; refine ⟨_, rfl, ?_⟩; replace ae := rb ae hb; replace af := rb af hb; replace ap := rb ap hb; have aC := Aside0.mk (Kd.R_lower (nw ah an) (below_size (be HB))); replace an := Aside0.mk (Kd.R_elder' (ro an) (Kd.R_base ah) hb); replace HB := s0 HB hb; (try clear hb); (try clear ah); obtain ⟨ar, au, cQ⟩ := Kd.R_slice ap.out; subst cQ; obtain ⟨aQ, aR, cS⟩ := Kd.R_slice aC.out; subst cS) | ((with_reducible refine gate_callee (f := 8) rfl ?_); refine gl 44 Try.func8 #[.int .i64 a0, .slice ar ac.length au, .slice aQ ai.length aR] ?_; (with_reducible refine (impl_Linear.calls k a0 _ _ ac _ _ ai al bn _ (cr ap) ((Kd.R_reads' ap.out).2.1) (cr aC) ((Kd.R_reads' aC.out).2.1) eg.out).mono ?_); rintro e e2 ⟨aG, rfl, ah, hb⟩; refine ⟨_, rfl, ?_⟩; replace an := rb an hb; replace aC := rb aC hb; have aw := Aside0.mk (Kd.R_lower (nw (nw (nw ah ae) af) ap) (below_size (be HB))); replace ae := Aside0.mk (Kd.R_elder' (ro ae) (Kd.R_base ah) hb); replace af := Aside0.mk (Kd.R_elder' (ro af) (Kd.R_base ah) hb); replace ap := Aside0.mk (Kd.R_elder' (ro ap) (Kd.R_base ah) hb); replace HB := s0 HB hb; (try clear hb); (try clear ah)))
 (try simp only [Act.put, List.setIfInBounds_toArray, List.set_cons_zero, List.set_cons_succ])
 go_cut [55] (fun el wc => ∃ (kq : Nat) (aK : Bool), el = .bool aK ∧ Aside0 (laws_FnExactLinear.j0 kq a0 l1 l2 aq a5 ac ai al bn aK = some r) ∧ Aside0 (kq ≤ k) ∧ Aside0 (Kd.R (Kd.int .i64) 3 wc w.heap.size (fun k_ => nb k_ ar ac.length au ∧ some k_ ≠ (aG : Value).ownBlock) aF aq) ∧ Aside0 (Kd.R (Kd.int .i64) 3 wc w.heap.size (fun k_ => some k_ ≠ (aF : Value).ownBlock ∧ some k_ ≠ (aG : Value).ownBlock) (.slice ar ac.length au) ac) ∧ Aside0 (Kd.R k38 38 wc w.heap.size (fun _ => True) (.slice aQ ai.length aR) ai) ∧ Aside0 (Kd.Q (Kd.int .i64) 3 wc w.heap.size (fun k_ => some k_ ≠ (aF : Value).ownBlock ∧ nb k_ ar ac.length au) aG al) ∧ Aside0 (Below w.heap.size w wc))
 case first =>
  have H := bI.out; clear bI; obtain ⟨ba, d8, H⟩ := ob H
  try dsimp only at H
  by_cases bJ : ba = true
  ·subst bJ; rw [if_pos rfl] at H; have H' := Aside0.mk H; clear H; obtain ⟨cT, cU, cW⟩ := Kd.R_slice aw.out; subst cW; obtain ⟨cX, cY, cZ⟩ := Kd.R_slice af.out; subst cZ
   go_wp2_with (first | ((with_reducible refine gate_callee (f := 9) rfl ?_); refine gl 49 Try.func9 #[.slice cT al.length cU, .slice cX aq.length cY] ?_; (with_reducible refine (laws_eqIntS.calls k _ _ al _ _ aq true _ (cr aw) ((Kd.R_reads' aw.out).2.1) (cr af) ((Kd.R_reads' af.out).2.1) d8.out).mono ?_); rintro e w' ⟨rfl, ⟨nd, rfl⟩⟩; refine ⟨_, rfl, ?_⟩))
   go_meet
   case rel => exact ⟨_, ((bn != a5)), rs, H', ⟨by first | omega | exact Nat.le_refl _⟩, ⟨rom af⟩, ⟨rom ap⟩, ⟨(rom aC)⟩, ⟨Kd.Q_of_R (rom aw)⟩, ⟨be HB⟩⟩
  replace bJ := Bool.eq_false_iff.mpr bJ; subst bJ; rw [if_neg nf] at H; have H' := Aside0.mk H; clear H; obtain ⟨c0, da, db⟩ := Kd.R_slice aw.out; subst db; obtain ⟨dc, dd, de⟩ := Kd.R_slice af.out; subst de
  go_wp2_with (first | ((with_reducible refine gate_callee (f := 9) rfl ?_); refine gl 49 Try.func9 #[.slice c0 al.length da, .slice dc aq.length dd] ?_; (with_reducible refine (laws_eqIntS.calls k _ _ al _ _ aq false _ (cr aw) ((Kd.R_reads' aw.out).2.1) (cr af) ((Kd.R_reads' af.out).2.1) d8.out).mono ?_); rintro e w' ⟨rfl, ⟨nd, rfl⟩⟩; refine ⟨_, rfl, ?_⟩))
  go_meet
  case rel => exact ⟨_, (true), rs, H', ⟨by first | omega | exact Nat.le_refl _⟩, ⟨rom af⟩, ⟨rom ap⟩, ⟨(rom aC)⟩, ⟨Kd.Q_of_R (rom aw)⟩, ⟨be HB⟩⟩
 case rest =>
  clear bI
  try clear c1; try clear c2; try clear p2; try clear c3; try clear c4; try clear bi; try clear bj; try clear c5; try clear c6; try clear bm; try clear c7; try clear c8; try clear c9; try clear bJ
  obtain ⟨kq, aK, rfl, HA, bc, ab, ag, ad, aa, HB⟩ := hcut
  cases kq with
  | zero => exact absurd HA.out (by simp [laws_FnExactLinear.j0])
  | succ aL =>
   have H := HA.out; clear HA; simp only [laws_FnExactLinear.j0] at H
   by_cases bW : aK = true
   ·subst bW; rw [if_pos rfl] at H; exact absurd ((Option.some.inj H).trans hrt_.out) (by decide)
   replace bW := Bool.eq_false_iff.mpr bW; subst bW; rw [if_neg nf] at H; obtain ⟨aE, em, H⟩ := ob H
   try dsimp only at H
   obtain ⟨bD, en, H⟩ := ob H
   try dsimp only at H
   by_cases bZ : bD = true
   ·subst bZ; rw [if_pos rfl] at H; obtain ⟨a4, eo, H⟩ := ob H
    try dsimp only at H
    obtain ⟨bF, ep, H⟩ := ob H
    try dsimp only at H
    by_cases b0 : bF = true
    ·subst b0; rw [if_pos rfl] at H; obtain ⟨⟨bM, df⟩, eq, H⟩ := ob H
     try dsimp only at H
     obtain ⟨⟨bo, dg⟩, es, H⟩ := ob H
     try dsimp only at H
     have bN := Aside0.mk H; clear H
     go_upto_region 20 with (first | ((with_reducible refine gate_callee (f := 6) rfl ?_); refine gl 58 Try.func6 #[.slice A1 l1.length c1] ?_; (with_reducible refine (laws_toIntS.calls aL _ _ l1 aE _ (cb cE HB) ?side2 em.out).mono ?_); (case side2 => exact cF.out); rintro e e3 ⟨et, rfl, ah, hb⟩; refine ⟨_, rfl, ?_⟩; replace ad := rb ad hb; have ao := Aside0.mk (Kd.R_lower (Kd.R_new' (nw (nw ah ab) ag) (Kd.Q_lt (qo aa))) (below_size (be HB))); replace ab := Aside0.mk (Kd.R_elder' (ro ab) (Kd.R_base ah) hb); replace ag := Aside0.mk (Kd.R_elder' (ro ag) (Kd.R_base ah) hb); replace aa := Aside0.mk (Kd.Q_elder' (qo aa) (Kd.R_base ah) hb); replace HB := s0 HB hb; (try clear hb); (try clear ah); obtain ⟨a6, a7, di⟩ := Kd.R_slice ao.out; subst di) | ((with_reducible refine gate_callee (f := 9) rfl ?_); refine gl 59 Try.func9 #[.slice ar ac.length au, .slice a6 aE.length a7] ?_; (with_reducible refine (laws_eqIntS.calls aL _ _ ac _ _ aE true _ (cr ag) ((Kd.R_reads' ag.out).2.1) (cr ao) ((Kd.R_reads' ao.out).2.1) en.out).mono ?_); rintro e w' ⟨rfl, ⟨nd, rfl⟩⟩; refine ⟨_, rfl, ?_⟩) | ((with_reducible refine gate_callee (f := 7) rfl ?_); refine gl 63 Try.func7 #[.slice A2 l2.length c2] ?_; (with_reducible refine (laws_toFactS.calls aL _ _ l2 a4 _ ?side1 ?side2 eo.out).mono ?_); (case side1 => repeat (first | exact (Kd.C_below bS.out (be HB)) | (with_reducible refine Kd.C_alloc ?_ _) | (with_reducible refine Kd.C_drewN ?_ _) | (with_reducible refine Kd.C_drew ?_))); (case side2 => exact bU.out); rintro e e4 ⟨eu, rfl, ah, hb⟩; refine ⟨_, rfl, ?_⟩; replace ab := rb ab hb; replace ag := rb ag hb; replace aa := Aside0.mk (Kd.Q_below (qo aa) hb); replace ao := rb ao hb; have av := Aside0.mk (Kd.R_lower (nw ah ad) (below_size (be HB))); replace ad := Aside0.mk (Kd.R_elder' (ro ad) (Kd.R_base ah) hb); replace HB := s0 HB hb; (try clear hb); (try clear ah); obtain ⟨ci, ck, dj⟩ := Kd.R_slice av.out; subst dj) | ((with_reducible refine gate_callee (f := 10) rfl ?_); refine gl 64 Try.func10 #[.slice aQ ai.length aR, .slice ci a4.length ck] ?_; (with_reducible refine (laws_eqFactS.calls aL _ _ ai _ _ a4 true _ (cr ad) ((Kd.R_reads' ad.out).2.1) (cr av) ((Kd.R_reads' av.out).2.1) ep.out).mono ?_); rintro e e5 ⟨rfl, hb⟩; refine ⟨_, rfl, ?_⟩; replace ab := rb ab hb; replace ag := rb ag hb; replace ad := rb ad hb; replace aa := Aside0.mk (Kd.Q_below (qo aa) hb); replace ao := rb ao hb; replace av := rb av hb; replace HB := s0 HB hb; (try clear hb)) | ((with_reducible refine gate_callee (f := 11) rfl ?_); refine gl 68 Try.func11 #[.slice ar ac.length au, .int .i64 1] ?_; (with_reducible refine (laws_markIntS.calls aL (fun k_ => some k_ = (.slice ar ac.length au : Value).ownBlock) (.slice ar ac.length au) ac 1 bM df w _ ?side1 ?side2 eq.out).mono ?_); (case side1 => exact be HB); (case side2 => exact Kd.Q_of_R (Kd.R_tight rfl ag.out)); rintro e e6 ⟨rfl, bs, hb, hkp⟩; refine ⟨_, rfl, ?_⟩; replace ab := Aside0.mk (Kd.R_mono (ok' := fun k_ => nb k_ ar ac.length au ∧ some k_ ≠ (aG : Value).ownBlock ∧ nb k_ a6 aE.length a7) (Kd.R_keptB (ab.out) hkp ch) cj); replace ad := Aside0.mk (Kd.R_mono (ok' := fun k_ => nb k_ ci a4.length ck) (Kd.R_keptB ((Kd.R_apart' ad.out (Kd.R_typed ag.out) (by decide))) hkp ch) cj); replace aa := Aside0.mk (Kd.Q_mono (ok' := fun k_ => some k_ ≠ (aF : Value).ownBlock ∧ nb k_ ar ac.length au ∧ nb k_ a6 aE.length a7) (Kd.Q_keptB (aa.out) hkp ch) cj); replace ao := Aside0.mk (Kd.R_mono (ok' := fun k_ => some k_ ≠ (aF : Value).ownBlock ∧ nb k_ ar ac.length au ∧ some k_ ≠ (aG : Value).ownBlock) (Kd.R_keptB (ao.out) hkp ch) cj); replace av := Aside0.mk (Kd.R_mono (ok' := fun k_ => nb k_ aQ ai.length aR) (Kd.R_keptB ((Kd.R_apart' av.out (Kd.R_typed ag.out) (by decide))) hkp ch) cj); replace ag := Aside0.mk (Kd.Q_mono (Kd.Q_tight rfl bs) (fun k_ e_ => ag.out.1 k_ e_.symm)); replace HB := Aside0.mk (hb); (try clear hb); (try clear hkp); (try clear bs)) | ((with_reducible refine gate_callee (f := 12) rfl ?_); refine gl 71 Try.func12 #[.slice aQ ai.length aR, .int .i64 bM] ?_; (with_reducible refine (laws_markFactS.calls aL (fun k_ => some k_ = (.slice aQ ai.length aR : Value).ownBlock) (.slice aQ ai.length aR) ai bM bo dg w _ ?side1 ?side2 es.out).mono ?_); (case side1 => exact be HB); (case side2 => exact Kd.R_tight rfl ad.out); rintro e e7 ⟨rfl, bs, hb, hkp⟩; refine ⟨_, rfl, ?_⟩; replace ab := Aside0.mk (Kd.R_mono (ok' := fun k_ => nb k_ ar ac.length au ∧ some k_ ≠ (aG : Value).ownBlock ∧ nb k_ a6 aE.length a7) (Kd.R_keptB ((Kd.R_apart' ab.out (Kd.R_typed ad.out) (by decide))) hkp ch) cj); replace ag := Aside0.mk (Kd.Q_mono (ok' := fun k_ => some k_ ≠ (aF : Value).ownBlock ∧ some k_ ≠ (aG : Value).ownBlock ∧ nb k_ a6 aE.length a7) (Kd.Q_keptB ((Kd.Q_apart' ag.out (Kd.R_typed ad.out) (by decide))) hkp ch) cj); replace aa := Aside0.mk (Kd.Q_mono (ok' := fun k_ => some k_ ≠ (aF : Value).ownBlock ∧ nb k_ ar ac.length au ∧ nb k_ a6 aE.length a7) (Kd.Q_keptB ((Kd.Q_apart' aa.out (Kd.R_typed ad.out) (by decide))) hkp ch) cj); replace ao := Aside0.mk (Kd.R_mono (ok' := fun k_ => some k_ ≠ (aF : Value).ownBlock ∧ nb k_ ar ac.length au ∧ some k_ ≠ (aG : Value).ownBlock) (Kd.R_keptB ((Kd.R_apart' ao.out (Kd.R_typed ad.out) (by decide))) hkp ch) cj); replace ad := Aside0.mk (Kd.R_reok rfl bs (fun k_ e_ => ad.out.1 k_ e_)); replace av := Aside0.mk (Kd.R_mono (ok' := fun k_ => nb k_ aQ ai.length aR) (Kd.R_keptB (av.out) hkp ch) cj); replace HB := Aside0.mk (hb); (try clear hb); (try clear hkp); (try clear bs)))
     (try simp only [Act.put, List.setIfInBounds_toArray, List.set_cons_zero, List.set_cons_succ])
     go_cut [84] (fun ew wc => ∃ (kq : Nat) (aN : Bool), ew = .bool aN ∧ Aside0 (laws_FnExactLinear.j1 kq a0 l1 l2 aq a5 al aN = some r) ∧ Aside0 (kq ≤ aL) ∧ Aside0 (Kd.R (Kd.int .i64) 3 wc w.heap.size (fun k_ => some k_ ≠ (aG : Value).ownBlock) aF aq) ∧ Aside0 (Kd.Q (Kd.int .i64) 3 wc w.heap.size (fun k_ => some k_ ≠ (aF : Value).ownBlock) aG al) ∧ Aside0 (Below w.heap.size w wc))
     case first =>
      have H := bN.out; clear bN
      by_cases bu : bo < 0
      ·rw [if_pos bu] at H; have aD : decide (bo < 0) = true := decide_eq_true bu; clear bu; (first | rw [aD] | (simp only [i64_w, i32_w]; rw [aD]) | skip); have H' := Aside0.mk H; clear H
       go_wp2
       go_meet
       case rel => exact ⟨_, (true), rs, H', ⟨by have := bc.out; first | omega | exact Nat.le_refl _⟩, ⟨(rom ab)⟩, ⟨(qom aa)⟩, ⟨be HB⟩⟩
      rw [if_neg bu] at H; have aD : decide (bo < 0) = false := decide_eq_false bu; clear bu; (first | rw [aD] | (simp only [i64_w, i32_w]; rw [aD]) | skip); obtain ⟨bG, d9, H⟩ := ob H
      try dsimp only at H
      by_cases b1 : bG = true
      ·subst b1; rw [if_pos rfl] at H; have H' := Aside0.mk H; clear H; obtain ⟨ey, ez, dl, _⟩ := Kd.Q_slice aa.out; subst dl; obtain ⟨eA, eC, dm⟩ := Kd.R_slice ab.out; subst dm
       go_wp2_with (first | (go_at_call 9; (with_reducible refine (laws_eqIntS.calls aL _ _ al _ _ aq true _ ?side1 ?side2 (cr ab) ((Kd.R_reads' ab.out).2.1) d9.out).mono ?_); (case side1 => exact cv aa); (case side2 => exact (Kd.Q_reads' aa.out).2.1); rintro e w' ⟨rfl, ⟨nd, rfl⟩⟩))
       go_meet
       case rel => exact ⟨_, ((bn != a5)), rs, H', ⟨by have := bc.out; first | omega | exact Nat.le_refl _⟩, ⟨(rom ab)⟩, ⟨(qom aa)⟩, ⟨be HB⟩⟩
      replace b1 := Bool.eq_false_iff.mpr b1; subst b1; rw [if_neg nf] at H; have H' := Aside0.mk H; clear H; obtain ⟨eD, eE, dn, _⟩ := Kd.Q_slice aa.out; subst dn; obtain ⟨eF, eG, dp⟩ := Kd.R_slice ab.out; subst dp
      go_wp2_with (first | (go_at_call 9; (with_reducible refine (laws_eqIntS.calls aL _ _ al _ _ aq false _ ?side1 ?side2 (cr ab) ((Kd.R_reads' ab.out).2.1) d9.out).mono ?_); (case side1 => exact cv aa); (case side2 => exact (Kd.Q_reads' aa.out).2.1); rintro e w' ⟨rfl, ⟨nd, rfl⟩⟩))
      go_meet
      case rel => exact ⟨_, (true), rs, H', ⟨by have := bc.out; first | omega | exact Nat.le_refl _⟩, ⟨(rom ab)⟩, ⟨(qom aa)⟩, ⟨be HB⟩⟩
     case rest =>
      clear bN
      try clear c1; try clear c2; try clear p2; try clear c3; try clear c4; try clear bi; try clear bj; try clear c5; try clear c6; try clear bm; try clear c7; try clear c8; try clear c9; try clear c10; try clear eH; try clear eI; try clear bJ; try clear bW; try clear bZ; try clear b0; try clear bu; try clear aD; try clear b1; try clear p2
      obtain ⟨kq, aN, rfl, HA, cm, ab, aa, HB⟩ := hcut
      cases kq with
      | zero => exact absurd HA.out (by simp [laws_FnExactLinear.j1])
      | succ aU =>
       have H := HA.out; clear HA; simp only [laws_FnExactLinear.j1] at H
       by_cases cn : aN = true
       ·subst cn; rw [if_pos rfl] at H; exact absurd ((Option.some.inj H).trans hrt_.out) (by decide)
       replace cn := Bool.eq_false_iff.mpr cn; subst cn; rw [if_neg nf] at H; obtain ⟨⟨aA, aO⟩, eJ, H⟩ := ob H
       try dsimp only at H
       obtain ⟨ay, eM, H⟩ := ob H
       try dsimp only at H
       by_cases bO : ay < 0
       ·rw [if_pos bO] at H; have bw : decide (ay < 0) = true := decide_eq_true bO; clear bO; exact absurd ((Option.some.inj H).trans hrt_.out) (by decide)
       rw [if_neg bO] at H; have bw : decide (ay < 0) = false := decide_eq_false bO; clear bO
       by_cases bz : ay = aA
       ·rw [if_pos bz] at H; have bA : (ay == aA) = true := beq_iff_eq.mpr bz; have bC : (ay != aA) = false := bne_eq_false_iff_eq.mpr bz; clear bz; obtain ⟨a8, eN, H⟩ := ob H
        try dsimp only at H
        obtain ⟨a9, eO, H⟩ := ob H
        try dsimp only at H
        obtain ⟨⟨bd, cu⟩, eP, H⟩ := ob H
        try dsimp only at H
        have bQ := Aside0.mk H; clear H; obtain ⟨aY, aZ, dq, _⟩ := Kd.Q_slice aa.out; subst dq
        go_upto_region 31 with (first | ((with_reducible refine gate_callee (f := 11) rfl ?_); refine gl 87 Try.func11 #[.slice aY al.length aZ, .int .i64 1] ?_; (with_reducible refine (laws_markIntS.calls aU (fun k_ => some k_ = (.slice aY al.length aZ : Value).ownBlock) (.slice aY al.length aZ) al 1 aA aO w _ ?side1 ?side2 eJ.out).mono ?_); (case side1 => exact be HB); (case side2 => exact Kd.Q_tight rfl aa.out); rintro e w64 ⟨rfl, bs, hb, hkp⟩; refine ⟨_, rfl, ?_⟩; replace ab := Aside0.mk (Kd.R_mono (ok' := fun k_ => nb k_ aY al.length aZ) (Kd.R_keptB (ab.out) hkp ch) cj); replace aa := Aside0.mk (Kd.Q_mono (Kd.Q_tight rfl bs) (fun k_ e_ => aa.out.1 k_ e_.symm)); replace HB := Aside0.mk (hb); (try clear hb); (try clear hkp); (try clear bs)) | ((with_reducible refine gate_callee (f := 13) rfl ?_); refine goesL_ (some 90) rfl rfl Try.func13 (by kernel_rfl) rfl #[.slice aY aO.length aZ, .int .i64 1] rfl (by (try simp only [List.map_toArray, List.map_cons, List.map_nil]); first | done | (rw [show aO.length = al.length from (Kd.Q_reads' aa.out).1.symm] <;> rfl) | rfl | (simp only [List.length_drop, List.length_take]; rfl)) ?_; (with_reducible refine (laws_heldIntS.calls aU _ _ aO 1 ay _ ?side1 ?side2 eM.out).mono ?_); (case side1 => exact cv aa); (case side2 => rw [show aO.length = al.length from (Kd.Q_reads' aa.out).1.symm]; exact (Kd.Q_reads' aa.out).2.1); rintro e w' ⟨rfl, ⟨nd, rfl⟩⟩; refine ⟨_, rfl, ?_⟩) | ((with_reducible refine gate_callee (f := 6) rfl ?_); refine gl 99 Try.func6 #[.slice A1 l1.length c1] ?_; (with_reducible refine (laws_toIntS.calls aU _ _ l1 a8 _ ?side1 ?side2 eN.out).mono ?_); (case side1 => repeat (first | exact (Kd.C_below cE.out (be HB)) | (with_reducible refine Kd.C_alloc ?_ _) | (with_reducible refine Kd.C_drewN ?_ _) | (with_reducible refine Kd.C_drew ?_))); (case side2 => exact cF.out); rintro e e8 ⟨eS, rfl, ah, hb⟩; refine ⟨_, rfl, ?_⟩; have ax := Aside0.mk (Kd.R_lower (Kd.R_new' (nw ah ab) (Kd.Q_lt (qo aa))) (below_size (be HB))); replace ab := Aside0.mk (Kd.R_elder' (ro ab) (Kd.R_base ah) hb); replace aa := Aside0.mk (Kd.Q_elder' (qo aa) (Kd.R_base ah) hb); replace HB := s0 HB hb; (try clear hb); (try clear ah)) | ((with_reducible refine gate_callee (f := 7) rfl ?_); refine gl 101 Try.func7 #[.slice A2 l2.length c2] ?_; (with_reducible refine (laws_toFactS.calls aU _ _ l2 a9 _ (cb bS HB) ?side2 eO.out).mono ?_); (case side2 => exact bU.out); rintro e e9 ⟨eT, rfl, ah, hb⟩; refine ⟨_, rfl, ?_⟩; replace ab := rb ab hb; replace aa := Aside0.mk (Kd.Q_below (qo aa) hb); replace ax := rb ax hb; have aV := rl0 ah HB; replace HB := s0 HB hb; (try clear hb); (try clear ah); obtain ⟨dr, ds, dt⟩ := Kd.R_slice ax.out; subst dt; obtain ⟨du, dv, dw⟩ := Kd.R_slice aV.out; subst dw) | ((with_reducible refine gate_callee (f := 8) rfl ?_); refine gl 102 Try.func8 #[.int .i64 a0, .slice dr a8.length ds, .slice du a9.length dv] ?_; (with_reducible refine (impl_Linear.calls aU a0 _ _ a8 _ _ a9 bd cu _ (cr ax) ((Kd.R_reads' ax.out).2.1) (cr aV) ((Kd.R_reads' aV.out).2.1) eP.out).mono ?_); rintro e fa ⟨eU, rfl, ah, hb⟩; refine ⟨_, rfl, ?_⟩; replace aV := rb aV hb; have aI := Aside0.mk (Kd.R_lower (nw (Kd.R_new' (nw ah ab) (Kd.Q_lt (qo aa))) ax) (below_size (be HB))); replace ab := Aside0.mk (Kd.R_elder' (ro ab) (Kd.R_base ah) hb); replace aa := Aside0.mk (Kd.Q_elder' (qo aa) (Kd.R_base ah) hb); replace ax := Aside0.mk (Kd.R_elder' (ro ax) (Kd.R_base ah) hb); replace HB := s0 HB hb; (try clear hb); (try clear ah)))
        (try simp only [Act.put, List.setIfInBounds_toArray, List.set_cons_zero, List.set_cons_succ])
        go_cut [113] (fun dx wc => ∃ (kq : Nat) (aB : Bool), dx = .bool aB ∧ Aside0 (laws_FnExactLinear.j2 kq aO aA aB = some r) ∧ Aside0 (kq ≤ aU) ∧ Aside0 (Kd.Q (Kd.int .i64) 3 wc w.heap.size (fun _ => True) (.slice aY al.length aZ) aO) ∧ Aside0 (Below w.heap.size w wc))
        case first =>
         have H := bQ.out; clear bQ; obtain ⟨bH, b5, H⟩ := ob H
         try dsimp only at H
         by_cases cy : bH = true
         ·subst cy; rw [if_pos rfl] at H; have H' := Aside0.mk H; clear H; obtain ⟨dy, dA, dC⟩ := Kd.R_slice aI.out; subst dC; obtain ⟨dD, dE, dF⟩ := Kd.R_slice ab.out; subst dF
          go_wp2_with (first | ((with_reducible refine gate_callee (f := 9) rfl ?_); refine gl 107 Try.func9 #[.slice dy bd.length dA, .slice dD aq.length dE] ?_; (with_reducible refine (laws_eqIntS.calls aU _ _ bd _ _ aq true _ (cr aI) ((Kd.R_reads' aI.out).2.1) (cr ab) ((Kd.R_reads' ab.out).2.1) b5.out).mono ?_); rintro e w' ⟨rfl, ⟨nd, rfl⟩⟩; refine ⟨_, rfl, ?_⟩))
          go_meet
          case rel => exact ⟨_, ((cu != a5)), rs, H', ⟨by have := bc.out; have := cm.out; first | omega | exact Nat.le_refl _⟩, ⟨(qom aa)⟩, ⟨be HB⟩⟩
         replace cy := Bool.eq_false_iff.mpr cy; subst cy; rw [if_neg nf] at H; have H' := Aside0.mk H; clear H; obtain ⟨dG, dI, dJ⟩ := Kd.R_slice aI.out; subst dJ; obtain ⟨dL, dM, dN⟩ := Kd.R_slice ab.out; subst dN
         go_wp2_with (first | ((with_reducible refine gate_callee (f := 9) rfl ?_); refine gl 107 Try.func9 #[.slice dG bd.length dI, .slice dL aq.length dM] ?_; (with_reducible refine (laws_eqIntS.calls aU _ _ bd _ _ aq false _ (cr aI) ((Kd.R_reads' aI.out).2.1) (cr ab) ((Kd.R_reads' ab.out).2.1) b5.out).mono ?_); rintro e w' ⟨rfl, ⟨nd, rfl⟩⟩; refine ⟨_, rfl, ?_⟩))
         go_meet
         case rel => exact ⟨_, (true), rs, H', ⟨by have := bc.out; have := cm.out; first | omega | exact Nat.le_refl _⟩, ⟨(qom aa)⟩, ⟨be HB⟩⟩
        case rest =>
         clear bQ
         try clear c1; try clear c2; try clear p2; try clear c3; try clear c4; try clear bi; try clear bj; try clear c5; try clear c6; try clear bm; try clear c7; try clear c8; try clear c9; try clear c10; try clear eH; try clear eI; try clear fb; try clear bJ; try clear bW; try clear bZ; try clear b0; try clear bu; try clear aD; try clear b1; try clear cn; try clear bO; try clear bw; try clear bz; try clear bA; try clear bC; try clear cy; try clear p2
         obtain ⟨kq, aB, rfl, HA, eV, aa, HB⟩ := hcut; have a3 := (Kd.Q_reads' aa.out).1; rw [a3] at aa; (try simp only [a3])
         cases kq with
         | zero => exact absurd HA.out (by simp [laws_FnExactLinear.j2])
         | succ dP =>
          have H := HA.out; clear HA; simp only [laws_FnExactLinear.j2] at H
          by_cases cG : aB = true
          ·subst cG; rw [if_pos rfl] at H; exact absurd ((Option.some.inj H).trans hrt_.out) (by decide)
          replace cG := Bool.eq_false_iff.mpr cG; subst cG; rw [if_neg nf] at H; obtain ⟨az, eW, H⟩ := ob H
          try dsimp only at H
          by_cases b2 : az < 0
          ·rw [if_pos b2] at H; have cA : decide (az < 0) = true := decide_eq_true b2; clear b2; exact absurd ((Option.some.inj H).trans hrt_.out) (by decide)
          rw [if_neg b2] at H; have cA : decide (az < 0) = false := decide_eq_false b2; clear b2
          by_cases bR : az = aA
          ·rw [if_pos bR] at H; have cC : (az == aA) = true := beq_iff_eq.mpr bR; have cD : (az != aA) = false := bne_eq_false_iff_eq.mpr bR; clear bR; obtain rfl := Option.some.inj H
           go_wp2_with (first | ((with_reducible refine gate_callee (f := 13) rfl ?_); refine gl 116 Try.func13 #[.slice aY aO.length aZ, .int .i64 1] ?_; (with_reducible refine (laws_heldIntS.calls dP _ _ aO 1 az _ ?side1 ?side2 eW.out).mono ?_); (case side1 => exact cv aa); (case side2 => exact (Kd.Q_reads' aa.out).2.1); rintro e w' ⟨rfl, ⟨nd, rfl⟩⟩; refine ⟨_, rfl, ?_⟩))
           go_ret
           exact ⟨er, be HB⟩
          rw [if_neg bR] at H; have cC : (az == aA) = false := beq_eq_false_iff_ne.mpr bR; have cD : (az != aA) = true := bne_iff_ne.mpr bR; exact absurd ((Option.some.inj H).trans hrt_.out) (by decide)
       rw [if_neg bz] at H; have bA : (ay == aA) = false := beq_eq_false_iff_ne.mpr bz; have bC : (ay != aA) = true := bne_iff_ne.mpr bz; exact absurd ((Option.some.inj H).trans hrt_.out) (by decide)
    replace b0 := Bool.eq_false_iff.mpr b0; subst b0; rw [if_neg nf] at H; exact absurd ((Option.some.inj H).trans hrt_.out) (by decide)
   replace bZ := Bool.eq_false_iff.mpr bZ; subst bZ; rw [if_neg nf] at H; exact absurd ((Option.some.inj H).trans hrt_.out) (by decide)

end Go.Proofs.Ytgnjhondoidfdaa.QFnExactLinear
