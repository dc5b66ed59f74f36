-- made by a program of this session (myprint.py)
import Derived.Test.YtfjhkediaholmaaQFnExactPutx0
import Derived.Test.YtfjhkediaholmaaQFnExactPutx4
namespace Go.Proofs.Ytfjhkediaholmaa.QFnExactPut
open Go.RowKit Go.Proofs.YtfjhkediaholmaaW.PrintWords Go.Proofs.YtfjhkediaholmaaW.PrintLast Go.Proofs.YtfjhkediaholmaaW.PrintMore
attribute [local go_sem] max2_int min2_int max_two min_two max_three min_three max_four min_four   -- for this text's walks alone
set_option linter.unusedVariables false
set_option linter.unusedSimpArgs false

/-! ### laws_heldIntS: function 75 -/
def laws_heldIntS.l0 : Nat → List Int → Int → Int → Option (Int)
 | 0, _, _, _ => none
 | k + 1, x0, x1, x5 => if x5 < (x0.length : Int) then (if 0 ≤ x5 then (if (rd x0 x5) = x1 then (laws_heldIntS.l0 k x0 (wrap64 (x1 + 1)) (wrap64 (x5 + 1))) else (some (-1))) else (none)) else (some x1)
def laws_heldIntS.f (k : Nat) (l0 : List Int) (a1 : Int) : Option (Int) := laws_heldIntS.l0 k l0 a1 0
theorem laws_heldIntS.mono_l : ∀ k, (∀ y0 y1 y2, LeO (laws_heldIntS.l0 k y0 y1 y2) (laws_heldIntS.l0 (k + 1) y0 y1 y2))
 | 0 => fun _ _ _ r h => by simp [laws_heldIntS.l0] at h
 | k + 1 => by
  have ag := laws_heldIntS.mono_l k
  ·intro y0 y1 y2; unfold laws_heldIntS.l0
   repeat' first | (with_reducible first | apply ag | apply lr | apply ln | apply li | refine lb ?_ fun _ => ?_) | apply ag | apply ln | apply li | refine lb ?_ fun _ => ?_
theorem laws_heldIntS.mono : ∀ a0 a1 k, LeO (laws_heldIntS.f k a0 a1) (laws_heldIntS.f (k + 1) a0 a1) := by
 intro a0 a1 k; have ag := laws_heldIntS.mono_l k; unfold laws_heldIntS.f
 repeat' first | (with_reducible first | apply ag | apply lr | apply ln | apply li | refine lb ?_ fun _ => ?_) | apply ag | apply ln | apply li | refine lb ?_ fun _ => ?_
set_option maxHeartbeats 8000000 in
set_option maxRecDepth 100000 in
theorem laws_heldIntS.calls (k : Nat) (A0 : Option Addr) (c0 : Nat) (l0 : List Int) (a1 : Int) (r : Int) (w : World) (al : Kd.C (Kd.int .i64) w A0 l0.length l0) (an : l0.length ≤ c0) (h : laws_heldIntS.f k l0 a1 = some r) :
  Calls Try.prog 75 #[.slice A0 l0.length c0, .int .i64 a1] w fun e w' => e = .returned (.int .i64 r) ∧ Drawn0 w w' := by
 have ao := Aside0.mk al; have ar := Aside0.mk an; clear al an; have H : (laws_heldIntS.l0 k l0 a1 0) = some r := h; clear h; have H' := Aside0.mk H; clear H
 go_enter Try.func75, Try.ntmps75
 go_wp2
 go_loopg [1, 5] k (fun kq v1 v5 w' => ∃ (ab : Int) (aa : Int), v1 = .int .i64 ab ∧ v5 = .int .i64 aa ∧ Aside0 (laws_heldIntS.l0 kq l0 ab aa = some r) ∧ Aside0 (kq ≤ k) ∧ Drawn0 w w')
 case atStart => exact ⟨(a1), (0), rs, rs, H', ⟨Nat.le_refl _⟩, by repeat (first | exact Drawn0.refl _ | apply Drawn0.step)⟩
 case round =>
  clear H'
  try clear p2
  obtain ⟨ab, aa, rfl, rfl, HA, ap, ⟨m1, rfl⟩⟩ := hrel
  cases gk with
  | zero => exact absurd HA.out (by simp [laws_heldIntS.l0])
  | succ k1 =>
   have H := HA.out; clear HA; simp only [laws_heldIntS.l0] at H
   by_cases c3 : aa < (l0.length : Int)
   ·rw [if_pos c3] at H; have ai : decide (aa < (l0.length : Int)) = true := decide_eq_true c3; clear c3
    by_cases c4 : 0 ≤ aa
    ·rw [if_pos c4] at H; have aq : decide (0 ≤ aa) = true := decide_eq_true c4; clear c4
     by_cases c5 : (rd l0 aa) = ab
     ·rw [if_pos c5] at H; have aj : ((rd l0 aa) == ab) = true := beq_iff_eq.mpr c5; have ak : ((rd l0 aa) != ab) = false := bne_eq_false_iff_eq.mpr c5; clear c5; have H' := Aside0.mk H; clear H; have ac : 0 ≤ (aa : Int) := od; have ad : aa < (l0.length : Int) := od; obtain ⟨ah, af, ae⟩ := Kd.at_int ao.out aa ac ad; cases af; replace ac := eq_true ac; replace ad := eq_true ad
      go_wp2
      go_roundg k1
      case measure => have := ap.out; omega
      case rel => exact ⟨(wrap64 (ab + 1)), (wrap64 (aa + 1)), rs, rs, H', ⟨by have := ap.out; omega⟩, by repeat (first | exact Drawn0.refl _ | apply Drawn0.step)⟩
     rw [if_neg c5] at H; have aj : ((rd l0 aa) == ab) = false := beq_eq_false_iff_ne.mpr c5; have ak : ((rd l0 aa) != ab) = true := bne_iff_ne.mpr c5; obtain rfl := Option.some.inj H; have ac : 0 ≤ (aa : Int) := od; have ad : aa < (l0.length : Int) := od; obtain ⟨ah, af, ae⟩ := Kd.at_int ao.out aa ac ad; cases af; replace ac := eq_true ac; replace ad := eq_true ad
     go_wp2
     go_ret
     exact ⟨by first | rfl | (simp; done) | (simp [*]; done), by repeat (first | exact Drawn0.refl _ | apply Drawn0.step)⟩
    rw [if_neg c4] at H; exact absurd H (by simp)
   rw [if_neg c3] at H; have ai : decide (aa < (l0.length : Int)) = false := decide_eq_false c3; clear c3; obtain rfl := Option.some.inj H
   go_wp2
   go_ret
   exact ⟨by first | rfl | (simp; done) | (simp [*]; done), by repeat (first | exact Drawn0.refl _ | apply Drawn0.step)⟩

/-! ### laws_heldThree: function 24 -/
def laws_heldThree.f (k : Nat) (ap : Int) (aq : Int) (ac : List (S68)) (ae : List (S68)) (af : List Int) (a1 : Int) : Option (Int) := (laws_heldItemS.f k ac a1).bind fun ad => (if ad < 0 then (some (-1)) else ((laws_heldItemS.f k ae ad).bind fun ag => (if ag < 0 then (some (-1)) else ((laws_heldIntS.f k af ag).bind fun ah => (if ah < 0 then (some (-1)) else (some ah))))))
theorem laws_heldThree.mono : ∀ a0 a1 a2 a3 a4 a5 k, LeO (laws_heldThree.f k a0 a1 a2 a3 a4 a5) (laws_heldThree.f (k + 1) a0 a1 a2 a3 a4 a5) := by
 intro a0 a1 a2 a3 a4 a5 k; unfold laws_heldThree.f
 repeat' first | (with_reducible first | apply laws_heldIntS.mono | apply laws_heldItemS.mono | apply lr | apply ln | apply li | refine lb ?_ fun _ => ?_) | apply ln | apply li | refine lb ?_ fun _ => ?_
set_option maxHeartbeats 8000000 in
set_option maxRecDepth 100000 in
theorem laws_heldThree.calls (k : Nat) (ap : Int) (aq : Int) (ai : Option Addr) (aj : Nat) (ac : List (S68)) (ak : Option Addr) (al : Nat) (ae : List (S68)) (an : Option Addr) (ao : Nat) (af : List Int) (a1 : Int) (r : Int) (w : World) (az : Kd.C k68 w ai ac.length ac) (aA : ac.length ≤ aj) (aB : Kd.C k68 w ak ae.length ae) (aC : ae.length ≤ al) (aD : Kd.C (Kd.int .i64) w an af.length af) (aE : af.length ≤ ao) (h : laws_heldThree.f k ap aq ac ae af a1 = some r) :
  Calls Try.prog 24 #[.agg #[.int .i64 ap, .int .i64 aq, .slice ai ac.length aj, .slice ak ae.length al, .slice an af.length ao], .int .i64 a1] w fun e w' => e = .returned (.int .i64 r) ∧ Below w.heap.size w w' := by
 have hu30 := Try.underlying30; have ar := Aside0.mk az; have au := Aside0.mk aA; clear az aA; have av := Aside0.mk aB; have aw := Aside0.mk aC; clear aB aC; have aF := Aside0.mk aD; have aG := Aside0.mk aE; clear aD aE; have HB := Aside0.mk (Below.refl w.heap.size w); have H : ((laws_heldItemS.f k ac a1).bind fun ad => (if ad < 0 then (some (-1)) else ((laws_heldItemS.f k ae ad).bind fun ag => (if ag < 0 then (some (-1)) else ((laws_heldIntS.f k af ag).bind fun ah => (if ah < 0 then (some (-1)) else (some ah))))))) = some r := h; clear h; obtain ⟨ad, A3, H⟩ := ob H
 try dsimp only at H
 by_cases c4 : ad < 0
 ·rw [if_pos c4] at H; have aW : decide (ad < 0) = true := decide_eq_true c4; clear c4; obtain rfl := Option.some.inj H
  go_enter Try.func24, Try.ntmps24
  go_wp2_with (first | ((with_reducible refine gate_dst (N := 2) rfl ?_); refine bx 2 #[.int .i64 ap, .int .i64 aq, .slice ai ac.length aj, .slice ak ae.length al, .slice an af.length ao] 30 ?_; intro ax hg w5 hbox hb; have aa := am hbox; have ay := gs0 hg HB; have ab := gs0 hg HB; replace HB := s0 HB hb; clear hb hbox hg; have aX := bz5 aa) | ((with_reducible refine gate_callee (f := 74) rfl ?_); refine gl 8 Try.func74 #[.slice ai ac.length aj, .int .i64 a1] ?_; (with_reducible refine (laws_heldItemS.calls k _ _ ac a1 ad _ (cb ar HB) au.out A3.out).mono ?_); rintro e w7 ⟨rfl, hb⟩; refine ⟨_, rfl, ?_⟩; replace aa := bb aa hb; replace HB := s1 HB ab hb; (try clear hb)))
  go_ret
  exact ⟨er, be1 HB ab⟩
 rw [if_neg c4] at H; have aW : decide (ad < 0) = false := decide_eq_false c4; clear c4; obtain ⟨ag, A8, H⟩ := ob H
 try dsimp only at H
 by_cases c9 : ag < 0
 ·rw [if_pos c9] at H; have aY : decide (ag < 0) = true := decide_eq_true c9; clear c9; obtain rfl := Option.some.inj H
  go_enter Try.func24, Try.ntmps24
  go_wp2_with (first | ((with_reducible refine gate_dst (N := 2) rfl ?_); refine bx 2 #[.int .i64 ap, .int .i64 aq, .slice ai ac.length aj, .slice ak ae.length al, .slice an af.length ao] 30 ?_; intro ax hg a8 hbox hb; have aa := am hbox; have ay := gs0 hg HB; have ab := gs0 hg HB; replace HB := s0 HB hb; clear hb hbox hg; have aK := bz5 aa) | ((with_reducible refine gate_callee (f := 74) rfl ?_); refine gl 8 Try.func74 #[.slice ai ac.length aj, .int .i64 a1] ?_; (with_reducible refine (laws_heldItemS.calls k _ _ ac a1 ad _ (cb ar HB) au.out A3.out).mono ?_); rintro e a9 ⟨rfl, hb⟩; refine ⟨_, rfl, ?_⟩; replace aa := bb aa hb; replace HB := s1 HB ab hb; (try clear hb); have aL := bz5 aa) | ((with_reducible refine gate_callee (f := 74) rfl ?_); refine gl 14 Try.func74 #[.slice ak ae.length al, .int .i64 ad] ?_; (with_reducible refine (laws_heldItemS.calls k _ _ ae ad ag _ (cb av HB) aw.out A8.out).mono ?_); rintro e ba ⟨rfl, hb⟩; refine ⟨_, rfl, ?_⟩; replace aa := bb aa hb; replace HB := s1 HB ab hb; (try clear hb)))
  go_ret
  exact ⟨er, be1 HB ab⟩
 rw [if_neg c9] at H; have aY : decide (ag < 0) = false := decide_eq_false c9; clear c9; obtain ⟨ah, a7, H⟩ := ob H
 try dsimp only at H
 by_cases aH : ah < 0
 ·rw [if_pos aH] at H; have aJ : decide (ah < 0) = true := decide_eq_true aH; clear aH; obtain rfl := Option.some.inj H
  go_enter Try.func24, Try.ntmps24
  go_wp2_with (first | ((with_reducible refine gate_dst (N := 2) rfl ?_); refine bx 2 #[.int .i64 ap, .int .i64 aq, .slice ai ac.length aj, .slice ak ae.length al, .slice an af.length ao] 30 ?_; intro ax hg bc hbox hb; have aa := am hbox; have ay := gs0 hg HB; have ab := gs0 hg HB; replace HB := s0 HB hb; clear hb hbox hg; have aN := bz5 aa) | ((with_reducible refine gate_callee (f := 74) rfl ?_); refine gl 8 Try.func74 #[.slice ai ac.length aj, .int .i64 a1] ?_; (with_reducible refine (laws_heldItemS.calls k _ _ ac a1 ad _ (cb ar HB) au.out A3.out).mono ?_); rintro e bd ⟨rfl, hb⟩; refine ⟨_, rfl, ?_⟩; replace aa := bb aa hb; replace HB := s1 HB ab hb; (try clear hb); have aO := bz5 aa) | ((with_reducible refine gate_callee (f := 74) rfl ?_); refine gl 14 Try.func74 #[.slice ak ae.length al, .int .i64 ad] ?_; (with_reducible refine (laws_heldItemS.calls k _ _ ae ad ag _ (cb av HB) aw.out A8.out).mono ?_); rintro e bf ⟨rfl, hb⟩; refine ⟨_, rfl, ?_⟩; replace aa := bb aa hb; replace HB := s1 HB ab hb; (try clear hb); have aQ := bz5 aa) | ((with_reducible refine gate_callee (f := 75) rfl ?_); refine gl 20 Try.func75 #[.slice an af.length ao, .int .i64 ag] ?_; (with_reducible refine (laws_heldIntS.calls k _ _ af ag ah _ (cb aF HB) aG.out a7.out).mono ?_); rintro e w' ⟨rfl, ⟨nd, rfl⟩⟩; refine ⟨_, rfl, ?_⟩))
  go_ret
  exact ⟨er, be1 HB ab⟩
 rw [if_neg aH] at H; have aJ : decide (ah < 0) = false := decide_eq_false aH; clear aH; obtain rfl := Option.some.inj H
 go_enter Try.func24, Try.ntmps24
 go_wp2_with (first | ((with_reducible refine gate_dst (N := 2) rfl ?_); refine bx 2 #[.int .i64 ap, .int .i64 aq, .slice ai ac.length aj, .slice ak ae.length al, .slice an af.length ao] 30 ?_; intro ax hg bg hbox hb; have aa := am hbox; have ay := gs0 hg HB; have ab := gs0 hg HB; replace HB := s0 HB hb; clear hb hbox hg; have aR := bz5 aa) | ((with_reducible refine gate_callee (f := 74) rfl ?_); refine gl 8 Try.func74 #[.slice ai ac.length aj, .int .i64 a1] ?_; (with_reducible refine (laws_heldItemS.calls k _ _ ac a1 ad _ (cb ar HB) au.out A3.out).mono ?_); rintro e bh ⟨rfl, hb⟩; refine ⟨_, rfl, ?_⟩; replace aa := bb aa hb; replace HB := s1 HB ab hb; (try clear hb); have aU := bz5 aa) | ((with_reducible refine gate_callee (f := 74) rfl ?_); refine gl 14 Try.func74 #[.slice ak ae.length al, .int .i64 ad] ?_; (with_reducible refine (laws_heldItemS.calls k _ _ ae ad ag _ (cb av HB) aw.out A8.out).mono ?_); rintro e bi ⟨rfl, hb⟩; refine ⟨_, rfl, ?_⟩; replace aa := bb aa hb; replace HB := s1 HB ab hb; (try clear hb); have aV := bz5 aa) | ((with_reducible refine gate_callee (f := 75) rfl ?_); refine gl 20 Try.func75 #[.slice an af.length ao, .int .i64 ag] ?_; (with_reducible refine (laws_heldIntS.calls k _ _ af ag ah _ (cb aF HB) aG.out a7.out).mono ?_); rintro e w' ⟨rfl, ⟨nd, rfl⟩⟩; refine ⟨_, rfl, ?_⟩))
 go_ret
 exact ⟨er, be1 HB ab⟩

/-! ### spec_l01In: function 56 -/
def spec_l01In.f (a0 : Int) (a1 : Int) (a2 : Int) : Option (Bool) := if a0 ≥ a1 then (some (decide (a0 ≤ a2))) else (some false)
set_option maxHeartbeats 8000000 in
set_option maxRecDepth 100000 in
theorem spec_l01In.calls (a0 : Int) (a1 : Int) (a2 : Int) (r : Bool) (w : World) (h : spec_l01In.f a0 a1 a2 = some r) :
  Calls Try.prog 56 #[.int .i64 a0, .int .i64 a1, .int .i64 a2] w fun e w' => e = .returned (.bool r) ∧ Drawn0 w w' := by
 have H : (if a0 ≥ a1 then (some (decide (a0 ≤ a2))) else (some false)) = some r := h; clear h
 by_cases c4 : a0 ≥ a1
 ·rw [if_pos c4] at H; have aa : decide (a1 ≤ a0) = true := decide_eq_true c4; clear c4; obtain rfl := Option.some.inj H
  go_enter Try.func56, Try.ntmps56
  go_wp2
  go_ret
  exact ⟨by first | rfl | (simp; done) | (simp [*]; done), by repeat (first | exact Drawn0.refl _ | apply Drawn0.step)⟩
 rw [if_neg c4] at H; have aa : decide (a1 ≤ a0) = false := decide_eq_false c4; clear c4; obtain rfl := Option.some.inj H
 go_enter Try.func56, Try.ntmps56
 go_wp2
 go_ret
 exact ⟨by first | rfl | (simp; done) | (simp [*]; done), by repeat (first | exact Drawn0.refl _ | apply Drawn0.step)⟩

/-! ### spec_l10Ghosts: function 57 -/
def spec_l10Ghosts.f (aa : Int) (ab : Int) (ac : List (S68)) (ad : List (S68)) (ae : List Int) : Option (Int) := if (wrap64 (aa - ab)) < 1 then (some 1) else (some (wrap64 (aa - ab)))
set_option maxHeartbeats 8000000 in
set_option maxRecDepth 100000 in
theorem spec_l10Ghosts.calls (aa : Int) (ab : Int) (ah : Option Addr) (ai : Nat) (ac : List (S68)) (aj : Option Addr) (ak : Nat) (ad : List (S68)) (al : Option Addr) (an : Nat) (ae : List Int) (r : Int) (w : World) (ao : Kd.C k68 w ah ac.length ac) (ap : ac.length ≤ ai) (aq : Kd.C k68 w aj ad.length ad) (ar : ad.length ≤ ak) (au : Kd.C (Kd.int .i64) w al ae.length ae) (av : ae.length ≤ an) (h : spec_l10Ghosts.f aa ab ac ad ae = some r) :
  Calls Try.prog 57 #[.agg #[.int .i64 aa, .int .i64 ab, .slice ah ac.length ai, .slice aj ad.length ak, .slice al ae.length an]] w fun e w' => e = .returned (.int .i64 r) ∧ Below w.heap.size w w' := by
 have hu30 := Try.underlying30; have aB := Aside0.mk ao; have aC := Aside0.mk ap; clear ao ap; have aD := Aside0.mk aq; have aE := Aside0.mk ar; clear aq ar; have aF := Aside0.mk au; have aG := Aside0.mk av; clear au av; have HB := Aside0.mk (Below.refl w.heap.size w); have H : (if (wrap64 (aa - ab)) < 1 then (some 1) else (some (wrap64 (aa - ab)))) = some r := h; clear h
 by_cases c2 : (wrap64 (aa - ab)) < 1
 ·rw [if_pos c2] at H; have ay : decide ((wrap64 (aa - ab)) < 1) = true := decide_eq_true c2; clear c2; obtain rfl := Option.some.inj H
  go_enter Try.func57, Try.ntmps57
  go_wp2_with (first | ((with_reducible refine gate_dst (N := 1) rfl ?_); refine bx 1 #[.int .i64 aa, .int .i64 ab, .slice ah ac.length ai, .slice aj ad.length ak, .slice al ae.length an] 30 ?_; intro aw hg w3 hbox hb; have af := am hbox; have ax := gs0 hg HB; have ag := gs0 hg HB; replace HB := s0 HB hb; clear hb hbox hg; have az := bz5 af))
  go_ret
  exact ⟨er, be1 HB ag⟩
 rw [if_neg c2] at H; have ay : decide ((wrap64 (aa - ab)) < 1) = false := decide_eq_false c2; clear c2; obtain rfl := Option.some.inj H
 go_enter Try.func57, Try.ntmps57
 go_wp2_with (first | ((with_reducible refine gate_dst (N := 1) rfl ?_); refine bx 1 #[.int .i64 aa, .int .i64 ab, .slice ah ac.length ai, .slice aj ad.length ak, .slice al ae.length an] 30 ?_; intro aw hg w5 hbox hb; have af := am hbox; have ax := gs0 hg HB; have ag := gs0 hg HB; replace HB := s0 HB hb; clear hb hbox hg; have aA := bz5 af))
 go_ret
 exact ⟨er, be1 HB ag⟩

/-! ### spec_l10Clean: function 108 -/
def spec_l10Clean.l0 : Nat → ByteArray → Int → Option (Bool)
 | 0, _, _ => none
 | k + 1, x0, x3 => if x3 < (x0.size : Int) then (if 0 ≤ x3 then (if (bt x0 x3) = 32 then (some false) else (if (bt x0 x3) = 10 then (some false) else (spec_l10Clean.l0 k x0 (wrap64 (x3 + 1))))) else (none)) else (some true)
def spec_l10Clean.f (k : Nat) (a0 : ByteArray) : Option (Bool) := spec_l10Clean.l0 k a0 0
theorem spec_l10Clean.mono_l : ∀ k, (∀ y0 y1, LeO (spec_l10Clean.l0 k y0 y1) (spec_l10Clean.l0 (k + 1) y0 y1))
 | 0 => fun _ _ r h => by simp [spec_l10Clean.l0] at h
 | k + 1 => by
  have ab := spec_l10Clean.mono_l k
  ·intro y0 y1; unfold spec_l10Clean.l0
   repeat' first | (with_reducible first | apply ab | apply lr | apply ln | apply li | refine lb ?_ fun _ => ?_) | apply ab | apply ln | apply li | refine lb ?_ fun _ => ?_
theorem spec_l10Clean.mono : ∀ a0 k, LeO (spec_l10Clean.f k a0) (spec_l10Clean.f (k + 1) a0) := by
 intro a0 k; have ab := spec_l10Clean.mono_l k; unfold spec_l10Clean.f
 repeat' first | (with_reducible first | apply ab | apply lr | apply ln | apply li | refine lb ?_ fun _ => ?_) | apply ab | apply ln | apply li | refine lb ?_ fun _ => ?_
set_option maxHeartbeats 8000000 in
set_option maxRecDepth 100000 in
theorem spec_l10Clean.calls (k : Nat) (a0 : ByteArray) (r : Bool) (w : World) (h : spec_l10Clean.f k a0 = some r) :
  Calls Try.prog 108 #[.string a0] w fun e w' => e = .returned (.bool r) ∧ Drawn0 w w' := by
 have H : (spec_l10Clean.l0 k a0 0) = some r := h; clear h; have H' := Aside0.mk H; clear H
 go_enter Try.func108, Try.ntmps108
 go_wp2
 go_loopg [3] k (fun kq v3 w' => ∃ (aa : Int), v3 = .int .i64 aa ∧ Aside0 (spec_l10Clean.l0 kq a0 aa = some r) ∧ Aside0 (kq ≤ k) ∧ Drawn0 w w')
 case atStart => exact ⟨(0), rs, H', ⟨Nat.le_refl _⟩, by repeat (first | exact Drawn0.refl _ | apply Drawn0.step)⟩
 case round =>
  clear H'
  try clear c1
  obtain ⟨aa, rfl, HA, ah, ⟨m1, rfl⟩⟩ := hrel
  cases gk with
  | zero => exact absurd HA.out (by simp [spec_l10Clean.l0])
  | succ k1 =>
   have H := HA.out; clear HA; simp only [spec_l10Clean.l0] at H
   by_cases c2 : aa < (a0.size : Int)
   ·rw [if_pos c2] at H; have ac : decide (aa < (a0.size : Int)) = true := decide_eq_true c2; clear c2
    by_cases c3 : 0 ≤ aa
    ·rw [if_pos c3] at H; have aj : decide (0 ≤ aa) = true := decide_eq_true c3; clear c3
     by_cases c5 : (bt a0 aa) = 32
     ·rw [if_pos c5] at H; have ad : ((bt a0 aa) == 32) = true := beq_iff_eq.mpr c5; have ae : ((bt a0 aa) != 32) = false := bne_eq_false_iff_eq.mpr c5; clear c5; obtain rfl := Option.some.inj H; have p4 : 0 ≤ (aa : Int) := od; have q4 : aa < (a0.size : Int) := od; have ai := bt_at a0 aa; replace p4 := eq_true p4; replace q4 := eq_true q4
      go_wp2
      go_ret
      exact ⟨by first | rfl | (simp; done) | (simp [*]; done), by repeat (first | exact Drawn0.refl _ | apply Drawn0.step)⟩
     rw [if_neg c5] at H; have ad : ((bt a0 aa) == 32) = false := beq_eq_false_iff_ne.mpr c5; have ae : ((bt a0 aa) != 32) = true := bne_iff_ne.mpr c5
     by_cases c7 : (bt a0 aa) = 10
     ·rw [if_pos c7] at H; have af : ((bt a0 aa) == 10) = true := beq_iff_eq.mpr c7; have ag : ((bt a0 aa) != 10) = false := bne_eq_false_iff_eq.mpr c7; clear c7; obtain rfl := Option.some.inj H; have p4 : 0 ≤ (aa : Int) := od; have q4 : aa < (a0.size : Int) := od; have ai := bt_at a0 aa; replace p4 := eq_true p4; replace q4 := eq_true q4; have p6 : 0 ≤ (aa : Int) := od; have q6 : aa < (a0.size : Int) := od; have ak := bt_at a0 aa; replace p6 := eq_true p6; replace q6 := eq_true q6
      go_wp2
      go_ret
      exact ⟨by first | rfl | (simp; done) | (simp [*]; done), by repeat (first | exact Drawn0.refl _ | apply Drawn0.step)⟩
     rw [if_neg c7] at H; have af : ((bt a0 aa) == 10) = false := beq_eq_false_iff_ne.mpr c7; have ag : ((bt a0 aa) != 10) = true := bne_iff_ne.mpr c7; have H' := Aside0.mk H; clear H; have p4 : 0 ≤ (aa : Int) := od; have q4 : aa < (a0.size : Int) := od; have ai := bt_at a0 aa; replace p4 := eq_true p4; replace q4 := eq_true q4; have p6 : 0 ≤ (aa : Int) := od; have q6 : aa < (a0.size : Int) := od; have ak := bt_at a0 aa; replace p6 := eq_true p6; replace q6 := eq_true q6
     go_wp2
     go_roundg k1
     case measure => have := ah.out; omega
     case rel => exact ⟨(wrap64 (aa + 1)), rs, H', ⟨by have := ah.out; omega⟩, by repeat (first | exact Drawn0.refl _ | apply Drawn0.step)⟩
    rw [if_neg c3] at H; exact absurd H (by simp)
   rw [if_neg c2] at H; have ac : decide (aa < (a0.size : Int)) = false := decide_eq_false c2; clear c2; obtain rfl := Option.some.inj H
   go_wp2
   go_ret
   exact ⟨by first | rfl | (simp; done) | (simp [*]; done), by repeat (first | exact Drawn0.refl _ | apply Drawn0.step)⟩

/-! ### spec_ItemOk: function 58 -/
def spec_ItemOk.f (k : Nat) (aa : ByteArray) (ab : ByteArray) (ae : Int) : Option (Bool) := if (aa.size : Int) ≥ 1 then (if (aa.size : Int) ≤ 20 then ((spec_l10Clean.f k aa).bind fun ai => (if ai = true then (if (ab.size : Int) ≤ 40 then ((spec_l10Clean.f k ab).bind fun aj => (if aj = true then ((spec_l01In.f ae 0 3).bind fun ah => (some ah)) else (some false))) else (some false)) else (some false))) else (some false)) else (some false)
theorem spec_ItemOk.mono : ∀ a0 a1 a2 k, LeO (spec_ItemOk.f k a0 a1 a2) (spec_ItemOk.f (k + 1) a0 a1 a2) := by
 intro a0 a1 a2 k; unfold spec_ItemOk.f
 repeat' first | (with_reducible first | apply spec_l10Clean.mono | apply lr | apply ln | apply li | refine lb ?_ fun _ => ?_) | apply ln | apply li | refine lb ?_ fun _ => ?_
set_option maxHeartbeats 8000000 in
set_option maxRecDepth 100000 in
theorem spec_ItemOk.calls (k : Nat) (aa : ByteArray) (ab : ByteArray) (ae : Int) (r : Bool) (w : World) (h : spec_ItemOk.f k aa ab ae = some r) :
  Calls Try.prog 58 #[.agg #[.string aa, .string ab, .int .i64 ae]] w fun e w' => e = .returned (.bool r) ∧ Below w.heap.size w w' := by
 have hu68 := Try.underlying68; have HB := Aside0.mk (Below.refl w.heap.size w); have H : (if (aa.size : Int) ≥ 1 then (if (aa.size : Int) ≤ 20 then ((spec_l10Clean.f k aa).bind fun ai => (if ai = true then (if (ab.size : Int) ≤ 40 then ((spec_l10Clean.f k ab).bind fun aj => (if aj = true then ((spec_l01In.f ae 0 3).bind fun ah => (some ah)) else (some false))) else (some false)) else (some false))) else (some false)) else (some false)) = some r := h; clear h
 by_cases c2 : (aa.size : Int) ≥ 1
 ·rw [if_pos c2] at H; have ar : decide (1 ≤ (aa.size : Int)) = true := decide_eq_true c2; have au : decide (1 ≤ aa.size) = true := decide_eq_true (by omega); clear c2
  by_cases c3 : (aa.size : Int) ≤ 20
  ·rw [if_pos c3] at H; have av : decide ((aa.size : Int) ≤ 20) = true := decide_eq_true c3; have aw : decide (aa.size ≤ 20) = true := decide_eq_true (by omega); clear c3; obtain ⟨ai, A4, H⟩ := ob H
   try dsimp only at H
   by_cases c5 : ai = true
   ·subst c5; rw [if_pos rfl] at H
    by_cases c6 : (ab.size : Int) ≤ 40
    ·rw [if_pos c6] at H; have ax : decide ((ab.size : Int) ≤ 40) = true := decide_eq_true c6; have ay : decide (ab.size ≤ 40) = true := decide_eq_true (by omega); clear c6; obtain ⟨aj, A7, H⟩ := ob H
     try dsimp only at H
     by_cases c8 : aj = true
     ·subst c8; rw [if_pos rfl] at H; obtain ⟨ah, A9, H⟩ := ob H; obtain rfl := Option.some.inj H
      go_enter Try.func58, Try.ntmps58
      go_wp2_with (first | ((with_reducible refine gate_dst (N := 1) rfl ?_); (try (refine gate_guard (by rfl) ?_; dsimp only)); refine bx 1 #[.string aa, .string ab, .int .i64 ae] 68 ?_; intro af hg aC hbox hb; have ac := am hbox; have ag := gs0 hg HB; have ad := gs0 hg HB; replace HB := s0 HB hb; clear hb hbox hg; have ak := bz3 ac) | (go_at_call 108; (with_reducible refine (spec_l10Clean.calls k aa true _ A4.out).mono ?_); rintro e w' ⟨rfl, ⟨nd, rfl⟩⟩) | (go_at_call 108; (with_reducible refine (spec_l10Clean.calls k ab true _ A7.out).mono ?_); rintro e w' ⟨rfl, ⟨nd, rfl⟩⟩) | (go_at_call 56; (with_reducible refine (spec_l01In.calls ae 0 3 ah _ A9.out).mono ?_); rintro e w' ⟨rfl, ⟨nd, rfl⟩⟩))
      go_ret
      exact ⟨er, be1 HB ad⟩
     replace c8 := Bool.eq_false_iff.mpr c8; subst c8; rw [if_neg nf] at H; obtain rfl := Option.some.inj H
     go_enter Try.func58, Try.ntmps58
     go_wp2_with (first | ((with_reducible refine gate_dst (N := 1) rfl ?_); (try (refine gate_guard (by rfl) ?_; dsimp only)); refine bx 1 #[.string aa, .string ab, .int .i64 ae] 68 ?_; intro af hg aD hbox hb; have ac := am hbox; have ag := gs0 hg HB; have ad := gs0 hg HB; replace HB := s0 HB hb; clear hb hbox hg; have al := bz3 ac) | (go_at_call 108; (with_reducible refine (spec_l10Clean.calls k aa true _ A4.out).mono ?_); rintro e w' ⟨rfl, ⟨nd, rfl⟩⟩) | (go_at_call 108; (with_reducible refine (spec_l10Clean.calls k ab false _ A7.out).mono ?_); rintro e w' ⟨rfl, ⟨nd, rfl⟩⟩))
     go_ret
     exact ⟨er, be1 HB ad⟩
    rw [if_neg c6] at H; have ax : decide ((ab.size : Int) ≤ 40) = false := decide_eq_false c6; have ay : decide (ab.size ≤ 40) = false := decide_eq_false (by omega); clear c6; obtain rfl := Option.some.inj H
    go_enter Try.func58, Try.ntmps58
    go_wp2_with (first | ((with_reducible refine gate_dst (N := 1) rfl ?_); (try (refine gate_guard (by rfl) ?_; dsimp only)); refine bx 1 #[.string aa, .string ab, .int .i64 ae] 68 ?_; intro af hg aE hbox hb; have ac := am hbox; have ag := gs0 hg HB; have ad := gs0 hg HB; replace HB := s0 HB hb; clear hb hbox hg; have an := bz3 ac) | (go_at_call 108; (with_reducible refine (spec_l10Clean.calls k aa true _ A4.out).mono ?_); rintro e w' ⟨rfl, ⟨nd, rfl⟩⟩))
    go_ret
    exact ⟨er, be1 HB ad⟩
   replace c5 := Bool.eq_false_iff.mpr c5; subst c5; rw [if_neg nf] at H; obtain rfl := Option.some.inj H
   go_enter Try.func58, Try.ntmps58
   go_wp2_with (first | ((with_reducible refine gate_dst (N := 1) rfl ?_); (try (refine gate_guard (by rfl) ?_; dsimp only)); refine bx 1 #[.string aa, .string ab, .int .i64 ae] 68 ?_; intro af hg aF hbox hb; have ac := am hbox; have ag := gs0 hg HB; have ad := gs0 hg HB; replace HB := s0 HB hb; clear hb hbox hg; have ao := bz3 ac) | (go_at_call 108; (with_reducible refine (spec_l10Clean.calls k aa false _ A4.out).mono ?_); rintro e w' ⟨rfl, ⟨nd, rfl⟩⟩))
   go_ret
   exact ⟨er, be1 HB ad⟩
  rw [if_neg c3] at H; have av : decide ((aa.size : Int) ≤ 20) = false := decide_eq_false c3; have aw : decide (aa.size ≤ 20) = false := decide_eq_false (by omega); clear c3; obtain rfl := Option.some.inj H
  go_enter Try.func58, Try.ntmps58
  go_wp2_with (first | ((with_reducible refine gate_dst (N := 1) rfl ?_); (try (refine gate_guard (by rfl) ?_; dsimp only)); refine bx 1 #[.string aa, .string ab, .int .i64 ae] 68 ?_; intro af hg aG hbox hb; have ac := am hbox; have ag := gs0 hg HB; have ad := gs0 hg HB; replace HB := s0 HB hb; clear hb hbox hg; have ap := bz3 ac))
  go_ret
  exact ⟨er, be1 HB ad⟩
 rw [if_neg c2] at H; have ar : decide (1 ≤ (aa.size : Int)) = false := decide_eq_false c2; have au : decide (1 ≤ aa.size) = false := decide_eq_false (by omega); clear c2; obtain rfl := Option.some.inj H
 go_enter Try.func58, Try.ntmps58
 go_wp2_with (first | ((with_reducible refine gate_dst (N := 1) rfl ?_); (try (refine gate_guard (by rfl) ?_; dsimp only)); refine bx 1 #[.string aa, .string ab, .int .i64 ae] 68 ?_; intro af hg aH hbox hb; have ac := am hbox; have ag := gs0 hg HB; have ad := gs0 hg HB; replace HB := s0 HB hb; clear hb hbox hg; have aq := bz3 ac))
 go_ret
 exact ⟨er, be1 HB ad⟩

/-! ### spec_l10At: function 59 -/
def spec_l10At.l0 : Nat → ByteArray → List (S68) → Int → Int → Option (Int)
 | 0, _, _, _, _ => none
 | k + 1, x1, x7, x8, x9 => if x9 < x8 then (if 0 ≤ x9 then (if x9 < (x7.length : Int) then (if ((rd_T68 x7 x9).f0).toList = x1.toList then (some x9) else (spec_l10At.l0 k x1 x7 x8 (wrap64 (x9 + 1)))) else (none)) else (none)) else (some (-1))
def spec_l10At.f (k : Nat) (l0 : List (S68)) (a1 : ByteArray) : Option (Int) := spec_l10At.l0 k a1 l0 (l0.length : Int) 0
theorem spec_l10At.mono_l : ∀ k, (∀ y0 y1 y2 y3, LeO (spec_l10At.l0 k y0 y1 y2 y3) (spec_l10At.l0 (k + 1) y0 y1 y2 y3))
 | 0 => fun _ _ _ _ r h => by simp [spec_l10At.l0] at h
 | k + 1 => by
  have aj := spec_l10At.mono_l k
  ·intro y0 y1 y2 y3; unfold spec_l10At.l0
   repeat' first | (with_reducible first | apply aj | apply lr | apply ln | apply li | refine lb ?_ fun _ => ?_) | apply aj | apply ln | apply li | refine lb ?_ fun _ => ?_
theorem spec_l10At.mono : ∀ a0 a1 k, LeO (spec_l10At.f k a0 a1) (spec_l10At.f (k + 1) a0 a1) := by
 intro a0 a1 k; have aj := spec_l10At.mono_l k; unfold spec_l10At.f
 repeat' first | (with_reducible first | apply aj | apply lr | apply ln | apply li | refine lb ?_ fun _ => ?_) | apply aj | apply ln | apply li | refine lb ?_ fun _ => ?_
set_option maxHeartbeats 8000000 in
set_option maxRecDepth 100000 in
theorem spec_l10At.calls (k : Nat) (A0 : Option Addr) (c0 : Nat) (l0 : List (S68)) (a1 : ByteArray) (r : Int) (w : World) (av : Kd.C k68 w A0 l0.length l0) (aw : l0.length ≤ c0) (h : spec_l10At.f k l0 a1 = some r) :
  Calls Try.prog 59 #[.slice A0 l0.length c0, .string a1] w fun e w' => e = .returned (.int .i64 r) ∧ Below w.heap.size w w' := by
 have hu68 := Try.underlying68; have ax := Aside0.mk av; have aB := Aside0.mk aw; clear av aw; have HB := Aside0.mk (Below.refl w.heap.size w); have H : (spec_l10At.l0 k a1 l0 (l0.length : Int) 0) = some r := h; clear h; have H' := Aside0.mk H; clear H
 go_enter Try.func59, Try.ntmps59
 go_wp2
 go_loopg [9] k (fun kq v9 w' => ∃ (aa : Int), v9 = .int .i64 aa ∧ Aside0 (spec_l10At.l0 kq a1 l0 (l0.length : Int) aa = some r) ∧ Aside0 (kq ≤ k) ∧ Aside0 (Below w.heap.size w w'))
 case atStart => exact ⟨(0), rs, H', ⟨Nat.le_refl _⟩, ⟨be HB⟩⟩
 case round =>
  clear H'
  try clear p2
  obtain ⟨aa, rfl, HA, ay, HB⟩ := hrel
  cases gk with
  | zero => exact absurd HA.out (by simp [spec_l10At.l0])
  | succ k1 =>
   have H := HA.out; clear HA; simp only [spec_l10At.l0] at H
   by_cases c3 : aa < (l0.length : Int)
   ·rw [if_pos c3] at H; have ap : decide (aa < (l0.length : Int)) = true := decide_eq_true c3; clear c3
    by_cases c4 : 0 ≤ aa
    ·rw [if_pos c4] at H; have az : decide (0 ≤ aa) = true := decide_eq_true c4; clear c4
     by_cases c5 : aa < (l0.length : Int)
     ·rw [if_pos c5] at H; have aA : decide (aa < (l0.length : Int)) = true := decide_eq_true c5; clear c5
      by_cases c6 : ((rd_T68 l0 aa).f0).toList = a1.toList
      ·rw [if_pos c6] at H; have aq : (((rd_T68 l0 aa).f0).toList == a1.toList) = true := beq_iff_eq.mpr c6; have ar : (((rd_T68 l0 aa).f0).toList != a1.toList) = false := bne_eq_false_iff_eq.mpr c6; clear c6; obtain rfl := Option.some.inj H; have ae : 0 ≤ (aa : Int) := od; have af : aa < (l0.length : Int) := od; obtain ⟨ak, ai, ab, ac, ad⟩ := at_T68 ax.out aa ae af; cases ai; replace ab := hc HB ab; replace ac := hc HB ac; replace ad := hc HB ad; replace ae := eq_true ae; replace af := eq_true af
       go_wp2_with (first | ((with_reducible refine gate_dst (N := 6) rfl ?_); refine bx 6 #[.string (⟨#[]⟩ : ByteArray), .string (⟨#[]⟩ : ByteArray), .int .i64 0] 68 ?_; intro al hg w7 hbox hb; have ag := am hbox; have an := gs0 hg HB; have ah := gs0 hg HB; replace HB := s0 HB hb; clear hb hbox hg; have au := bz3 ag))
       go_ret
       exact ⟨er, be1 HB ah⟩
      rw [if_neg c6] at H; have aq : (((rd_T68 l0 aa).f0).toList == a1.toList) = false := beq_eq_false_iff_ne.mpr c6; have ar : (((rd_T68 l0 aa).f0).toList != a1.toList) = true := bne_iff_ne.mpr c6; have H' := Aside0.mk H; clear H; have ae : 0 ≤ (aa : Int) := od; have af : aa < (l0.length : Int) := od; obtain ⟨ak, ai, ab, ac, ad⟩ := at_T68 ax.out aa ae af; cases ai; replace ab := hc HB ab; replace ac := hc HB ac; replace ad := hc HB ad; replace ae := eq_true ae; replace af := eq_true af
      go_wp2_with (first | ((with_reducible refine gate_dst (N := 6) rfl ?_); refine bx 6 #[.string (⟨#[]⟩ : ByteArray), .string (⟨#[]⟩ : ByteArray), .int .i64 0] 68 ?_; intro al hg w9 hbox hb; have ag := am hbox; have an := gs0 hg HB; have ah := gs0 hg HB; replace HB := s0 HB hb; clear hb hbox hg; have ao := bz3 ag))
      go_roundg k1
      case measure => have := ay.out; omega
      case rel => exact ⟨(wrap64 (aa + 1)), rs, H', ⟨by have := ay.out; omega⟩, ⟨be1 HB ah⟩⟩
     rw [if_neg c5] at H; exact absurd H (by simp)
    rw [if_neg c4] at H; exact absurd H (by simp)
   rw [if_neg c3] at H; have ap : decide (aa < (l0.length : Int)) = false := decide_eq_false c3; clear c3; obtain rfl := Option.some.inj H
   go_wp2
   go_ret
   exact ⟨er, be HB⟩

/-! ### spec_l01Num: function 60 -/
def spec_l01Num.f (a0 : Int) : Option (Bool) := if a0 ≥ 0 then (some (decide (a0 ≤ 4294967295))) else (some false)
set_option maxHeartbeats 8000000 in
set_option maxRecDepth 100000 in
theorem spec_l01Num.calls (a0 : Int) (r : Bool) (w : World) (h : spec_l01Num.f a0 = some r) :
  Calls Try.prog 60 #[.int .i64 a0] w fun e w' => e = .returned (.bool r) ∧ Drawn0 w w' := by
 have H : (if a0 ≥ 0 then (some (decide (a0 ≤ 4294967295))) else (some false)) = some r := h; clear h
 by_cases c2 : a0 ≥ 0
 ·rw [if_pos c2] at H; have aa : decide (0 ≤ a0) = true := decide_eq_true c2; clear c2; obtain rfl := Option.some.inj H
  go_enter Try.func60, Try.ntmps60
  go_wp2
  go_ret
  exact ⟨by first | rfl | (simp; done) | (simp [*]; done), by repeat (first | exact Drawn0.refl _ | apply Drawn0.step)⟩
 rw [if_neg c2] at H; have aa : decide (0 ≤ a0) = false := decide_eq_false c2; clear c2; obtain rfl := Option.some.inj H
 go_enter Try.func60, Try.ntmps60
 go_wp2
 go_ret
 exact ⟨by first | rfl | (simp; done) | (simp [*]; done), by repeat (first | exact Drawn0.refl _ | apply Drawn0.step)⟩

/-! ### spec_l03Has: function 61 -/
def spec_l03Has.l0 : Nat → Int → List Int → Int → Int → Option (Bool)
 | 0, _, _, _, _ => none
 | k + 1, x1, x7, x8, x9 => if x9 < x8 then (if 0 ≤ x9 then (if x9 < (x7.length : Int) then (if (rd x7 x9) = x1 then (some true) else (spec_l03Has.l0 k x1 x7 x8 (wrap64 (x9 + 1)))) else (none)) else (none)) else (some false)
def spec_l03Has.f (k : Nat) (l0 : List Int) (a1 : Int) : Option (Bool) := spec_l03Has.l0 k a1 l0 (l0.length : Int) 0
theorem spec_l03Has.mono_l : ∀ k, (∀ y0 y1 y2 y3, LeO (spec_l03Has.l0 k y0 y1 y2 y3) (spec_l03Has.l0 (k + 1) y0 y1 y2 y3))
 | 0 => fun _ _ _ _ r h => by simp [spec_l03Has.l0] at h
 | k + 1 => by
  have af := spec_l03Has.mono_l k
  ·intro y0 y1 y2 y3; unfold spec_l03Has.l0
   repeat' first | (with_reducible first | apply af | apply lr | apply ln | apply li | refine lb ?_ fun _ => ?_) | apply af | apply ln | apply li | refine lb ?_ fun _ => ?_
theorem spec_l03Has.mono : ∀ a0 a1 k, LeO (spec_l03Has.f k a0 a1) (spec_l03Has.f (k + 1) a0 a1) := by
 intro a0 a1 k; have af := spec_l03Has.mono_l k; unfold spec_l03Has.f
 repeat' first | (with_reducible first | apply af | apply lr | apply ln | apply li | refine lb ?_ fun _ => ?_) | apply af | apply ln | apply li | refine lb ?_ fun _ => ?_
set_option maxHeartbeats 8000000 in
set_option maxRecDepth 100000 in
theorem spec_l03Has.calls (k : Nat) (A0 : Option Addr) (c0 : Nat) (l0 : List Int) (a1 : Int) (r : Bool) (w : World) (ak : Kd.C (Kd.int .i64) w A0 l0.length l0) (al : l0.length ≤ c0) (h : spec_l03Has.f k l0 a1 = some r) :
  Calls Try.prog 61 #[.slice A0 l0.length c0, .int .i64 a1] w fun e w' => e = .returned (.bool r) ∧ Drawn0 w w' := by
 have an := Aside0.mk ak; have ar := Aside0.mk al; clear ak al; have H : (spec_l03Has.l0 k a1 l0 (l0.length : Int) 0) = some r := h; clear h; have H' := Aside0.mk H; clear H
 go_enter Try.func61, Try.ntmps61
 go_wp2
 go_loopg [9] k (fun kq v9 w' => ∃ (aa : Int), v9 = .int .i64 aa ∧ Aside0 (spec_l03Has.l0 kq a1 l0 (l0.length : Int) aa = some r) ∧ Aside0 (kq ≤ k) ∧ Drawn0 w w')
 case atStart => exact ⟨(0), rs, H', ⟨Nat.le_refl _⟩, by repeat (first | exact Drawn0.refl _ | apply Drawn0.step)⟩
 case round =>
  clear H'
  try clear p2
  obtain ⟨aa, rfl, HA, ao, ⟨m1, rfl⟩⟩ := hrel
  cases gk with
  | zero => exact absurd HA.out (by simp [spec_l03Has.l0])
  | succ k1 =>
   have H := HA.out; clear HA; simp only [spec_l03Has.l0] at H
   by_cases c3 : aa < (l0.length : Int)
   ·rw [if_pos c3] at H; have ah : decide (aa < (l0.length : Int)) = true := decide_eq_true c3; clear c3
    by_cases c4 : 0 ≤ aa
    ·rw [if_pos c4] at H; have ap : decide (0 ≤ aa) = true := decide_eq_true c4; clear c4
     by_cases c5 : aa < (l0.length : Int)
     ·rw [if_pos c5] at H; have aq : decide (aa < (l0.length : Int)) = true := decide_eq_true c5; clear c5
      by_cases c6 : (rd l0 aa) = a1
      ·rw [if_pos c6] at H; have ai : ((rd l0 aa) == a1) = true := beq_iff_eq.mpr c6; have aj : ((rd l0 aa) != a1) = false := bne_eq_false_iff_eq.mpr c6; clear c6; obtain rfl := Option.some.inj H; have ab : 0 ≤ (aa : Int) := od; have ac : aa < (l0.length : Int) := od; obtain ⟨ag, ae, ad⟩ := Kd.at_int an.out aa ab ac; cases ae; replace ab := eq_true ab; replace ac := eq_true ac
       go_wp2
       go_ret
       exact ⟨by first | rfl | (simp; done) | (simp [*]; done), by repeat (first | exact Drawn0.refl _ | apply Drawn0.step)⟩
      rw [if_neg c6] at H; have ai : ((rd l0 aa) == a1) = false := beq_eq_false_iff_ne.mpr c6; have aj : ((rd l0 aa) != a1) = true := bne_iff_ne.mpr c6; have H' := Aside0.mk H; clear H; have ab : 0 ≤ (aa : Int) := od; have ac : aa < (l0.length : Int) := od; obtain ⟨ag, ae, ad⟩ := Kd.at_int an.out aa ab ac; cases ae; replace ab := eq_true ab; replace ac := eq_true ac
      go_wp2
      go_roundg k1
      case measure => have := ao.out; omega
      case rel => exact ⟨(wrap64 (aa + 1)), rs, H', ⟨by have := ao.out; omega⟩, by repeat (first | exact Drawn0.refl _ | apply Drawn0.step)⟩
     rw [if_neg c5] at H; exact absurd H (by simp)
    rw [if_neg c4] at H; exact absurd H (by simp)
   rw [if_neg c3] at H; have ah : decide (aa < (l0.length : Int)) = false := decide_eq_false c3; clear c3; obtain rfl := Option.some.inj H
   go_wp2
   go_ret
   exact ⟨by first | rfl | (simp; done) | (simp [*]; done), by repeat (first | exact Drawn0.refl _ | apply Drawn0.step)⟩

end Go.Proofs.Ytfjhkediaholmaa.QFnExactPut
