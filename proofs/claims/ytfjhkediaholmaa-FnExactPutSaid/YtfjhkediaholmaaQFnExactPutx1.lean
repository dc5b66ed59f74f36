-- made by a program of this session (myprint.py)
import Derived.Test.YtfjhkediaholmaaQFnExactPutx0
namespace Go.Proofs.Ytfjhkediaholmaa.QFnExactPut
open Go.RowKit Go.Proofs.YtfjhkediaholmaaW.PrintWords Go.Proofs.YtfjhkediaholmaaW.PrintLast Go.Proofs.YtfjhkediaholmaaW.PrintMore
attribute [local go_sem] max2_int min2_int max_two min_two max_three min_three max_four min_four   -- for this text's walks alone
set_option linter.unusedVariables false
set_option linter.unusedSimpArgs false

/-! ### laws_szItem: function 107 -/
def laws_szItem.f (aa : ByteArray) (ab : ByteArray) (ae : Int) (a1 : Int) : Option (Int) := if (wrap64 (a1 - (aa.size : Int))) < 0 then (some (-1)) else (if (wrap64 ((wrap64 (a1 - (aa.size : Int))) - (ab.size : Int))) < 0 then (some (-1)) else (some (wrap64 ((wrap64 (a1 - (aa.size : Int))) - (ab.size : Int)))))
set_option maxHeartbeats 8000000 in
set_option maxRecDepth 100000 in
theorem laws_szItem.calls (aa : ByteArray) (ab : ByteArray) (ae : Int) (a1 : Int) (r : Int) (w : World) (h : laws_szItem.f aa ab ae a1 = some r) :
  Calls Try.prog 107 #[.agg #[.string aa, .string ab, .int .i64 ae], .int .i64 a1] w fun e w' => e = .returned (.int .i64 r) ∧ Below w.heap.size w w' := by
 have hu125 := Try.underlying125; have HB := Aside0.mk (Below.refl w.heap.size w); have H : (if (wrap64 (a1 - (aa.size : Int))) < 0 then (some (-1)) else (if (wrap64 ((wrap64 (a1 - (aa.size : Int))) - (ab.size : Int))) < 0 then (some (-1)) else (some (wrap64 ((wrap64 (a1 - (aa.size : Int))) - (ab.size : Int)))))) = some r := h; clear h
 by_cases c3 : (wrap64 (a1 - (aa.size : Int))) < 0
 ·rw [if_pos c3] at H; have ai : decide ((wrap64 (a1 - (aa.size : Int))) < 0) = true := decide_eq_true c3; clear c3; obtain rfl := Option.some.inj H
  go_enter Try.func107, Try.ntmps107
  go_wp2_with (first | ((with_reducible refine gate_dst (N := 2) rfl ?_); refine bx 2 #[.string aa, .string ab, .int .i64 ae] 125 ?_; intro af hg w4 hbox hb; have ac := am hbox; have ag := gs0 hg HB; have ad := gs0 hg HB; replace HB := s0 HB hb; clear hb hbox hg; have aj := bz3 ac))
  go_ret
  exact ⟨er, be1 HB ad⟩
 rw [if_neg c3] at H; have ai : decide ((wrap64 (a1 - (aa.size : Int))) < 0) = false := decide_eq_false c3; clear c3
 by_cases c6 : (wrap64 ((wrap64 (a1 - (aa.size : Int))) - (ab.size : Int))) < 0
 ·rw [if_pos c6] at H; have ak : decide ((wrap64 ((wrap64 (a1 - (aa.size : Int))) - (ab.size : Int))) < 0) = true := decide_eq_true c6; clear c6; obtain rfl := Option.some.inj H
  go_enter Try.func107, Try.ntmps107
  go_wp2_with (first | ((with_reducible refine gate_dst (N := 2) rfl ?_); refine bx 2 #[.string aa, .string ab, .int .i64 ae] 125 ?_; intro af hg w7 hbox hb; have ac := am hbox; have ag := gs0 hg HB; have ad := gs0 hg HB; replace HB := s0 HB hb; clear hb hbox hg; have al := bz3 ac))
  go_ret
  exact ⟨er, be1 HB ad⟩
 rw [if_neg c6] at H; have ak : decide ((wrap64 ((wrap64 (a1 - (aa.size : Int))) - (ab.size : Int))) < 0) = false := decide_eq_false c6; clear c6; obtain rfl := Option.some.inj H
 go_enter Try.func107, Try.ntmps107
 go_wp2_with (first | ((with_reducible refine gate_dst (N := 2) rfl ?_); refine bx 2 #[.string aa, .string ab, .int .i64 ae] 125 ?_; intro af hg w9 hbox hb; have ac := am hbox; have ag := gs0 hg HB; have ad := gs0 hg HB; replace HB := s0 HB hb; clear hb hbox hg; have ah := bz3 ac))
 go_ret
 exact ⟨er, be1 HB ad⟩

/-! ### laws_szItemS: function 54 -/
def laws_szItemS.l0 : Nat → List (S125) → Int → Int → Option (Int)
 | 0, _, _, _ => none
 | k + 1, x0, x1, x5 => if x5 < (x0.length : Int) then (if 0 ≤ x5 then ((laws_szItem.f ((rd_T125 x0 x5).f0) ((rd_T125 x0 x5).f1) ((rd_T125 x0 x5).f2) x1).bind fun ae => (if ae < 0 then (some (-1)) else (laws_szItemS.l0 k x0 ae (wrap64 (x5 + 1))))) else (none)) else (some x1)
def laws_szItemS.f (k : Nat) (l0 : List (S125)) (a1 : Int) : Option (Int) := if (wrap64 (a1 - (l0.length : Int))) < 0 then (some (-1)) else (laws_szItemS.l0 k l0 (wrap64 (a1 - (l0.length : Int))) 0)
theorem laws_szItemS.mono_l : ∀ k, (∀ y0 y1 y2, LeO (laws_szItemS.l0 k y0 y1 y2) (laws_szItemS.l0 (k + 1) y0 y1 y2))
 | 0 => fun _ _ _ r h => by simp [laws_szItemS.l0] at h
 | k + 1 => by
  have aj := laws_szItemS.mono_l k
  ·intro y0 y1 y2; unfold laws_szItemS.l0
   repeat' first | (with_reducible first | apply aj | apply lr | apply ln | apply li | refine lb ?_ fun _ => ?_) | apply aj | apply ln | apply li | refine lb ?_ fun _ => ?_
theorem laws_szItemS.mono : ∀ a0 a1 k, LeO (laws_szItemS.f k a0 a1) (laws_szItemS.f (k + 1) a0 a1) := by
 intro a0 a1 k; have aj := laws_szItemS.mono_l k; unfold laws_szItemS.f
 repeat' first | (with_reducible first | apply aj | apply lr | apply ln | apply li | refine lb ?_ fun _ => ?_) | apply aj | apply ln | apply li | refine lb ?_ fun _ => ?_
set_option maxHeartbeats 8000000 in
set_option maxRecDepth 100000 in
theorem laws_szItemS.calls (k : Nat) (A0 : Option Addr) (c0 : Nat) (l0 : List (S125)) (a1 : Int) (r : Int) (w : World) (ap : Kd.C k125 w A0 l0.length l0) (aq : l0.length ≤ c0) (h : laws_szItemS.f k l0 a1 = some r) :
  Calls Try.prog 54 #[.slice A0 l0.length c0, .int .i64 a1] w fun e w' => e = .returned (.int .i64 r) ∧ Below w.heap.size w w' := by
 have hu125 := Try.underlying125; have ar := Aside0.mk ap; have ax := Aside0.mk aq; clear ap aq; have HB := Aside0.mk (Below.refl w.heap.size w); have H : (if (wrap64 (a1 - (l0.length : Int))) < 0 then (some (-1)) else (laws_szItemS.l0 k l0 (wrap64 (a1 - (l0.length : Int))) 0)) = some r := h; clear h
 by_cases c3 : (wrap64 (a1 - (l0.length : Int))) < 0
 ·rw [if_pos c3] at H; have ak : decide ((wrap64 (a1 - (l0.length : Int))) < 0) = true := decide_eq_true c3; clear c3; obtain rfl := Option.some.inj H
  go_enter Try.func54, Try.ntmps54
  go_wp2
  go_ret
  exact ⟨er, be HB⟩
 rw [if_neg c3] at H; have ak : decide ((wrap64 (a1 - (l0.length : Int))) < 0) = false := decide_eq_false c3; clear c3; have H' := Aside0.mk H; clear H
 go_enter Try.func54, Try.ntmps54
 go_wp2
 go_loopg [1, 5] k (fun kq v1 v5 w' => ∃ (af : Int) (aa : Int), v1 = .int .i64 af ∧ v5 = .int .i64 aa ∧ Aside0 (laws_szItemS.l0 kq l0 af aa = some r) ∧ Aside0 (kq ≤ k) ∧ Aside0 (Below w.heap.size w w'))
 case atStart => exact ⟨(wrap64 (a1 - (l0.length : Int))), (0), rs, rs, H', ⟨Nat.le_refl _⟩, ⟨be HB⟩⟩
 case round =>
  clear H'
  try clear p2; try clear c3; try clear ak
  obtain ⟨af, aa, rfl, rfl, HA, au, HB⟩ := hrel
  cases gk with
  | zero => exact absurd HA.out (by simp [laws_szItemS.l0])
  | succ k1 =>
   have H := HA.out; clear HA; simp only [laws_szItemS.l0] at H
   by_cases c4 : aa < (l0.length : Int)
   ·rw [if_pos c4] at H; have an : decide (aa < (l0.length : Int)) = true := decide_eq_true c4; clear c4
    by_cases c5 : 0 ≤ aa
    ·rw [if_pos c5] at H; have aw : decide (0 ≤ aa) = true := decide_eq_true c5; clear c5; obtain ⟨ae, A6, H⟩ := ob H
     try dsimp only at H
     by_cases c7 : ae < 0
     ·rw [if_pos c7] at H; have ao : decide (ae < 0) = true := decide_eq_true c7; clear c7; obtain rfl := Option.some.inj H; have ag : 0 ≤ (aa : Int) := od; have ah : aa < (l0.length : Int) := od; obtain ⟨al, ai, ab, ac, ad⟩ := at_T125 ar.out aa ag ah; cases ai; replace ab := hc HB ab; replace ac := hc HB ac; replace ad := hc HB ad; replace ag := eq_true ag; replace ah := eq_true ah
      go_wp2_with (first | ((with_reducible refine gate_callee (f := 107) rfl ?_); refine gl 23 Try.func107 #[.agg #[.string ((rd_T125 l0 aa).f0), .string ((rd_T125 l0 aa).f1), .int .i64 ((rd_T125 l0 aa).f2)], .int .i64 af] ?_; (with_reducible refine (laws_szItem.calls ((rd_T125 l0 aa).f0) ((rd_T125 l0 aa).f1) ((rd_T125 l0 aa).f2) af ae _ A6.out).mono ?_); rintro e w8 ⟨rfl, hb⟩; refine ⟨_, rfl, ?_⟩; replace HB := s0 HB hb; (try clear hb)))
      go_ret
      exact ⟨er, be HB⟩
     rw [if_neg c7] at H; have ao : decide (ae < 0) = false := decide_eq_false c7; clear c7; have H' := Aside0.mk H; clear H; have ag : 0 ≤ (aa : Int) := od; have ah : aa < (l0.length : Int) := od; obtain ⟨al, ai, ab, ac, ad⟩ := at_T125 ar.out aa ag ah; cases ai; replace ab := hc HB ab; replace ac := hc HB ac; replace ad := hc HB ad; replace ag := eq_true ag; replace ah := eq_true ah
     go_wp2_with (first | ((with_reducible refine gate_callee (f := 107) rfl ?_); refine gl 23 Try.func107 #[.agg #[.string ((rd_T125 l0 aa).f0), .string ((rd_T125 l0 aa).f1), .int .i64 ((rd_T125 l0 aa).f2)], .int .i64 af] ?_; (with_reducible refine (laws_szItem.calls ((rd_T125 l0 aa).f0) ((rd_T125 l0 aa).f1) ((rd_T125 l0 aa).f2) af ae _ A6.out).mono ?_); rintro e w9 ⟨rfl, hb⟩; refine ⟨_, rfl, ?_⟩; replace HB := s0 HB hb; (try clear hb)))
     go_roundg k1
     case measure => have := au.out; omega
     case rel => exact ⟨(ae), (wrap64 (aa + 1)), rs, rs, H', ⟨by have := au.out; omega⟩, ⟨be HB⟩⟩
    rw [if_neg c5] at H; exact absurd H (by simp)
   rw [if_neg c4] at H; have an : decide (aa < (l0.length : Int)) = false := decide_eq_false c4; clear c4; obtain rfl := Option.some.inj H
   go_wp2
   go_ret
   exact ⟨er, be HB⟩

/-! ### laws_szIntS: function 55 -/
def laws_szIntS.f (l0 : List Int) (a1 : Int) : Option (Int) := if (wrap64 (a1 - (l0.length : Int))) < 0 then (some (-1)) else (some (wrap64 (a1 - (l0.length : Int))))
set_option maxHeartbeats 8000000 in
set_option maxRecDepth 100000 in
theorem laws_szIntS.calls (A0 : Option Addr) (c0 : Nat) (l0 : List Int) (a1 : Int) (r : Int) (w : World) (ab : Kd.C (Kd.int .i64) w A0 l0.length l0) (ac : l0.length ≤ c0) (h : laws_szIntS.f l0 a1 = some r) :
  Calls Try.prog 55 #[.slice A0 l0.length c0, .int .i64 a1] w fun e w' => e = .returned (.int .i64 r) ∧ Drawn0 w w' := by
 have ad := Aside0.mk ab; have ae := Aside0.mk ac; clear ab ac; have H : (if (wrap64 (a1 - (l0.length : Int))) < 0 then (some (-1)) else (some (wrap64 (a1 - (l0.length : Int))))) = some r := h; clear h
 by_cases c3 : (wrap64 (a1 - (l0.length : Int))) < 0
 ·rw [if_pos c3] at H; have aa : decide ((wrap64 (a1 - (l0.length : Int))) < 0) = true := decide_eq_true c3; clear c3; obtain rfl := Option.some.inj H
  go_enter Try.func55, Try.ntmps55
  go_wp2
  go_ret
  exact ⟨by first | rfl | (simp; done) | (simp [*]; done), by repeat (first | exact Drawn0.refl _ | apply Drawn0.step)⟩
 rw [if_neg c3] at H; have aa : decide ((wrap64 (a1 - (l0.length : Int))) < 0) = false := decide_eq_false c3; clear c3; obtain rfl := Option.some.inj H
 go_enter Try.func55, Try.ntmps55
 go_wp2
 go_ret
 exact ⟨by first | rfl | (simp; done) | (simp [*]; done), by repeat (first | exact Drawn0.refl _ | apply Drawn0.step)⟩

/-! ### laws_szThree: function 16 -/
def laws_szThree.f (k : Nat) (ap : Int) (aq : Int) (ac : List (S125)) (ae : List (S125)) (af : List Int) (a1 : Int) : Option (Int) := (laws_szItemS.f k ac a1).bind fun ad => (if ad < 0 then (some (-1)) else ((laws_szItemS.f k ae ad).bind fun ag => (if ag < 0 then (some (-1)) else ((laws_szIntS.f af ag).bind fun ah => (if ah < 0 then (some (-1)) else (some ah))))))
theorem laws_szThree.mono : ∀ a0 a1 a2 a3 a4 a5 k, LeO (laws_szThree.f k a0 a1 a2 a3 a4 a5) (laws_szThree.f (k + 1) a0 a1 a2 a3 a4 a5) := by
 intro a0 a1 a2 a3 a4 a5 k; unfold laws_szThree.f
 repeat' first | (with_reducible first | apply laws_szItemS.mono | apply lr | apply ln | apply li | refine lb ?_ fun _ => ?_) | apply ln | apply li | refine lb ?_ fun _ => ?_
set_option maxHeartbeats 8000000 in
set_option maxRecDepth 100000 in
theorem laws_szThree.calls (k : Nat) (ap : Int) (aq : Int) (ai : Option Addr) (aj : Nat) (ac : List (S125)) (ak : Option Addr) (al : Nat) (ae : List (S125)) (an : Option Addr) (ao : Nat) (af : List Int) (a1 : Int) (r : Int) (w : World) (az : Kd.C k125 w ai ac.length ac) (aA : ac.length ≤ aj) (aB : Kd.C k125 w ak ae.length ae) (aC : ae.length ≤ al) (aD : Kd.C (Kd.int .i64) w an af.length af) (aE : af.length ≤ ao) (h : laws_szThree.f k ap aq ac ae af a1 = some r) :
  Calls Try.prog 16 #[.agg #[.int .i64 ap, .int .i64 aq, .slice ai ac.length aj, .slice ak ae.length al, .slice an af.length ao], .int .i64 a1] w fun e w' => e = .returned (.int .i64 r) ∧ Below w.heap.size w w' := by
 have hu25 := Try.underlying25; have ar := Aside0.mk az; have au := Aside0.mk aA; clear az aA; have av := Aside0.mk aB; have aw := Aside0.mk aC; clear aB aC; have aF := Aside0.mk aD; have aG := Aside0.mk aE; clear aD aE; have HB := Aside0.mk (Below.refl w.heap.size w); have H : ((laws_szItemS.f k ac a1).bind fun ad => (if ad < 0 then (some (-1)) else ((laws_szItemS.f k ae ad).bind fun ag => (if ag < 0 then (some (-1)) else ((laws_szIntS.f af ag).bind fun ah => (if ah < 0 then (some (-1)) else (some ah))))))) = some r := h; clear h; obtain ⟨ad, A3, H⟩ := ob H
 try dsimp only at H
 by_cases c4 : ad < 0
 ·rw [if_pos c4] at H; have aW : decide (ad < 0) = true := decide_eq_true c4; clear c4; obtain rfl := Option.some.inj H
  go_enter Try.func16, Try.ntmps16
  go_wp2_with (first | ((with_reducible refine gate_dst (N := 2) rfl ?_); refine bx 2 #[.int .i64 ap, .int .i64 aq, .slice ai ac.length aj, .slice ak ae.length al, .slice an af.length ao] 25 ?_; intro ax hg w5 hbox hb; have aa := am hbox; have ay := gs0 hg HB; have ab := gs0 hg HB; replace HB := s0 HB hb; clear hb hbox hg; have aX := bz5 aa) | ((with_reducible refine gate_callee (f := 54) rfl ?_); refine gl 8 Try.func54 #[.slice ai ac.length aj, .int .i64 a1] ?_; (with_reducible refine (laws_szItemS.calls k _ _ ac a1 ad _ (cb ar HB) au.out A3.out).mono ?_); rintro e w7 ⟨rfl, hb⟩; refine ⟨_, rfl, ?_⟩; replace aa := bb aa hb; replace HB := s1 HB ab hb; (try clear hb)))
  go_ret
  exact ⟨er, be1 HB ab⟩
 rw [if_neg c4] at H; have aW : decide (ad < 0) = false := decide_eq_false c4; clear c4; obtain ⟨ag, A8, H⟩ := ob H
 try dsimp only at H
 by_cases c9 : ag < 0
 ·rw [if_pos c9] at H; have aY : decide (ag < 0) = true := decide_eq_true c9; clear c9; obtain rfl := Option.some.inj H
  go_enter Try.func16, Try.ntmps16
  go_wp2_with (first | ((with_reducible refine gate_dst (N := 2) rfl ?_); refine bx 2 #[.int .i64 ap, .int .i64 aq, .slice ai ac.length aj, .slice ak ae.length al, .slice an af.length ao] 25 ?_; intro ax hg a8 hbox hb; have aa := am hbox; have ay := gs0 hg HB; have ab := gs0 hg HB; replace HB := s0 HB hb; clear hb hbox hg; have aK := bz5 aa) | ((with_reducible refine gate_callee (f := 54) rfl ?_); refine gl 8 Try.func54 #[.slice ai ac.length aj, .int .i64 a1] ?_; (with_reducible refine (laws_szItemS.calls k _ _ ac a1 ad _ (cb ar HB) au.out A3.out).mono ?_); rintro e a9 ⟨rfl, hb⟩; refine ⟨_, rfl, ?_⟩; replace aa := bb aa hb; replace HB := s1 HB ab hb; (try clear hb); have aL := bz5 aa) | ((with_reducible refine gate_callee (f := 54) rfl ?_); refine gl 14 Try.func54 #[.slice ak ae.length al, .int .i64 ad] ?_; (with_reducible refine (laws_szItemS.calls k _ _ ae ad ag _ (cb av HB) aw.out A8.out).mono ?_); rintro e ba ⟨rfl, hb⟩; refine ⟨_, rfl, ?_⟩; replace aa := bb aa hb; replace HB := s1 HB ab hb; (try clear hb)))
  go_ret
  exact ⟨er, be1 HB ab⟩
 rw [if_neg c9] at H; have aY : decide (ag < 0) = false := decide_eq_false c9; clear c9; obtain ⟨ah, a7, H⟩ := ob H
 try dsimp only at H
 by_cases aH : ah < 0
 ·rw [if_pos aH] at H; have aJ : decide (ah < 0) = true := decide_eq_true aH; clear aH; obtain rfl := Option.some.inj H
  go_enter Try.func16, Try.ntmps16
  go_wp2_with (first | ((with_reducible refine gate_dst (N := 2) rfl ?_); refine bx 2 #[.int .i64 ap, .int .i64 aq, .slice ai ac.length aj, .slice ak ae.length al, .slice an af.length ao] 25 ?_; intro ax hg bc hbox hb; have aa := am hbox; have ay := gs0 hg HB; have ab := gs0 hg HB; replace HB := s0 HB hb; clear hb hbox hg; have aN := bz5 aa) | ((with_reducible refine gate_callee (f := 54) rfl ?_); refine gl 8 Try.func54 #[.slice ai ac.length aj, .int .i64 a1] ?_; (with_reducible refine (laws_szItemS.calls k _ _ ac a1 ad _ (cb ar HB) au.out A3.out).mono ?_); rintro e bd ⟨rfl, hb⟩; refine ⟨_, rfl, ?_⟩; replace aa := bb aa hb; replace HB := s1 HB ab hb; (try clear hb); have aO := bz5 aa) | ((with_reducible refine gate_callee (f := 54) rfl ?_); refine gl 14 Try.func54 #[.slice ak ae.length al, .int .i64 ad] ?_; (with_reducible refine (laws_szItemS.calls k _ _ ae ad ag _ (cb av HB) aw.out A8.out).mono ?_); rintro e bf ⟨rfl, hb⟩; refine ⟨_, rfl, ?_⟩; replace aa := bb aa hb; replace HB := s1 HB ab hb; (try clear hb); have aQ := bz5 aa) | ((with_reducible refine gate_callee (f := 55) rfl ?_); refine gl 20 Try.func55 #[.slice an af.length ao, .int .i64 ag] ?_; (with_reducible refine (laws_szIntS.calls _ _ af ag ah _ (cb aF HB) aG.out a7.out).mono ?_); rintro e w' ⟨rfl, ⟨nd, rfl⟩⟩; refine ⟨_, rfl, ?_⟩))
  go_ret
  exact ⟨er, be1 HB ab⟩
 rw [if_neg aH] at H; have aJ : decide (ah < 0) = false := decide_eq_false aH; clear aH; obtain rfl := Option.some.inj H
 go_enter Try.func16, Try.ntmps16
 go_wp2_with (first | ((with_reducible refine gate_dst (N := 2) rfl ?_); refine bx 2 #[.int .i64 ap, .int .i64 aq, .slice ai ac.length aj, .slice ak ae.length al, .slice an af.length ao] 25 ?_; intro ax hg bg hbox hb; have aa := am hbox; have ay := gs0 hg HB; have ab := gs0 hg HB; replace HB := s0 HB hb; clear hb hbox hg; have aR := bz5 aa) | ((with_reducible refine gate_callee (f := 54) rfl ?_); refine gl 8 Try.func54 #[.slice ai ac.length aj, .int .i64 a1] ?_; (with_reducible refine (laws_szItemS.calls k _ _ ac a1 ad _ (cb ar HB) au.out A3.out).mono ?_); rintro e bh ⟨rfl, hb⟩; refine ⟨_, rfl, ?_⟩; replace aa := bb aa hb; replace HB := s1 HB ab hb; (try clear hb); have aU := bz5 aa) | ((with_reducible refine gate_callee (f := 54) rfl ?_); refine gl 14 Try.func54 #[.slice ak ae.length al, .int .i64 ad] ?_; (with_reducible refine (laws_szItemS.calls k _ _ ae ad ag _ (cb av HB) aw.out A8.out).mono ?_); rintro e bi ⟨rfl, hb⟩; refine ⟨_, rfl, ?_⟩; replace aa := bb aa hb; replace HB := s1 HB ab hb; (try clear hb); have aV := bz5 aa) | ((with_reducible refine gate_callee (f := 55) rfl ?_); refine gl 20 Try.func55 #[.slice an af.length ao, .int .i64 ag] ?_; (with_reducible refine (laws_szIntS.calls _ _ af ag ah _ (cb aF HB) aG.out a7.out).mono ?_); rintro e w' ⟨rfl, ⟨nd, rfl⟩⟩; refine ⟨_, rfl, ?_⟩))
 go_ret
 exact ⟨er, be1 HB ab⟩

/-! ### laws_toItem: function 109 -/
def laws_toItem.f (ae : ByteArray) (af : ByteArray) (ag : Int) : Option (ByteArray × ByteArray × Int) := some (ae, af, ag)
set_option maxHeartbeats 8000000 in
set_option maxRecDepth 100000 in
theorem laws_toItem.calls (ae : ByteArray) (af : ByteArray) (ag : Int) (r1 : ByteArray) (r2 : ByteArray) (r3 : Int) (w : World) (h : laws_toItem.f ae af ag = some (r1, r2, r3)) :
  Calls Try.prog 109 #[.agg #[.string ae, .string af, .int .i64 ag]] w fun e w' => e = .returned (.agg #[.string r1, .string r2, .int .i64 r3]) ∧ Below w.heap.size w w' := by
 have hu125 := Try.underlying125; have hu68 := Try.underlying68; have HB := Aside0.mk (Below.refl w.heap.size w); have H : (some (ae, af, ag)) = some (r1, r2, r3) := h; clear h; simp only [Option.some.injEq, Prod.mk.injEq] at H; obtain ⟨rfl, rfl, rfl⟩ := H
 go_enter Try.func109, Try.ntmps109
 go_wp2_with (first | ((with_reducible refine gate_dst (N := 1) rfl ?_); refine bx 1 #[.string ae, .string af, .int .i64 ag] 125 ?_; intro aw hg w2 hbox hb; have aa := am hbox; have ax := gs0 hg HB; have ab := gs0 hg HB; replace HB := s0 HB hb; clear hb hbox hg) | ((with_reducible refine gate_dst (N := 2) rfl ?_); refine bx 2 #[.string (⟨#[]⟩ : ByteArray), .string (⟨#[]⟩ : ByteArray), .int .i64 0] 68 ?_; intro ao hg w3 hbox hb; have ac := am hbox; have ay := gs1 hg HB ab; have ah := gs1 hg HB ab; replace HB := s1 HB ab hb; have ai := nl hg aa; have aj := ng hg aa; replace aa := bb aa hb; clear hb hbox hg) | ((with_reducible refine gate_dst (N := 3) rfl ?_); refine bx 3 #[.string (⟨#[]⟩ : ByteArray), .string (⟨#[]⟩ : ByteArray), .int .i64 0] 68 ?_; intro az hg w4 hbox hb; have ap := am hbox; have aA := gs2 hg HB ab ah; have aq := gs2 hg HB ab ah; replace HB := s2 HB ab ah hb; have ak := nl hg aa; have al := ng hg aa; replace aa := bb aa hb; have ad := nl hg ac; have an := ng hg ac; replace ac := bb ac hb; clear hb hbox hg; have aB := ai.out; have aC := aj.out; have aD := ak.out; have aE := al.out; have au := bz3 aa; have aF := an.out; have aG := ad.out; have av := bz3 ap; have ar := bz3 ac))
 refine bodyPost_ret (results_cell_row rfl _ _ ao 68 #[.string ae, .string af, .int .i64 ag] (0, 0) _ rfl (bp1 ac ad) Try.underlying68 rfl (by kernel_rfl)) rfl ?_; exact ⟨er, be3 HB ab ah aq⟩

/-! ### laws_toItemS: function 62 -/
def laws_toItemS.l0 : Nat → List (S125) → List (S68) → Int → Option ((List (S68)))
 | 0, _, _, _ => none
 | k + 1, x0, x3, x4 => if x4 < (x0.length : Int) then (if 0 ≤ x4 then ((laws_toItem.f ((rd_T125 x0 x4).f0) ((rd_T125 x0 x4).f1) ((rd_T125 x0 x4).f2)).bind fun ar => (if x4 < (x3.length : Int) then (laws_toItemS.l0 k x0 (x3.set (x4 : Int).toNat (⟨ar.1, ar.2.1, ar.2.2⟩ : S68)) (wrap64 (x4 + 1))) else (none))) else (none)) else (some x3)
def laws_toItemS.f (k : Nat) (l0 : List (S125)) : Option ((List (S68))) := if 0 ≤ (l0.length : Int) then (if ((l0.length : Int) : Int).toNat ≤ 7036874417766 then (laws_toItemS.l0 k l0 (List.replicate ((l0.length : Int) : Int).toNat z68) 0) else (none)) else (none)
theorem laws_toItemS.mono_l : ∀ k, (∀ y0 y1 y2, LeO (laws_toItemS.l0 k y0 y1 y2) (laws_toItemS.l0 (k + 1) y0 y1 y2))
 | 0 => fun _ _ _ r h => by simp [laws_toItemS.l0] at h
 | k + 1 => by
  have aJ := laws_toItemS.mono_l k
  ·intro y0 y1 y2; unfold laws_toItemS.l0
   repeat' first | (with_reducible first | apply aJ | apply lr | apply ln | apply li | refine lb ?_ fun _ => ?_) | apply aJ | apply ln | apply li | refine lb ?_ fun _ => ?_
theorem laws_toItemS.mono : ∀ a0 k, LeO (laws_toItemS.f k a0) (laws_toItemS.f (k + 1) a0) := by
 intro a0 k; have aJ := laws_toItemS.mono_l k; unfold laws_toItemS.f
 repeat' first | (with_reducible first | apply aJ | apply lr | apply ln | apply li | refine lb ?_ fun _ => ?_) | apply aJ | apply ln | apply li | refine lb ?_ fun _ => ?_
set_option maxHeartbeats 8000000 in
set_option maxRecDepth 100000 in
theorem laws_toItemS.calls (k : Nat) (A0 : Option Addr) (c0 : Nat) (l0 : List (S125)) (r : List (S68)) (w : World) (bm : Kd.C k125 w A0 l0.length l0) (bn : l0.length ≤ c0) (h : laws_toItemS.f k l0 = some r) :
  Calls Try.prog 62 #[.slice A0 l0.length c0] w fun e w' => ∃ bo : Value, e = .returned (bo) ∧ Kd.R k68 68 w' w.heap.size (fun _ => True) bo r ∧ Below w.heap.size w w' := by
 have hu125 := Try.underlying125; have hu68 := Try.underlying68; have bu := Aside0.mk bm; have bG := Aside0.mk bn; clear bm bn; have HB := Aside0.mk (Below.refl w.heap.size w); have H : (if 0 ≤ (l0.length : Int) then (if ((l0.length : Int) : Int).toNat ≤ 7036874417766 then (laws_toItemS.l0 k l0 (List.replicate ((l0.length : Int) : Int).toNat z68) 0) else (none)) else (none)) = some r := h; clear h
 by_cases c2 : 0 ≤ (l0.length : Int)
 ·rw [if_pos c2] at H; have a1 := eq_true c2; have a2 : decide (0 ≤ (l0.length : Int)) = true := decide_eq_true c2; clear c2
  by_cases c3 : ((l0.length : Int) : Int).toNat ≤ 7036874417766
  ·rw [if_pos c3] at H; have a3 := eq_true c3; have a4 : decide (((l0.length : Int) : Int).toNat ≤ 7036874417766) = true := decide_eq_true c3; clear c3; obtain ⟨aK, ae⟩ : ∃ y_ : List (S68), y_ = (List.replicate ((l0.length : Int) : Int).toNat z68) := ⟨_, rfl⟩; rw [← ae] at H; have av := Aside0.mk ae; clear ae; have H' := Aside0.mk H; clear H
   go_enter Try.func62, Try.ntmps62
   go_wp2_with (first | ((with_reducible refine gate_dst (N := 7) rfl ?_); refine Kd.R_make k68 _ 68 rfl (N := 7) rfl 28 _ _ rfl (l0.length : Int) rfl rfl Try.underlying28 (.agg #[(.string ⟨#[]⟩), (.string ⟨#[]⟩), (.int .i64 0)]) 40 info68 rfl (by decide) (by omega) z68 (ok := fun _ => True) (okp := fun _ => True) (k68_mkM _ _ _ z68 ) (fun _ hk => hk) trivial (od) (Nat.le_trans (Nat.mul_le_mul_right _ (od : (l0.length : Int).toNat ≤ 7036874417766)) (by omega)) (Below.refl _ _) (Nat.le_refl _) ?_; intro a5 w4 aL hb hg_ hnew_; clear hg_ hnew_; (first | rw [← av.out] at aL | (simp only [Int.reduceToNat] at aL; rw [← av.out] at aL)); have aN := Aside0.mk (Kd.R_lower aL (below_size (be HB))); replace HB := s0 HB hb; clear hb aL))
   go_loopg [4] k (fun kq v4 w' => ∃ (ab : List (S68)) (aa : Int), v4 = .int .i64 aa ∧ Aside0 (laws_toItemS.l0 kq l0 ab aa = some r) ∧ Aside0 (kq ≤ k) ∧ Aside0 (Kd.R k68 68 w' w.heap.size (fun _ => True) a5 ab) ∧ Aside0 (Below w.heap.size w w'))
   case atStart => exact ⟨(aK), (0), rs, H', ⟨Nat.le_refl _⟩, ⟨ro aN⟩, ⟨be HB⟩⟩
   case round =>
    clear H'
    try clear c2; try clear a1; try clear a2; try clear p2; try clear c3; try clear a3; try clear a4
    obtain ⟨ab, aa, rfl, HA, bq, ad, HB⟩ := hrel
    cases gk with
    | zero => exact absurd HA.out (by simp [laws_toItemS.l0])
    | succ k1 =>
     have H := HA.out; clear HA; simp only [laws_toItemS.l0] at H
     by_cases c6 : aa < (l0.length : Int)
     ·rw [if_pos c6] at H; have a6 : decide (aa < (l0.length : Int)) = true := decide_eq_true c6; clear c6
      by_cases c7 : 0 ≤ aa
      ·rw [if_pos c7] at H; have bw : decide (0 ≤ aa) = true := decide_eq_true c7; clear c7; obtain ⟨⟨ao, ap, aq⟩, A8, H⟩ := ob H
       try dsimp only at H
       by_cases c9 : aa < (ab.length : Int)
       ·rw [if_pos c9] at H; have bz : decide (aa < (ab.length : Int)) = true := decide_eq_true c9; clear c9; obtain ⟨ay, af⟩ : ∃ y_ : List (S68), y_ = (ab.set (aa : Int).toNat (⟨ao, ap, aq⟩ : S68)) := ⟨_, rfl⟩; rw [← af] at H; have aO := Aside0.mk af; clear af; have H' := Aside0.mk H; clear H; have az : 0 ≤ (aa : Int) := od; have aA : aa < (l0.length : Int) := od; obtain ⟨bs, a7, ah, ai, aj⟩ := at_T125 bu.out aa az aA; cases a7; replace ah := hc HB ah; replace ai := hc HB ai; replace aj := hc HB aj; replace az := eq_true az; replace aA := eq_true aA
        go_wp2_with (first | ((with_reducible refine gate_callee (f := 109) rfl ?_); refine gl 20 Try.func109 #[.agg #[.string ((rd_T125 l0 aa).f0), .string ((rd_T125 l0 aa).f1), .int .i64 ((rd_T125 l0 aa).f2)]] ?_; (with_reducible refine (laws_toItem.calls ((rd_T125 l0 aa).f0) ((rd_T125 l0 aa).f1) ((rd_T125 l0 aa).f2) ao ap aq _ A8.out).mono ?_); rintro e au ⟨rfl, hb⟩; refine ⟨_, rfl, ?_⟩; replace ad := rb ad hb; replace HB := s0 HB hb; (try clear hb); have a8 : 0 ≤ (aa : Int) := od; have a9 : (aa : Int) < ((ab.length : Int) : Int) := od; obtain ⟨ac, aQ, aR, aU, ba, bA, aV⟩ := Kd.R_form ad.out (by omega); (first | cases aR | (injection aR with ea_ en_ ec_; (first | subst ea_ | (injection ea_ with ea_; subst ea_)); subst ec_; clear en_)); have aB := Aside0.mk aU; have bC := Aside0.mk aV; clear aU ba aV; obtain ⟨bD, aW, aX, ak, al⟩ := Kd.R_elem ad.out z68 (aa : Int) a8 a9; obtain rfl := k68_openM aX; have bc : au.cell? ⟨ac, (aa : Int).toNat * 3, none⟩ = some (.string ((rd_T68 ab aa).f0)) := ak 0 _ rfl; have bd : au.cell? ⟨ac, (aa : Int).toNat * 3 + 1, none⟩ = some (.string ((rd_T68 ab aa).f1)) := ak 1 _ rfl; have bf : au.cell? ⟨ac, (aa : Int).toNat * 3 + 2, none⟩ = some (.int .i64 ((rd_T68 ab aa).f2)) := ak 2 _ rfl; have bg : au.frozen? ⟨ac, (aa : Int).toNat * 3, none⟩ = false := al 0; have bh : au.frozen? ⟨ac, (aa : Int).toNat * 3 + 1, none⟩ = false := al 1; have bi : au.frozen? ⟨ac, (aa : Int).toNat * 3 + 2, none⟩ = false := al 2; clear aW ak al aX; replace a8 := eq_true a8; replace a9 := eq_true a9; have aY := Aside0.mk (show Kd.R k68 68 au w.heap.size (fun _ => True) (.slice (some ⟨ac, 0, none⟩) ab.length aQ) ab from (ro ad)); obtain ⟨bF, aw, aZ, ag, an⟩ := Kd.R_elem aY.out z68 (aa : Int) (od) (by have h_ : (aa : Int) < ((ab.length : Int) : Int) := od; first | exact h_ | (have e_ := (Kd.R_reads' ad.out).1; omega) | simpa using h_); obtain rfl := k68_openM aZ; have aC := Kd.R_seg aY.out (aa : Int) (od) (by have h_ : (aa : Int) < ((ab.length : Int) : Int) := od; first | exact h_ | (have e_ := (Kd.R_reads' ad.out).1; omega) | simpa using h_) (seg := [.string ao, .string ap, .int .i64 aq]) (j := 0) aw ag (show 3 ≤ 3 from by decide) (x' := (⟨ao, ap, aq⟩ : S68)) (k68_mkM _ _ _ (⟨ao, ap, aq⟩ : S68) ) (fun _ hk => hk); have aD := ag 0 _ rfl; (try simp only [show (k68).sz = 3 from rfl, Nat.mul_one, Nat.add_zero] at aD); have aE := an 0; (try simp only [show (k68).sz = 3 from rfl, Nat.mul_one, Nat.add_zero] at aE); have aF := ag 1 _ rfl; (try simp only [show (k68).sz = 3 from rfl, Nat.mul_one, Nat.add_zero] at aF); have aG := an 1; (try simp only [show (k68).sz = 3 from rfl, Nat.mul_one, Nat.add_zero] at aG); have aH := ag 2 _ rfl; (try simp only [show (k68).sz = 3 from rfl, Nat.mul_one, Nat.add_zero] at aH); have aI := an 2; (try simp only [show (k68).sz = 3 from rfl, Nat.mul_one, Nat.add_zero] at aI); clear aw ag an aZ) | ((with_reducible refine gate_store (t := 68) (p := 21) rfl ?_); refine store_event (t := 68) (p := 21) (v := ?vo_w13) (w1 := (((au.setCell ⟨ac, (aa : Int).toNat * 3, none⟩ (.string ao)).setCell ⟨ac, (aa : Int).toNat * 3 + 1, none⟩ (.string ap)).setCell ⟨ac, (aa : Int).toNat * 3 + 2, none⟩ (.int .i64 aq))) ?hg ?ho ?hn ?hr ?_; (case ho => rfl); (case hg => rfl); (case hn => rfl); (case hr => first | (go_simp; done) | (go_simp; rfl)); intro bj hw; have hg : au.grownBy bj (some ac) := (by rw [hw]; exact aC.2); have hp_ : Kd.R k68 68 bj w.heap.size (fun _ => True) (.slice (some ⟨ac, 0, none⟩) ab.length aQ) ay := (by rw [hw, aO.out]; exact aC.1); clear aC; replace ad := Aside0.mk (hp_); replace HB := Aside0.mk ((by rw [hw]; exact below_set (below_set (below_set (HB.out) aB.out) aB.out) aB.out : Below w.heap.size w bj)); clear hg hw hp_))
        go_roundg k1
        case measure => have := bq.out; omega
        case rel => exact ⟨(ay), (wrap64 (aa + 1)), rs, H', ⟨by have := bq.out; omega⟩, ⟨ro ad⟩, ⟨be HB⟩⟩
       rw [if_neg c9] at H; exact absurd H (by simp)
      rw [if_neg c7] at H; exact absurd H (by simp)
     rw [if_neg c6] at H; have a6 : decide (aa < (l0.length : Int)) = false := decide_eq_false c6; clear c6; obtain rfl := Option.some.inj H
     go_wp2
     go_ret
     exact ⟨_, er, (ro ad), be HB⟩
  rw [if_neg c3] at H; exact absurd H (by simp)
 rw [if_neg c2] at H; exact absurd H (by simp)

/-! ### laws_toIntS: function 63 -/
def laws_toIntS.l0 : Nat → List Int → List Int → Int → Option (List Int)
 | 0, _, _, _ => none
 | k + 1, x0, x3, x4 => if x4 < (x0.length : Int) then (if 0 ≤ x4 then (if x4 < (x3.length : Int) then (laws_toIntS.l0 k x0 (x3.set (x4 : Int).toNat (rd x0 x4)) (wrap64 (x4 + 1))) else (none)) else (none)) else (some x3)
def laws_toIntS.f (k : Nat) (l0 : List Int) : Option (List Int) := if 0 ≤ (l0.length : Int) then (if ((l0.length : Int) : Int).toNat ≤ 35184372088832 then (laws_toIntS.l0 k l0 (List.replicate ((l0.length : Int) : Int).toNat 0) 0) else (none)) else (none)
theorem laws_toIntS.mono_l : ∀ k, (∀ y0 y1 y2, LeO (laws_toIntS.l0 k y0 y1 y2) (laws_toIntS.l0 (k + 1) y0 y1 y2))
 | 0 => fun _ _ _ r h => by simp [laws_toIntS.l0] at h
 | k + 1 => by
  have an := laws_toIntS.mono_l k
  ·intro y0 y1 y2; unfold laws_toIntS.l0
   repeat' first | (with_reducible first | apply an | apply lr | apply ln | apply li | refine lb ?_ fun _ => ?_) | apply an | apply ln | apply li | refine lb ?_ fun _ => ?_
theorem laws_toIntS.mono : ∀ a0 k, LeO (laws_toIntS.f k a0) (laws_toIntS.f (k + 1) a0) := by
 intro a0 k; have an := laws_toIntS.mono_l k; unfold laws_toIntS.f
 repeat' first | (with_reducible first | apply an | apply lr | apply ln | apply li | refine lb ?_ fun _ => ?_) | apply an | apply ln | apply li | refine lb ?_ fun _ => ?_
set_option maxHeartbeats 8000000 in
set_option maxRecDepth 100000 in
theorem laws_toIntS.calls (k : Nat) (A0 : Option Addr) (c0 : Nat) (l0 : List Int) (r : List Int) (w : World) (aD : Kd.C (Kd.int .i64) w A0 l0.length l0) (aE : l0.length ≤ c0) (h : laws_toIntS.f k l0 = some r) :
  Calls Try.prog 63 #[.slice A0 l0.length c0] w fun e w' => ∃ aF : Value, e = .returned (aF) ∧ Kd.R (Kd.int .i64) 3 w' w.heap.size (fun _ => True) aF r ∧ Below w.heap.size w w' := by
 have aO := Aside0.mk aD; have aX := Aside0.mk aE; clear aD aE; have HB := Aside0.mk (Below.refl w.heap.size w); have H : (if 0 ≤ (l0.length : Int) then (if ((l0.length : Int) : Int).toNat ≤ 35184372088832 then (laws_toIntS.l0 k l0 (List.replicate ((l0.length : Int) : Int).toNat 0) 0) else (none)) else (none)) = some r := h; clear h
 by_cases c2 : 0 ≤ (l0.length : Int)
 ·rw [if_pos c2] at H; have au := eq_true c2; have av : decide (0 ≤ (l0.length : Int)) = true := decide_eq_true c2; clear c2
  by_cases c3 : ((l0.length : Int) : Int).toNat ≤ 35184372088832
  ·rw [if_pos c3] at H; have aw := eq_true c3; have ax : decide (((l0.length : Int) : Int).toNat ≤ 35184372088832) = true := decide_eq_true c3; clear c3; obtain ⟨ao, ab⟩ : ∃ y_ : List Int, y_ = (List.replicate ((l0.length : Int) : Int).toNat 0) := ⟨_, rfl⟩; rw [← ab] at H; have ag := Aside0.mk ab; clear ab; have H' := Aside0.mk H; clear H
   go_enter Try.func63, Try.ntmps63
   go_wp2_with (first | ((with_reducible refine gate_dst (N := 7) rfl ?_); refine Kd.R_make (Kd.int .i64) _ 3 rfl (N := 7) rfl 23 _ _ rfl (l0.length : Int) rfl rfl Try.underlying23 (.int .i64 0) 8 info3 rfl (by decide) (by omega) 0 (ok := fun _ => True) (okp := fun _ => True) rfl (fun _ hk => hk) trivial (od) (Nat.le_trans (Nat.mul_le_mul_right _ (od : (l0.length : Int).toNat ≤ 35184372088832)) (by omega)) (Below.refl _ _) (Nat.le_refl _) ?_; intro ay w4 ap hb hg_ hnew_; clear hg_ hnew_; (first | rw [← ag.out] at ap | (simp only [Int.reduceToNat] at ap; rw [← ag.out] at ap)); have aq := Aside0.mk (Kd.R_lower ap (below_size (be HB))); replace HB := s0 HB hb; clear hb ap))
   go_loopg [4] k (fun kq v4 w' => ∃ (ac : List Int) (aa : Int), v4 = .int .i64 aa ∧ Aside0 (laws_toIntS.l0 kq l0 ac aa = some r) ∧ Aside0 (kq ≤ k) ∧ Aside0 (Kd.R (Kd.int .i64) 3 w' w.heap.size (fun _ => True) ay ac) ∧ Aside0 (Below w.heap.size w w'))
   case atStart => exact ⟨(ao), (0), rs, H', ⟨Nat.le_refl _⟩, ⟨ro aq⟩, ⟨be HB⟩⟩
   case round =>
    clear H'
    try clear c2; try clear au; try clear av; try clear p2; try clear c3; try clear aw; try clear ax
    obtain ⟨ac, aa, rfl, HA, aG, af, HB⟩ := hrel
    cases gk with
    | zero => exact absurd HA.out (by simp [laws_toIntS.l0])
    | succ k1 =>
     have H := HA.out; clear HA; simp only [laws_toIntS.l0] at H
     by_cases c6 : aa < (l0.length : Int)
     ·rw [if_pos c6] at H; have az : decide (aa < (l0.length : Int)) = true := decide_eq_true c6; clear c6
      by_cases c7 : 0 ≤ aa
      ·rw [if_pos c7] at H; have aQ : decide (0 ≤ aa) = true := decide_eq_true c7; clear c7
       by_cases c8 : aa < (ac.length : Int)
       ·rw [if_pos c8] at H; have aR : decide (aa < (ac.length : Int)) = true := decide_eq_true c8; clear c8; obtain ⟨ai, ad⟩ : ∃ y_ : List Int, y_ = (ac.set (aa : Int).toNat (rd l0 aa)) := ⟨_, rfl⟩; rw [← ad] at H; have ar := Aside0.mk ad; clear ad; have H' := Aside0.mk H; clear H; have aj : 0 ≤ (aa : Int) := od; have ak : aa < (l0.length : Int) := od; obtain ⟨aH, aA, ae⟩ := Kd.at_int aO.out aa aj ak; cases aA; replace ae := hc HB ae; replace aj := eq_true aj; replace ak := eq_true ak; have p9 : 0 ≤ (aa : Int) := od; have q9 : (aa : Int) < ((ac.length : Int) : Int) := od; obtain ⟨aB, aU, aI, aJ, aV, aY, aK⟩ := Kd.R_form af.out (by omega); (first | cases aI | (injection aI with ea_ en_ ec_; (first | subst ea_ | (injection ea_ with ea_; subst ea_)); subst ec_; clear en_)); have aW := Aside0.mk aJ; have aZ := Aside0.mk aK; clear aJ aV aK; obtain ⟨aL, aN⟩ := Kd.R_celln 0 af.out (aa : Int) p9 q9; replace p9 := eq_true p9; replace q9 := eq_true q9; have al := Kd.R_putg af.out (aa : Int) (rd l0 aa)
        go_wp2_with (first | ((with_reducible refine gate_store (t := 3) (p := 20) rfl ?_); refine store_event (t := 3) (p := 20) (v := ?vo_w11) (w1 := (wr.setCell ⟨aB, (aa : Int).toNat, none⟩ (.int .i64 (rd l0 aa)))) ?hg ?ho ?hn ?hr ?_; (case ho => rfl); (case hg => rfl); (case hn => rfl); (case hr => first | (go_simp; done) | (go_simp; rfl)); intro aC hw; have hg : wr.grownBy aC (some aB) := (by rw [hw]; exact al.2); have hp_ : Kd.R (Kd.int .i64) 3 aC w.heap.size (fun _ => True) (.slice (some ⟨aB, 0, none⟩) ac.length aU) ai := (by rw [hw, ar.out]; exact al.1); clear al; replace af := Aside0.mk (hp_); replace HB := Aside0.mk ((by rw [hw]; exact below_set (HB.out) aW.out : Below w.heap.size w aC)); clear hg hw hp_))
        go_roundg k1
        case measure => have := aG.out; omega
        case rel => exact ⟨(ai), (wrap64 (aa + 1)), rs, H', ⟨by have := aG.out; omega⟩, ⟨ro af⟩, ⟨be HB⟩⟩
       rw [if_neg c8] at H; exact absurd H (by simp)
      rw [if_neg c7] at H; exact absurd H (by simp)
     rw [if_neg c6] at H; have az : decide (aa < (l0.length : Int)) = false := decide_eq_false c6; clear c6; obtain rfl := Option.some.inj H
     go_wp2
     go_ret
     exact ⟨_, er, (ro af), be HB⟩
  rw [if_neg c3] at H; exact absurd H (by simp)
 rw [if_neg c2] at H; exact absurd H (by simp)

/-! ### laws_toThree: function 18 -/
def laws_toThree.f (k : Nat) (aj : Int) (ak : Int) (ar : List (S125)) (aq : List (S125)) (ap : List Int) : Option (Int × Int × (List (S68)) × (List (S68)) × List Int) := (laws_toItemS.f k ar).bind fun an => ((laws_toItemS.f k aq).bind fun ao => ((laws_toIntS.f k ap).bind fun ah => (some (aj, ak, an, ao, ah))))
theorem laws_toThree.mono : ∀ a0 a1 a2 a3 a4 k, LeO (laws_toThree.f k a0 a1 a2 a3 a4) (laws_toThree.f (k + 1) a0 a1 a2 a3 a4) := by
 intro a0 a1 a2 a3 a4 k; unfold laws_toThree.f
 repeat' first | (with_reducible first | apply laws_toIntS.mono | apply laws_toItemS.mono | apply lr | apply ln | apply li | refine lb ?_ fun _ => ?_) | apply ln | apply li | refine lb ?_ fun _ => ?_
set_option maxHeartbeats 8000000 in
set_option maxRecDepth 100000 in
theorem laws_toThree.calls (k : Nat) (aj : Int) (ak : Int) (aH : Option Addr) (aI : Nat) (ar : List (S125)) (aJ : Option Addr) (aK : Nat) (aq : List (S125)) (aL : Option Addr) (aN : Nat) (ap : List Int) (r1 : Int) (r2 : Int) (r3 : List (S68)) (r4 : List (S68)) (r5 : List Int) (w : World) (aQ : Kd.C k125 w aH ar.length ar) (aR : ar.length ≤ aI) (aU : Kd.C k125 w aJ aq.length aq) (aV : aq.length ≤ aK) (aW : Kd.C (Kd.int .i64) w aL ap.length ap) (aX : ap.length ≤ aN) (h : laws_toThree.f k aj ak ar aq ap = some (r1, r2, r3, r4, r5)) :
  Calls Try.prog 18 #[.agg #[.int .i64 aj, .int .i64 ak, .slice aH ar.length aI, .slice aJ aq.length aK, .slice aL ap.length aN]] w fun e w' => ∃ bm bn bs : Value, e = .returned (.agg #[.int .i64 r1, .int .i64 r2, bm, bn, bs]) ∧ Kd.R k68 68 w' w.heap.size (fun k_ => some k_ ≠ (bn : Value).ownBlock) bm r3 ∧ Kd.R k68 68 w' w.heap.size (fun k_ => some k_ ≠ (bm : Value).ownBlock) bn r4 ∧ Kd.R (Kd.int .i64) 3 w' w.heap.size (fun _ => True) bs r5 ∧ Below w.heap.size w w' := by
 have hu25 := Try.underlying25; have hu30 := Try.underlying30; have aZ := Aside0.mk aQ; have a5 := Aside0.mk aR; clear aQ aR; have a6 := Aside0.mk aU; have a7 := Aside0.mk aV; clear aU aV; have a8 := Aside0.mk aW; have a9 := Aside0.mk aX; clear aW aX; have HB := Aside0.mk (Below.refl w.heap.size w); have H : ((laws_toItemS.f k ar).bind fun an => ((laws_toItemS.f k aq).bind fun ao => ((laws_toIntS.f k ap).bind fun ah => (some (aj, ak, an, ao, ah))))) = some (r1, r2, r3, r4, r5) := h; clear h; obtain ⟨an, A2, H⟩ := ob H; obtain ⟨ao, A3, H⟩ := ob H; obtain ⟨ah, A4, H⟩ := ob H; simp only [Option.some.injEq, Prod.mk.injEq] at H; obtain ⟨rfl, rfl, rfl, rfl, rfl⟩ := H
 go_enter Try.func18, Try.ntmps18
 go_wp2_with (first | ((with_reducible refine gate_dst (N := 1) rfl ?_); refine bx 1 #[.int .i64 aj, .int .i64 ak, .slice aH ar.length aI, .slice aJ aq.length aK, .slice aL ap.length aN] 25 ?_; intro bA hg w5 hbox hb; have aa := am hbox; have bC := gs0 hg HB; have ac := gs0 hg HB; replace HB := s0 HB hb; clear hb hbox hg) | ((with_reducible refine gate_dst (N := 2) rfl ?_); refine bx 2 #[.int .i64 0, .int .i64 0, .slice none 0 0, .slice none 0 0, .slice none 0 0] 30 ?_; intro ad hg w6 hbox hb; have ae := am hbox; have bD := gs1 hg HB ac; have af := gs1 hg HB ac; replace HB := s1 HB ac hb; have az := nl hg aa; have aA := ng hg aa; replace aa := bb aa hb; clear hb hbox hg) | ((with_reducible refine gate_dst (N := 3) rfl ?_); refine bx 3 #[.int .i64 0, .int .i64 0, .slice none 0 0, .slice none 0 0, .slice none 0 0] 30 ?_; intro av hg w7 hbox hb; have ab := am hbox; have bF := gs2 hg HB ac af; have al := gs2 hg HB ac af; replace HB := s2 HB ac af hb; have ai := nl hg aa; have aB := ng hg aa; replace aa := bb aa hb; have ag := nl hg ae; have aC := ng hg ae; replace ae := bb ae hb; clear hb hbox hg; have bI := az.out; have bJ := aA.out; have bM := ai.out; have bN := aB.out; have ba := bz5 aa; have bG := aC.out; have bH := ag.out; have bc := bz5 ab) | ((with_reducible refine gate_callee (f := 62) rfl ?_); refine gl 12 Try.func62 #[.slice aH ar.length aI] ?_; (with_reducible refine (laws_toItemS.calls k _ _ ar an _ ?side1 a5.out A2.out).mono ?_); (case side1 => exact Kd.C_below aZ.out (be3 HB ac af al)); rintro e bS ⟨bO, rfl, aO, hb⟩; refine ⟨_, rfl, ?_⟩; have au := Aside0.mk (Kd.R_lower aO (below_size (be3 HB ac af al))); replace aa := bbf aa ai hb; replace ae := bbf ae ag hb; replace ab := Aside0.mk (blk_below (g := av) (o := .cells #[.int .i64 aj, .int .i64 ak, .slice none 0 0, .slice none 0 0, .slice none 0 0] 30 (0, 0)) (bp ab) hb); replace HB := s3 HB ac af al hb; (try clear hb); (try clear aO); obtain ⟨aD, aE, bo⟩ := Kd.R_slice au.out; subst bo; have bd := bz5 ab; have bf := bz5 aa) | ((with_reducible refine gate_callee (f := 62) rfl ?_); refine gl 16 Try.func62 #[.slice aJ aq.length aK] ?_; (with_reducible refine (laws_toItemS.calls k _ _ aq ao _ ?side1 a7.out A3.out).mono ?_); (case side1 => exact Kd.C_below a6.out (be3 HB ac af al)); rintro e bU ⟨bQ, rfl, aO, hb⟩; refine ⟨_, rfl, ?_⟩; have ay := Aside0.mk (Kd.R_lower (Kd.R_new' aO (Kd.R_lt (rf au ab))) (below_size (be3 HB ac af al))); replace au := Aside0.mk (Kd.R_elder' (rf au ab) (Kd.R_base aO) hb); replace aa := bbf aa ai hb; replace ae := bbf ae ag hb; replace ab := Aside0.mk (blk_below (g := av) (o := .cells #[.int .i64 aj, .int .i64 ak, .slice aD an.length aE, .slice none 0 0, .slice none 0 0] 30 (0, 0)) (bp ab) hb); replace HB := s3 HB ac af al hb; (try clear hb); (try clear aO); obtain ⟨aF, aG, bq⟩ := Kd.R_slice ay.out; subst bq; have bg := bz5 ab; have bh := bz5 aa) | ((with_reducible refine gate_callee (f := 63) rfl ?_); refine gl 20 Try.func63 #[.slice aL ap.length aN] ?_; (with_reducible refine (laws_toIntS.calls k _ _ ap ah _ ?side1 a9.out A4.out).mono ?_); (case side1 => exact Kd.C_below a8.out (be3 HB ac af al)); rintro e bW ⟨bR, rfl, aO, hb⟩; refine ⟨_, rfl, ?_⟩; replace au := Aside0.mk (Kd.R_below (rf au ab) hb); replace ay := Aside0.mk (Kd.R_below (rf ay ab) hb); have aY := Aside0.mk (Kd.R_lower aO (below_size (be3 HB ac af al))); replace aa := bbf aa ai hb; replace ae := bbf ae ag hb; replace ab := Aside0.mk (blk_below (g := av) (o := .cells #[.int .i64 aj, .int .i64 ak, .slice aD an.length aE, .slice aF ao.length aG, .slice none 0 0] 30 (0, 0)) (bp ab) hb); replace HB := s3 HB ac af al hb; (try clear hb); (try clear aO); obtain ⟨aw, ax, br⟩ := Kd.R_slice aY.out; subst br; have bi := bz5 ab; have bj := bz5 ae))
 refine bodyPost_ret (results_cell_row rfl _ _ ad 30 #[.int .i64 aj, .int .i64 ak, .slice aD an.length aE, .slice aF ao.length aG, .slice aw ah.length ax] (0, 0) _ rfl (bp1 ae ag) Try.underlying30 rfl (by kernel_rfl)) rfl ?_; exact ⟨_, _, _, er, by (with_reducible repeat (first | apply Kd.R_alloc | apply Kd.R_drewN | apply Kd.R_drew)); exact Kd.R_mono (Kd.R_far (p := ⟨ad, 4, none⟩) (Kd.R_far (p := ⟨ad, 3, none⟩) (Kd.R_far (p := ⟨ad, 2, none⟩) (Kd.R_far (p := ⟨ad, 1, none⟩) (Kd.R_far (p := ⟨ad, 0, none⟩) (Kd.R_far (p := ⟨av, 4, none⟩) (Kd.R_types (Kd.R_types au.out ab.out (by decide)) ae.out (by decide)) (fun _ hk => hk.1.2) (.slice aw ah.length ax)) (fun _ hk => hk.2) (.int .i64 aj)) (fun _ hk => hk.2) (.int .i64 ak)) (fun _ hk => hk.2) (.slice aD an.length aE)) (fun _ hk => hk.2) (.slice aF ao.length aG)) (fun _ hk => hk.2) (.slice aw ah.length ax)) (fun _ hk => hk.1.1.2), by (with_reducible repeat (first | apply Kd.R_alloc | apply Kd.R_drewN | apply Kd.R_drew)); exact Kd.R_mono (Kd.R_far (p := ⟨ad, 4, none⟩) (Kd.R_far (p := ⟨ad, 3, none⟩) (Kd.R_far (p := ⟨ad, 2, none⟩) (Kd.R_far (p := ⟨ad, 1, none⟩) (Kd.R_far (p := ⟨ad, 0, none⟩) (Kd.R_far (p := ⟨av, 4, none⟩) (Kd.R_types (Kd.R_types ay.out ab.out (by decide)) ae.out (by decide)) (fun _ hk => hk.1.2) (.slice aw ah.length ax)) (fun _ hk => hk.2) (.int .i64 aj)) (fun _ hk => hk.2) (.int .i64 ak)) (fun _ hk => hk.2) (.slice aD an.length aE)) (fun _ hk => hk.2) (.slice aF ao.length aG)) (fun _ hk => hk.2) (.slice aw ah.length ax)) (fun _ hk => hk.1.1.2), by (with_reducible repeat (first | apply Kd.R_alloc | apply Kd.R_drewN | apply Kd.R_drew)); exact Kd.R_mono (Kd.R_far (p := ⟨ad, 4, none⟩) (Kd.R_far (p := ⟨ad, 3, none⟩) (Kd.R_far (p := ⟨ad, 2, none⟩) (Kd.R_far (p := ⟨ad, 1, none⟩) (Kd.R_far (p := ⟨ad, 0, none⟩) (Kd.R_far (p := ⟨av, 4, none⟩) (Kd.R_types (Kd.R_types aY.out ab.out (by decide)) ae.out (by decide)) (fun _ hk => hk.1.2) (.slice aw ah.length ax)) (fun _ hk => hk.2) (.int .i64 aj)) (fun _ hk => hk.2) (.int .i64 ak)) (fun _ hk => hk.2) (.slice aD an.length aE)) (fun _ hk => hk.2) (.slice aF ao.length aG)) (fun _ hk => hk.2) (.slice aw ah.length ax)) (fun _ hk => trivial), be3 HB ac af al⟩

/-! ### laws_eqItem: function 112 -/
def laws_eqItem.f (ae : ByteArray) (af : ByteArray) (ag : Int) (ah : ByteArray) (ai : ByteArray) (aj : Int) : Option (Bool) := if ae.toList = ah.toList then (if af.toList = ai.toList then (if ag = aj then (some true) else (some false)) else (some false)) else (some false)
set_option maxHeartbeats 8000000 in
set_option maxRecDepth 100000 in
theorem laws_eqItem.calls (ae : ByteArray) (af : ByteArray) (ag : Int) (ah : ByteArray) (ai : ByteArray) (aj : Int) (r : Bool) (w : World) (h : laws_eqItem.f ae af ag ah ai aj = some r) :
  Calls Try.prog 112 #[.agg #[.string ae, .string af, .int .i64 ag], .agg #[.string ah, .string ai, .int .i64 aj]] w fun e w' => e = .returned (.bool r) ∧ Below w.heap.size w w' := by
 have hu68 := Try.underlying68; have HB := Aside0.mk (Below.refl w.heap.size w); have H : (if ae.toList = ah.toList then (if af.toList = ai.toList then (if ag = aj then (some true) else (some false)) else (some false)) else (some false)) = some r := h; clear h
 by_cases c3 : ae.toList = ah.toList
 ·rw [if_pos c3] at H; have aA : (ae.toList == ah.toList) = true := beq_iff_eq.mpr c3; have aB : (ae.toList != ah.toList) = false := bne_eq_false_iff_eq.mpr c3; clear c3
  by_cases c4 : af.toList = ai.toList
  ·rw [if_pos c4] at H; have aC : (af.toList == ai.toList) = true := beq_iff_eq.mpr c4; have aD : (af.toList != ai.toList) = false := bne_eq_false_iff_eq.mpr c4; clear c4
   by_cases c5 : ag = aj
   ·rw [if_pos c5] at H; have aE : (ag == aj) = true := beq_iff_eq.mpr c5; have aF : (ag != aj) = false := bne_eq_false_iff_eq.mpr c5; clear c5; obtain rfl := Option.some.inj H
    go_enter Try.func112, Try.ntmps112
    go_wp2_with (first | ((with_reducible refine gate_dst (N := 2) rfl ?_); refine bx 2 #[.string ae, .string af, .int .i64 ag] 68 ?_; intro an hg w6 hbox hb; have aa := am hbox; have ao := gs0 hg HB; have ab := gs0 hg HB; replace HB := s0 HB hb; clear hb hbox hg) | ((with_reducible refine gate_dst (N := 3) rfl ?_); refine bx 3 #[.string ah, .string ai, .int .i64 aj] 68 ?_; intro ap hg w7 hbox hb; have ak := am hbox; have aq := gs1 hg HB ab; have al := gs1 hg HB ab; replace HB := s1 HB ab hb; have ac := nl hg aa; have ad := ng hg aa; replace aa := bb aa hb; clear hb hbox hg; have aO := ac.out; have aQ := ad.out; have aG := bz3 aa; have ar := bz3 ak))
    go_ret
    exact ⟨er, be2 HB ab al⟩
   rw [if_neg c5] at H; have aE : (ag == aj) = false := beq_eq_false_iff_ne.mpr c5; have aF : (ag != aj) = true := bne_iff_ne.mpr c5; obtain rfl := Option.some.inj H
   go_enter Try.func112, Try.ntmps112
   go_wp2_with (first | ((with_reducible refine gate_dst (N := 2) rfl ?_); refine bx 2 #[.string ae, .string af, .int .i64 ag] 68 ?_; intro an hg aR hbox hb; have aa := am hbox; have ao := gs0 hg HB; have ab := gs0 hg HB; replace HB := s0 HB hb; clear hb hbox hg) | ((with_reducible refine gate_dst (N := 3) rfl ?_); refine bx 3 #[.string ah, .string ai, .int .i64 aj] 68 ?_; intro ap hg aU hbox hb; have ak := am hbox; have aq := gs1 hg HB ab; have al := gs1 hg HB ab; replace HB := s1 HB ab hb; have ac := nl hg aa; have ad := ng hg aa; replace aa := bb aa hb; clear hb hbox hg; have aH := ac.out; have aI := ad.out; have au := bz3 aa; have av := bz3 ak))
   go_ret
   exact ⟨er, be2 HB ab al⟩
  rw [if_neg c4] at H; have aC : (af.toList == ai.toList) = false := beq_eq_false_iff_ne.mpr c4; have aD : (af.toList != ai.toList) = true := bne_iff_ne.mpr c4; obtain rfl := Option.some.inj H
  go_enter Try.func112, Try.ntmps112
  go_wp2_with (first | ((with_reducible refine gate_dst (N := 2) rfl ?_); refine bx 2 #[.string ae, .string af, .int .i64 ag] 68 ?_; intro an hg aV hbox hb; have aa := am hbox; have ao := gs0 hg HB; have ab := gs0 hg HB; replace HB := s0 HB hb; clear hb hbox hg) | ((with_reducible refine gate_dst (N := 3) rfl ?_); refine bx 3 #[.string ah, .string ai, .int .i64 aj] 68 ?_; intro ap hg aW hbox hb; have ak := am hbox; have aq := gs1 hg HB ab; have al := gs1 hg HB ab; replace HB := s1 HB ab hb; have ac := nl hg aa; have ad := ng hg aa; replace aa := bb aa hb; clear hb hbox hg; have aJ := ac.out; have aK := ad.out; have aw := bz3 aa; have ax := bz3 ak))
  go_ret
  exact ⟨er, be2 HB ab al⟩
 rw [if_neg c3] at H; have aA : (ae.toList == ah.toList) = false := beq_eq_false_iff_ne.mpr c3; have aB : (ae.toList != ah.toList) = true := bne_iff_ne.mpr c3; obtain rfl := Option.some.inj H
 go_enter Try.func112, Try.ntmps112
 go_wp2_with (first | ((with_reducible refine gate_dst (N := 2) rfl ?_); refine bx 2 #[.string ae, .string af, .int .i64 ag] 68 ?_; intro an hg aX hbox hb; have aa := am hbox; have ao := gs0 hg HB; have ab := gs0 hg HB; replace HB := s0 HB hb; clear hb hbox hg) | ((with_reducible refine gate_dst (N := 3) rfl ?_); refine bx 3 #[.string ah, .string ai, .int .i64 aj] 68 ?_; intro ap hg aY hbox hb; have ak := am hbox; have aq := gs1 hg HB ab; have al := gs1 hg HB ab; replace HB := s1 HB ab hb; have ac := nl hg aa; have ad := ng hg aa; replace aa := bb aa hb; clear hb hbox hg; have aL := ac.out; have aN := ad.out; have ay := bz3 aa; have az := bz3 ak))
 go_ret
 exact ⟨er, be2 HB ab al⟩

end Go.Proofs.Ytfjhkediaholmaa.QFnExactPut
