-- made by a program of this session (myprint.py)
import Derived.Test.YtgkliacflbenfaaQFnAgesx0
import Derived.Test.YtgkliacflbenfaaQFnAgesx13
import Derived.Test.YtgkliacflbenfaaQFnAgesx15
namespace Go.Proofs.Ytgkliacflbenfaa.QFnAges
open Go.RowKit Go.Proofs.YtgkliacflbenfaaW.PrintWords Go.Proofs.YtgkliacflbenfaaW.PrintLast Go.Proofs.YtgkliacflbenfaaW.PrintMore
attribute [local go_sem] max2_int min2_int max_two min_two max_three min_three max_four min_four   -- for this text's walks alone
set_option linter.unusedVariables false
set_option linter.unusedSimpArgs false

/-! ### impl_Ages_isPinned: function 32 -/
def impl_Ages_isPinned.f (ae : Int) (aa : List Int) (ab : List (S63)) (a1 : Int) : Option (Bool × Bool) := (impl_within.f a1 0 (wrap64 ((aa.length : Int) - 1))).bind fun ad => (if ad = true then (if 0 ≤ a1 then (if a1 < (aa.length : Int) then (some (((rd aa a1) != (-1)), true)) else (none)) else (none)) else (some (false, false)))
set_option maxHeartbeats 8000000 in
set_option maxRecDepth 100000 in
theorem impl_Ages_isPinned.calls (ae : Int) (ah : Option Addr) (ai : Nat) (aa : List Int) (aj : Option Addr) (ak : Nat) (ab : List (S63)) (a1 : Int) (r1 : Bool) (r2 : Bool) (w : World) (al : Kd.C (Kd.int .i64) w ah aa.length aa) (an : aa.length ≤ ai) (ao : Kd.C k63 w aj ab.length ab) (ap : ab.length ≤ ak) (h : impl_Ages_isPinned.f ae aa ab a1 = some (r1, r2)) :
  Calls Try.prog 32 #[.agg #[.int .i64 ae, .slice ah aa.length ai, .slice aj ab.length ak], .int .i64 a1] w fun e w' => e = .returned (.tuple #[.bool r1, .bool r2]) ∧ Below w.heap.size w w' := by
 have hu26 := Try.underlying26; have au := Aside0.mk al; have aA := Aside0.mk an; clear al an; have aB := Aside0.mk ao; have aC := Aside0.mk ap; clear ao ap; have HB := Aside0.mk (Below.refl w.heap.size w); have H : ((impl_within.f a1 0 (wrap64 ((aa.length : Int) - 1))).bind fun ad => (if ad = true then (if 0 ≤ a1 then (if a1 < (aa.length : Int) then (some (((rd aa a1) != (-1)), true)) else (none)) else (none)) else (some (false, false)))) = some (r1, r2) := h; clear h; obtain ⟨ad, A3, H⟩ := ob H
 by_cases c4 : ad = true
 ·subst c4; rw [if_pos rfl] at H
  by_cases c5 : 0 ≤ a1
  ·rw [if_pos c5] at H; have aF : decide (0 ≤ a1) = true := decide_eq_true c5; clear c5
   by_cases c6 : a1 < (aa.length : Int)
   ·rw [if_pos c6] at H; have aG : decide (a1 < (aa.length : Int)) = true := decide_eq_true c6; clear c6; simp only [Option.some.injEq, Prod.mk.injEq] at H; obtain ⟨rfl, rfl⟩ := H
    go_enter Try.func32, Try.ntmps32
    go_wp2_with (first | ((with_reducible refine gate_dst (N := 2) rfl ?_); refine bx 2 #[.int .i64 ae, .slice ah aa.length ai, .slice aj ab.length ak] 26 ?_; intro av hg w7 hbox hb; have af := am hbox; have aw := gs0 hg HB; have ag := gs0 hg HB; replace HB := s0 HB hb; clear hb hbox hg; have ay := bz3 af) | ((with_reducible refine gate_callee (f := 62) rfl ?_); refine gl 11 Try.func62 #[.int .i64 a1, .int .i64 0, .int .i64 (wrap64 ((aa.length : Int) - 1))] ?_; (with_reducible refine (impl_within.calls a1 0 (wrap64 ((aa.length : Int) - 1)) true _ A3.out).mono ?_); rintro e w' ⟨rfl, ⟨nd, rfl⟩⟩; refine ⟨_, rfl, ?_⟩; have aq : 0 ≤ (a1 : Int) := od; have ar : a1 < (aa.length : Int) := od; obtain ⟨aE, az, ac⟩ := Kd.at_int au.out a1 aq ar; cases az; replace ac := hc HB ac; replace aq := eq_true aq; replace ar := eq_true ar))
    go_ret2
    exact ⟨er, be1 HB ag⟩
   rw [if_neg c6] at H; exact absurd H (by simp)
  rw [if_neg c5] at H; exact absurd H (by simp)
 replace c4 := Bool.eq_false_iff.mpr c4; subst c4; rw [if_neg nf] at H; simp only [Option.some.injEq, Prod.mk.injEq] at H; obtain ⟨rfl, rfl⟩ := H
 go_enter Try.func32, Try.ntmps32
 go_wp2_with (first | ((with_reducible refine gate_dst (N := 2) rfl ?_); refine bx 2 #[.int .i64 ae, .slice ah aa.length ai, .slice aj ab.length ak] 26 ?_; intro av hg w9 hbox hb; have af := am hbox; have aw := gs0 hg HB; have ag := gs0 hg HB; replace HB := s0 HB hb; clear hb hbox hg; have ax := bz3 af) | ((with_reducible refine gate_callee (f := 62) rfl ?_); refine gl 11 Try.func62 #[.int .i64 a1, .int .i64 0, .int .i64 (wrap64 ((aa.length : Int) - 1))] ?_; (with_reducible refine (impl_within.calls a1 0 (wrap64 ((aa.length : Int) - 1)) false _ A3.out).mono ?_); rintro e w' ⟨rfl, ⟨nd, rfl⟩⟩; refine ⟨_, rfl, ?_⟩))
 go_ret2
 exact ⟨er, be1 HB ag⟩

/-! ### slices_Index_int_int: function 63 -/
def slices_Index_int_int.l0 : Nat → List Int → Int → Int → Int → Option (Int)
 | 0, _, _, _, _ => none
 | k + 1, x0, x1, x7, x8 => if x8 < x7 then (if 0 ≤ x8 then (if x8 < (x0.length : Int) then (if x1 = (rd x0 x8) then (some x8) else (slices_Index_int_int.l0 k x0 x1 x7 (wrap64 (x8 + 1)))) else (none)) else (none)) else (some (-1))
def slices_Index_int_int.f (k : Nat) (l0 : List Int) (a1 : Int) : Option (Int) := slices_Index_int_int.l0 k l0 a1 (l0.length : Int) 0
theorem slices_Index_int_int.mono_l : ∀ k, (∀ y0 y1 y2 y3, LeO (slices_Index_int_int.l0 k y0 y1 y2 y3) (slices_Index_int_int.l0 (k + 1) y0 y1 y2 y3))
 | 0 => fun _ _ _ _ r h => by simp [slices_Index_int_int.l0] at h
 | k + 1 => by
  have af := slices_Index_int_int.mono_l k
  ·intro y0 y1 y2 y3; unfold slices_Index_int_int.l0
   repeat' first | (with_reducible first | apply af | apply lr | apply ln | apply li | refine lb ?_ fun _ => ?_) | apply af | apply ln | apply li | refine lb ?_ fun _ => ?_
theorem slices_Index_int_int.mono : ∀ a0 a1 k, LeO (slices_Index_int_int.f k a0 a1) (slices_Index_int_int.f (k + 1) a0 a1) := by
 intro a0 a1 k; have af := slices_Index_int_int.mono_l k; unfold slices_Index_int_int.f
 repeat' first | (with_reducible first | apply af | apply lr | apply ln | apply li | refine lb ?_ fun _ => ?_) | apply af | apply ln | apply li | refine lb ?_ fun _ => ?_
set_option maxHeartbeats 8000000 in
set_option maxRecDepth 100000 in
theorem slices_Index_int_int.calls (k : Nat) (A0 : Option Addr) (c0 : Nat) (l0 : List Int) (a1 : Int) (r : Int) (w : World) (ak : Kd.C (Kd.int .i64) w A0 l0.length l0) (al : l0.length ≤ c0) (h : slices_Index_int_int.f k l0 a1 = some r) :
  Calls Try.prog 63 #[.slice A0 l0.length c0, .int .i64 a1] w fun e w' => e = .returned (.int .i64 r) ∧ Drawn0 w w' := by
 have an := Aside0.mk ak; have ar := Aside0.mk al; clear ak al; have H : (slices_Index_int_int.l0 k l0 a1 (l0.length : Int) 0) = some r := h; clear h; have H' := Aside0.mk H; clear H
 go_enter Try.func63, Try.ntmps63
 go_wp2
 go_loopg [8] k (fun kq v8 w' => ∃ (aa : Int), v8 = .int .i64 aa ∧ Aside0 (slices_Index_int_int.l0 kq l0 a1 (l0.length : Int) aa = some r) ∧ Aside0 (kq ≤ k) ∧ Drawn0 w w')
 case atStart => exact ⟨(0), rs, H', ⟨Nat.le_refl _⟩, by repeat (first | exact Drawn0.refl _ | apply Drawn0.step)⟩
 case round =>
  clear H'
  try clear p2
  obtain ⟨aa, rfl, HA, ao, ⟨m1, rfl⟩⟩ := hrel
  cases gk with
  | zero => exact absurd HA.out (by simp [slices_Index_int_int.l0])
  | succ k1 =>
   have H := HA.out; clear HA; simp only [slices_Index_int_int.l0] at H
   by_cases c3 : aa < (l0.length : Int)
   ·rw [if_pos c3] at H; have ah : decide (aa < (l0.length : Int)) = true := decide_eq_true c3; clear c3
    by_cases c4 : 0 ≤ aa
    ·rw [if_pos c4] at H; have ap : decide (0 ≤ aa) = true := decide_eq_true c4; clear c4
     by_cases c5 : aa < (l0.length : Int)
     ·rw [if_pos c5] at H; have aq : decide (aa < (l0.length : Int)) = true := decide_eq_true c5; clear c5
      by_cases c6 : a1 = (rd l0 aa)
      ·rw [if_pos c6] at H; have ai : (a1 == (rd l0 aa)) = true := beq_iff_eq.mpr c6; have aj : (a1 != (rd l0 aa)) = false := bne_eq_false_iff_eq.mpr c6; clear c6; obtain rfl := Option.some.inj H; have ab : 0 ≤ (aa : Int) := od; have ac : aa < (l0.length : Int) := od; obtain ⟨ag, ae, ad⟩ := Kd.at_int an.out aa ab ac; cases ae; replace ab := eq_true ab; replace ac := eq_true ac
       go_wp2
       go_ret
       exact ⟨by first | rfl | (simp; done) | (simp [*]; done), by repeat (first | exact Drawn0.refl _ | apply Drawn0.step)⟩
      rw [if_neg c6] at H; have ai : (a1 == (rd l0 aa)) = false := beq_eq_false_iff_ne.mpr c6; have aj : (a1 != (rd l0 aa)) = true := bne_iff_ne.mpr c6; have H' := Aside0.mk H; clear H; have ab : 0 ≤ (aa : Int) := od; have ac : aa < (l0.length : Int) := od; obtain ⟨ag, ae, ad⟩ := Kd.at_int an.out aa ab ac; cases ae; replace ab := eq_true ab; replace ac := eq_true ac
      go_wp2
      go_roundg k1
      case measure => have := ao.out; omega
      case rel => exact ⟨(wrap64 (aa + 1)), rs, H', ⟨by have := ao.out; omega⟩, by repeat (first | exact Drawn0.refl _ | apply Drawn0.step)⟩
     rw [if_neg c5] at H; exact absurd H (by simp)
    rw [if_neg c4] at H; exact absurd H (by simp)
   rw [if_neg c3] at H; have ah : decide (aa < (l0.length : Int)) = false := decide_eq_false c3; clear c3; obtain rfl := Option.some.inj H
   go_wp2
   go_ret
   exact ⟨by first | rfl | (simp; done) | (simp [*]; done), by repeat (first | exact Drawn0.refl _ | apply Drawn0.step)⟩

/-! ### slices_Contains_int_int: function 34 -/
def slices_Contains_int_int.f (k : Nat) (l0 : List Int) (a1 : Int) : Option (Bool) := (slices_Index_int_int.f k l0 a1).bind fun aa => (some (decide (aa ≥ 0)))
theorem slices_Contains_int_int.mono : ∀ a0 a1 k, LeO (slices_Contains_int_int.f k a0 a1) (slices_Contains_int_int.f (k + 1) a0 a1) := by
 intro a0 a1 k; unfold slices_Contains_int_int.f
 repeat' first | (with_reducible first | apply slices_Index_int_int.mono | apply lr | apply ln | apply li | refine lb ?_ fun _ => ?_) | apply ln | apply li | refine lb ?_ fun _ => ?_
set_option maxHeartbeats 8000000 in
set_option maxRecDepth 100000 in
theorem slices_Contains_int_int.calls (k : Nat) (A0 : Option Addr) (c0 : Nat) (l0 : List Int) (a1 : Int) (r : Bool) (w : World) (ab : Kd.C (Kd.int .i64) w A0 l0.length l0) (ac : l0.length ≤ c0) (h : slices_Contains_int_int.f k l0 a1 = some r) :
  Calls Try.prog 34 #[.slice A0 l0.length c0, .int .i64 a1] w fun e w' => e = .returned (.bool r) ∧ Drawn0 w w' := by
 have ae := Aside0.mk ab; have af := Aside0.mk ac; clear ab ac; have H : ((slices_Index_int_int.f k l0 a1).bind fun aa => (some (decide (aa ≥ 0)))) = some r := h; clear h; obtain ⟨aa, A3, H⟩ := ob H; obtain rfl := Option.some.inj H
 go_enter Try.func34, Try.ntmps34
 go_wp2_with (first | ((with_reducible refine gate_callee (f := 63) rfl ?_); refine gl 7 Try.func63 #[.slice A0 l0.length c0, .int .i64 a1] ?_; (with_reducible refine (slices_Index_int_int.calls k _ _ l0 a1 aa _ ?side1 ?side2 A3.out).mono ?_); (case side1 => repeat (first | exact ae.out | (with_reducible refine Kd.C_alloc ?_ _) | (with_reducible refine Kd.C_drewN ?_ _) | (with_reducible refine Kd.C_drew ?_))); (case side2 => exact af.out); rintro e w' ⟨rfl, ⟨nd, rfl⟩⟩; refine ⟨_, rfl, ?_⟩))
 go_ret
 exact ⟨by first | rfl | (simp; done) | (simp [*]; done), by repeat (first | exact Drawn0.refl _ | apply Drawn0.step)⟩

/-! ### impl_May: function 9 -/
def impl_May.j0 : Nat → Int → Int → Bool → List Int → Int → List Int → List (S63) → List Int → Option (Bool)
 | 0, _, _, _, _, _, _, _, _ => none
 | k + 1, x1, x2, b9, bG, aZ, aA, aB, a7 => if b9 = true then (some false) else ((impl_Ages_inLimbo.f k aZ aA aB x2).bind fun ai => ((slices_Contains_int_int.f k a7 x2).bind fun bu => (if bu = true then (some true) else (if ai ≥ 0 then (if 0 ≤ ai then (if ai < (aB.length : Int) then (if 0 ≤ x1 then (if x1 < (aA.length : Int) then (some (decide (((rd_T63 aB ai).f1) ≥ (rd aA x1)))) else (none)) else (none)) else (none)) else (none)) else (some false)))))
def impl_May.f (k : Nat) (al : List Int) (ae : Int) (ab : List Int) (ac : List (S63)) (af : List Int) (a1 : Int) (a2 : Int) : Option (Bool) := (impl_Ages_isPinned.f ae ab ac a1).bind fun aU => ((impl_PoolOk.f k al ae ab ac af).bind fun aV => (if aV = true then (impl_May.j0 k a1 a2 (!aU.1) al ae ab ac af) else (impl_May.j0 k a1 a2 true al ae ab ac af)))
theorem impl_May.mono_l : ∀ k, (∀ y0 y1 y2 y3 y4 y5 y6 y7, LeO (impl_May.j0 k y0 y1 y2 y3 y4 y5 y6 y7) (impl_May.j0 (k + 1) y0 y1 y2 y3 y4 y5 y6 y7))
 | 0 => fun _ _ _ _ _ _ _ _ r h => by simp [impl_May.j0] at h
 | k + 1 => by
  have bA := impl_May.mono_l k
  ·intro y0 y1 y2 y3 y4 y5 y6 y7; unfold impl_May.j0
   repeat' first | (with_reducible first | apply bA | apply impl_Ages_inLimbo.mono | apply impl_PoolOk.mono | apply slices_Contains_int_int.mono | apply lr | apply ln | apply li | refine lb ?_ fun _ => ?_) | apply bA | apply ln | apply li | refine lb ?_ fun _ => ?_
theorem impl_May.mono : ∀ a0 a1 a2 a3 a4 a5 a6 k, LeO (impl_May.f k a0 a1 a2 a3 a4 a5 a6) (impl_May.f (k + 1) a0 a1 a2 a3 a4 a5 a6) := by
 intro a0 a1 a2 a3 a4 a5 a6 k; have bA := impl_May.mono_l k; unfold impl_May.f
 repeat' first | (with_reducible first | apply bA | apply impl_Ages_inLimbo.mono | apply impl_PoolOk.mono | apply slices_Contains_int_int.mono | apply lr | apply ln | apply li | refine lb ?_ fun _ => ?_) | apply bA | apply ln | apply li | refine lb ?_ fun _ => ?_
set_option maxHeartbeats 8000000 in
set_option maxRecDepth 100000 in
theorem impl_May.calls (k : Nat) (aI : Option Addr) (aJ : Nat) (al : List Int) (ae : Int) (aK : Option Addr) (aL : Nat) (ab : List Int) (aN : Option Addr) (aO : Nat) (ac : List (S63)) (aQ : Option Addr) (aR : Nat) (af : List Int) (a1 : Int) (a2 : Int) (r : Bool) (w : World) (bf : Kd.C (Kd.int .i64) w aI al.length al) (bg : al.length ≤ aJ) (bh : Kd.C (Kd.int .i64) w aK ab.length ab) (bi : ab.length ≤ aL) (bj : Kd.C k63 w aN ac.length ac) (bm : ac.length ≤ aO) (bn : Kd.C (Kd.int .i64) w aQ af.length af) (bo : af.length ≤ aR) (h : impl_May.f k al ae ab ac af a1 a2 = some r) :
  Calls Try.prog 9 #[.agg #[.slice aI al.length aJ, .int .i64 ae, .slice aK ab.length aL, .slice aN ac.length aO, .slice aQ af.length aR], .int .i64 a1, .int .i64 a2] w fun e w' => e = .returned (.bool r) ∧ Below w.heap.size w w' := by
 have hu28 := Try.underlying28; have hu26 := Try.underlying26; have ay := Aside0.mk bf; have az := Aside0.mk bg; clear bf bg; have ag := Aside0.mk bh; have aj := Aside0.mk bi; clear bh bi; have ah := Aside0.mk bj; have ak := Aside0.mk bm; clear bj bm; have an := Aside0.mk bn; have ao := Aside0.mk bo; clear bn bo; have HB := Aside0.mk (Below.refl w.heap.size w); have H : ((impl_Ages_isPinned.f ae ab ac a1).bind fun aU => ((impl_PoolOk.f k al ae ab ac af).bind fun aV => (if aV = true then (impl_May.j0 k a1 a2 (!aU.1) al ae ab ac af) else (impl_May.j0 k a1 a2 true al ae ab ac af)))) = some r := h; clear h; obtain ⟨⟨a8, bw⟩, A4, H⟩ := ob H
 try dsimp only at H
 have bU := Aside0.mk H; clear H
 go_enter Try.func9, Try.ntmps9
 go_upto_region 2 with (first | ((with_reducible refine gate_dst (N := 3) rfl ?_); refine bx 3 #[.slice aI al.length aJ, .int .i64 ae, .slice aK ab.length aL, .slice aN ac.length aO, .slice aQ af.length aR] 28 ?_; intro aW hg w6 hbox hb; have aa := am hbox; have bq := gs0 hg HB; have ad := gs0 hg HB; replace HB := s0 HB hb; clear hb hbox hg; have aD := bz5 aa) | (go_at_call 32; (with_reducible refine (impl_Ages_isPinned.calls ae _ _ ab _ _ ac a1 a8 bw _ (cb ag HB) aj.out (cb ah HB) ak.out A4.out).mono ?_); rintro e w8 ⟨rfl, hb⟩; replace aa := bb aa hb; replace HB := s1 HB ad hb; (try clear hb)))
 repeat (go_quiet (first | ((with_reducible refine gate_dst (N := 3) rfl ?_); refine bx 3 #[.slice aI al.length aJ, .int .i64 ae, .slice aK ab.length aL, .slice aN ac.length aO, .slice aQ af.length aR] 28 ?_; intro aW hg w6 hbox hb; have aa := am hbox; have bq := gs0 hg HB; have ad := gs0 hg HB; replace HB := s0 HB hb; clear hb hbox hg; have aD := bz5 aa) | (go_at_call 32; (with_reducible refine (impl_Ages_isPinned.calls ae _ _ ab _ _ ac a1 a8 bw _ (cb ag HB) aj.out (cb ah HB) ak.out A4.out).mono ?_); rintro e w8 ⟨rfl, hb⟩; replace aa := bb aa hb; replace HB := s1 HB ad hb; (try clear hb))); go_upto_region 2 with (first | ((with_reducible refine gate_dst (N := 3) rfl ?_); refine bx 3 #[.slice aI al.length aJ, .int .i64 ae, .slice aK ab.length aL, .slice aN ac.length aO, .slice aQ af.length aR] 28 ?_; intro aW hg w6 hbox hb; have aa := am hbox; have bq := gs0 hg HB; have ad := gs0 hg HB; replace HB := s0 HB hb; clear hb hbox hg; have aD := bz5 aa) | (go_at_call 32; (with_reducible refine (impl_Ages_isPinned.calls ae _ _ ab _ _ ac a1 a8 bw _ (cb ag HB) aj.out (cb ah HB) ak.out A4.out).mono ?_); rintro e w8 ⟨rfl, hb⟩; replace aa := bb aa hb; replace HB := s1 HB ad hb; (try clear hb))))
 (try simp only [Act.put, List.setIfInBounds_toArray, List.set_cons_zero, List.set_cons_succ])
 go_cut [23] (fun ca wc => ∃ (kq : Nat) (aE : Bool), ca = .bool aE ∧ Aside0 (impl_May.j0 kq a1 a2 aE al ae ab ac af = some r) ∧ Aside0 (kq ≤ k) ∧ Aside0 (wc.heap[aW]? = some (.cells #[(.slice aI al.length aJ), .int .i64 ae, (.slice aK ab.length aL), (.slice aN ac.length aO), (.slice aQ af.length aR)] 28 (0, 0))) ∧ Aside0 (Below w.heap.size w wc))
 case first =>
  have H := bU.out; clear bU; obtain ⟨aV, A9, H⟩ := ob H
  try dsimp only at H
  by_cases c10 : aV = true
  ·subst c10; rw [if_pos rfl] at H; have H' := Aside0.mk H; clear H; have a9 := bz5 aa
   go_wp2_with (first | (go_at_call 8; (with_reducible refine (impl_PoolOk.calls k _ _ al ae _ _ ab _ _ ac _ _ af true _ (cb ay HB) az.out (cb ag HB) aj.out (cb ah HB) ak.out (cb an HB) ao.out A9.out).mono ?_); rintro e b0 ⟨rfl, hb⟩; replace aa := bb aa hb; replace HB := s1 HB ad hb; (try clear hb)))
   repeat (go_quiet (first | (go_at_call 8; (with_reducible refine (impl_PoolOk.calls k _ _ al ae _ _ ab _ _ ac _ _ af true _ (cb ay HB) az.out (cb ag HB) aj.out (cb ah HB) ak.out (cb an HB) ao.out A9.out).mono ?_); rintro e b0 ⟨rfl, hb⟩; replace aa := bb aa hb; replace HB := s1 HB ad hb; (try clear hb))); try go_wp2_with (first | (go_at_call 8; (with_reducible refine (impl_PoolOk.calls k _ _ al ae _ _ ab _ _ ac _ _ af true _ (cb ay HB) az.out (cb ag HB) aj.out (cb ah HB) ak.out (cb an HB) ao.out A9.out).mono ?_); rintro e b0 ⟨rfl, hb⟩; replace aa := bb aa hb; replace HB := s1 HB ad hb; (try clear hb))))
   go_meet
   case rel => exact ⟨_, (!a8), rs, H', ⟨by first | omega | exact Nat.le_refl _⟩, ⟨bk aa⟩, ⟨be1 HB ad⟩⟩
  replace c10 := Bool.eq_false_iff.mpr c10; subst c10; rw [if_neg nf] at H; have H' := Aside0.mk H; clear H; have ba := bz5 aa
  go_wp2_with (first | (go_at_call 8; (with_reducible refine (impl_PoolOk.calls k _ _ al ae _ _ ab _ _ ac _ _ af false _ (cb ay HB) az.out (cb ag HB) aj.out (cb ah HB) ak.out (cb an HB) ao.out A9.out).mono ?_); rintro e b1 ⟨rfl, hb⟩; replace aa := bb aa hb; replace HB := s1 HB ad hb; (try clear hb)))
  repeat (go_quiet (first | (go_at_call 8; (with_reducible refine (impl_PoolOk.calls k _ _ al ae _ _ ab _ _ ac _ _ af false _ (cb ay HB) az.out (cb ag HB) aj.out (cb ah HB) ak.out (cb an HB) ao.out A9.out).mono ?_); rintro e b1 ⟨rfl, hb⟩; replace aa := bb aa hb; replace HB := s1 HB ad hb; (try clear hb))); try go_wp2_with (first | (go_at_call 8; (with_reducible refine (impl_PoolOk.calls k _ _ al ae _ _ ab _ _ ac _ _ af false _ (cb ay HB) az.out (cb ag HB) aj.out (cb ah HB) ak.out (cb an HB) ao.out A9.out).mono ?_); rintro e b1 ⟨rfl, hb⟩; replace aa := bb aa hb; replace HB := s1 HB ad hb; (try clear hb))))
  go_meet
  case rel => exact ⟨_, (true), rs, H', ⟨by first | omega | exact Nat.le_refl _⟩, ⟨bk aa⟩, ⟨be1 HB ad⟩⟩
 case rest =>
  clear bU
  try clear c1; try clear p2; try clear c9; try clear c10; try clear a9; try clear ba; try clear aD
  obtain ⟨kq, aE, rfl, HA, cc, aa, HB⟩ := hcut
  cases kq with
  | zero => exact absurd HA.out (by simp [impl_May.j0])
  | succ aC =>
   have H := HA.out; clear HA; simp only [impl_May.j0] at H
   by_cases bH : aE = true
   ·subst bH; rw [if_pos rfl] at H; obtain rfl := Option.some.inj H
    go_wp2
    repeat (go_quiet (fail); try go_wp2)
    go_ret
    exact ⟨er, be1 HB ad⟩
   replace bH := Bool.eq_false_iff.mpr bH; subst bH; rw [if_neg nf] at H; obtain ⟨ai, bc, H⟩ := ob H
   try dsimp only at H
   obtain ⟨bu, bd, H⟩ := ob H
   try dsimp only at H
   by_cases bI : bu = true
   ·subst bI; rw [if_pos rfl] at H; obtain rfl := Option.some.inj H; have bJ := bz5 aa
    go_wp2_with (first | (go_at_call 33; (with_reducible refine (impl_Ages_inLimbo.calls aC ae _ _ ab _ _ ac a2 ai _ (cb ag HB) aj.out (cb ah HB) ak.out bc.out).mono ?_); rintro e b2 ⟨rfl, hb⟩; replace aa := bb aa hb; replace HB := s1 HB ad hb; (try clear hb); have aF := bz5 aa) | (go_at_call 34; (with_reducible refine (slices_Contains_int_int.calls aC _ _ af a2 true _ (cb an HB) ao.out bd.out).mono ?_); rintro e w' ⟨rfl, ⟨nd, rfl⟩⟩; (try first | exact ⟨rfl, _, World.drewN_drewN _ _ _⟩ | exact ⟨rfl, _, Eq.trans (World.drewN_drewN _ _ _) (congrArg (World.drewN _) (Nat.add_assoc _ _ _))⟩)))
    repeat (go_quiet (first | (go_at_call 33; (with_reducible refine (impl_Ages_inLimbo.calls aC ae _ _ ab _ _ ac a2 ai _ (cb ag HB) aj.out (cb ah HB) ak.out bc.out).mono ?_); rintro e b2 ⟨rfl, hb⟩; replace aa := bb aa hb; replace HB := s1 HB ad hb; (try clear hb); have aF := bz5 aa) | (go_at_call 34; (with_reducible refine (slices_Contains_int_int.calls aC _ _ af a2 true _ (cb an HB) ao.out bd.out).mono ?_); rintro e w' ⟨rfl, ⟨nd, rfl⟩⟩; (try first | exact ⟨rfl, _, World.drewN_drewN _ _ _⟩ | exact ⟨rfl, _, Eq.trans (World.drewN_drewN _ _ _) (congrArg (World.drewN _) (Nat.add_assoc _ _ _))⟩))); try go_wp2_with (first | (go_at_call 33; (with_reducible refine (impl_Ages_inLimbo.calls aC ae _ _ ab _ _ ac a2 ai _ (cb ag HB) aj.out (cb ah HB) ak.out bc.out).mono ?_); rintro e b2 ⟨rfl, hb⟩; replace aa := bb aa hb; replace HB := s1 HB ad hb; (try clear hb); have aF := bz5 aa) | (go_at_call 34; (with_reducible refine (slices_Contains_int_int.calls aC _ _ af a2 true _ (cb an HB) ao.out bd.out).mono ?_); rintro e w' ⟨rfl, ⟨nd, rfl⟩⟩; (try first | exact ⟨rfl, _, World.drewN_drewN _ _ _⟩ | exact ⟨rfl, _, Eq.trans (World.drewN_drewN _ _ _) (congrArg (World.drewN _) (Nat.add_assoc _ _ _))⟩))))
    go_ret
    exact ⟨er, be1 HB ad⟩
   replace bI := Bool.eq_false_iff.mpr bI; subst bI; rw [if_neg nf] at H
   by_cases bz : ai ≥ 0
   ·rw [if_pos bz] at H; have bF : decide (0 ≤ ai) = true := decide_eq_true bz; clear bz
    by_cases bM : 0 ≤ ai
    ·rw [if_pos bM] at H; have b3 : decide (0 ≤ ai) = true := decide_eq_true bM; clear bM
     by_cases bN : ai < (ac.length : Int)
     ·rw [if_pos bN] at H; have b4 : decide (ai < (ac.length : Int)) = true := decide_eq_true bN; clear bN
      by_cases bO : 0 ≤ a1
      ·rw [if_pos bO] at H; have b5 : decide (0 ≤ a1) = true := decide_eq_true bO; clear bO
       by_cases bQ : a1 < (ab.length : Int)
       ·rw [if_pos bQ] at H; have b6 : decide (a1 < (ab.length : Int)) = true := decide_eq_true bQ; clear bQ; obtain rfl := Option.some.inj H; have bR := bz5 aa
        go_wp2_with (first | (go_at_call 33; (with_reducible refine (impl_Ages_inLimbo.calls aC ae _ _ ab _ _ ac a2 ai _ (cb ag HB) aj.out (cb ah HB) ak.out bc.out).mono ?_); rintro e b7 ⟨rfl, hb⟩; replace aa := bb aa hb; replace HB := s1 HB ad hb; (try clear hb); have aG := bz5 aa) | (go_at_call 34; (with_reducible refine (slices_Contains_int_int.calls aC _ _ af a2 false _ (cb an HB) ao.out bd.out).mono ?_); rintro e w' ⟨rfl, ⟨nd, rfl⟩⟩; (try first | exact ⟨rfl, _, World.drewN_drewN _ _ _⟩ | exact ⟨rfl, _, Eq.trans (World.drewN_drewN _ _ _) (congrArg (World.drewN _) (Nat.add_assoc _ _ _))⟩); have au : 0 ≤ (ai : Int) := od; have av : ai < (ac.length : Int) := od; obtain ⟨br, aX, ap, aq⟩ := at_T63 ah.out ai au av; cases aX; replace ap := hc HB ap; replace aq := hc HB aq; replace au := eq_true au; replace av := eq_true av; have aw : 0 ≤ (a1 : Int) := od; have ax : a1 < (ab.length : Int) := od; obtain ⟨bs, aY, ar⟩ := Kd.at_int ag.out a1 aw ax; cases aY; replace ar := hc HB ar; replace aw := eq_true aw; replace ax := eq_true ax))
        repeat (go_quiet (first | (go_at_call 33; (with_reducible refine (impl_Ages_inLimbo.calls aC ae _ _ ab _ _ ac a2 ai _ (cb ag HB) aj.out (cb ah HB) ak.out bc.out).mono ?_); rintro e b7 ⟨rfl, hb⟩; replace aa := bb aa hb; replace HB := s1 HB ad hb; (try clear hb); have aG := bz5 aa) | (go_at_call 34; (with_reducible refine (slices_Contains_int_int.calls aC _ _ af a2 false _ (cb an HB) ao.out bd.out).mono ?_); rintro e w' ⟨rfl, ⟨nd, rfl⟩⟩; (try first | exact ⟨rfl, _, World.drewN_drewN _ _ _⟩ | exact ⟨rfl, _, Eq.trans (World.drewN_drewN _ _ _) (congrArg (World.drewN _) (Nat.add_assoc _ _ _))⟩); have au : 0 ≤ (ai : Int) := od; have av : ai < (ac.length : Int) := od; obtain ⟨br, aX, ap, aq⟩ := at_T63 ah.out ai au av; cases aX; replace ap := hc HB ap; replace aq := hc HB aq; replace au := eq_true au; replace av := eq_true av; have aw : 0 ≤ (a1 : Int) := od; have ax : a1 < (ab.length : Int) := od; obtain ⟨bs, aY, ar⟩ := Kd.at_int ag.out a1 aw ax; cases aY; replace ar := hc HB ar; replace aw := eq_true aw; replace ax := eq_true ax)); try go_wp2_with (first | (go_at_call 33; (with_reducible refine (impl_Ages_inLimbo.calls aC ae _ _ ab _ _ ac a2 ai _ (cb ag HB) aj.out (cb ah HB) ak.out bc.out).mono ?_); rintro e b7 ⟨rfl, hb⟩; replace aa := bb aa hb; replace HB := s1 HB ad hb; (try clear hb); have aG := bz5 aa) | (go_at_call 34; (with_reducible refine (slices_Contains_int_int.calls aC _ _ af a2 false _ (cb an HB) ao.out bd.out).mono ?_); rintro e w' ⟨rfl, ⟨nd, rfl⟩⟩; (try first | exact ⟨rfl, _, World.drewN_drewN _ _ _⟩ | exact ⟨rfl, _, Eq.trans (World.drewN_drewN _ _ _) (congrArg (World.drewN _) (Nat.add_assoc _ _ _))⟩); have au : 0 ≤ (ai : Int) := od; have av : ai < (ac.length : Int) := od; obtain ⟨br, aX, ap, aq⟩ := at_T63 ah.out ai au av; cases aX; replace ap := hc HB ap; replace aq := hc HB aq; replace au := eq_true au; replace av := eq_true av; have aw : 0 ≤ (a1 : Int) := od; have ax : a1 < (ab.length : Int) := od; obtain ⟨bs, aY, ar⟩ := Kd.at_int ag.out a1 aw ax; cases aY; replace ar := hc HB ar; replace aw := eq_true aw; replace ax := eq_true ax)))
        go_ret
        exact ⟨er, be1 HB ad⟩
       rw [if_neg bQ] at H; exact absurd H (by simp)
      rw [if_neg bO] at H; exact absurd H (by simp)
     rw [if_neg bN] at H; exact absurd H (by simp)
    rw [if_neg bM] at H; exact absurd H (by simp)
   rw [if_neg bz] at H; have bF : decide (0 ≤ ai) = false := decide_eq_false bz; clear bz; obtain rfl := Option.some.inj H; have bS := bz5 aa
   go_wp2_with (first | (go_at_call 33; (with_reducible refine (impl_Ages_inLimbo.calls aC ae _ _ ab _ _ ac a2 ai _ (cb ag HB) aj.out (cb ah HB) ak.out bc.out).mono ?_); rintro e b8 ⟨rfl, hb⟩; replace aa := bb aa hb; replace HB := s1 HB ad hb; (try clear hb); have aH := bz5 aa) | (go_at_call 34; (with_reducible refine (slices_Contains_int_int.calls aC _ _ af a2 false _ (cb an HB) ao.out bd.out).mono ?_); rintro e w' ⟨rfl, ⟨nd, rfl⟩⟩; (try first | exact ⟨rfl, _, World.drewN_drewN _ _ _⟩ | exact ⟨rfl, _, Eq.trans (World.drewN_drewN _ _ _) (congrArg (World.drewN _) (Nat.add_assoc _ _ _))⟩)))
   repeat (go_quiet (first | (go_at_call 33; (with_reducible refine (impl_Ages_inLimbo.calls aC ae _ _ ab _ _ ac a2 ai _ (cb ag HB) aj.out (cb ah HB) ak.out bc.out).mono ?_); rintro e b8 ⟨rfl, hb⟩; replace aa := bb aa hb; replace HB := s1 HB ad hb; (try clear hb); have aH := bz5 aa) | (go_at_call 34; (with_reducible refine (slices_Contains_int_int.calls aC _ _ af a2 false _ (cb an HB) ao.out bd.out).mono ?_); rintro e w' ⟨rfl, ⟨nd, rfl⟩⟩; (try first | exact ⟨rfl, _, World.drewN_drewN _ _ _⟩ | exact ⟨rfl, _, Eq.trans (World.drewN_drewN _ _ _) (congrArg (World.drewN _) (Nat.add_assoc _ _ _))⟩))); try go_wp2_with (first | (go_at_call 33; (with_reducible refine (impl_Ages_inLimbo.calls aC ae _ _ ab _ _ ac a2 ai _ (cb ag HB) aj.out (cb ah HB) ak.out bc.out).mono ?_); rintro e b8 ⟨rfl, hb⟩; replace aa := bb aa hb; replace HB := s1 HB ad hb; (try clear hb); have aH := bz5 aa) | (go_at_call 34; (with_reducible refine (slices_Contains_int_int.calls aC _ _ af a2 false _ (cb an HB) ao.out bd.out).mono ?_); rintro e w' ⟨rfl, ⟨nd, rfl⟩⟩; (try first | exact ⟨rfl, _, World.drewN_drewN _ _ _⟩ | exact ⟨rfl, _, Eq.trans (World.drewN_drewN _ _ _) (congrArg (World.drewN _) (Nat.add_assoc _ _ _))⟩))))
   go_ret
   exact ⟨er, be1 HB ad⟩

end Go.Proofs.Ytgkliacflbenfaa.QFnAges
