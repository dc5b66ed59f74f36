-- made by a program of this session (myprint.py)
import Derived.Test.YtfjhkediaholmaaQFnSparex0
namespace Go.Proofs.Ytfjhkediaholmaa.QFnSpare
open Go.RowKit Go.Proofs.YtfjhkediaholmaaW.PrintWords Go.Proofs.YtfjhkediaholmaaW.PrintLast Go.Proofs.YtfjhkediaholmaaW.PrintMore
attribute [local go_sem] max2_int min2_int max_two min_two max_three min_three max_four min_four   -- for this text's walks alone
set_option linter.unusedVariables false
set_option linter.unusedSimpArgs false

/-! ### impl_within: function 64 -/
def impl_within.f (a0 : Int) (a1 : Int) (a2 : Int) : Option (Bool) := if a0 ≥ a1 then (some (decide (a0 ≤ a2))) else (some false)
set_option maxHeartbeats 8000000 in
set_option maxRecDepth 100000 in
theorem impl_within.calls (a0 : Int) (a1 : Int) (a2 : Int) (r : Bool) (w : World) (h : impl_within.f a0 a1 a2 = some r) :
  Calls Try.prog 64 #[.int .i64 a0, .int .i64 a1, .int .i64 a2] w fun e w' => e = .returned (.bool r) ∧ Drawn0 w w' := by
 have H : (if a0 ≥ a1 then (some (decide (a0 ≤ a2))) else (some false)) = some r := h; clear h
 by_cases c4 : a0 ≥ a1
 ·rw [if_pos c4] at H; have aa : decide (a1 ≤ a0) = true := decide_eq_true c4; clear c4; obtain rfl := Option.some.inj H
  go_enter Try.func64, Try.ntmps64
  go_wp2
  go_ret
  exact ⟨by first | rfl | (simp; done) | (simp [*]; done), by repeat (first | exact Drawn0.refl _ | apply Drawn0.step)⟩
 rw [if_neg c4] at H; have aa : decide (a1 ≤ a0) = false := decide_eq_false c4; clear c4; obtain rfl := Option.some.inj H
 go_enter Try.func64, Try.ntmps64
 go_wp2
 go_ret
 exact ⟨by first | rfl | (simp; done) | (simp [*]; done), by repeat (first | exact Drawn0.refl _ | apply Drawn0.step)⟩

/-! ### impl_Three_ghosts: function 65 -/
def impl_Three_ghosts.f (aa : Int) (ab : Int) (ac : List (S68)) (ad : List (S68)) (ae : List Int) : Option (Int) := some (mx 1 (wrap64 (aa - ab)))
theorem impl_Three_ghosts_in (B : Nat) (W : World) (a b j : Int) (h0 : W.cell? ⟨B, 0, none⟩ = some (.int .i64 a)) (h1 : W.cell? ⟨B, 1, none⟩ = some (.int .i64 b)) (hj : (if 1 < wrap64 (a - b) then wrap64 (a - b) else 1) = j) :
    Calls Try.prog 65 #[.pointer (some ⟨B, 0, none⟩)] W fun e w' => e = .returned (.int .i64 j) ∧ ∃ nd, w' = W.drewN nd := by
  have HJ := Aside0.mk hj; clear hj
  go_enter Try.func65, Try.ntmps65
  go_wp2
  repeat (go_quiet (fail); try go_wp2)
  all_goals
    go_ret
    refine ⟨?_, ?_⟩
    · rw [← HJ.out]
      first | (rw [if_pos (by omega)]; rfl) | (rw [if_neg (by omega)]; rfl)
    · first | exact ⟨_, rfl⟩ | exact ⟨0, rfl⟩ | exact ⟨1, rfl⟩
set_option maxHeartbeats 8000000 in
set_option maxRecDepth 100000 in
theorem impl_Three_ghosts.calls (aa : Int) (ab : Int) (af : Option Addr) (ag : Nat) (ac : List (S68)) (ah : Option Addr) (ai : Nat) (ad : List (S68)) (aj : Option Addr) (ak : Nat) (ae : List Int) (gbX : Nat) (r : Int) (w : World) (al : Kd.C k68 w af ac.length ac) (an : ac.length ≤ ag) (ao : Kd.C k68 w ah ad.length ad) (ap : ad.length ≤ ai) (aq : Kd.C (Kd.int .i64) w aj ae.length ae) (ar : ae.length ≤ ak) (hP : w.heap[gbX]? = some (.cells #[.int .i64 aa, .int .i64 ab, .slice af ac.length ag, .slice ah ad.length ai, .slice aj ae.length ak] 30 (0, 0))) (h : impl_Three_ghosts.f aa ab ac ad ae = some r) :
  Calls Try.prog 65 #[.pointer (some ⟨gbX, 0, none⟩)] w fun e w' => e = .returned (.int .i64 r) ∧ Below w.heap.size w w' := by
  have hj : (if 1 < wrap64 (aa - ab) then wrap64 (aa - ab) else 1) = r := Option.some.inj h; refine (impl_Three_ghosts_in gbX w aa ab r ((blk_cell hP 0).trans rfl) ((blk_cell hP 1).trans rfl) hj).mono ?_; rintro e w' ⟨rfl, nd, rfl⟩; exact ⟨rfl, pw_below_drewN (Below.refl _ _) nd⟩

/-! ### impl_isNum: function 66 -/
def impl_isNum.f (a0 : Int) : Option (Bool) := (impl_within.f a0 0 4294967295).bind fun aa => (some aa)
set_option maxHeartbeats 8000000 in
set_option maxRecDepth 100000 in
theorem impl_isNum.calls (a0 : Int) (r : Bool) (w : World) (h : impl_isNum.f a0 = some r) :
  Calls Try.prog 66 #[.int .i64 a0] w fun e w' => e = .returned (.bool r) ∧ Drawn0 w w' := by
 have H : ((impl_within.f a0 0 4294967295).bind fun aa => (some aa)) = some r := h; clear h; obtain ⟨aa, A2, H⟩ := ob H; obtain rfl := Option.some.inj H
 go_enter Try.func66, Try.ntmps66
 go_wp2_with (first | ((with_reducible refine gate_callee (f := 64) rfl ?_); refine gl 4 Try.func64 #[.int .i64 a0, .int .i64 0, .int .i64 4294967295] ?_; (with_reducible refine (impl_within.calls a0 0 4294967295 aa _ A2.out).mono ?_); rintro e w' ⟨rfl, ⟨nd, rfl⟩⟩; refine ⟨_, rfl, ?_⟩))
 go_ret
 exact ⟨by first | rfl | (simp; done) | (simp [*]; done), by repeat (first | exact Drawn0.refl _ | apply Drawn0.step)⟩

/-! ### slices_Index_int_int: function 110 -/
def slices_Index_int_int.l0 : Nat → List Int → Int → Int → Int → Option (Int)
 | 0, _, _, _, _ => none
 | k + 1, x0, x1, x7, x8 => if x8 < x7 then (if 0 ≤ x8 then (if x8 < (x0.length : Int) then (if x1 = (rd x0 x8) then (some x8) else (slices_Index_int_int.l0 k x0 x1 x7 (wrap64 (x8 + 1)))) else (none)) else (none)) else (some (-1))
def slices_Index_int_int.f (k : Nat) (l0 : List Int) (a1 : Int) : Option (Int) := slices_Index_int_int.l0 k l0 a1 (l0.length : Int) 0
theorem slices_Index_int_int.mono_l : ∀ k, (∀ y0 y1 y2 y3, LeO (slices_Index_int_int.l0 k y0 y1 y2 y3) (slices_Index_int_int.l0 (k + 1) y0 y1 y2 y3))
 | 0 => fun _ _ _ _ r h => by simp [slices_Index_int_int.l0] at h
 | k + 1 => by
  have af := slices_Index_int_int.mono_l k
  ·intro y0 y1 y2 y3; unfold slices_Index_int_int.l0
   repeat' first | (with_reducible first | apply af | apply lr | apply ln | apply li | refine lb ?_ fun _ => ?_) | apply af | apply ln | apply li | refine lb ?_ fun _ => ?_
theorem slices_Index_int_int.mono : ∀ a0 a1 k, LeO (slices_Index_int_int.f k a0 a1) (slices_Index_int_int.f (k + 1) a0 a1) := by
 intro a0 a1 k; have af := slices_Index_int_int.mono_l k; unfold slices_Index_int_int.f
 repeat' first | (with_reducible first | apply af | apply lr | apply ln | apply li | refine lb ?_ fun _ => ?_) | apply af | apply ln | apply li | refine lb ?_ fun _ => ?_
set_option maxHeartbeats 8000000 in
set_option maxRecDepth 100000 in
theorem slices_Index_int_int.calls (k : Nat) (A0 : Option Addr) (c0 : Nat) (l0 : List Int) (a1 : Int) (r : Int) (w : World) (ak : Kd.C (Kd.int .i64) w A0 l0.length l0) (al : l0.length ≤ c0) (h : slices_Index_int_int.f k l0 a1 = some r) :
  Calls Try.prog 110 #[.slice A0 l0.length c0, .int .i64 a1] w fun e w' => e = .returned (.int .i64 r) ∧ Drawn0 w w' := by
 have an := Aside0.mk ak; have ar := Aside0.mk al; clear ak al; have H : (slices_Index_int_int.l0 k l0 a1 (l0.length : Int) 0) = some r := h; clear h; have H' := Aside0.mk H; clear H
 go_enter Try.func110, Try.ntmps110
 go_wp2
 go_loopg [8] k (fun kq v8 w' => ∃ (aa : Int), v8 = .int .i64 aa ∧ Aside0 (slices_Index_int_int.l0 kq l0 a1 (l0.length : Int) aa = some r) ∧ Aside0 (kq ≤ k) ∧ Drawn0 w w')
 case atStart => exact ⟨(0), rs, H', ⟨Nat.le_refl _⟩, by repeat (first | exact Drawn0.refl _ | apply Drawn0.step)⟩
 case round =>
  clear H'
  try clear c1; try clear p2
  obtain ⟨aa, rfl, HA, ao, ⟨m1, rfl⟩⟩ := hrel
  cases gk with
  | zero => exact absurd HA.out (by simp [slices_Index_int_int.l0])
  | succ k1 =>
   have H := HA.out; clear HA; simp only [slices_Index_int_int.l0] at H
   by_cases c3 : aa < (l0.length : Int)
   ·rw [if_pos c3] at H; have ah : decide (aa < (l0.length : Int)) = true := decide_eq_true c3; clear c3
    by_cases c4 : 0 ≤ aa
    ·rw [if_pos c4] at H; have ap : decide (0 ≤ aa) = true := decide_eq_true c4; clear c4
     by_cases c5 : aa < (l0.length : Int)
     ·rw [if_pos c5] at H; have aq : decide (aa < (l0.length : Int)) = true := decide_eq_true c5; clear c5
      by_cases c6 : a1 = (rd l0 aa)
      ·rw [if_pos c6] at H; have ai : (a1 == (rd l0 aa)) = true := beq_iff_eq.mpr c6; have aj : (a1 != (rd l0 aa)) = false := bne_eq_false_iff_eq.mpr c6; clear c6; obtain rfl := Option.some.inj H; have ab : 0 ≤ (aa : Int) := od; have ac : aa < (l0.length : Int) := od; obtain ⟨ag, ae, ad⟩ := Kd.at_int an.out aa ab ac; cases ae; replace ab := eq_true ab; replace ac := eq_true ac
       go_wp2
       go_ret
       exact ⟨by first | rfl | (simp; done) | (simp [*]; done), by repeat (first | exact Drawn0.refl _ | apply Drawn0.step)⟩
      rw [if_neg c6] at H; have ai : (a1 == (rd l0 aa)) = false := beq_eq_false_iff_ne.mpr c6; have aj : (a1 != (rd l0 aa)) = true := bne_iff_ne.mpr c6; have H' := Aside0.mk H; clear H; have ab : 0 ≤ (aa : Int) := od; have ac : aa < (l0.length : Int) := od; obtain ⟨ag, ae, ad⟩ := Kd.at_int an.out aa ab ac; cases ae; replace ab := eq_true ab; replace ac := eq_true ac
      go_wp2
      go_roundg k1
      case measure => have := ao.out; omega
      case rel => exact ⟨(wrap64 (aa + 1)), rs, H', ⟨by have := ao.out; omega⟩, by repeat (first | exact Drawn0.refl _ | apply Drawn0.step)⟩
     rw [if_neg c5] at H; exact absurd H (by simp)
    rw [if_neg c4] at H; exact absurd H (by simp)
   rw [if_neg c3] at H; have ah : decide (aa < (l0.length : Int)) = false := decide_eq_false c3; clear c3; obtain rfl := Option.some.inj H
   go_wp2
   go_ret
   exact ⟨by first | rfl | (simp; done) | (simp [*]; done), by repeat (first | exact Drawn0.refl _ | apply Drawn0.step)⟩

/-! ### slices_Contains_int_int: function 67 -/
def slices_Contains_int_int.f (k : Nat) (l0 : List Int) (a1 : Int) : Option (Bool) := (slices_Index_int_int.f k l0 a1).bind fun aa => (some (decide (aa ≥ 0)))
theorem slices_Contains_int_int.mono : ∀ a0 a1 k, LeO (slices_Contains_int_int.f k a0 a1) (slices_Contains_int_int.f (k + 1) a0 a1) := by
 intro a0 a1 k; unfold slices_Contains_int_int.f
 repeat' first | (with_reducible first | apply slices_Index_int_int.mono | apply lr | apply ln | apply li | refine lb ?_ fun _ => ?_) | apply ln | apply li | refine lb ?_ fun _ => ?_
set_option maxHeartbeats 8000000 in
set_option maxRecDepth 100000 in
theorem slices_Contains_int_int.calls (k : Nat) (A0 : Option Addr) (c0 : Nat) (l0 : List Int) (a1 : Int) (r : Bool) (w : World) (ab : Kd.C (Kd.int .i64) w A0 l0.length l0) (ac : l0.length ≤ c0) (h : slices_Contains_int_int.f k l0 a1 = some r) :
  Calls Try.prog 67 #[.slice A0 l0.length c0, .int .i64 a1] w fun e w' => e = .returned (.bool r) ∧ Drawn0 w w' := by
 have ae := Aside0.mk ab; have af := Aside0.mk ac; clear ab ac; have H : ((slices_Index_int_int.f k l0 a1).bind fun aa => (some (decide (aa ≥ 0)))) = some r := h; clear h; obtain ⟨aa, A3, H⟩ := ob H; obtain rfl := Option.some.inj H
 go_enter Try.func67, Try.ntmps67
 go_wp2_with (first | ((with_reducible refine gate_callee (f := 110) rfl ?_); refine gl 7 Try.func110 #[.slice A0 l0.length c0, .int .i64 a1] ?_; (with_reducible refine (slices_Index_int_int.calls k _ _ l0 a1 aa _ ?side1 ?side2 A3.out).mono ?_); (case side1 => repeat (first | exact ae.out | (with_reducible refine Kd.C_alloc ?_ _) | (with_reducible refine Kd.C_drewN ?_ _) | (with_reducible refine Kd.C_drew ?_))); (case side2 => exact af.out); rintro e w' ⟨rfl, ⟨nd, rfl⟩⟩; refine ⟨_, rfl, ?_⟩))
 go_ret
 exact ⟨by first | rfl | (simp; done) | (simp [*]; done), by repeat (first | exact Drawn0.refl _ | apply Drawn0.step)⟩

/-! ### impl_copyItems: function 68 -/
def impl_copyItems.f (l0 : List (S68)) : Option ((List (S68))) := (some (([] : List (S68)) : List (S68))).bind fun aa => (if aa.length + l0.length < 3518437208883 then (some (aa ++ l0)) else (none))
set_option maxHeartbeats 8000000 in
set_option maxRecDepth 100000 in
theorem impl_copyItems.calls (A0 : Option Addr) (c0 : Nat) (l0 : List (S68)) (r : List (S68)) (w : World) (ak : Kd.C k68 w A0 l0.length l0) (al : l0.length ≤ c0) (h : impl_copyItems.f l0 = some r) :
  Calls Try.prog 68 #[.slice A0 l0.length c0] w fun e w' => ∃ an : Value, e = .returned (an) ∧ Kd.R k68 68 w' w.heap.size (fun _ => True) an r ∧ Below w.heap.size w w' := by
 have ao := Aside0.mk ak; have aq := Aside0.mk al; clear ak al; have HB := Aside0.mk (Below.refl w.heap.size w); have H : ((some (([] : List (S68)) : List (S68))).bind fun aa => (if aa.length + l0.length < 3518437208883 then (some (aa ++ l0)) else (none))) = some r := h; clear h; obtain ⟨aa, ab, H⟩ := oy H; have af := Aside0.mk ab; clear ab
 by_cases c2 : aa.length + l0.length < 3518437208883
 ·rw [if_pos c2] at H; have ai := Aside0.mk c2; clear c2; obtain ⟨aj, ac⟩ : ∃ y_ : List (S68), y_ = (aa ++ l0) := ⟨_, rfl⟩; rw [← ac] at H; have ag := Aside0.mk ac; clear ac; obtain rfl := Option.some.inj H
  go_enter Try.func68, Try.ntmps68
  have ad := Aside0.mk (show Kd.R k68 68 w w.heap.size (fun _ => True) (.slice none 0 0) aa from by rw [af.out]; exact Kd.R_nil _ _ _ _ _)
  go_wp2_with (first | ((with_reducible refine gate_builtin (b := .append) (xs := #[.const (.slice none 0 0), .tmp 3]) rfl ?_); at_builtin; refine Kd.R_append_rows k68 (w0 := w) w.heap.size rfl (.const (.slice none 0 0)) (.tmp 3) 28 68 (.agg #[(.string ⟨#[]⟩), (.string ⟨#[]⟩), (.int .i64 0)]) 40 rfl Try.underlying28 info68 rfl (by decide) (by omega) (.slice none 0 0) aa l0 _ _ _ (fun _ => True) (fun _ => False) rfl rfl ?aO ?aR (fun _ _ h => h) (fun _ h => h.elim) ?aF ?aB ?aS ?aL ?_; (case aR => exact cb ao HB); (case aB => exact (be HB)); (case aF => exact (fun _ _ => trivial)); (case aO => exact (ro ad)); (case aS => exact (below_size (be HB))); (case aL => have := ai.out; omega); intro ap w5 ho hb hg hat; rw [← ag.out] at ho; replace HB := Aside0.mk (hb); have ah := Aside0.mk (ho); clear ad; clear ho hb hg hat))
  go_ret
  exact ⟨_, er, (ro ah), be HB⟩
 rw [if_neg c2] at H; exact absurd H (by simp)

/-! ### impl_isPlain: function 119 -/
def impl_isPlain.l0 : Nat → ByteArray → Int → Option (Bool)
 | 0, _, _ => none
 | k + 1, x0, x3 => if x3 < (x0.size : Int) then (if 0 ≤ x3 then (if (bt x0 x3) = 32 then (some false) else (if (bt x0 x3) = 10 then (some false) else (impl_isPlain.l0 k x0 (wrap64 (x3 + 1))))) else (none)) else (some true)
def impl_isPlain.f (k : Nat) (a0 : ByteArray) : Option (Bool) := impl_isPlain.l0 k a0 0
theorem impl_isPlain.mono_l : ∀ k, (∀ y0 y1, LeO (impl_isPlain.l0 k y0 y1) (impl_isPlain.l0 (k + 1) y0 y1))
 | 0 => fun _ _ r h => by simp [impl_isPlain.l0] at h
 | k + 1 => by
  have ab := impl_isPlain.mono_l k
  ·intro y0 y1; unfold impl_isPlain.l0
   repeat' first | (with_reducible first | apply ab | apply lr | apply ln | apply li | refine lb ?_ fun _ => ?_) | apply ab | apply ln | apply li | refine lb ?_ fun _ => ?_
theorem impl_isPlain.mono : ∀ a0 k, LeO (impl_isPlain.f k a0) (impl_isPlain.f (k + 1) a0) := by
 intro a0 k; have ab := impl_isPlain.mono_l k; unfold impl_isPlain.f
 repeat' first | (with_reducible first | apply ab | apply lr | apply ln | apply li | refine lb ?_ fun _ => ?_) | apply ab | apply ln | apply li | refine lb ?_ fun _ => ?_
set_option maxHeartbeats 8000000 in
set_option maxRecDepth 100000 in
theorem impl_isPlain.calls (k : Nat) (a0 : ByteArray) (r : Bool) (w : World) (h : impl_isPlain.f k a0 = some r) :
  Calls Try.prog 119 #[.string a0] w fun e w' => e = .returned (.bool r) ∧ Drawn0 w w' := by
 have H : (impl_isPlain.l0 k a0 0) = some r := h; clear h; have H' := Aside0.mk H; clear H
 go_enter Try.func119, Try.ntmps119
 go_wp2
 go_loopg [3] k (fun kq v3 w' => ∃ (aa : Int), v3 = .int .i64 aa ∧ Aside0 (impl_isPlain.l0 kq a0 aa = some r) ∧ Aside0 (kq ≤ k) ∧ Drawn0 w w')
 case atStart => exact ⟨(0), rs, H', ⟨Nat.le_refl _⟩, by repeat (first | exact Drawn0.refl _ | apply Drawn0.step)⟩
 case round =>
  clear H'
  try clear c1
  obtain ⟨aa, rfl, HA, ah, ⟨m1, rfl⟩⟩ := hrel
  cases gk with
  | zero => exact absurd HA.out (by simp [impl_isPlain.l0])
  | succ k1 =>
   have H := HA.out; clear HA; simp only [impl_isPlain.l0] at H
   by_cases c2 : aa < (a0.size : Int)
   ·rw [if_pos c2] at H; have ac : decide (aa < (a0.size : Int)) = true := decide_eq_true c2; clear c2
    by_cases c3 : 0 ≤ aa
    ·rw [if_pos c3] at H; have aj : decide (0 ≤ aa) = true := decide_eq_true c3; clear c3
     by_cases c5 : (bt a0 aa) = 32
     ·rw [if_pos c5] at H; have ad : ((bt a0 aa) == 32) = true := beq_iff_eq.mpr c5; have ae : ((bt a0 aa) != 32) = false := bne_eq_false_iff_eq.mpr c5; clear c5; obtain rfl := Option.some.inj H; have p4 : 0 ≤ (aa : Int) := od; have q4 : aa < (a0.size : Int) := od; have ai := bt_at a0 aa; replace p4 := eq_true p4; replace q4 := eq_true q4
      go_wp2
      go_ret
      exact ⟨by first | rfl | (simp; done) | (simp [*]; done), by repeat (first | exact Drawn0.refl _ | apply Drawn0.step)⟩
     rw [if_neg c5] at H; have ad : ((bt a0 aa) == 32) = false := beq_eq_false_iff_ne.mpr c5; have ae : ((bt a0 aa) != 32) = true := bne_iff_ne.mpr c5
     by_cases c7 : (bt a0 aa) = 10
     ·rw [if_pos c7] at H; have af : ((bt a0 aa) == 10) = true := beq_iff_eq.mpr c7; have ag : ((bt a0 aa) != 10) = false := bne_eq_false_iff_eq.mpr c7; clear c7; obtain rfl := Option.some.inj H; have p4 : 0 ≤ (aa : Int) := od; have q4 : aa < (a0.size : Int) := od; have ai := bt_at a0 aa; replace p4 := eq_true p4; replace q4 := eq_true q4; have p6 : 0 ≤ (aa : Int) := od; have q6 : aa < (a0.size : Int) := od; have ak := bt_at a0 aa; replace p6 := eq_true p6; replace q6 := eq_true q6
      go_wp2
      go_ret
      exact ⟨by first | rfl | (simp; done) | (simp [*]; done), by repeat (first | exact Drawn0.refl _ | apply Drawn0.step)⟩
     rw [if_neg c7] at H; have af : ((bt a0 aa) == 10) = false := beq_eq_false_iff_ne.mpr c7; have ag : ((bt a0 aa) != 10) = true := bne_iff_ne.mpr c7; have H' := Aside0.mk H; clear H; have p4 : 0 ≤ (aa : Int) := od; have q4 : aa < (a0.size : Int) := od; have ai := bt_at a0 aa; replace p4 := eq_true p4; replace q4 := eq_true q4; have p6 : 0 ≤ (aa : Int) := od; have q6 : aa < (a0.size : Int) := od; have ak := bt_at a0 aa; replace p6 := eq_true p6; replace q6 := eq_true q6
     go_wp2
     go_roundg k1
     case measure => have := ah.out; omega
     case rel => exact ⟨(wrap64 (aa + 1)), rs, H', ⟨by have := ah.out; omega⟩, by repeat (first | exact Drawn0.refl _ | apply Drawn0.step)⟩
    rw [if_neg c3] at H; exact absurd H (by simp)
   rw [if_neg c2] at H; have ac : decide (aa < (a0.size : Int)) = false := decide_eq_false c2; clear c2; obtain rfl := Option.some.inj H
   go_wp2
   go_ret
   exact ⟨by first | rfl | (simp; done) | (simp [*]; done), by repeat (first | exact Drawn0.refl _ | apply Drawn0.step)⟩

/-! ### impl_ItemOk: function 97 -/
def impl_ItemOk.f (k : Nat) (aa : ByteArray) (ab : ByteArray) (ae : Int) : Option (Bool) := (impl_within.f (aa.size : Int) 1 20).bind fun ai => (if ai = true then (if (ab.size : Int) ≤ 40 then ((impl_isPlain.f k aa).bind fun aj => (if aj = true then ((impl_isPlain.f k ab).bind fun ak => (if ak = true then ((impl_within.f ae 0 3).bind fun ah => (some ah)) else (some false))) else (some false))) else (some false)) else (some false))
theorem impl_ItemOk.mono : ∀ a0 a1 a2 k, LeO (impl_ItemOk.f k a0 a1 a2) (impl_ItemOk.f (k + 1) a0 a1 a2) := by
 intro a0 a1 a2 k; unfold impl_ItemOk.f
 repeat' first | (with_reducible first | apply impl_isPlain.mono | apply lr | apply ln | apply li | refine lb ?_ fun _ => ?_) | apply ln | apply li | refine lb ?_ fun _ => ?_
set_option maxHeartbeats 8000000 in
set_option maxRecDepth 100000 in
theorem impl_ItemOk.calls (k : Nat) (aa : ByteArray) (ab : ByteArray) (ae : Int) (r : Bool) (w : World) (h : impl_ItemOk.f k aa ab ae = some r) :
  Calls Try.prog 97 #[.agg #[.string aa, .string ab, .int .i64 ae]] w fun e w' => e = .returned (.bool r) ∧ Below w.heap.size w w' := by
 have hu68 := Try.underlying68; have HB := Aside0.mk (Below.refl w.heap.size w); have H : ((impl_within.f (aa.size : Int) 1 20).bind fun ai => (if ai = true then (if (ab.size : Int) ≤ 40 then ((impl_isPlain.f k aa).bind fun aj => (if aj = true then ((impl_isPlain.f k ab).bind fun ak => (if ak = true then ((impl_within.f ae 0 3).bind fun ah => (some ah)) else (some false))) else (some false))) else (some false)) else (some false))) = some r := h; clear h; obtain ⟨ai, A2, H⟩ := ob H
 try dsimp only at H
 by_cases c3 : ai = true
 ·subst c3; rw [if_pos rfl] at H
  by_cases c4 : (ab.size : Int) ≤ 40
  ·rw [if_pos c4] at H; have ar : decide ((ab.size : Int) ≤ 40) = true := decide_eq_true c4; have au : decide (ab.size ≤ 40) = true := decide_eq_true (by omega); clear c4; obtain ⟨aj, A5, H⟩ := ob H
   try dsimp only at H
   by_cases c6 : aj = true
   ·subst c6; rw [if_pos rfl] at H; obtain ⟨ak, A7, H⟩ := ob H
    try dsimp only at H
    by_cases c8 : ak = true
    ·subst c8; rw [if_pos rfl] at H; obtain ⟨ah, A9, H⟩ := ob H; obtain rfl := Option.some.inj H
     go_enter Try.func97, Try.ntmps97
     go_wp2_with (first | ((with_reducible refine gate_dst (N := 1) rfl ?_); (try (refine gate_guard (by rfl) ?_; dsimp only)); refine bx 1 #[.string aa, .string ab, .int .i64 ae] 68 ?_; intro af hg az hbox hb; have ac := am hbox; have ag := gs0 hg HB; have ad := gs0 hg HB; replace HB := s0 HB hb; clear hb hbox hg; have al := bz3 ac) | ((with_reducible refine gate_callee (f := 64) rfl ?_); refine gl 6 Try.func64 #[.int .i64 (aa.size : Int), .int .i64 1, .int .i64 20] ?_; (with_reducible refine (impl_within.calls (aa.size : Int) 1 20 true _ A2.out).mono ?_); rintro e w' ⟨rfl, ⟨nd, rfl⟩⟩; refine ⟨_, rfl, ?_⟩) | (go_at_call 119; (with_reducible refine (impl_isPlain.calls k aa true _ A5.out).mono ?_); rintro e w' ⟨rfl, ⟨nd, rfl⟩⟩) | (go_at_call 119; (with_reducible refine (impl_isPlain.calls k ab true _ A7.out).mono ?_); rintro e w' ⟨rfl, ⟨nd, rfl⟩⟩) | (go_at_call 64; (with_reducible refine (impl_within.calls ae 0 3 ah _ A9.out).mono ?_); rintro e w' ⟨rfl, ⟨nd, rfl⟩⟩))
     go_ret
     exact ⟨er, be1 HB ad⟩
    replace c8 := Bool.eq_false_iff.mpr c8; subst c8; rw [if_neg nf] at H; obtain rfl := Option.some.inj H
    go_enter Try.func97, Try.ntmps97
    go_wp2_with (first | ((with_reducible refine gate_dst (N := 1) rfl ?_); (try (refine gate_guard (by rfl) ?_; dsimp only)); refine bx 1 #[.string aa, .string ab, .int .i64 ae] 68 ?_; intro af hg aA hbox hb; have ac := am hbox; have ag := gs0 hg HB; have ad := gs0 hg HB; replace HB := s0 HB hb; clear hb hbox hg; have an := bz3 ac) | ((with_reducible refine gate_callee (f := 64) rfl ?_); refine gl 6 Try.func64 #[.int .i64 (aa.size : Int), .int .i64 1, .int .i64 20] ?_; (with_reducible refine (impl_within.calls (aa.size : Int) 1 20 true _ A2.out).mono ?_); rintro e w' ⟨rfl, ⟨nd, rfl⟩⟩; refine ⟨_, rfl, ?_⟩) | (go_at_call 119; (with_reducible refine (impl_isPlain.calls k aa true _ A5.out).mono ?_); rintro e w' ⟨rfl, ⟨nd, rfl⟩⟩) | (go_at_call 119; (with_reducible refine (impl_isPlain.calls k ab false _ A7.out).mono ?_); rintro e w' ⟨rfl, ⟨nd, rfl⟩⟩))
    go_ret
    exact ⟨er, be1 HB ad⟩
   replace c6 := Bool.eq_false_iff.mpr c6; subst c6; rw [if_neg nf] at H; obtain rfl := Option.some.inj H
   go_enter Try.func97, Try.ntmps97
   go_wp2_with (first | ((with_reducible refine gate_dst (N := 1) rfl ?_); (try (refine gate_guard (by rfl) ?_; dsimp only)); refine bx 1 #[.string aa, .string ab, .int .i64 ae] 68 ?_; intro af hg aB hbox hb; have ac := am hbox; have ag := gs0 hg HB; have ad := gs0 hg HB; replace HB := s0 HB hb; clear hb hbox hg; have ao := bz3 ac) | ((with_reducible refine gate_callee (f := 64) rfl ?_); refine gl 6 Try.func64 #[.int .i64 (aa.size : Int), .int .i64 1, .int .i64 20] ?_; (with_reducible refine (impl_within.calls (aa.size : Int) 1 20 true _ A2.out).mono ?_); rintro e w' ⟨rfl, ⟨nd, rfl⟩⟩; refine ⟨_, rfl, ?_⟩) | (go_at_call 119; (with_reducible refine (impl_isPlain.calls k aa false _ A5.out).mono ?_); rintro e w' ⟨rfl, ⟨nd, rfl⟩⟩))
   go_ret
   exact ⟨er, be1 HB ad⟩
  rw [if_neg c4] at H; have ar : decide ((ab.size : Int) ≤ 40) = false := decide_eq_false c4; have au : decide (ab.size ≤ 40) = false := decide_eq_false (by omega); clear c4; obtain rfl := Option.some.inj H
  go_enter Try.func97, Try.ntmps97
  go_wp2_with (first | ((with_reducible refine gate_dst (N := 1) rfl ?_); (try (refine gate_guard (by rfl) ?_; dsimp only)); refine bx 1 #[.string aa, .string ab, .int .i64 ae] 68 ?_; intro af hg aC hbox hb; have ac := am hbox; have ag := gs0 hg HB; have ad := gs0 hg HB; replace HB := s0 HB hb; clear hb hbox hg; have ap := bz3 ac) | ((with_reducible refine gate_callee (f := 64) rfl ?_); refine gl 6 Try.func64 #[.int .i64 (aa.size : Int), .int .i64 1, .int .i64 20] ?_; (with_reducible refine (impl_within.calls (aa.size : Int) 1 20 true _ A2.out).mono ?_); rintro e w' ⟨rfl, ⟨nd, rfl⟩⟩; refine ⟨_, rfl, ?_⟩))
  go_ret
  exact ⟨er, be1 HB ad⟩
 replace c3 := Bool.eq_false_iff.mpr c3; subst c3; rw [if_neg nf] at H; obtain rfl := Option.some.inj H
 go_enter Try.func97, Try.ntmps97
 go_wp2_with (first | ((with_reducible refine gate_dst (N := 1) rfl ?_); (try (refine gate_guard (by rfl) ?_; dsimp only)); refine bx 1 #[.string aa, .string ab, .int .i64 ae] 68 ?_; intro af hg aD hbox hb; have ac := am hbox; have ag := gs0 hg HB; have ad := gs0 hg HB; replace HB := s0 HB hb; clear hb hbox hg; have aq := bz3 ac) | ((with_reducible refine gate_callee (f := 64) rfl ?_); refine gl 6 Try.func64 #[.int .i64 (aa.size : Int), .int .i64 1, .int .i64 20] ?_; (with_reducible refine (impl_within.calls (aa.size : Int) 1 20 false _ A2.out).mono ?_); rintro e w' ⟨rfl, ⟨nd, rfl⟩⟩; refine ⟨_, rfl, ?_⟩))
 go_ret
 exact ⟨er, be1 HB ad⟩

/-! ### impl_itemAt: function 111 -/
def impl_itemAt.l0 : Nat → ByteArray → List (S68) → Int → Int → Option (Int)
 | 0, _, _, _, _ => none
 | k + 1, x1, x7, x8, x9 => if x9 < x8 then (if 0 ≤ x9 then (if x9 < (x7.length : Int) then (if ((rd_T68 x7 x9).f0).toList = x1.toList then (some x9) else (impl_itemAt.l0 k x1 x7 x8 (wrap64 (x9 + 1)))) else (none)) else (none)) else (some (-1))
def impl_itemAt.f (k : Nat) (l0 : List (S68)) (a1 : ByteArray) : Option (Int) := impl_itemAt.l0 k a1 l0 (l0.length : Int) 0
theorem impl_itemAt.mono_l : ∀ k, (∀ y0 y1 y2 y3, LeO (impl_itemAt.l0 k y0 y1 y2 y3) (impl_itemAt.l0 (k + 1) y0 y1 y2 y3))
 | 0 => fun _ _ _ _ r h => by simp [impl_itemAt.l0] at h
 | k + 1 => by
  have ag := impl_itemAt.mono_l k
  ·intro y0 y1 y2 y3; unfold impl_itemAt.l0
   repeat' first | (with_reducible first | apply ag | apply lr | apply ln | apply li | refine lb ?_ fun _ => ?_) | apply ag | apply ln | apply li | refine lb ?_ fun _ => ?_
theorem impl_itemAt.mono : ∀ a0 a1 k, LeO (impl_itemAt.f k a0 a1) (impl_itemAt.f (k + 1) a0 a1) := by
 intro a0 a1 k; have ag := impl_itemAt.mono_l k; unfold impl_itemAt.f
 repeat' first | (with_reducible first | apply ag | apply lr | apply ln | apply li | refine lb ?_ fun _ => ?_) | apply ag | apply ln | apply li | refine lb ?_ fun _ => ?_
theorem impl_itemAt_is (x : S68) (key : ByteArray) (B : Nat) (W : World) (b : Bool) (hB : B < W.heap.size) (hcell : W.cell? ⟨B, 0, none⟩ = some (.string key)) (hb : (x.f0.toList == key.toList) = b) :
  Calls Try.prog 124 #[.agg #[.string x.f0, .string x.f1, .int .i64 x.f2], .pointer (some ⟨B, 0, none⟩)] W fun e w' => e = .returned (.bool b) ∧ Below W.heap.size W w' := by
 have hne : B ≠ W.heap.size := by omega
 go_enter Try.func124, Try.ntmps124
 go_wp2
 all_goals (go_ret; exact ⟨by simp_all, (Below.refl _ _).alloc (Nat.le_refl _) _⟩)
set_option maxHeartbeats 4000000 in
set_option maxRecDepth 100000 in
theorem impl_itemAt_idx (k : Nat) (A0 : Option Addr) (c0 : Nat) (l0 : List (S68)) (a1 : ByteArray) (r : Int) (B : Nat) (w : World) (hB : B < w.heap.size) (hcell : w.cell? ⟨B, 0, none⟩ = some (.string a1)) (ah : Kd.C k68 w A0 l0.length l0) (h : impl_itemAt.l0 k a1 l0 (l0.length : Int) 0 = some r) :
  Calls Try.prog 116 #[.slice A0 l0.length c0, .func (.func 124) #[] #[.pointer (some ⟨B, 0, none⟩)]] w fun e w' => e = .returned (.int .i64 r) ∧ Below w.heap.size w w' := by
 have hu68 := Try.underlying68; have an := Aside0.mk ah; have HCL := Aside0.mk hcell; have HBB := Aside0.mk hB; clear ah hcell hB; have HB := Aside0.mk (Below.refl w.heap.size w); have H' := Aside0.mk h; clear h
 go_enter Try.func116, Try.ntmps116
 go_wp2
 go_loopg [5, 8] k (fun kq _ v8 wr => ∃ (x8 : Int), v8 = .int .i64 x8 ∧ Aside0 (impl_itemAt.l0 kq a1 l0 (l0.length : Int) x8 = some r) ∧ Aside0 (kq ≤ k) ∧ Aside0 (Below w.heap.size w wr))
 case atStart => exact ⟨0, rfl, H', ⟨Nat.le_refl _⟩, HB⟩
 case round =>
  clear H' HB; obtain ⟨aa, rfl, HA, ak, HB⟩ := hrel
  cases gk with
  | zero => exact absurd HA.out (by simp [impl_itemAt.l0])
  | succ k1 =>
   have H := HA.out; clear HA; simp only [impl_itemAt.l0] at H
   by_cases c3 : aa < (l0.length : Int)
   ·rw [if_pos c3] at H; have ai : decide (aa < (l0.length : Int)) = true := decide_eq_true c3
    by_cases c4 : 0 ≤ aa
    ·rw [if_pos c4, if_pos c3] at H; have ao : decide (0 ≤ aa) = true := decide_eq_true c4; have ae := c4; have af := c3; clear c3 c4; obtain ⟨al, aj, ab, ac, ad⟩ := at_T68 an.out aa ae af; cases aj; replace ab := hc HB ab; replace ac := hc HB ac; replace ad := hc HB ad; have hBr : B < wr.heap.size := Nat.lt_of_lt_of_le HBB.out HB.out.size; have hcl : wr.cell? ⟨B, 0, none⟩ = some (.string a1) := (HB.out.cell (p := ⟨B, 0, none⟩) HBB.out).trans HCL.out; replace ae := eq_true ae; replace af := eq_true af
     by_cases c6 : ((rd_T68 l0 aa).f0).toList = a1.toList
     ·rw [if_pos c6] at H; have hcall := impl_itemAt_is (rd_T68 l0 aa) a1 B wr true hBr hcl (beq_iff_eq.mpr c6); clear c6 hBr hcl; obtain rfl := Option.some.inj H; clear H
      go_wp2_with (go_at_call 124; refine hcall.mono ?_; rintro e w' ⟨rfl, hb'⟩)
      go_ret
      exact ⟨rfl, HB.out.trans (hb'.mono HB.out.size)⟩
     rw [if_neg c6] at H; have hcall := impl_itemAt_is (rd_T68 l0 aa) a1 B wr false hBr hcl (beq_eq_false_iff_ne.mpr c6); clear c6 hBr hcl; have H' := Aside0.mk H; clear H
     go_wp2_with (go_at_call 124; refine hcall.mono ?_; rintro e w' ⟨rfl, hb'⟩)
     go_roundg k1
     case measure => have := ak.out; omega
     case rel => exact ⟨(wrap64 (aa + 1)), rs, H', ⟨by have := ak.out; omega⟩, ⟨HB.out.trans (hb'.mono HB.out.size)⟩⟩
    rw [if_neg c4] at H; exact absurd H (by simp)
   rw [if_neg c3] at H; have ai : decide (aa < (l0.length : Int)) = false := decide_eq_false c3; clear c3; obtain rfl := Option.some.inj H
   go_wp2
   go_ret
   exact ⟨rfl, HB.out⟩
set_option maxHeartbeats 8000000 in
set_option maxRecDepth 100000 in
theorem impl_itemAt.calls (k : Nat) (A0 : Option Addr) (c0 : Nat) (l0 : List (S68)) (a1 : ByteArray) (r : Int) (w : World) (ah : Kd.C k68 w A0 l0.length l0) (ap : l0.length ≤ c0) (h : impl_itemAt.f k l0 a1 = some r) :
  Calls Try.prog 111 #[.slice A0 l0.length c0, .string a1] w fun e w' => e = .returned (.int .i64 r) ∧ Below w.heap.size w w' := by
 have H : impl_itemAt.l0 k a1 l0 (l0.length : Int) 0 = some r := h; have hcon := impl_itemAt_idx k A0 c0 l0 a1 r w.heap.size (w.alloc (.cells #[.string a1] 9)) (by simp) (by simp) (Kd.C_alloc ah _) H; clear ah ap H h
 go_enter Try.func111, Try.ntmps111
 go_wp2_with (go_at_call 116; refine hcon.mono ?_; rintro e w' ⟨rfl, hb'⟩)
 go_ret
 exact ⟨rfl, ((Below.refl _ w).alloc (Nat.le_refl _) _).trans (hb'.mono (by simp))⟩


/-! ### impl_areItems: function 69 -/
def impl_areItems.l0 : Nat → List (S68) → List (S68) → Int → Int → Option (Bool)
 | 0, _, _, _, _ => none
 | k + 1, x0, x5, x6, x7 => if x7 < x6 then (if 0 ≤ x7 then (if x7 < (x5.length : Int) then ((impl_ItemOk.f k ((rd_T68 x5 x7).f0) ((rd_T68 x5 x7).f1) ((rd_T68 x5 x7).f2)).bind fun ao => (if ao = true then ((impl_itemAt.f k x0 ((rd_T68 x5 x7).f0)).bind fun ai => (if ai = x7 then (impl_areItems.l0 k x0 x5 x6 (wrap64 (x7 + 1))) else (some false))) else (some false))) else (none)) else (none)) else (some true)
def impl_areItems.f (k : Nat) (l0 : List (S68)) : Option (Bool) := impl_areItems.l0 k l0 l0 (l0.length : Int) 0
theorem impl_areItems.mono_l : ∀ k, (∀ y0 y1 y2 y3, LeO (impl_areItems.l0 k y0 y1 y2 y3) (impl_areItems.l0 (k + 1) y0 y1 y2 y3))
 | 0 => fun _ _ _ _ r h => by simp [impl_areItems.l0] at h
 | k + 1 => by
  have ap := impl_areItems.mono_l k
  ·intro y0 y1 y2 y3; unfold impl_areItems.l0
   repeat' first | (with_reducible first | apply ap | apply impl_ItemOk.mono | apply impl_itemAt.mono | apply lr | apply ln | apply li | refine lb ?_ fun _ => ?_) | apply ap | apply ln | apply li | refine lb ?_ fun _ => ?_
theorem impl_areItems.mono : ∀ a0 k, LeO (impl_areItems.f k a0) (impl_areItems.f (k + 1) a0) := by
 intro a0 k; have ap := impl_areItems.mono_l k; unfold impl_areItems.f
 repeat' first | (with_reducible first | apply ap | apply impl_ItemOk.mono | apply impl_itemAt.mono | apply lr | apply ln | apply li | refine lb ?_ fun _ => ?_) | apply ap | apply ln | apply li | refine lb ?_ fun _ => ?_
set_option maxHeartbeats 8000000 in
set_option maxRecDepth 100000 in
theorem impl_areItems.calls (k : Nat) (A0 : Option Addr) (c0 : Nat) (l0 : List (S68)) (r : Bool) (w : World) (aB : Kd.C k68 w A0 l0.length l0) (aC : l0.length ≤ c0) (h : impl_areItems.f k l0 = some r) :
  Calls Try.prog 69 #[.slice A0 l0.length c0] w fun e w' => e = .returned (.bool r) ∧ Below w.heap.size w w' := by
 have hu68 := Try.underlying68; have aq := Aside0.mk aB; have aD := Aside0.mk aC; clear aB aC; have HB := Aside0.mk (Below.refl w.heap.size w); have H : (impl_areItems.l0 k l0 l0 (l0.length : Int) 0) = some r := h; clear h; have H' := Aside0.mk H; clear H
 go_enter Try.func69, Try.ntmps69
 go_wp2
 go_loopg [7] k (fun kq v7 w' => ∃ (aa : Int), v7 = .int .i64 aa ∧ Aside0 (impl_areItems.l0 kq l0 l0 (l0.length : Int) aa = some r) ∧ Aside0 (kq ≤ k) ∧ Aside0 (Below w.heap.size w w'))
 case atStart => exact ⟨(0), rs, H', ⟨Nat.le_refl _⟩, ⟨be HB⟩⟩
 case round =>
  clear H'; obtain ⟨aa, rfl, HA, aE, HB⟩ := hrel
  cases gk with
  | zero => exact absurd HA.out (by simp [impl_areItems.l0])
  | succ k1 =>
   have H := HA.out; clear HA; simp only [impl_areItems.l0] at H
   by_cases c2 : aa < (l0.length : Int)
   ·rw [if_pos c2] at H; have ay : decide (aa < (l0.length : Int)) = true := decide_eq_true c2; clear c2
    by_cases c3 : 0 ≤ aa
    ·rw [if_pos c3] at H; have aH : decide (0 ≤ aa) = true := decide_eq_true c3; clear c3
     by_cases c4 : aa < (l0.length : Int)
     ·rw [if_pos c4] at H; have aI : decide (aa < (l0.length : Int)) = true := decide_eq_true c4; clear c4; obtain ⟨ao, A5, H⟩ := ob H
      try dsimp only at H
      by_cases c6 : ao = true
      ·subst c6; rw [if_pos rfl] at H; obtain ⟨ai, A7, H⟩ := ob H
       try dsimp only at H
       by_cases c8 : ai = aa
       ·rw [if_pos c8] at H; have az : (ai == aa) = true := beq_iff_eq.mpr c8; have aA : (ai != aa) = false := bne_eq_false_iff_eq.mpr c8; clear c8; have H' := Aside0.mk H; clear H; have ag : 0 ≤ (aa : Int) := od; have ah : aa < (l0.length : Int) := od; obtain ⟨al, ak, ac, ad, ae⟩ := at_T68 aq.out aa ag ah; cases ak; replace ac := hc HB ac; replace ad := hc HB ad; replace ae := hc HB ae; replace ag := eq_true ag; replace ah := eq_true ah
        go_wp2_with (first | ((with_reducible refine gate_dst (N := 4) rfl ?_); refine bx 4 #[.string (⟨#[]⟩ : ByteArray), .string (⟨#[]⟩ : ByteArray), .int .i64 0] 68 ?_; intro aj hg w9 hbox hb; have ab := am hbox; have an := gs0 hg HB; have af := gs0 hg HB; replace HB := s0 HB hb; clear hb hbox hg; have ar := bz3 ab) | ((with_reducible refine gate_callee (f := 97) rfl ?_); refine gl 13 Try.func97 #[.agg #[.string ((rd_T68 l0 aa).f0), .string ((rd_T68 l0 aa).f1), .int .i64 ((rd_T68 l0 aa).f2)]] ?_; (with_reducible refine (impl_ItemOk.calls k1 ((rd_T68 l0 aa).f0) ((rd_T68 l0 aa).f1) ((rd_T68 l0 aa).f2) true _ A5.out).mono ?_); rintro e aJ ⟨rfl, hb⟩; refine ⟨_, rfl, ?_⟩; replace ab := Aside0.mk (blk_below (g := aj) (o := .cells #[.string ((rd_T68 l0 aa).f0), .string ((rd_T68 l0 aa).f1), .int .i64 ((rd_T68 l0 aa).f2)] 68 (0, 0)) (bp ab) hb); replace HB := s1 HB af hb; (try clear hb); have au := bz3 ab) | (go_at_call 111; (with_reducible refine (impl_itemAt.calls k1 _ _ l0 ((rd_T68 l0 aa).f0) ai _ (cb aq HB) ?side2 A7.out).mono ?_); (case side2 => exact aD.out); rintro e aK ⟨rfl, hb⟩; replace ab := bb ab hb; replace HB := s1 HB af hb; (try clear hb)))
        go_roundg k1
        case measure => have := aE.out; omega
        case rel => exact ⟨(wrap64 (aa + 1)), rs, H', ⟨by have := aE.out; omega⟩, ⟨be1 HB af⟩⟩
       rw [if_neg c8] at H; have az : (ai == aa) = false := beq_eq_false_iff_ne.mpr c8; have aA : (ai != aa) = true := bne_iff_ne.mpr c8; obtain rfl := Option.some.inj H; have ag : 0 ≤ (aa : Int) := od; have ah : aa < (l0.length : Int) := od; obtain ⟨al, ak, ac, ad, ae⟩ := at_T68 aq.out aa ag ah; cases ak; replace ac := hc HB ac; replace ad := hc HB ad; replace ae := hc HB ae; replace ag := eq_true ag; replace ah := eq_true ah
       go_wp2_with (first | ((with_reducible refine gate_dst (N := 4) rfl ?_); refine bx 4 #[.string (⟨#[]⟩ : ByteArray), .string (⟨#[]⟩ : ByteArray), .int .i64 0] 68 ?_; intro aj hg aL hbox hb; have ab := am hbox; have an := gs0 hg HB; have af := gs0 hg HB; replace HB := s0 HB hb; clear hb hbox hg; have av := bz3 ab) | ((with_reducible refine gate_callee (f := 97) rfl ?_); refine gl 13 Try.func97 #[.agg #[.string ((rd_T68 l0 aa).f0), .string ((rd_T68 l0 aa).f1), .int .i64 ((rd_T68 l0 aa).f2)]] ?_; (with_reducible refine (impl_ItemOk.calls k1 ((rd_T68 l0 aa).f0) ((rd_T68 l0 aa).f1) ((rd_T68 l0 aa).f2) true _ A5.out).mono ?_); rintro e aN ⟨rfl, hb⟩; refine ⟨_, rfl, ?_⟩; replace ab := Aside0.mk (blk_below (g := aj) (o := .cells #[.string ((rd_T68 l0 aa).f0), .string ((rd_T68 l0 aa).f1), .int .i64 ((rd_T68 l0 aa).f2)] 68 (0, 0)) (bp ab) hb); replace HB := s1 HB af hb; (try clear hb); have aw := bz3 ab) | (go_at_call 111; (with_reducible refine (impl_itemAt.calls k1 _ _ l0 ((rd_T68 l0 aa).f0) ai _ (cb aq HB) ?side2 A7.out).mono ?_); (case side2 => exact aD.out); rintro e aO ⟨rfl, hb⟩; replace ab := bb ab hb; replace HB := s1 HB af hb; (try clear hb)))
       go_ret
       exact ⟨er, be1 HB af⟩
      replace c6 := Bool.eq_false_iff.mpr c6; subst c6; rw [if_neg nf] at H; obtain rfl := Option.some.inj H; have ag : 0 ≤ (aa : Int) := od; have ah : aa < (l0.length : Int) := od; obtain ⟨al, ak, ac, ad, ae⟩ := at_T68 aq.out aa ag ah; cases ak; replace ac := hc HB ac; replace ad := hc HB ad; replace ae := hc HB ae; replace ag := eq_true ag; replace ah := eq_true ah
      go_wp2_with (first | ((with_reducible refine gate_dst (N := 4) rfl ?_); refine bx 4 #[.string (⟨#[]⟩ : ByteArray), .string (⟨#[]⟩ : ByteArray), .int .i64 0] 68 ?_; intro aj hg aQ hbox hb; have ab := am hbox; have an := gs0 hg HB; have af := gs0 hg HB; replace HB := s0 HB hb; clear hb hbox hg; have ax := bz3 ab) | ((with_reducible refine gate_callee (f := 97) rfl ?_); refine gl 13 Try.func97 #[.agg #[.string ((rd_T68 l0 aa).f0), .string ((rd_T68 l0 aa).f1), .int .i64 ((rd_T68 l0 aa).f2)]] ?_; (with_reducible refine (impl_ItemOk.calls k1 ((rd_T68 l0 aa).f0) ((rd_T68 l0 aa).f1) ((rd_T68 l0 aa).f2) false _ A5.out).mono ?_); rintro e aR ⟨rfl, hb⟩; refine ⟨_, rfl, ?_⟩; replace ab := Aside0.mk (blk_below (g := aj) (o := .cells #[.string ((rd_T68 l0 aa).f0), .string ((rd_T68 l0 aa).f1), .int .i64 ((rd_T68 l0 aa).f2)] 68 (0, 0)) (bp ab) hb); replace HB := s1 HB af hb; (try clear hb)))
      go_ret
      exact ⟨er, be1 HB af⟩
     rw [if_neg c4] at H; exact absurd H (by simp)
    rw [if_neg c3] at H; exact absurd H (by simp)
   rw [if_neg c2] at H; have ay : decide (aa < (l0.length : Int)) = false := decide_eq_false c2; clear c2; obtain rfl := Option.some.inj H
   go_wp2
   go_ret
   exact ⟨er, be HB⟩

end Go.Proofs.Ytfjhkediaholmaa.QFnSpare
