-- made by a program of this session (myprint.py)
import Derived.Test.YtllaoamaplepmaaQFnExactRowGetx0
namespace Go.Proofs.Ytllaoamaplepmaa.QFnExactRowGet
open Go.RowKit Go.Proofs.YtllaoamaplepmaaW.PrintWords Go.Proofs.YtllaoamaplepmaaW.PrintLast Go.Proofs.YtllaoamaplepmaaW.PrintMore
attribute [local go_sem] max2_int min2_int max_two min_two max_three min_three max_four min_four   -- for this text's walks alone
set_option linter.unusedVariables false
set_option linter.unusedSimpArgs false

/-! ### spec_l01In: function 64 -/
def spec_l01In.f (a0 : Int) (a1 : Int) (a2 : Int) : Option (Bool) := if a0 ≥ a1 then (some (decide (a0 ≤ a2))) else (some false)
set_option maxHeartbeats 8000000 in
set_option maxRecDepth 100000 in
theorem spec_l01In.calls (a0 : Int) (a1 : Int) (a2 : Int) (r : Bool) (w : World) (h : spec_l01In.f a0 a1 a2 = some r) :
  Calls Try.prog 64 #[.int .i64 a0, .int .i64 a1, .int .i64 a2] w fun e w' => e = .returned (.bool r) ∧ Drawn0 w w' := by
 have H : (if a0 ≥ a1 then (some (decide (a0 ≤ a2))) else (some false)) = some r := h
 clear h
 by_cases c4 : a0 ≥ a1
 ·rw [if_pos c4] at H
  have c4b0 : decide (a1 ≤ a0) = true := decide_eq_true c4
  clear c4
  obtain rfl := Option.some.inj H
  go_enter Try.func64, Try.ntmps64
  go_wp2
  go_ret
  exact ⟨by first | rfl | (simp; done) | (simp [*]; done), by repeat (first | exact Drawn0.refl _ | apply Drawn0.step)⟩
 rw [if_neg c4] at H
 have c4b0 : decide (a1 ≤ a0) = false := decide_eq_false c4
 clear c4
 obtain rfl := Option.some.inj H
 go_enter Try.func64, Try.ntmps64
 go_wp2
 go_ret
 exact ⟨by first | rfl | (simp; done) | (simp [*]; done), by repeat (first | exact Drawn0.refl _ | apply Drawn0.step)⟩

/-! ### spec_l10Clean: function 101 -/
def spec_l10Clean.l0 : Nat → ByteArray → Int → Option (Bool)
 | 0, _, _ => none
 | k + 1, x0, x3 => if x3 < (x0.size : Int) then (if 0 ≤ x3 then (if (bt x0 x3) = 32 then (some false) else (if (bt x0 x3) = 10 then (some false) else (spec_l10Clean.l0 k x0 (wrap64 (x3 + 1))))) else (none)) else (some true)
def spec_l10Clean.f (k : Nat) (a0 : ByteArray) : Option (Bool) := spec_l10Clean.l0 k a0 0
theorem spec_l10Clean.mono_l : ∀ k, (∀ y0 y1, LeO (spec_l10Clean.l0 k y0 y1) (spec_l10Clean.l0 (k + 1) y0 y1))
 | 0 => fun _ _ r h => by simp [spec_l10Clean.l0] at h
 | k + 1 => by
  have ih0 := spec_l10Clean.mono_l k
  ·intro y0 y1
   unfold spec_l10Clean.l0
   repeat' first
   | (with_reducible exact ih0 _ _)
   | (with_reducible exact LeO.refl _)
   | (with_reducible exact LeO.none _)
   | (with_reducible refine LeO.ite ?_ ?_)
   | (with_reducible refine LeO.bind ?_ (fun _ => ?_))
   | exact ih0 _ _
   | exact LeO.none _
   | refine LeO.ite ?_ ?_
   | refine LeO.bind ?_ (fun _ => ?_)
theorem spec_l10Clean.mono : ∀ a0 k, LeO (spec_l10Clean.f k a0) (spec_l10Clean.f (k + 1) a0) := by
 intro a0 k
 have ih0 := spec_l10Clean.mono_l k
 unfold spec_l10Clean.f
 repeat' first
   | (with_reducible exact ih0 _ _)
   | (with_reducible exact LeO.refl _)
   | (with_reducible exact LeO.none _)
   | (with_reducible refine LeO.ite ?_ ?_)
   | (with_reducible refine LeO.bind ?_ (fun _ => ?_))
   | exact ih0 _ _
   | exact LeO.none _
   | refine LeO.ite ?_ ?_
   | refine LeO.bind ?_ (fun _ => ?_)
set_option maxHeartbeats 8000000 in
set_option maxRecDepth 100000 in
theorem spec_l10Clean.calls (k : Nat) (a0 : ByteArray) (r : Bool) (w : World) (h : spec_l10Clean.f k a0 = some r) :
  Calls Try.prog 101 #[.string a0] w fun e w' => e = .returned (.bool r) ∧ Drawn0 w w' := by
 have H : (spec_l10Clean.l0 k a0 0) = some r := h
 clear h
 have H' := Aside0.mk H
 clear H
 go_enter Try.func101, Try.ntmps101
 go_wp2
 go_loopg [3] k (fun kq v3 w' => ∃ (x3_1 : Int), v3 = .int .i64 x3_1 ∧ Aside0 (spec_l10Clean.l0 kq a0 x3_1 = some r) ∧ Aside0 (kq ≤ k) ∧ Drawn0 w w')
 case atStart => exact ⟨(0), rs, H', ⟨Nat.le_refl _⟩, by repeat (first | exact Drawn0.refl _ | apply Drawn0.step)⟩
 case round =>
  clear H'
  try clear c1
  obtain ⟨x3_1, rfl, HA, HK1, ⟨m1, rfl⟩⟩ := hrel
  cases gk with
  | zero => exact absurd HA.out (by simp [spec_l10Clean.l0])
  | succ k1 =>
   have H := HA.out
   clear HA
   simp only [spec_l10Clean.l0] at H
   by_cases c2 : x3_1 < (a0.size : Int)
   ·rw [if_pos c2] at H
    have c2b0 : decide (x3_1 < (a0.size : Int)) = true := decide_eq_true c2
    clear c2
    by_cases c3 : 0 ≤ x3_1
    ·rw [if_pos c3] at H
     have c3b0 : decide (0 ≤ x3_1) = true := decide_eq_true c3
     clear c3
     by_cases c5 : (bt a0 x3_1) = 32
     ·rw [if_pos c5] at H
      have c5b0 : ((bt a0 x3_1) == 32) = true := beq_iff_eq.mpr c5
      have c5b1 : ((bt a0 x3_1) != 32) = false := bne_eq_false_iff_eq.mpr c5
      clear c5
      obtain rfl := Option.some.inj H
      have p4 : 0 ≤ (x3_1 : Int) := od
      have q4 : x3_1 < (a0.size : Int) := od
      have hx4 := bt_at a0 x3_1
      replace p4 := eq_true p4
      replace q4 := eq_true q4
      go_wp2
      go_ret
      exact ⟨by first | rfl | (simp; done) | (simp [*]; done), by repeat (first | exact Drawn0.refl _ | apply Drawn0.step)⟩
     rw [if_neg c5] at H
     have c5b0 : ((bt a0 x3_1) == 32) = false := beq_eq_false_iff_ne.mpr c5
     have c5b1 : ((bt a0 x3_1) != 32) = true := bne_iff_ne.mpr c5
     by_cases c7 : (bt a0 x3_1) = 10
     ·rw [if_pos c7] at H
      have c7b0 : ((bt a0 x3_1) == 10) = true := beq_iff_eq.mpr c7
      have c7b1 : ((bt a0 x3_1) != 10) = false := bne_eq_false_iff_eq.mpr c7
      clear c7
      obtain rfl := Option.some.inj H
      have p4 : 0 ≤ (x3_1 : Int) := od
      have q4 : x3_1 < (a0.size : Int) := od
      have hx4 := bt_at a0 x3_1
      replace p4 := eq_true p4
      replace q4 := eq_true q4
      have p6 : 0 ≤ (x3_1 : Int) := od
      have q6 : x3_1 < (a0.size : Int) := od
      have hx6 := bt_at a0 x3_1
      replace p6 := eq_true p6
      replace q6 := eq_true q6
      go_wp2
      go_ret
      exact ⟨by first | rfl | (simp; done) | (simp [*]; done), by repeat (first | exact Drawn0.refl _ | apply Drawn0.step)⟩
     rw [if_neg c7] at H
     have c7b0 : ((bt a0 x3_1) == 10) = false := beq_eq_false_iff_ne.mpr c7
     have c7b1 : ((bt a0 x3_1) != 10) = true := bne_iff_ne.mpr c7
     have H' := Aside0.mk H
     clear H
     have p4 : 0 ≤ (x3_1 : Int) := od
     have q4 : x3_1 < (a0.size : Int) := od
     have hx4 := bt_at a0 x3_1
     replace p4 := eq_true p4
     replace q4 := eq_true q4
     have p6 : 0 ≤ (x3_1 : Int) := od
     have q6 : x3_1 < (a0.size : Int) := od
     have hx6 := bt_at a0 x3_1
     replace p6 := eq_true p6
     replace q6 := eq_true q6
     go_wp2
     go_roundg k1
     case measure => have := HK1.out; omega
     case rel => exact ⟨(wrap64 (x3_1 + 1)), rs, H', ⟨by have := HK1.out; omega⟩, by repeat (first | exact Drawn0.refl _ | apply Drawn0.step)⟩
    rw [if_neg c3] at H
    exact absurd H (by simp)
   rw [if_neg c2] at H
   have c2b0 : decide (x3_1 < (a0.size : Int)) = false := decide_eq_false c2
   clear c2
   obtain rfl := Option.some.inj H
   go_wp2
   go_ret
   exact ⟨by first | rfl | (simp; done) | (simp [*]; done), by repeat (first | exact Drawn0.refl _ | apply Drawn0.step)⟩

/-! ### spec_ItemOk: function 80 -/
def spec_ItemOk.f (k : Nat) (a0_0 : ByteArray) (a0_1 : ByteArray) (a0_2 : Int) : Option (Bool) := if (a0_0.size : Int) ≥ 1 then (if (a0_0.size : Int) ≤ 20 then ((spec_l10Clean.f k a0_0).bind fun t150 => (if t150 = true then (if (a0_1.size : Int) ≤ 40 then ((spec_l10Clean.f k a0_1).bind fun t151 => (if t151 = true then ((spec_l01In.f a0_2 0 3).bind fun t152 => (some t152)) else (some false))) else (some false)) else (some false))) else (some false)) else (some false)
theorem spec_ItemOk.mono : ∀ a0 a1 a2 k, LeO (spec_ItemOk.f k a0 a1 a2) (spec_ItemOk.f (k + 1) a0 a1 a2) := by
 intro a0 a1 a2 k
 unfold spec_ItemOk.f
 repeat' first
   | (with_reducible exact spec_l10Clean.mono _ _)
   | (with_reducible exact LeO.refl _)
   | (with_reducible exact LeO.none _)
   | (with_reducible refine LeO.ite ?_ ?_)
   | (with_reducible refine LeO.bind ?_ (fun _ => ?_))
   | exact spec_l10Clean.mono _ _
   | exact LeO.none _
   | refine LeO.ite ?_ ?_
   | refine LeO.bind ?_ (fun _ => ?_)
set_option maxHeartbeats 8000000 in
set_option maxRecDepth 100000 in
theorem spec_ItemOk.calls (k : Nat) (a0_0 : ByteArray) (a0_1 : ByteArray) (a0_2 : Int) (r : Bool) (w : World) (h : spec_ItemOk.f k a0_0 a0_1 a0_2 = some r) :
  Calls Try.prog 80 #[.agg #[.string a0_0, .string a0_1, .int .i64 a0_2]] w fun e w' => e = .returned (.bool r) ∧ Below w.heap.size w w' := by
 have hu84 := Try.underlying84
 have HB := Aside0.mk (Below.refl w.heap.size w)
 have H : (if (a0_0.size : Int) ≥ 1 then (if (a0_0.size : Int) ≤ 20 then ((spec_l10Clean.f k a0_0).bind fun t150 => (if t150 = true then (if (a0_1.size : Int) ≤ 40 then ((spec_l10Clean.f k a0_1).bind fun t151 => (if t151 = true then ((spec_l01In.f a0_2 0 3).bind fun t152 => (some t152)) else (some false))) else (some false)) else (some false))) else (some false)) else (some false)) = some r := h
 clear h
 by_cases c2 : (a0_0.size : Int) ≥ 1
 ·rw [if_pos c2] at H
  have c2b0 : decide (1 ≤ (a0_0.size : Int)) = true := decide_eq_true c2
  have c2b1 : decide (1 ≤ a0_0.size) = true := decide_eq_true (by omega)
  clear c2
  by_cases c3 : (a0_0.size : Int) ≤ 20
  ·rw [if_pos c3] at H
   have c3b0 : decide ((a0_0.size : Int) ≤ 20) = true := decide_eq_true c3
   have c3b1 : decide (a0_0.size ≤ 20) = true := decide_eq_true (by omega)
   clear c3
   replace H := Option.bind_eq_some_iff.mp H
   obtain ⟨t150, A40, H⟩ := H
   try dsimp only at H
   have A4 := Aside0.mk A40
   clear A40
   by_cases c5 : t150 = true
   ·subst c5
    rw [if_pos rfl] at H
    by_cases c6 : (a0_1.size : Int) ≤ 40
    ·rw [if_pos c6] at H
     have c6b0 : decide ((a0_1.size : Int) ≤ 40) = true := decide_eq_true c6
     have c6b1 : decide (a0_1.size ≤ 40) = true := decide_eq_true (by omega)
     clear c6
     replace H := Option.bind_eq_some_iff.mp H
     obtain ⟨t151, A70, H⟩ := H
     try dsimp only at H
     have A7 := Aside0.mk A70
     clear A70
     by_cases c8 : t151 = true
     ·subst c8
      rw [if_pos rfl] at H
      replace H := Option.bind_eq_some_iff.mp H
      obtain ⟨t152, A90, H⟩ := H
      replace H : (some t152) = some r := H
      have A9 := Aside0.mk A90
      clear A90
      obtain rfl := Option.some.inj H
      go_enter Try.func80, Try.ntmps80
      go_wp2_with (first | ((with_reducible refine gate_dst (N := 1) rfl ?_); (try (refine gate_guard (by rfl) ?_; dsimp only)); refine bx 1 #[.string a0_0, .string a0_1, .int .i64 a0_2] 84 ?_; intro gb149 hg w10 hbox hb; have BK149 := am hbox; have GW149 := gs0 hg HB; have GE149 := gs0 hg HB; replace HB := s0 HB hb; clear hb hbox hg; have hcz11_0 := bz3 BK149) | (go_at_call 101; (with_reducible refine (spec_l10Clean.calls k a0_0 true _ A4.out).mono ?_); rintro e w' ⟨rfl, ⟨nd, rfl⟩⟩) | (go_at_call 101; (with_reducible refine (spec_l10Clean.calls k a0_1 true _ A7.out).mono ?_); rintro e w' ⟨rfl, ⟨nd, rfl⟩⟩) | (go_at_call 64; (with_reducible refine (spec_l01In.calls a0_2 0 3 t152 _ A9.out).mono ?_); rintro e w' ⟨rfl, ⟨nd, rfl⟩⟩))
      go_ret
      exact ⟨er, be1 HB GE149⟩
     replace c8 := Bool.eq_false_iff.mpr c8
     subst c8
     rw [if_neg (show ¬ (false = true) by decide)] at H
     obtain rfl := Option.some.inj H
     go_enter Try.func80, Try.ntmps80
     go_wp2_with (first | ((with_reducible refine gate_dst (N := 1) rfl ?_); (try (refine gate_guard (by rfl) ?_; dsimp only)); refine bx 1 #[.string a0_0, .string a0_1, .int .i64 a0_2] 84 ?_; intro gb149 hg w12 hbox hb; have BK149 := am hbox; have GW149 := gs0 hg HB; have GE149 := gs0 hg HB; replace HB := s0 HB hb; clear hb hbox hg; have hcz13_0 := bz3 BK149) | (go_at_call 101; (with_reducible refine (spec_l10Clean.calls k a0_0 true _ A4.out).mono ?_); rintro e w' ⟨rfl, ⟨nd, rfl⟩⟩) | (go_at_call 101; (with_reducible refine (spec_l10Clean.calls k a0_1 false _ A7.out).mono ?_); rintro e w' ⟨rfl, ⟨nd, rfl⟩⟩))
     go_ret
     exact ⟨er, be1 HB GE149⟩
    rw [if_neg c6] at H
    have c6b0 : decide ((a0_1.size : Int) ≤ 40) = false := decide_eq_false c6
    have c6b1 : decide (a0_1.size ≤ 40) = false := decide_eq_false (by omega)
    clear c6
    obtain rfl := Option.some.inj H
    go_enter Try.func80, Try.ntmps80
    go_wp2_with (first | ((with_reducible refine gate_dst (N := 1) rfl ?_); (try (refine gate_guard (by rfl) ?_; dsimp only)); refine bx 1 #[.string a0_0, .string a0_1, .int .i64 a0_2] 84 ?_; intro gb149 hg w14 hbox hb; have BK149 := am hbox; have GW149 := gs0 hg HB; have GE149 := gs0 hg HB; replace HB := s0 HB hb; clear hb hbox hg; have hcz15_0 := bz3 BK149) | (go_at_call 101; (with_reducible refine (spec_l10Clean.calls k a0_0 true _ A4.out).mono ?_); rintro e w' ⟨rfl, ⟨nd, rfl⟩⟩))
    go_ret
    exact ⟨er, be1 HB GE149⟩
   replace c5 := Bool.eq_false_iff.mpr c5
   subst c5
   rw [if_neg (show ¬ (false = true) by decide)] at H
   obtain rfl := Option.some.inj H
   go_enter Try.func80, Try.ntmps80
   go_wp2_with (first | ((with_reducible refine gate_dst (N := 1) rfl ?_); (try (refine gate_guard (by rfl) ?_; dsimp only)); refine bx 1 #[.string a0_0, .string a0_1, .int .i64 a0_2] 84 ?_; intro gb149 hg w16 hbox hb; have BK149 := am hbox; have GW149 := gs0 hg HB; have GE149 := gs0 hg HB; replace HB := s0 HB hb; clear hb hbox hg; have hcz17_0 := bz3 BK149) | (go_at_call 101; (with_reducible refine (spec_l10Clean.calls k a0_0 false _ A4.out).mono ?_); rintro e w' ⟨rfl, ⟨nd, rfl⟩⟩))
   go_ret
   exact ⟨er, be1 HB GE149⟩
  rw [if_neg c3] at H
  have c3b0 : decide ((a0_0.size : Int) ≤ 20) = false := decide_eq_false c3
  have c3b1 : decide (a0_0.size ≤ 20) = false := decide_eq_false (by omega)
  clear c3
  obtain rfl := Option.some.inj H
  go_enter Try.func80, Try.ntmps80
  go_wp2_with (first | ((with_reducible refine gate_dst (N := 1) rfl ?_); (try (refine gate_guard (by rfl) ?_; dsimp only)); refine bx 1 #[.string a0_0, .string a0_1, .int .i64 a0_2] 84 ?_; intro gb149 hg w18 hbox hb; have BK149 := am hbox; have GW149 := gs0 hg HB; have GE149 := gs0 hg HB; replace HB := s0 HB hb; clear hb hbox hg; have hcz19_0 := bz3 BK149))
  go_ret
  exact ⟨er, be1 HB GE149⟩
 rw [if_neg c2] at H
 have c2b0 : decide (1 ≤ (a0_0.size : Int)) = false := decide_eq_false c2
 have c2b1 : decide (1 ≤ a0_0.size) = false := decide_eq_false (by omega)
 clear c2
 obtain rfl := Option.some.inj H
 go_enter Try.func80, Try.ntmps80
 go_wp2_with (first | ((with_reducible refine gate_dst (N := 1) rfl ?_); (try (refine gate_guard (by rfl) ?_; dsimp only)); refine bx 1 #[.string a0_0, .string a0_1, .int .i64 a0_2] 84 ?_; intro gb149 hg w20 hbox hb; have BK149 := am hbox; have GW149 := gs0 hg HB; have GE149 := gs0 hg HB; replace HB := s0 HB hb; clear hb hbox hg; have hcz21_0 := bz3 BK149))
 go_ret
 exact ⟨er, be1 HB GE149⟩

/-! ### spec_l10At: function 81 -/
def spec_l10At.l0 : Nat → ByteArray → List (S84) → Int → Int → Option (Int)
 | 0, _, _, _, _ => none
 | k + 1, x1, x7, x8, x9 => if x9 < x8 then (if 0 ≤ x9 then (if x9 < (x7.length : Int) then (if ((rd_T84 x7 x9).f0).toList = x1.toList then (some x9) else (spec_l10At.l0 k x1 x7 x8 (wrap64 (x9 + 1)))) else (none)) else (none)) else (some (-1))
def spec_l10At.f (k : Nat) (l0 : List (S84)) (a1 : ByteArray) : Option (Int) := spec_l10At.l0 k a1 l0 (l0.length : Int) 0
theorem spec_l10At.mono_l : ∀ k, (∀ y0 y1 y2 y3, LeO (spec_l10At.l0 k y0 y1 y2 y3) (spec_l10At.l0 (k + 1) y0 y1 y2 y3))
 | 0 => fun _ _ _ _ r h => by simp [spec_l10At.l0] at h
 | k + 1 => by
  have ih0 := spec_l10At.mono_l k
  ·intro y0 y1 y2 y3
   unfold spec_l10At.l0
   repeat' first
   | (with_reducible exact ih0 _ _ _ _)
   | (with_reducible exact LeO.refl _)
   | (with_reducible exact LeO.none _)
   | (with_reducible refine LeO.ite ?_ ?_)
   | (with_reducible refine LeO.bind ?_ (fun _ => ?_))
   | exact ih0 _ _ _ _
   | exact LeO.none _
   | refine LeO.ite ?_ ?_
   | refine LeO.bind ?_ (fun _ => ?_)
theorem spec_l10At.mono : ∀ a0 a1 k, LeO (spec_l10At.f k a0 a1) (spec_l10At.f (k + 1) a0 a1) := by
 intro a0 a1 k
 have ih0 := spec_l10At.mono_l k
 unfold spec_l10At.f
 repeat' first
   | (with_reducible exact ih0 _ _ _ _)
   | (with_reducible exact LeO.refl _)
   | (with_reducible exact LeO.none _)
   | (with_reducible refine LeO.ite ?_ ?_)
   | (with_reducible refine LeO.bind ?_ (fun _ => ?_))
   | exact ih0 _ _ _ _
   | exact LeO.none _
   | refine LeO.ite ?_ ?_
   | refine LeO.bind ?_ (fun _ => ?_)
set_option maxHeartbeats 8000000 in
set_option maxRecDepth 100000 in
theorem spec_l10At.calls (k : Nat) (A0 : Option Addr) (c0 : Nat) (l0 : List (S84)) (a1 : ByteArray) (r : Int) (w : World) (hr0 : Kd.C k84 w A0 l0.length l0) (hc0 : l0.length ≤ c0) (h : spec_l10At.f k l0 a1 = some r) :
  Calls Try.prog 81 #[.slice A0 l0.length c0, .string a1] w fun e w' => e = .returned (.int .i64 r) ∧ Below w.heap.size w w' := by
 have hu84 := Try.underlying84
 have HR0 := Aside0.mk hr0
 have HC0 := Aside0.mk hc0
 clear hr0 hc0
 have HB := Aside0.mk (Below.refl w.heap.size w)
 have H : (spec_l10At.l0 k a1 l0 (l0.length : Int) 0) = some r := h
 clear h
 have H' := Aside0.mk H
 clear H
 go_enter Try.func81, Try.ntmps81
 go_wp2
 go_loopg [9] k (fun kq v9 w' => ∃ (x9_1 : Int), v9 = .int .i64 x9_1 ∧ Aside0 (spec_l10At.l0 kq a1 l0 (l0.length : Int) x9_1 = some r) ∧ Aside0 (kq ≤ k) ∧ Aside0 (Below w.heap.size w w'))
 case atStart => exact ⟨(0), rs, H', ⟨Nat.le_refl _⟩, ⟨be HB⟩⟩
 case round =>
  clear H'
  try clear p2
  obtain ⟨x9_1, rfl, HA, HK1, HB⟩ := hrel
  cases gk with
  | zero => exact absurd HA.out (by simp [spec_l10At.l0])
  | succ k1 =>
   have H := HA.out
   clear HA
   simp only [spec_l10At.l0] at H
   by_cases c3 : x9_1 < (l0.length : Int)
   ·rw [if_pos c3] at H
    have c3b0 : decide (x9_1 < (l0.length : Int)) = true := decide_eq_true c3
    clear c3
    by_cases c4 : 0 ≤ x9_1
    ·rw [if_pos c4] at H
     have c4b0 : decide (0 ≤ x9_1) = true := decide_eq_true c4
     clear c4
     by_cases c5 : x9_1 < (l0.length : Int)
     ·rw [if_pos c5] at H
      have c5b0 : decide (x9_1 < (l0.length : Int)) = true := decide_eq_true c5
      clear c5
      by_cases c6 : ((rd_T84 l0 x9_1).f0).toList = a1.toList
      ·rw [if_pos c6] at H
       have c6b0 : (((rd_T84 l0 x9_1).f0).toList == a1.toList) = true := beq_iff_eq.mpr c6
       have c6b1 : (((rd_T84 l0 x9_1).f0).toList != a1.toList) = false := bne_eq_false_iff_eq.mpr c6
       clear c6
       obtain rfl := Option.some.inj H
       have p153 : 0 ≤ (x9_1 : Int) := od
       have q153 : x9_1 < (l0.length : Int) := od
       obtain ⟨ad153, e153, hx153_0, hx153_1, hx153_2⟩ := at_T84 HR0.out x9_1 p153 q153
       cases e153
       replace hx153_0 := hc HB hx153_0
       replace hx153_1 := hc HB hx153_1
       replace hx153_2 := hc HB hx153_2
       replace p153 := eq_true p153
       replace q153 := eq_true q153
       go_wp2_with (first | ((with_reducible refine gate_dst (N := 6) rfl ?_); refine bx 6 #[.string (⟨#[]⟩ : ByteArray), .string (⟨#[]⟩ : ByteArray), .int .i64 0] 84 ?_; intro gb154 hg w7 hbox hb; have BK154 := am hbox; have GW154 := gs0 hg HB; have GE154 := gs0 hg HB; replace HB := s0 HB hb; clear hb hbox hg; have hcz8_0 := bz3 BK154))
       go_ret
       exact ⟨er, be1 HB GE154⟩
      rw [if_neg c6] at H
      have c6b0 : (((rd_T84 l0 x9_1).f0).toList == a1.toList) = false := beq_eq_false_iff_ne.mpr c6
      have c6b1 : (((rd_T84 l0 x9_1).f0).toList != a1.toList) = true := bne_iff_ne.mpr c6
      have H' := Aside0.mk H
      clear H
      have p153 : 0 ≤ (x9_1 : Int) := od
      have q153 : x9_1 < (l0.length : Int) := od
      obtain ⟨ad153, e153, hx153_0, hx153_1, hx153_2⟩ := at_T84 HR0.out x9_1 p153 q153
      cases e153
      replace hx153_0 := hc HB hx153_0
      replace hx153_1 := hc HB hx153_1
      replace hx153_2 := hc HB hx153_2
      replace p153 := eq_true p153
      replace q153 := eq_true q153
      go_wp2_with (first | ((with_reducible refine gate_dst (N := 6) rfl ?_); refine bx 6 #[.string (⟨#[]⟩ : ByteArray), .string (⟨#[]⟩ : ByteArray), .int .i64 0] 84 ?_; intro gb154 hg w9 hbox hb; have BK154 := am hbox; have GW154 := gs0 hg HB; have GE154 := gs0 hg HB; replace HB := s0 HB hb; clear hb hbox hg; have hcz10_0 := bz3 BK154))
      go_roundg k1
      case measure => have := HK1.out; omega
      case rel => exact ⟨(wrap64 (x9_1 + 1)), rs, H', ⟨by have := HK1.out; omega⟩, ⟨be1 HB GE154⟩⟩
     rw [if_neg c5] at H
     exact absurd H (by simp)
    rw [if_neg c4] at H
    exact absurd H (by simp)
   rw [if_neg c3] at H
   have c3b0 : decide (x9_1 < (l0.length : Int)) = false := decide_eq_false c3
   clear c3
   obtain rfl := Option.some.inj H
   go_wp2
   go_ret
   exact ⟨er, be HB⟩

/-! ### spec_RowOk: function 42 -/
mutual
def spec_RowOk.j0 : Nat → Bool → Int → Int → List (S84) → Option (Bool)
 | 0, _, _, _, _ => none
 | k + 1, x26, x156000, x156001, x156002 => if x26 = true then (some false) else (spec_RowOk.l0 k x156002 (x156002.length : Int) 0 x156000 x156001 x156002)
def spec_RowOk.l0 : Nat → List (S84) → Int → Int → Int → Int → List (S84) → Option (Bool)
 | 0, _, _, _, _, _, _ => none
 | k + 1, x28, x29, x30, x156000, x156001, x156002 => if x30 < x29 then (if 0 ≤ x30 then (if x30 < (x28.length : Int) then ((spec_ItemOk.f k ((rd_T84 x28 x30).f0) ((rd_T84 x28 x30).f1) ((rd_T84 x28 x30).f2)).bind fun t159 => (if t159 = true then ((spec_l10At.f k x156002 ((rd_T84 x28 x30).f0)).bind fun t160 => (if t160 = x30 then (if ((rd_T84 x28 x30).f2) > 1 then (some false) else (if ((rd_T84 x28 x30).f2) = 1 then (if x156000 = 3 then (spec_RowOk.l0 k x28 x29 (wrap64 (x30 + 1)) x156000 x156001 x156002) else (some false)) else (spec_RowOk.l0 k x28 x29 (wrap64 (x30 + 1)) x156000 x156001 x156002))) else (some false))) else (some false))) else (none)) else (none)) else (some true)
end
def spec_RowOk.f (k : Nat) (a0_0 : Int) (a0_1 : Int) (l0_2 : List (S84)) : Option (Bool) := if a0_0 < 1 then (spec_RowOk.j0 k true a0_0 a0_1 l0_2) else (if a0_0 > 3 then (spec_RowOk.j0 k true a0_0 a0_1 l0_2) else ((spec_l01In.f a0_1 1 60).bind fun t156 => (if t156 = true then (spec_RowOk.j0 k (decide ((l0_2.length : Int) > a0_1)) a0_0 a0_1 l0_2) else (spec_RowOk.j0 k true a0_0 a0_1 l0_2))))
theorem spec_RowOk.mono_l : ∀ k, (∀ y0 y1 y2 y3, LeO (spec_RowOk.j0 k y0 y1 y2 y3) (spec_RowOk.j0 (k + 1) y0 y1 y2 y3)) ∧ (∀ y0 y1 y2 y3 y4 y5, LeO (spec_RowOk.l0 k y0 y1 y2 y3 y4 y5) (spec_RowOk.l0 (k + 1) y0 y1 y2 y3 y4 y5))
 | 0 => ⟨fun _ _ _ _ r h => by simp [spec_RowOk.j0] at h, fun _ _ _ _ _ _ r h => by simp [spec_RowOk.l0] at h⟩
 | k + 1 => by
  obtain ⟨ih0, ih1⟩ := spec_RowOk.mono_l k
  refine ⟨?_, ?_⟩
  ·intro y0 y1 y2 y3
   unfold spec_RowOk.j0
   repeat' first
   | (with_reducible exact ih0 _ _ _ _)
   | (with_reducible exact ih1 _ _ _ _ _ _)
   | (with_reducible exact spec_ItemOk.mono _ _ _ _)
   | (with_reducible exact spec_l10At.mono _ _ _)
   | (with_reducible exact LeO.refl _)
   | (with_reducible exact LeO.none _)
   | (with_reducible refine LeO.ite ?_ ?_)
   | (with_reducible refine LeO.bind ?_ (fun _ => ?_))
   | exact ih0 _ _ _ _
   | exact ih1 _ _ _ _ _ _
   | exact spec_ItemOk.mono _ _ _ _
   | exact spec_l10At.mono _ _ _
   | exact LeO.none _
   | refine LeO.ite ?_ ?_
   | refine LeO.bind ?_ (fun _ => ?_)
  intro y0 y1 y2 y3 y4 y5
  unfold spec_RowOk.l0
  repeat' first
  | (with_reducible exact ih0 _ _ _ _)
  | (with_reducible exact ih1 _ _ _ _ _ _)
  | (with_reducible exact spec_ItemOk.mono _ _ _ _)
  | (with_reducible exact spec_l10At.mono _ _ _)
  | (with_reducible exact LeO.refl _)
  | (with_reducible exact LeO.none _)
  | (with_reducible refine LeO.ite ?_ ?_)
  | (with_reducible refine LeO.bind ?_ (fun _ => ?_))
  | exact ih0 _ _ _ _
  | exact ih1 _ _ _ _ _ _
  | exact spec_ItemOk.mono _ _ _ _
  | exact spec_l10At.mono _ _ _
  | exact LeO.none _
  | refine LeO.ite ?_ ?_
  | refine LeO.bind ?_ (fun _ => ?_)
theorem spec_RowOk.mono : ∀ a0 a1 a2 k, LeO (spec_RowOk.f k a0 a1 a2) (spec_RowOk.f (k + 1) a0 a1 a2) := by
 intro a0 a1 a2 k
 obtain ⟨ih0, ih1⟩ := spec_RowOk.mono_l k
 unfold spec_RowOk.f
 repeat' first
   | (with_reducible exact ih0 _ _ _ _)
   | (with_reducible exact ih1 _ _ _ _ _ _)
   | (with_reducible exact spec_ItemOk.mono _ _ _ _)
   | (with_reducible exact spec_l10At.mono _ _ _)
   | (with_reducible exact LeO.refl _)
   | (with_reducible exact LeO.none _)
   | (with_reducible refine LeO.ite ?_ ?_)
   | (with_reducible refine LeO.bind ?_ (fun _ => ?_))
   | exact ih0 _ _ _ _
   | exact ih1 _ _ _ _ _ _
   | exact spec_ItemOk.mono _ _ _ _
   | exact spec_l10At.mono _ _ _
   | exact LeO.none _
   | refine LeO.ite ?_ ?_
   | refine LeO.bind ?_ (fun _ => ?_)
set_option maxHeartbeats 8000000 in
set_option maxRecDepth 100000 in
theorem spec_RowOk.calls (k : Nat) (a0_0 : Int) (a0_1 : Int) (A0_2 : Option Addr) (c0_2 : Nat) (l0_2 : List (S84)) (r : Bool) (w : World) (hr0_2 : Kd.C k84 w A0_2 l0_2.length l0_2) (hc0_2 : l0_2.length ≤ c0_2) (h : spec_RowOk.f k a0_0 a0_1 l0_2 = some r) :
  Calls Try.prog 42 #[.agg #[.int .i64 a0_0, .int .i64 a0_1, .slice A0_2 l0_2.length c0_2]] w fun e w' => e = .returned (.bool r) ∧ Below w.heap.size w w' := by
 have hu53 := Try.underlying53
 have hu84 := Try.underlying84
 have HR0_2 := Aside0.mk hr0_2
 have HC0_2 := Aside0.mk hc0_2
 clear hr0_2 hc0_2
 have HB := Aside0.mk (Below.refl w.heap.size w)
 have H : (if a0_0 < 1 then (spec_RowOk.j0 k true a0_0 a0_1 l0_2) else (if a0_0 > 3 then (spec_RowOk.j0 k true a0_0 a0_1 l0_2) else ((spec_l01In.f a0_1 1 60).bind fun t156 => (if t156 = true then (spec_RowOk.j0 k (decide ((l0_2.length : Int) > a0_1)) a0_0 a0_1 l0_2) else (spec_RowOk.j0 k true a0_0 a0_1 l0_2))))) = some r := h
 clear h
 have HC2 := Aside0.mk H
 clear H
 go_enter Try.func42, Try.ntmps42
 go_upto_region 1 with (first | ((with_reducible refine gate_dst (N := 1) rfl ?_); (try (refine gate_guard (by rfl) ?_; dsimp only)); refine bx 1 #[.int .i64 a0_0, .int .i64 a0_1, .slice A0_2 l0_2.length c0_2] 53 ?_; intro gb155 hg w3 hbox hb; have BK155 := am hbox; have GW155 := gs0 hg HB; have GE155 := gs0 hg HB; replace HB := s0 HB hb; clear hb hbox hg))
 (try simp only [Act.put, List.setIfInBounds_toArray, List.set_cons_zero, List.set_cons_succ])
 go_cut [26] (fun v26 wc => ∃ (kq : Nat) (x26_1 : Bool), v26 = .bool x26_1 ∧ Aside0 (spec_RowOk.j0 kq x26_1 a0_0 a0_1 l0_2 = some r) ∧ Aside0 (kq ≤ k) ∧ Aside0 (wc.heap[gb155]? = some (.cells #[.int .i64 a0_0, .int .i64 a0_1, (.slice A0_2 l0_2.length c0_2)] 53 (0, 0))) ∧ Aside0 (Below w.heap.size w wc))
 case first =>
  have H := HC2.out
  clear HC2
  by_cases c4 : a0_0 < 1
  ·rw [if_pos c4] at H
   have c4b0 : decide (a0_0 < 1) = true := decide_eq_true c4
   clear c4
   (first | rw [c4b0] | (simp only [i64_w, i32_w]; rw [c4b0]) | skip)
   have H' := Aside0.mk H
   clear H
   have hcz5_0 := bz3 BK155
   go_wp2
   go_meet
   case rel => exact ⟨_, (true), rs, H', ⟨by first | omega | exact Nat.le_refl _⟩, ⟨bk BK155⟩, ⟨be1 HB GE155⟩⟩
  rw [if_neg c4] at H
  have c4b0 : decide (a0_0 < 1) = false := decide_eq_false c4
  clear c4
  (first | rw [c4b0] | (simp only [i64_w, i32_w]; rw [c4b0]) | skip)
  by_cases c6 : a0_0 > 3
  ·rw [if_pos c6] at H
   have c6b0 : decide (3 < a0_0) = true := decide_eq_true c6
   clear c6
   have H' := Aside0.mk H
   clear H
   have hcz7_0 := bz3 BK155
   go_wp2
   go_meet
   case rel => exact ⟨_, (true), rs, H', ⟨by first | omega | exact Nat.le_refl _⟩, ⟨bk BK155⟩, ⟨be1 HB GE155⟩⟩
  rw [if_neg c6] at H
  have c6b0 : decide (3 < a0_0) = false := decide_eq_false c6
  clear c6
  replace H := Option.bind_eq_some_iff.mp H
  obtain ⟨t156, A80, H⟩ := H
  try dsimp only at H
  have A8 := Aside0.mk A80
  clear A80
  by_cases c9 : t156 = true
  ·subst c9
   rw [if_pos rfl] at H
   have H' := Aside0.mk H
   clear H
   have hcz10_0 := bz3 BK155
   go_wp2_with (first | (go_at_call 64; (with_reducible refine (spec_l01In.calls a0_1 1 60 true _ A8.out).mono ?_); rintro e w' ⟨rfl, ⟨nd, rfl⟩⟩))
   go_meet
   case rel => exact ⟨_, (decide ((l0_2.length : Int) > a0_1)), rs, H', ⟨by first | omega | exact Nat.le_refl _⟩, ⟨bk BK155⟩, ⟨be1 HB GE155⟩⟩
  replace c9 := Bool.eq_false_iff.mpr c9
  subst c9
  rw [if_neg (show ¬ (false = true) by decide)] at H
  have H' := Aside0.mk H
  clear H
  have hcz11_0 := bz3 BK155
  go_wp2_with (first | (go_at_call 64; (with_reducible refine (spec_l01In.calls a0_1 1 60 false _ A8.out).mono ?_); rintro e w' ⟨rfl, ⟨nd, rfl⟩⟩))
  go_meet
  case rel => exact ⟨_, (true), rs, H', ⟨by first | omega | exact Nat.le_refl _⟩, ⟨bk BK155⟩, ⟨be1 HB GE155⟩⟩
 case rest =>
  clear HC2
  try clear p2; try clear c4; try clear c4b0; try clear c6; try clear c6b0; try clear c9; try clear hcz10_0; try clear hcz11_0; try clear hcz5_0; try clear hcz7_0
  obtain ⟨kq, x26_1, rfl, HA, HJ1, BK155, HB⟩ := hcut
  cases kq with
  | zero => exact absurd HA.out (by simp [spec_RowOk.j0])
  | succ kj1 =>
   have H := HA.out
   clear HA
   simp only [spec_RowOk.j0] at H
   by_cases c12 : x26_1 = true
   ·subst c12
    rw [if_pos rfl] at H
    obtain rfl := Option.some.inj H
    go_wp2
    go_ret
    exact ⟨er, be1 HB GE155⟩
   replace c12 := Bool.eq_false_iff.mpr c12
   subst c12
   rw [if_neg (show ¬ (false = true) by decide)] at H
   have H' := Aside0.mk H
   clear H
   have hcz13_0 := bz3 BK155
   go_wp2
   go_loopg [30] kj1 (fun kq v30 w' => ∃ (x30_2 : Int), v30 = .int .i64 x30_2 ∧ Aside0 (spec_RowOk.l0 kq l0_2 (l0_2.length : Int) x30_2 a0_0 a0_1 l0_2 = some r) ∧ Aside0 (kq ≤ kj1) ∧ Aside0 (w'.heap[gb155]? = some (.cells #[.int .i64 a0_0, .int .i64 a0_1, (.slice A0_2 l0_2.length c0_2)] 53 (0, 0))) ∧ Aside0 (Below w.heap.size w w'))
   case atStart => exact ⟨(0), rs, H', ⟨Nat.le_refl _⟩, ⟨bk BK155⟩, ⟨be1 HB GE155⟩⟩
   case round =>
    clear H'
    try clear c1; try clear p2; try clear c4; try clear c4b0; try clear c6; try clear c6b0; try clear c9; try clear c12; try clear hcz10_0; try clear hcz11_0; try clear hcz13_0; try clear hcz5_0; try clear hcz7_0; try clear p2
    obtain ⟨x30_2, rfl, HA, HK2, BK155, HB⟩ := hrel
    cases gk with
    | zero => exact absurd HA.out (by simp [spec_RowOk.l0])
    | succ k2 =>
     have H := HA.out
     clear HA
     simp only [spec_RowOk.l0] at H
     by_cases c14 : x30_2 < (l0_2.length : Int)
     ·rw [if_pos c14] at H
      have c14b0 : decide (x30_2 < (l0_2.length : Int)) = true := decide_eq_true c14
      clear c14
      by_cases c15 : 0 ≤ x30_2
      ·rw [if_pos c15] at H
       have c15b0 : decide (0 ≤ x30_2) = true := decide_eq_true c15
       clear c15
       by_cases c16 : x30_2 < (l0_2.length : Int)
       ·rw [if_pos c16] at H
        have c16b0 : decide (x30_2 < (l0_2.length : Int)) = true := decide_eq_true c16
        clear c16
        replace H := Option.bind_eq_some_iff.mp H
        obtain ⟨t159, A170, H⟩ := H
        try dsimp only at H
        have A17 := Aside0.mk A170
        clear A170
        by_cases c18 : t159 = true
        ·subst c18
         rw [if_pos rfl] at H
         replace H := Option.bind_eq_some_iff.mp H
         obtain ⟨t160, A190, H⟩ := H
         try dsimp only at H
         have A19 := Aside0.mk A190
         clear A190
         by_cases c20 : t160 = x30_2
         ·rw [if_pos c20] at H
          have c20b0 : (t160 == x30_2) = true := beq_iff_eq.mpr c20
          have c20b1 : (t160 != x30_2) = false := bne_eq_false_iff_eq.mpr c20
          clear c20
          by_cases c21 : ((rd_T84 l0_2 x30_2).f2) > 1
          ·rw [if_pos c21] at H
           have c21b0 : decide (1 < ((rd_T84 l0_2 x30_2).f2)) = true := decide_eq_true c21
           clear c21
           obtain rfl := Option.some.inj H
           have p157 : 0 ≤ (x30_2 : Int) := od
           have q157 : x30_2 < (l0_2.length : Int) := od
           obtain ⟨ad157, e157, hx157_0, hx157_1, hx157_2⟩ := at_T84 HR0_2.out x30_2 p157 q157
           cases e157
           replace hx157_0 := hc HB hx157_0
           replace hx157_1 := hc HB hx157_1
           replace hx157_2 := hc HB hx157_2
           replace p157 := eq_true p157
           replace q157 := eq_true q157
           go_wp2_with (first | ((with_reducible refine gate_dst (N := 4) rfl ?_); (try (refine gate_guard (by rfl) ?_; dsimp only)); refine bx 4 #[.string (⟨#[]⟩ : ByteArray), .string (⟨#[]⟩ : ByteArray), .int .i64 0] 84 ?_; intro gb158 hg w22 hbox hb; have BK158 := am hbox; have GW158 := gs1 hg HB GE155; have GE158 := gs1 hg HB GE155; replace HB := Aside0.mk (below_step (be1 HB GE155) hb); have NB155_158 := Aside0.mk ((by rw [hg]; exact Nat.ne_of_lt (bl BK155) : gb155 ≠ gb158)); have NB158_155 := Aside0.mk ((by rw [hg]; exact Nat.ne_of_gt (bl BK155) : gb158 ≠ gb155)); replace BK155 := bb BK155 hb; clear hb hbox hg; have hnb23 := NB158_155.out; have hnc23 := NB155_158.out; have hcz24_0 := bz3 BK158) | ((with_reducible refine gate_callee (f := 80) rfl ?_); refine gl 36 Try.func80 #[.agg #[.string ((rd_T84 l0_2 x30_2).f0), .string ((rd_T84 l0_2 x30_2).f1), .int .i64 ((rd_T84 l0_2 x30_2).f2)]] ?_; (with_reducible refine (spec_ItemOk.calls k2 ((rd_T84 l0_2 x30_2).f0) ((rd_T84 l0_2 x30_2).f1) ((rd_T84 l0_2 x30_2).f2) true _ A17.out).mono ?_); rintro e w25 ⟨rfl, hb⟩; refine ⟨_, rfl, ?_⟩; replace BK155 := Aside0.mk (blk_below (g := gb155) (o := .cells #[.int .i64 a0_0, .int .i64 a0_1, .slice (some ad157) l0_2.length c0_2] 53 (0, 0)) (bf1 BK155 NB155_158) hb); replace BK158 := Aside0.mk (blk_below (g := gb158) (o := .cells #[.string ((rd_T84 l0_2 x30_2).f0), .string ((rd_T84 l0_2 x30_2).f1), .int .i64 ((rd_T84 l0_2 x30_2).f2)] 84 (0, 0)) (by (with_reducible repeat (first | refine blk_drewN ?_ _ | refine blk_drew ?_ | refine blk_alloc ?_ _)); refine blk_put (cs := #[.string ((rd_T84 l0_2 x30_2).f0), .string ((rd_T84 l0_2 x30_2).f1), .int .i64 0]) ?_ 2 _ rfl; (with_reducible repeat (first | refine blk_drewN ?_ _ | refine blk_drew ?_ | refine blk_alloc ?_ _)); refine blk_put (cs := #[.string ((rd_T84 l0_2 x30_2).f0), .string (⟨#[]⟩ : ByteArray), .int .i64 0]) ?_ 1 _ rfl; (with_reducible repeat (first | refine blk_drewN ?_ _ | refine blk_drew ?_ | refine blk_alloc ?_ _)); refine blk_put (cs := #[.string (⟨#[]⟩ : ByteArray), .string (⟨#[]⟩ : ByteArray), .int .i64 0]) ?_ 0 _ rfl; (with_reducible repeat (first | refine blk_drewN ?_ _ | refine blk_drew ?_ | refine blk_alloc ?_ _)); exact BK158.out) hb); replace HB := Aside0.mk (below_step (be2 HB GE155 GE158) hb); (try clear hb); have hcz26_0 := bz3 BK155; have hcz27_0 := bz3 BK158) | (go_at_call 81; (with_reducible refine (spec_l10At.calls k2 _ _ l0_2 ((rd_T84 l0_2 x30_2).f0) t160 _ (cb HR0_2 HB) HC0_2.out A19.out).mono ?_); rintro e w28 ⟨rfl, hb⟩; replace BK155 := bb BK155 hb; replace BK158 := bb BK158 hb; replace HB := Aside0.mk (below_step (be2 HB GE155 GE158) hb); (try clear hb); have hcz29_0 := bz3 BK158))
           go_ret
           exact ⟨er, be2 HB GE155 GE158⟩
          rw [if_neg c21] at H
          have c21b0 : decide (1 < ((rd_T84 l0_2 x30_2).f2)) = false := decide_eq_false c21
          clear c21
          by_cases c30 : ((rd_T84 l0_2 x30_2).f2) = 1
          ·rw [if_pos c30] at H
           have c30b0 : (((rd_T84 l0_2 x30_2).f2) == 1) = true := beq_iff_eq.mpr c30
           have c30b1 : (((rd_T84 l0_2 x30_2).f2) != 1) = false := bne_eq_false_iff_eq.mpr c30
           clear c30
           by_cases c31 : a0_0 = 3
           ·rw [if_pos c31] at H
            have c31b0 : (a0_0 == 3) = true := beq_iff_eq.mpr c31
            have c31b1 : (a0_0 != 3) = false := bne_eq_false_iff_eq.mpr c31
            clear c31
            have H' := Aside0.mk H
            clear H
            have p157 : 0 ≤ (x30_2 : Int) := od
            have q157 : x30_2 < (l0_2.length : Int) := od
            obtain ⟨ad157, e157, hx157_0, hx157_1, hx157_2⟩ := at_T84 HR0_2.out x30_2 p157 q157
            cases e157
            replace hx157_0 := hc HB hx157_0
            replace hx157_1 := hc HB hx157_1
            replace hx157_2 := hc HB hx157_2
            replace p157 := eq_true p157
            replace q157 := eq_true q157
            go_wp2_with (first | ((with_reducible refine gate_dst (N := 4) rfl ?_); (try (refine gate_guard (by rfl) ?_; dsimp only)); refine bx 4 #[.string (⟨#[]⟩ : ByteArray), .string (⟨#[]⟩ : ByteArray), .int .i64 0] 84 ?_; intro gb158 hg w32 hbox hb; have BK158 := am hbox; have GW158 := gs1 hg HB GE155; have GE158 := gs1 hg HB GE155; replace HB := Aside0.mk (below_step (be1 HB GE155) hb); have NB155_158 := Aside0.mk ((by rw [hg]; exact Nat.ne_of_lt (bl BK155) : gb155 ≠ gb158)); have NB158_155 := Aside0.mk ((by rw [hg]; exact Nat.ne_of_gt (bl BK155) : gb158 ≠ gb155)); replace BK155 := bb BK155 hb; clear hb hbox hg; have hnb33 := NB158_155.out; have hnc33 := NB155_158.out; have hcz34_0 := bz3 BK158) | ((with_reducible refine gate_callee (f := 80) rfl ?_); refine gl 36 Try.func80 #[.agg #[.string ((rd_T84 l0_2 x30_2).f0), .string ((rd_T84 l0_2 x30_2).f1), .int .i64 ((rd_T84 l0_2 x30_2).f2)]] ?_; (with_reducible refine (spec_ItemOk.calls k2 ((rd_T84 l0_2 x30_2).f0) ((rd_T84 l0_2 x30_2).f1) ((rd_T84 l0_2 x30_2).f2) true _ A17.out).mono ?_); rintro e w35 ⟨rfl, hb⟩; refine ⟨_, rfl, ?_⟩; replace BK155 := Aside0.mk (blk_below (g := gb155) (o := .cells #[.int .i64 a0_0, .int .i64 a0_1, .slice (some ad157) l0_2.length c0_2] 53 (0, 0)) (bf1 BK155 NB155_158) hb); replace BK158 := Aside0.mk (blk_below (g := gb158) (o := .cells #[.string ((rd_T84 l0_2 x30_2).f0), .string ((rd_T84 l0_2 x30_2).f1), .int .i64 ((rd_T84 l0_2 x30_2).f2)] 84 (0, 0)) (by (with_reducible repeat (first | refine blk_drewN ?_ _ | refine blk_drew ?_ | refine blk_alloc ?_ _)); refine blk_put (cs := #[.string ((rd_T84 l0_2 x30_2).f0), .string ((rd_T84 l0_2 x30_2).f1), .int .i64 0]) ?_ 2 _ rfl; (with_reducible repeat (first | refine blk_drewN ?_ _ | refine blk_drew ?_ | refine blk_alloc ?_ _)); refine blk_put (cs := #[.string ((rd_T84 l0_2 x30_2).f0), .string (⟨#[]⟩ : ByteArray), .int .i64 0]) ?_ 1 _ rfl; (with_reducible repeat (first | refine blk_drewN ?_ _ | refine blk_drew ?_ | refine blk_alloc ?_ _)); refine blk_put (cs := #[.string (⟨#[]⟩ : ByteArray), .string (⟨#[]⟩ : ByteArray), .int .i64 0]) ?_ 0 _ rfl; (with_reducible repeat (first | refine blk_drewN ?_ _ | refine blk_drew ?_ | refine blk_alloc ?_ _)); exact BK158.out) hb); replace HB := Aside0.mk (below_step (be2 HB GE155 GE158) hb); (try clear hb); have hcz36_0 := bz3 BK155; have hcz37_0 := bz3 BK158) | (go_at_call 81; (with_reducible refine (spec_l10At.calls k2 _ _ l0_2 ((rd_T84 l0_2 x30_2).f0) t160 _ (cb HR0_2 HB) HC0_2.out A19.out).mono ?_); rintro e w38 ⟨rfl, hb⟩; replace BK155 := bb BK155 hb; replace BK158 := bb BK158 hb; replace HB := Aside0.mk (below_step (be2 HB GE155 GE158) hb); (try clear hb); have hcz39_0 := bz3 BK158; have hcz40_0 := bz3 BK155))
            go_roundg k2
            case measure => have := HJ1.out; have := HK2.out; omega
            case rel => exact ⟨(wrap64 (x30_2 + 1)), rs, H', ⟨by have := HJ1.out; have := HK2.out; omega⟩, ⟨bk BK155⟩, ⟨be2 HB GE155 GE158⟩⟩
           rw [if_neg c31] at H
           have c31b0 : (a0_0 == 3) = false := beq_eq_false_iff_ne.mpr c31
           have c31b1 : (a0_0 != 3) = true := bne_iff_ne.mpr c31
           obtain rfl := Option.some.inj H
           have p157 : 0 ≤ (x30_2 : Int) := od
           have q157 : x30_2 < (l0_2.length : Int) := od
           obtain ⟨ad157, e157, hx157_0, hx157_1, hx157_2⟩ := at_T84 HR0_2.out x30_2 p157 q157
           cases e157
           replace hx157_0 := hc HB hx157_0
           replace hx157_1 := hc HB hx157_1
           replace hx157_2 := hc HB hx157_2
           replace p157 := eq_true p157
           replace q157 := eq_true q157
           go_wp2_with (first | ((with_reducible refine gate_dst (N := 4) rfl ?_); (try (refine gate_guard (by rfl) ?_; dsimp only)); refine bx 4 #[.string (⟨#[]⟩ : ByteArray), .string (⟨#[]⟩ : ByteArray), .int .i64 0] 84 ?_; intro gb158 hg w41 hbox hb; have BK158 := am hbox; have GW158 := gs1 hg HB GE155; have GE158 := gs1 hg HB GE155; replace HB := Aside0.mk (below_step (be1 HB GE155) hb); have NB155_158 := Aside0.mk ((by rw [hg]; exact Nat.ne_of_lt (bl BK155) : gb155 ≠ gb158)); have NB158_155 := Aside0.mk ((by rw [hg]; exact Nat.ne_of_gt (bl BK155) : gb158 ≠ gb155)); replace BK155 := bb BK155 hb; clear hb hbox hg; have hnb42 := NB158_155.out; have hnc42 := NB155_158.out; have hcz43_0 := bz3 BK158) | ((with_reducible refine gate_callee (f := 80) rfl ?_); refine gl 36 Try.func80 #[.agg #[.string ((rd_T84 l0_2 x30_2).f0), .string ((rd_T84 l0_2 x30_2).f1), .int .i64 ((rd_T84 l0_2 x30_2).f2)]] ?_; (with_reducible refine (spec_ItemOk.calls k2 ((rd_T84 l0_2 x30_2).f0) ((rd_T84 l0_2 x30_2).f1) ((rd_T84 l0_2 x30_2).f2) true _ A17.out).mono ?_); rintro e w44 ⟨rfl, hb⟩; refine ⟨_, rfl, ?_⟩; replace BK155 := Aside0.mk (blk_below (g := gb155) (o := .cells #[.int .i64 a0_0, .int .i64 a0_1, .slice (some ad157) l0_2.length c0_2] 53 (0, 0)) (bf1 BK155 NB155_158) hb); replace BK158 := Aside0.mk (blk_below (g := gb158) (o := .cells #[.string ((rd_T84 l0_2 x30_2).f0), .string ((rd_T84 l0_2 x30_2).f1), .int .i64 ((rd_T84 l0_2 x30_2).f2)] 84 (0, 0)) (by (with_reducible repeat (first | refine blk_drewN ?_ _ | refine blk_drew ?_ | refine blk_alloc ?_ _)); refine blk_put (cs := #[.string ((rd_T84 l0_2 x30_2).f0), .string ((rd_T84 l0_2 x30_2).f1), .int .i64 0]) ?_ 2 _ rfl; (with_reducible repeat (first | refine blk_drewN ?_ _ | refine blk_drew ?_ | refine blk_alloc ?_ _)); refine blk_put (cs := #[.string ((rd_T84 l0_2 x30_2).f0), .string (⟨#[]⟩ : ByteArray), .int .i64 0]) ?_ 1 _ rfl; (with_reducible repeat (first | refine blk_drewN ?_ _ | refine blk_drew ?_ | refine blk_alloc ?_ _)); refine blk_put (cs := #[.string (⟨#[]⟩ : ByteArray), .string (⟨#[]⟩ : ByteArray), .int .i64 0]) ?_ 0 _ rfl; (with_reducible repeat (first | refine blk_drewN ?_ _ | refine blk_drew ?_ | refine blk_alloc ?_ _)); exact BK158.out) hb); replace HB := Aside0.mk (below_step (be2 HB GE155 GE158) hb); (try clear hb); have hcz45_0 := bz3 BK155; have hcz46_0 := bz3 BK158) | (go_at_call 81; (with_reducible refine (spec_l10At.calls k2 _ _ l0_2 ((rd_T84 l0_2 x30_2).f0) t160 _ (cb HR0_2 HB) HC0_2.out A19.out).mono ?_); rintro e w47 ⟨rfl, hb⟩; replace BK155 := bb BK155 hb; replace BK158 := bb BK158 hb; replace HB := Aside0.mk (below_step (be2 HB GE155 GE158) hb); (try clear hb); have hcz48_0 := bz3 BK158; have hcz49_0 := bz3 BK155))
           go_ret
           exact ⟨er, be2 HB GE155 GE158⟩
          rw [if_neg c30] at H
          have c30b0 : (((rd_T84 l0_2 x30_2).f2) == 1) = false := beq_eq_false_iff_ne.mpr c30
          have c30b1 : (((rd_T84 l0_2 x30_2).f2) != 1) = true := bne_iff_ne.mpr c30
          have H' := Aside0.mk H
          clear H
          have p157 : 0 ≤ (x30_2 : Int) := od
          have q157 : x30_2 < (l0_2.length : Int) := od
          obtain ⟨ad157, e157, hx157_0, hx157_1, hx157_2⟩ := at_T84 HR0_2.out x30_2 p157 q157
          cases e157
          replace hx157_0 := hc HB hx157_0
          replace hx157_1 := hc HB hx157_1
          replace hx157_2 := hc HB hx157_2
          replace p157 := eq_true p157
          replace q157 := eq_true q157
          go_wp2_with (first | ((with_reducible refine gate_dst (N := 4) rfl ?_); (try (refine gate_guard (by rfl) ?_; dsimp only)); refine bx 4 #[.string (⟨#[]⟩ : ByteArray), .string (⟨#[]⟩ : ByteArray), .int .i64 0] 84 ?_; intro gb158 hg w50 hbox hb; have BK158 := am hbox; have GW158 := gs1 hg HB GE155; have GE158 := gs1 hg HB GE155; replace HB := Aside0.mk (below_step (be1 HB GE155) hb); have NB155_158 := Aside0.mk ((by rw [hg]; exact Nat.ne_of_lt (bl BK155) : gb155 ≠ gb158)); have NB158_155 := Aside0.mk ((by rw [hg]; exact Nat.ne_of_gt (bl BK155) : gb158 ≠ gb155)); replace BK155 := bb BK155 hb; clear hb hbox hg; have hnb51 := NB158_155.out; have hnc51 := NB155_158.out; have hcz52_0 := bz3 BK158) | ((with_reducible refine gate_callee (f := 80) rfl ?_); refine gl 36 Try.func80 #[.agg #[.string ((rd_T84 l0_2 x30_2).f0), .string ((rd_T84 l0_2 x30_2).f1), .int .i64 ((rd_T84 l0_2 x30_2).f2)]] ?_; (with_reducible refine (spec_ItemOk.calls k2 ((rd_T84 l0_2 x30_2).f0) ((rd_T84 l0_2 x30_2).f1) ((rd_T84 l0_2 x30_2).f2) true _ A17.out).mono ?_); rintro e w53 ⟨rfl, hb⟩; refine ⟨_, rfl, ?_⟩; replace BK155 := Aside0.mk (blk_below (g := gb155) (o := .cells #[.int .i64 a0_0, .int .i64 a0_1, .slice (some ad157) l0_2.length c0_2] 53 (0, 0)) (bf1 BK155 NB155_158) hb); replace BK158 := Aside0.mk (blk_below (g := gb158) (o := .cells #[.string ((rd_T84 l0_2 x30_2).f0), .string ((rd_T84 l0_2 x30_2).f1), .int .i64 ((rd_T84 l0_2 x30_2).f2)] 84 (0, 0)) (by (with_reducible repeat (first | refine blk_drewN ?_ _ | refine blk_drew ?_ | refine blk_alloc ?_ _)); refine blk_put (cs := #[.string ((rd_T84 l0_2 x30_2).f0), .string ((rd_T84 l0_2 x30_2).f1), .int .i64 0]) ?_ 2 _ rfl; (with_reducible repeat (first | refine blk_drewN ?_ _ | refine blk_drew ?_ | refine blk_alloc ?_ _)); refine blk_put (cs := #[.string ((rd_T84 l0_2 x30_2).f0), .string (⟨#[]⟩ : ByteArray), .int .i64 0]) ?_ 1 _ rfl; (with_reducible repeat (first | refine blk_drewN ?_ _ | refine blk_drew ?_ | refine blk_alloc ?_ _)); refine blk_put (cs := #[.string (⟨#[]⟩ : ByteArray), .string (⟨#[]⟩ : ByteArray), .int .i64 0]) ?_ 0 _ rfl; (with_reducible repeat (first | refine blk_drewN ?_ _ | refine blk_drew ?_ | refine blk_alloc ?_ _)); exact BK158.out) hb); replace HB := Aside0.mk (below_step (be2 HB GE155 GE158) hb); (try clear hb); have hcz54_0 := bz3 BK155; have hcz55_0 := bz3 BK158) | (go_at_call 81; (with_reducible refine (spec_l10At.calls k2 _ _ l0_2 ((rd_T84 l0_2 x30_2).f0) t160 _ (cb HR0_2 HB) HC0_2.out A19.out).mono ?_); rintro e w56 ⟨rfl, hb⟩; replace BK155 := bb BK155 hb; replace BK158 := bb BK158 hb; replace HB := Aside0.mk (below_step (be2 HB GE155 GE158) hb); (try clear hb); have hcz57_0 := bz3 BK158))
          go_roundg k2
          case measure => have := HJ1.out; have := HK2.out; omega
          case rel => exact ⟨(wrap64 (x30_2 + 1)), rs, H', ⟨by have := HJ1.out; have := HK2.out; omega⟩, ⟨bk BK155⟩, ⟨be2 HB GE155 GE158⟩⟩
         rw [if_neg c20] at H
         have c20b0 : (t160 == x30_2) = false := beq_eq_false_iff_ne.mpr c20
         have c20b1 : (t160 != x30_2) = true := bne_iff_ne.mpr c20
         obtain rfl := Option.some.inj H
         have p157 : 0 ≤ (x30_2 : Int) := od
         have q157 : x30_2 < (l0_2.length : Int) := od
         obtain ⟨ad157, e157, hx157_0, hx157_1, hx157_2⟩ := at_T84 HR0_2.out x30_2 p157 q157
         cases e157
         replace hx157_0 := hc HB hx157_0
         replace hx157_1 := hc HB hx157_1
         replace hx157_2 := hc HB hx157_2
         replace p157 := eq_true p157
         replace q157 := eq_true q157
         go_wp2_with (first | ((with_reducible refine gate_dst (N := 4) rfl ?_); (try (refine gate_guard (by rfl) ?_; dsimp only)); refine bx 4 #[.string (⟨#[]⟩ : ByteArray), .string (⟨#[]⟩ : ByteArray), .int .i64 0] 84 ?_; intro gb158 hg w58 hbox hb; have BK158 := am hbox; have GW158 := gs1 hg HB GE155; have GE158 := gs1 hg HB GE155; replace HB := Aside0.mk (below_step (be1 HB GE155) hb); have NB155_158 := Aside0.mk ((by rw [hg]; exact Nat.ne_of_lt (bl BK155) : gb155 ≠ gb158)); have NB158_155 := Aside0.mk ((by rw [hg]; exact Nat.ne_of_gt (bl BK155) : gb158 ≠ gb155)); replace BK155 := bb BK155 hb; clear hb hbox hg; have hnb59 := NB158_155.out; have hnc59 := NB155_158.out; have hcz60_0 := bz3 BK158) | ((with_reducible refine gate_callee (f := 80) rfl ?_); refine gl 36 Try.func80 #[.agg #[.string ((rd_T84 l0_2 x30_2).f0), .string ((rd_T84 l0_2 x30_2).f1), .int .i64 ((rd_T84 l0_2 x30_2).f2)]] ?_; (with_reducible refine (spec_ItemOk.calls k2 ((rd_T84 l0_2 x30_2).f0) ((rd_T84 l0_2 x30_2).f1) ((rd_T84 l0_2 x30_2).f2) true _ A17.out).mono ?_); rintro e w61 ⟨rfl, hb⟩; refine ⟨_, rfl, ?_⟩; replace BK155 := Aside0.mk (blk_below (g := gb155) (o := .cells #[.int .i64 a0_0, .int .i64 a0_1, .slice (some ad157) l0_2.length c0_2] 53 (0, 0)) (bf1 BK155 NB155_158) hb); replace BK158 := Aside0.mk (blk_below (g := gb158) (o := .cells #[.string ((rd_T84 l0_2 x30_2).f0), .string ((rd_T84 l0_2 x30_2).f1), .int .i64 ((rd_T84 l0_2 x30_2).f2)] 84 (0, 0)) (by (with_reducible repeat (first | refine blk_drewN ?_ _ | refine blk_drew ?_ | refine blk_alloc ?_ _)); refine blk_put (cs := #[.string ((rd_T84 l0_2 x30_2).f0), .string ((rd_T84 l0_2 x30_2).f1), .int .i64 0]) ?_ 2 _ rfl; (with_reducible repeat (first | refine blk_drewN ?_ _ | refine blk_drew ?_ | refine blk_alloc ?_ _)); refine blk_put (cs := #[.string ((rd_T84 l0_2 x30_2).f0), .string (⟨#[]⟩ : ByteArray), .int .i64 0]) ?_ 1 _ rfl; (with_reducible repeat (first | refine blk_drewN ?_ _ | refine blk_drew ?_ | refine blk_alloc ?_ _)); refine blk_put (cs := #[.string (⟨#[]⟩ : ByteArray), .string (⟨#[]⟩ : ByteArray), .int .i64 0]) ?_ 0 _ rfl; (with_reducible repeat (first | refine blk_drewN ?_ _ | refine blk_drew ?_ | refine blk_alloc ?_ _)); exact BK158.out) hb); replace HB := Aside0.mk (below_step (be2 HB GE155 GE158) hb); (try clear hb); have hcz62_0 := bz3 BK155; have hcz63_0 := bz3 BK158) | (go_at_call 81; (with_reducible refine (spec_l10At.calls k2 _ _ l0_2 ((rd_T84 l0_2 x30_2).f0) t160 _ (cb HR0_2 HB) HC0_2.out A19.out).mono ?_); rintro e w64 ⟨rfl, hb⟩; replace BK155 := bb BK155 hb; replace BK158 := bb BK158 hb; replace HB := Aside0.mk (below_step (be2 HB GE155 GE158) hb); (try clear hb)))
         go_ret
         exact ⟨er, be2 HB GE155 GE158⟩
        replace c18 := Bool.eq_false_iff.mpr c18
        subst c18
        rw [if_neg (show ¬ (false = true) by decide)] at H
        obtain rfl := Option.some.inj H
        have p157 : 0 ≤ (x30_2 : Int) := od
        have q157 : x30_2 < (l0_2.length : Int) := od
        obtain ⟨ad157, e157, hx157_0, hx157_1, hx157_2⟩ := at_T84 HR0_2.out x30_2 p157 q157
        cases e157
        replace hx157_0 := hc HB hx157_0
        replace hx157_1 := hc HB hx157_1
        replace hx157_2 := hc HB hx157_2
        replace p157 := eq_true p157
        replace q157 := eq_true q157
        go_wp2_with (first | ((with_reducible refine gate_dst (N := 4) rfl ?_); (try (refine gate_guard (by rfl) ?_; dsimp only)); refine bx 4 #[.string (⟨#[]⟩ : ByteArray), .string (⟨#[]⟩ : ByteArray), .int .i64 0] 84 ?_; intro gb158 hg w65 hbox hb; have BK158 := am hbox; have GW158 := gs1 hg HB GE155; have GE158 := gs1 hg HB GE155; replace HB := Aside0.mk (below_step (be1 HB GE155) hb); have NB155_158 := Aside0.mk ((by rw [hg]; exact Nat.ne_of_lt (bl BK155) : gb155 ≠ gb158)); have NB158_155 := Aside0.mk ((by rw [hg]; exact Nat.ne_of_gt (bl BK155) : gb158 ≠ gb155)); replace BK155 := bb BK155 hb; clear hb hbox hg; have hnb66 := NB158_155.out; have hnc66 := NB155_158.out; have hcz67_0 := bz3 BK158) | ((with_reducible refine gate_callee (f := 80) rfl ?_); refine gl 36 Try.func80 #[.agg #[.string ((rd_T84 l0_2 x30_2).f0), .string ((rd_T84 l0_2 x30_2).f1), .int .i64 ((rd_T84 l0_2 x30_2).f2)]] ?_; (with_reducible refine (spec_ItemOk.calls k2 ((rd_T84 l0_2 x30_2).f0) ((rd_T84 l0_2 x30_2).f1) ((rd_T84 l0_2 x30_2).f2) false _ A17.out).mono ?_); rintro e w68 ⟨rfl, hb⟩; refine ⟨_, rfl, ?_⟩; replace BK155 := Aside0.mk (blk_below (g := gb155) (o := .cells #[.int .i64 a0_0, .int .i64 a0_1, .slice (some ad157) l0_2.length c0_2] 53 (0, 0)) (bf1 BK155 NB155_158) hb); replace BK158 := Aside0.mk (blk_below (g := gb158) (o := .cells #[.string ((rd_T84 l0_2 x30_2).f0), .string ((rd_T84 l0_2 x30_2).f1), .int .i64 ((rd_T84 l0_2 x30_2).f2)] 84 (0, 0)) (by (with_reducible repeat (first | refine blk_drewN ?_ _ | refine blk_drew ?_ | refine blk_alloc ?_ _)); refine blk_put (cs := #[.string ((rd_T84 l0_2 x30_2).f0), .string ((rd_T84 l0_2 x30_2).f1), .int .i64 0]) ?_ 2 _ rfl; (with_reducible repeat (first | refine blk_drewN ?_ _ | refine blk_drew ?_ | refine blk_alloc ?_ _)); refine blk_put (cs := #[.string ((rd_T84 l0_2 x30_2).f0), .string (⟨#[]⟩ : ByteArray), .int .i64 0]) ?_ 1 _ rfl; (with_reducible repeat (first | refine blk_drewN ?_ _ | refine blk_drew ?_ | refine blk_alloc ?_ _)); refine blk_put (cs := #[.string (⟨#[]⟩ : ByteArray), .string (⟨#[]⟩ : ByteArray), .int .i64 0]) ?_ 0 _ rfl; (with_reducible repeat (first | refine blk_drewN ?_ _ | refine blk_drew ?_ | refine blk_alloc ?_ _)); exact BK158.out) hb); replace HB := Aside0.mk (below_step (be2 HB GE155 GE158) hb); (try clear hb)))
        go_ret
        exact ⟨er, be2 HB GE155 GE158⟩
       rw [if_neg c16] at H
       exact absurd H (by simp)
      rw [if_neg c15] at H
      exact absurd H (by simp)
     rw [if_neg c14] at H
     have c14b0 : decide (x30_2 < (l0_2.length : Int)) = false := decide_eq_false c14
     clear c14
     obtain rfl := Option.some.inj H
     go_wp2
     go_ret
     exact ⟨er, be1 HB GE155⟩

/-! ### spec_l11Copy: function 87 -/
def spec_l11Copy.f (a0_0 : Int) (a0_1 : Int) (l0_2 : List (S84)) : Option (Int × Int × (List (S84))) := (some (([] : List (S84)) : List (S84))).bind fun y163 => (if y163.length + l0_2.length < 3518437208883 then (some (a0_0, a0_1, (y163 ++ l0_2))) else (none))
set_option maxHeartbeats 8000000 in
set_option maxRecDepth 100000 in
theorem spec_l11Copy.calls (a0_0 : Int) (a0_1 : Int) (A0_2 : Option Addr) (c0_2 : Nat) (l0_2 : List (S84)) (r1 : Int) (r2 : Int) (r3 : List (S84)) (w : World) (hr0_2 : Kd.C k84 w A0_2 l0_2.length l0_2) (hc0_2 : l0_2.length ≤ c0_2) (h : spec_l11Copy.f a0_0 a0_1 l0_2 = some (r1, r2, r3)) :
  Calls Try.prog 87 #[.agg #[.int .i64 a0_0, .int .i64 a0_1, .slice A0_2 l0_2.length c0_2]] w fun e w' => ∃ v2_ : Value, e = .returned (.agg #[.int .i64 r1, .int .i64 r2, v2_]) ∧ Kd.R k84 84 w' w.heap.size (fun _ => True) v2_ r3 ∧ Below w.heap.size w w' := by
 have hu53 := Try.underlying53
 have HR0_2 := Aside0.mk hr0_2
 have HC0_2 := Aside0.mk hc0_2
 clear hr0_2 hc0_2
 have HB := Aside0.mk (Below.refl w.heap.size w)
 have H : ((some (([] : List (S84)) : List (S84))).bind fun y163 => (if y163.length + l0_2.length < 3518437208883 then (some (a0_0, a0_1, (y163 ++ l0_2))) else (none))) = some (r1, r2, r3) := h
 clear h
 obtain ⟨y163, hy163⟩ : ∃ y_ : List (S84), y_ = (([] : List (S84))) := ⟨_, rfl⟩
 replace H : (if y163.length + l0_2.length < 3518437208883 then (some (a0_0, a0_1, (y163 ++ l0_2))) else (none)) = some (r1, r2, r3) := by first | (rw [hy163]; with_reducible exact H) | (have H2_ := (Option.bind_some _ _).symm.trans H; rw [hy163]; with_reducible exact H2_) | (have H2_ := (Option.bind_some _ _).symm.trans H; with_reducible exact H2_) | with_reducible exact H | (rw [hy163]; exact H) | exact H
 have Ny163 := Aside0.mk hy163
 clear hy163
 by_cases c2 : y163.length + l0_2.length < 3518437208883
 ·rw [if_pos c2] at H
  have LMc2 := Aside0.mk c2
  clear c2
  obtain ⟨y166, hy166⟩ : ∃ y_ : List (S84), y_ = (y163 ++ l0_2) := ⟨_, rfl⟩
  replace H : (some (a0_0, a0_1, y166)) = some (r1, r2, r3) := by first | (rw [hy166]; with_reducible exact H) | (have H2_ := (Option.bind_some _ _).symm.trans H; rw [hy166]; with_reducible exact H2_) | (have H2_ := (Option.bind_some _ _).symm.trans H; with_reducible exact H2_) | with_reducible exact H | (rw [hy166]; exact H) | exact H
  have Ny166 := Aside0.mk hy166
  clear hy166
  simp only [Option.some.injEq, Prod.mk.injEq] at H
  obtain ⟨rfl, rfl, rfl⟩ := H
  go_enter Try.func87, Try.ntmps87
  go_wp2_with (first | ((with_reducible refine gate_dst (N := 1) rfl ?_); refine bx 1 #[.int .i64 a0_0, .int .i64 a0_1, .slice A0_2 l0_2.length c0_2] 53 ?_; intro gb161 hg w3 hbox hb; have BK161 := am hbox; have GW161 := gs0 hg HB; have GE161 := gs0 hg HB; replace HB := s0 HB hb; clear hb hbox hg) | ((with_reducible refine gate_dst (N := 2) rfl ?_); refine bx 2 #[.int .i64 0, .int .i64 0, .slice none 0 0] 53 ?_; intro gb162 hg w4 hbox hb; have BK162 := am hbox; have GW162 := gs1 hg HB GE161; have GE162 := gs1 hg HB GE161; replace HB := Aside0.mk (below_step (be1 HB GE161) hb); have NB161_162 := Aside0.mk ((by rw [hg]; exact Nat.ne_of_lt (bl BK161) : gb161 ≠ gb162)); have NB162_161 := Aside0.mk ((by rw [hg]; exact Nat.ne_of_gt (bl BK161) : gb162 ≠ gb161)); replace BK161 := bb BK161 hb; clear hb hbox hg) | ((with_reducible refine gate_dst (N := 3) rfl ?_); refine Kd.R_lit k84 _ 84 ?hg (N := 3) ?hd (xs := ([] : List (S84))) (inner := []) (ok := fun _ => True) (okp := fun _ => True) ?hr ?hp (fun _ hk => hk) trivial (Below.refl _ _) (Nat.le_refl _) (by simp) ?_; (case hd => rfl); (case hg => rfl); (case hr => first | (go_simp; done) | (go_simp; rfl)); (case hp => exact (Reps.none _ _)); intro v164 w5 ho6 hb hg_ hnew_; clear hg_ hnew_; (first | rw [← Ny163.out] at ho6 | (simp only [Int.reduceToNat] at ho6; rw [← Ny163.out] at ho6)); have HO165 := Aside0.mk (Kd.R_lower ho6 (below_size (be2 HB GE161 GE162))); replace BK161 := bb BK161 hb; replace BK162 := bb BK162 hb; replace HB := Aside0.mk (below_step (be2 HB GE161 GE162) hb); clear hb ho6; have hnb7 := NB161_162.out; have hnc7 := NB162_161.out; have hcz8_0 := bz3 BK161) | ((with_reducible refine gate_builtin (b := .append) (xs := #[.tmp 3, .tmp 5]) rfl ?_); at_builtin; refine Kd.R_append_rows k84 (w0 := w) w.heap.size rfl (.tmp 3) (.tmp 5) 51 84 (.agg #[(.string ⟨#[]⟩), (.string ⟨#[]⟩), (.int .i64 0)]) 40 rfl Try.underlying51 info84 rfl (by decide) (by omega) v164 y163 l0_2 _ _ _ (fun _ => True) (fun _ => False) rfl rfl ?aO ?aR (fun _ _ h => h) (fun _ h => h.elim) ?aF ?aB ?aS ?aL ?_; (case aR => repeat (first | exact (Kd.C_below HR0_2.out HB.out) | (with_reducible refine Kd.C_alloc ?_ _) | (with_reducible refine Kd.C_drewN ?_ _) | (with_reducible refine Kd.C_drew ?_))); (case aB => exact (be2 HB GE161 GE162)); (case aF => exact (fun _ _ => trivial)); (case aO => exact (ro HO165)); (case aS => exact (below_size (be2 HB GE161 GE162))); (case aL => have := LMc2.out; omega); intro v167 w9 ho hb hg hat; rw [← Ny166.out] at ho; replace BK161 := Aside0.mk (blk_grown (g := gb161) (o := .cells #[.int .i64 a0_0, .int .i64 a0_1, .slice A0_2 l0_2.length c0_2] 53 (0, 0)) (bk BK161) hg (Kd.R_ne HO165.out BK161.out (by decide))); replace BK162 := Aside0.mk (blk_grown (g := gb162) (o := .cells #[.int .i64 0, .int .i64 0, .slice none 0 0] 53 (0, 0)) (bk BK162) hg (Kd.R_ne HO165.out BK162.out (by decide))); replace HB := Aside0.mk (hb); have HO168 := Aside0.mk (ho); clear HO165; clear ho hb hg hat; obtain ⟨Ao10, co10, eo10⟩ := Kd.R_slice HO168.out; subst eo10; have hcz11_0 := bz3 BK161; have hcz12_0 := bz3 BK162))
  refine bodyPost_ret (results_cell_row rfl _ _ gb162 53 #[.int .i64 a0_0, .int .i64 a0_1, .slice Ao10 y166.length co10] (0, 0) _ rfl (by (with_reducible repeat (first | refine blk_drewN ?_ _ | refine blk_drew ?_ | refine blk_alloc ?_ _)); refine blk_put (cs := #[.int .i64 a0_0, .int .i64 a0_1, .slice none 0 0]) ?_ 2 _ rfl; (with_reducible repeat (first | refine blk_drewN ?_ _ | refine blk_drew ?_ | refine blk_alloc ?_ _)); refine blk_put (cs := #[.int .i64 a0_0, .int .i64 0, .slice none 0 0]) ?_ 1 _ rfl; (with_reducible repeat (first | refine blk_drewN ?_ _ | refine blk_drew ?_ | refine blk_alloc ?_ _)); refine blk_put (cs := #[.int .i64 0, .int .i64 0, .slice none 0 0]) ?_ 0 _ rfl; (with_reducible repeat (first | refine blk_drewN ?_ _ | refine blk_drew ?_ | refine blk_alloc ?_ _)); refine blk_far ?_ NB162_161.out _; (with_reducible repeat (first | refine blk_drewN ?_ _ | refine blk_drew ?_ | refine blk_alloc ?_ _)); exact BK162.out) Try.underlying53 rfl (by kernel_rfl)) rfl ?_
  exact ⟨_, er, by (with_reducible repeat (first | apply Kd.R_alloc | apply Kd.R_drewN | apply Kd.R_drew)); exact Kd.R_mono (Kd.R_far (p := ⟨gb162, 2, none⟩) (Kd.R_far (p := ⟨gb162, 1, none⟩) (Kd.R_far (p := ⟨gb162, 0, none⟩) (Kd.R_far (p := ⟨gb161, 2, none⟩) (Kd.R_types (Kd.R_types HO168.out BK161.out (by decide)) BK162.out (by decide)) (fun _ hk => hk.1.2) (.slice Ao10 y166.length co10)) (fun _ hk => hk.2) (.int .i64 a0_0)) (fun _ hk => hk.2) (.int .i64 a0_1)) (fun _ hk => hk.2) (.slice Ao10 y166.length co10)) (fun _ hk => trivial), be2 HB GE161 GE162⟩
 rw [if_neg c2] at H
 exact absurd H (by simp)

end Go.Proofs.Ytllaoamaplepmaa.QFnExactRowGet
