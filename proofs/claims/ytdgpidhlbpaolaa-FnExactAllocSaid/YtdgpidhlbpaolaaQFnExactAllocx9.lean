-- made by a program of this session (myprint.py)
import Derived.Test.YtdgpidhlbpaolaaQFnExactAllocx0
import Derived.Test.YtdgpidhlbpaolaaQFnExactAllocx8
namespace Go.Proofs.Ytdgpidhlbpaolaa.QFnExactAlloc
open Go.RowKit Go.Proofs.YtdgpidhlbpaolaaW.PrintWords Go.Proofs.YtdgpidhlbpaolaaW.PrintLast Go.Proofs.YtdgpidhlbpaolaaW.PrintMore
attribute [local go_sem] max2_int min2_int max_two min_two max_three min_three max_four min_four   -- for this text's walks alone
set_option linter.unusedVariables false
set_option linter.unusedSimpArgs false

/-! ### impl_AgesOk: function 59 -/
mutual
def impl_AgesOk.j0 : Nat → Bool → Int → List Int → List (S70) → Option (Bool)
 | 0, _, _, _, _ => none
 | k + 1, x23, x328000, x328001, x328002 => if x23 = true then (some false) else (impl_AgesOk.l0 k x328001 (x328001.length : Int) 0 x328000 x328001 x328002)
def impl_AgesOk.l0 : Nat → List Int → Int → Int → Int → List Int → List (S70) → Option (Bool)
 | 0, _, _, _, _, _, _ => none
 | k + 1, x25, x26, x27, x328000, x328001, x328002 => if x27 < x26 then (if 0 ≤ x27 then (if x27 < (x25.length : Int) then (if (rd x25 x27) < (-1) then (some false) else (if (rd x25 x27) = (-1) then (impl_AgesOk.l0 k x25 x26 (wrap64 (x27 + 1)) x328000 x328001 x328002) else (if (rd x25 x27) = x328000 then (impl_AgesOk.l0 k x25 x26 (wrap64 (x27 + 1)) x328000 x328001 x328002) else (if (rd x25 x27) = (wrap64 (x328000 - 1)) then (impl_AgesOk.l0 k x25 x26 (wrap64 (x27 + 1)) x328000 x328001 x328002) else (some false))))) else (none)) else (none)) else (impl_AgesOk.l1 k x328002 (x328002.length : Int) 0 x328000 x328001 x328002)
def impl_AgesOk.l1 : Nat → List (S70) → Int → Int → Int → List Int → List (S70) → Option (Bool)
 | 0, _, _, _, _, _, _ => none
 | k + 1, x52, x53, x54, x328000, x328001, x328002 => if x54 < x53 then (if 0 ≤ x54 then (if x54 < (x52.length : Int) then ((impl_within.f ((rd_T70 x52 x54).f1) 0 x328000).bind fun t333 => (if t333 = true then (if x54 > 0 then (if 0 ≤ (wrap64 (x54 - 1)) then (if (wrap64 (x54 - 1)) < (x328002.length : Int) then (if ((rd_T70 x328002 (wrap64 (x54 - 1))).f1) > ((rd_T70 x52 x54).f1) then (some false) else ((impl_Ages_inLimbo.f k x328000 x328001 x328002 ((rd_T70 x52 x54).f0)).bind fun t335 => (if t335 = x54 then (impl_AgesOk.l1 k x52 x53 (wrap64 (x54 + 1)) x328000 x328001 x328002) else (some false)))) else (none)) else (none)) else ((impl_Ages_inLimbo.f k x328000 x328001 x328002 ((rd_T70 x52 x54).f0)).bind fun t336 => (if t336 = x54 then (impl_AgesOk.l1 k x52 x53 (wrap64 (x54 + 1)) x328000 x328001 x328002) else (some false)))) else (some false))) else (none)) else (none)) else (some true)
end
def impl_AgesOk.f (k : Nat) (a0_0 : Int) (l0_1 : List Int) (l0_2 : List (S70)) : Option (Bool) := (impl_isNum.f a0_0).bind fun t328 => (if t328 = true then ((impl_within.f (l0_1.length : Int) 1 8).bind fun t329 => (if t329 = true then (impl_AgesOk.j0 k (decide ((l0_2.length : Int) > 100)) a0_0 l0_1 l0_2) else (impl_AgesOk.j0 k true a0_0 l0_1 l0_2))) else (impl_AgesOk.j0 k true a0_0 l0_1 l0_2))
theorem impl_AgesOk.mono_l : ∀ k, (∀ y0 y1 y2 y3, LeO (impl_AgesOk.j0 k y0 y1 y2 y3) (impl_AgesOk.j0 (k + 1) y0 y1 y2 y3)) ∧ (∀ y0 y1 y2 y3 y4 y5, LeO (impl_AgesOk.l0 k y0 y1 y2 y3 y4 y5) (impl_AgesOk.l0 (k + 1) y0 y1 y2 y3 y4 y5)) ∧ (∀ y0 y1 y2 y3 y4 y5, LeO (impl_AgesOk.l1 k y0 y1 y2 y3 y4 y5) (impl_AgesOk.l1 (k + 1) y0 y1 y2 y3 y4 y5))
 | 0 => ⟨fun _ _ _ _ r h => by simp [impl_AgesOk.j0] at h, fun _ _ _ _ _ _ r h => by simp [impl_AgesOk.l0] at h, fun _ _ _ _ _ _ r h => by simp [impl_AgesOk.l1] at h⟩
 | k + 1 => by
  obtain ⟨ih0, ih1, ih2⟩ := impl_AgesOk.mono_l k
  refine ⟨?_, ?_, ?_⟩
  ·intro y0 y1 y2 y3
   unfold impl_AgesOk.j0
   repeat' first
   | (with_reducible exact ih0 _ _ _ _)
   | (with_reducible exact ih1 _ _ _ _ _ _)
   | (with_reducible exact ih2 _ _ _ _ _ _)
   | (with_reducible exact impl_Ages_inLimbo.mono _ _ _ _ _)
   | (with_reducible exact LeO.refl _)
   | (with_reducible exact LeO.none _)
   | (with_reducible refine LeO.ite ?_ ?_)
   | (with_reducible refine LeO.bind ?_ (fun _ => ?_))
   | exact ih0 _ _ _ _
   | exact ih1 _ _ _ _ _ _
   | exact ih2 _ _ _ _ _ _
   | exact impl_Ages_inLimbo.mono _ _ _ _ _
   | exact LeO.none _
   | refine LeO.ite ?_ ?_
   | refine LeO.bind ?_ (fun _ => ?_)
  ·intro y0 y1 y2 y3 y4 y5
   unfold impl_AgesOk.l0
   repeat' first
   | (with_reducible exact ih0 _ _ _ _)
   | (with_reducible exact ih1 _ _ _ _ _ _)
   | (with_reducible exact ih2 _ _ _ _ _ _)
   | (with_reducible exact impl_Ages_inLimbo.mono _ _ _ _ _)
   | (with_reducible exact LeO.refl _)
   | (with_reducible exact LeO.none _)
   | (with_reducible refine LeO.ite ?_ ?_)
   | (with_reducible refine LeO.bind ?_ (fun _ => ?_))
   | exact ih0 _ _ _ _
   | exact ih1 _ _ _ _ _ _
   | exact ih2 _ _ _ _ _ _
   | exact impl_Ages_inLimbo.mono _ _ _ _ _
   | exact LeO.none _
   | refine LeO.ite ?_ ?_
   | refine LeO.bind ?_ (fun _ => ?_)
  intro y0 y1 y2 y3 y4 y5
  unfold impl_AgesOk.l1
  repeat' first
  | (with_reducible exact ih0 _ _ _ _)
  | (with_reducible exact ih1 _ _ _ _ _ _)
  | (with_reducible exact ih2 _ _ _ _ _ _)
  | (with_reducible exact impl_Ages_inLimbo.mono _ _ _ _ _)
  | (with_reducible exact LeO.refl _)
  | (with_reducible exact LeO.none _)
  | (with_reducible refine LeO.ite ?_ ?_)
  | (with_reducible refine LeO.bind ?_ (fun _ => ?_))
  | exact ih0 _ _ _ _
  | exact ih1 _ _ _ _ _ _
  | exact ih2 _ _ _ _ _ _
  | exact impl_Ages_inLimbo.mono _ _ _ _ _
  | exact LeO.none _
  | refine LeO.ite ?_ ?_
  | refine LeO.bind ?_ (fun _ => ?_)
theorem impl_AgesOk.mono : ∀ a0 a1 a2 k, LeO (impl_AgesOk.f k a0 a1 a2) (impl_AgesOk.f (k + 1) a0 a1 a2) := by
 intro a0 a1 a2 k
 obtain ⟨ih0, ih1, ih2⟩ := impl_AgesOk.mono_l k
 unfold impl_AgesOk.f
 repeat' first
   | (with_reducible exact ih0 _ _ _ _)
   | (with_reducible exact ih1 _ _ _ _ _ _)
   | (with_reducible exact ih2 _ _ _ _ _ _)
   | (with_reducible exact impl_Ages_inLimbo.mono _ _ _ _ _)
   | (with_reducible exact LeO.refl _)
   | (with_reducible exact LeO.none _)
   | (with_reducible refine LeO.ite ?_ ?_)
   | (with_reducible refine LeO.bind ?_ (fun _ => ?_))
   | exact ih0 _ _ _ _
   | exact ih1 _ _ _ _ _ _
   | exact ih2 _ _ _ _ _ _
   | exact impl_Ages_inLimbo.mono _ _ _ _ _
   | exact LeO.none _
   | refine LeO.ite ?_ ?_
   | refine LeO.bind ?_ (fun _ => ?_)
def impl_AgesOk.T12 : Bool × List (List Nat × List Nat) := (true, [([], []), ([0], [0]), ([], []), ([2], [2]), ([1, 3], [1, 3]), ([4], [4]), ([5, 4], [5]), ([6], [6]), ([7, 6], [6, 7]), ([8, 6, 6], [6, 8]), ([9], [9]), ([10, 9], [9, 10]), ([9], [9]), ([12, 9], [9, 12]), ([11, 13, 9], [9, 11, 13]), ([14, 9], [9, 14]), ([15, 9], [9, 15]), ([9], [9]), ([17, 9], [9, 17]), ([16, 18, 9], [9, 16, 18]), ([9, 19, 6], [6, 9, 19]), ([6, 20], [6, 20]), ([21, 9], [21]), ([22], [22]), ([22], [22]), ([24, 22], [22, 24]), ([23, 25, 22, 22], [22, 23, 25]), ([22], [22]), ([26, 27, 22], [22, 26, 27]), ([22, 28], [22, 28])])
def impl_AgesOk.B12 : List Nat := [0, 1, 0, 4, 15, 31, 63, 127, 255, 511, 1023, 2047, 1023, 5119, 16383, 32767, 65535, 1023, 132095, 524287, 1048575, 2097151, 4194303, 8388607, 8388607, 25165823, 67108863, 8388607, 268435455, 536870911]
theorem impl_AgesOk.tab12 : rtab .any (opsOf Try.f59 12) = impl_AgesOk.T12 := by kernel_rfl
theorem impl_AgesOk.bits12 : waitsOk impl_AgesOk.T12.2 impl_AgesOk.B12 = true := by kernel_rfl
set_option maxHeartbeats 8000000 in
set_option maxRecDepth 100000 in
theorem impl_AgesOk.calls (k : Nat) (a0_0 : Int) (A0_1 : Option Addr) (c0_1 : Nat) (l0_1 : List Int) (A0_2 : Option Addr) (c0_2 : Nat) (l0_2 : List (S70)) (r : Bool) (w : World) (hr0_1 : Kd.C (Kd.int .i64) w A0_1 l0_1.length l0_1) (hc0_1 : l0_1.length ≤ c0_1) (hr0_2 : Kd.C k70 w A0_2 l0_2.length l0_2) (hc0_2 : l0_2.length ≤ c0_2) (h : impl_AgesOk.f k a0_0 l0_1 l0_2 = some r) :
  Calls Try.prog 59 #[.agg #[.int .i64 a0_0, .slice A0_1 l0_1.length c0_1, .slice A0_2 l0_2.length c0_2]] w fun e w' => e = .returned (.bool r) ∧ Below w.heap.size w w' := by
 have hu25 := Try.underlying25
 have hu70 := Try.underlying70
 have HR0_1 := Aside0.mk hr0_1
 have HC0_1 := Aside0.mk hc0_1
 clear hr0_1 hc0_1
 have HR0_2 := Aside0.mk hr0_2
 have HC0_2 := Aside0.mk hc0_2
 clear hr0_2 hc0_2
 have HB := Aside0.mk (Below.refl w.heap.size w)
 have H : ((impl_isNum.f a0_0).bind fun t328 => (if t328 = true then ((impl_within.f (l0_1.length : Int) 1 8).bind fun t329 => (if t329 = true then (impl_AgesOk.j0 k (decide ((l0_2.length : Int) > 100)) a0_0 l0_1 l0_2) else (impl_AgesOk.j0 k true a0_0 l0_1 l0_2))) else (impl_AgesOk.j0 k true a0_0 l0_1 l0_2))) = some r := h
 clear h
 have HC2 := Aside0.mk H
 clear H
 go_enter Try.func59, Try.ntmps59
 go_upto_region 1 with (first | ((with_reducible refine gate_dst (N := 1) rfl ?_); (try (refine gate_guard (by rfl) ?_; dsimp only)); refine bx 1 #[.int .i64 a0_0, .slice A0_1 l0_1.length c0_1, .slice A0_2 l0_2.length c0_2] 25 ?_; intro gb327 hg w3 hbox hb; have BK327 := am hbox; have GW327 := gs0 hg HB; have GE327 := gs0 hg HB; replace HB := s0 HB hb; clear hb hbox hg))
 (try simp only [Act.put, List.setIfInBounds_toArray, List.set_cons_zero, List.set_cons_succ])
 go_cut [23] (fun v23 wc => ∃ (kq : Nat) (x23_1 : Bool), v23 = .bool x23_1 ∧ Aside0 (impl_AgesOk.j0 kq x23_1 a0_0 l0_1 l0_2 = some r) ∧ Aside0 (kq ≤ k) ∧ Aside0 (wc.heap[gb327]? = some (.cells #[.int .i64 a0_0, (.slice A0_1 l0_1.length c0_1), (.slice A0_2 l0_2.length c0_2)] 25 (0, 0))) ∧ Aside0 (Below w.heap.size w wc))
 case first =>
  have H := HC2.out
  clear HC2
  replace H := Option.bind_eq_some_iff.mp H
  obtain ⟨t328, A40, H⟩ := H
  try dsimp only at H
  have A4 := Aside0.mk A40
  clear A40
  by_cases c5 : t328 = true
  ·subst c5
   rw [if_pos rfl] at H
   replace H := Option.bind_eq_some_iff.mp H
   obtain ⟨t329, A60, H⟩ := H
   try dsimp only at H
   have A6 := Aside0.mk A60
   clear A60
   by_cases c7 : t329 = true
   ·subst c7
    rw [if_pos rfl] at H
    have H' := Aside0.mk H
    clear H
    have hcz8_0 := bz3 BK327
    go_wp2_with (first | ((with_reducible refine gate_callee (f := 93) rfl ?_); refine gl 9 Try.func93 #[.int .i64 a0_0] ?_; (with_reducible refine (impl_isNum.calls a0_0 true _ A4.out).mono ?_); rintro e w' ⟨rfl, ⟨nd, rfl⟩⟩; refine ⟨_, rfl, ?_⟩) | (go_at_call 46; (with_reducible refine (impl_within.calls (l0_1.length : Int) 1 8 true _ A6.out).mono ?_); rintro e w' ⟨rfl, ⟨nd, rfl⟩⟩))
    go_meet
    case rel => exact ⟨_, (decide ((l0_2.length : Int) > 100)), rs, H', ⟨by first | omega | exact Nat.le_refl _⟩, ⟨bk BK327⟩, ⟨be1 HB GE327⟩⟩
   replace c7 := Bool.eq_false_iff.mpr c7
   subst c7
   rw [if_neg (show ¬ (false = true) by decide)] at H
   have H' := Aside0.mk H
   clear H
   have hcz9_0 := bz3 BK327
   go_wp2_with (first | ((with_reducible refine gate_callee (f := 93) rfl ?_); refine gl 9 Try.func93 #[.int .i64 a0_0] ?_; (with_reducible refine (impl_isNum.calls a0_0 true _ A4.out).mono ?_); rintro e w' ⟨rfl, ⟨nd, rfl⟩⟩; refine ⟨_, rfl, ?_⟩) | (go_at_call 46; (with_reducible refine (impl_within.calls (l0_1.length : Int) 1 8 false _ A6.out).mono ?_); rintro e w' ⟨rfl, ⟨nd, rfl⟩⟩))
   go_meet
   case rel => exact ⟨_, (true), rs, H', ⟨by first | omega | exact Nat.le_refl _⟩, ⟨bk BK327⟩, ⟨be1 HB GE327⟩⟩
  replace c5 := Bool.eq_false_iff.mpr c5
  subst c5
  rw [if_neg (show ¬ (false = true) by decide)] at H
  have H' := Aside0.mk H
  clear H
  have hcz10_0 := bz3 BK327
  go_wp2_with (first | ((with_reducible refine gate_callee (f := 93) rfl ?_); refine gl 9 Try.func93 #[.int .i64 a0_0] ?_; (with_reducible refine (impl_isNum.calls a0_0 false _ A4.out).mono ?_); rintro e w' ⟨rfl, ⟨nd, rfl⟩⟩; refine ⟨_, rfl, ?_⟩))
  go_meet
  case rel => exact ⟨_, (true), rs, H', ⟨by first | omega | exact Nat.le_refl _⟩, ⟨bk BK327⟩, ⟨be1 HB GE327⟩⟩
 case rest =>
  clear HC2
  try clear p2; try clear c5; try clear c7; try clear c9; try clear hcz10_0; try clear hcz8_0; try clear hcz9_0
  obtain ⟨kq, x23_1, rfl, HA, HJ1, BK327, HB⟩ := hcut
  cases kq with
  | zero => exact absurd HA.out (by simp [impl_AgesOk.j0])
  | succ kj1 =>
   have H := HA.out
   clear HA
   simp only [impl_AgesOk.j0] at H
   by_cases c11 : x23_1 = true
   ·subst c11
    rw [if_pos rfl] at H
    obtain rfl := Option.some.inj H
    go_wp2
    go_ret
    exact ⟨er, be1 HB GE327⟩
   replace c11 := Bool.eq_false_iff.mpr c11
   subst c11
   rw [if_neg (show ¬ (false = true) by decide)] at H
   have H' := Aside0.mk H
   clear H
   have hcz12_0 := bz3 BK327
   go_wp2
   go_loopg [27] kj1 (fun kq v27 w' => ∃ (x27_2 : Int), v27 = .int .i64 x27_2 ∧ Aside0 (impl_AgesOk.l0 kq l0_1 (l0_1.length : Int) x27_2 a0_0 l0_1 l0_2 = some r) ∧ Aside0 (kq ≤ kj1) ∧ Aside0 (w'.heap[gb327]? = some (.cells #[.int .i64 a0_0, (.slice A0_1 l0_1.length c0_1), (.slice A0_2 l0_2.length c0_2)] 25 (0, 0))) ∧ Aside0 (Below w.heap.size w w'))
   case atStart => exact ⟨(0), rs, H', ⟨Nat.le_refl _⟩, ⟨bk BK327⟩, ⟨be1 HB GE327⟩⟩
   case round =>
    clear H'
    try clear c1; try clear p2; try clear c5; try clear c7; try clear c9; try clear c11; try clear hcz10_0; try clear hcz12_0; try clear hcz8_0; try clear hcz9_0; try clear p2
    obtain ⟨x27_2, rfl, HA, HK2, BK327, HB⟩ := hrel
    cases gk with
    | zero => exact absurd HA.out (by simp [impl_AgesOk.l0])
    | succ k2 =>
     have H := HA.out
     clear HA
     simp only [impl_AgesOk.l0] at H
     by_cases c13 : x27_2 < (l0_1.length : Int)
     ·rw [if_pos c13] at H
      have c13b0 : decide (x27_2 < (l0_1.length : Int)) = true := decide_eq_true c13
      clear c13
      by_cases c14 : 0 ≤ x27_2
      ·rw [if_pos c14] at H
       have c14b0 : decide (0 ≤ x27_2) = true := decide_eq_true c14
       clear c14
       by_cases c15 : x27_2 < (l0_1.length : Int)
       ·rw [if_pos c15] at H
        have c15b0 : decide (x27_2 < (l0_1.length : Int)) = true := decide_eq_true c15
        clear c15
        by_cases c16 : (rd l0_1 x27_2) < (-1)
        ·rw [if_pos c16] at H
         have c16b0 : decide ((rd l0_1 x27_2) < (-1)) = true := decide_eq_true c16
         clear c16
         obtain rfl := Option.some.inj H
         have p330 : 0 ≤ (x27_2 : Int) := od
         have q330 : x27_2 < (l0_1.length : Int) := od
         obtain ⟨ad330, e330, hx330_0⟩ := Kd.at_int HR0_1.out x27_2 p330 q330
         cases e330
         replace hx330_0 := hc HB hx330_0
         replace p330 := eq_true p330
         replace q330 := eq_true q330
         go_wp2
         go_ret
         exact ⟨er, be1 HB GE327⟩
        rw [if_neg c16] at H
        have c16b0 : decide ((rd l0_1 x27_2) < (-1)) = false := decide_eq_false c16
        clear c16
        by_cases c17 : (rd l0_1 x27_2) = (-1)
        ·rw [if_pos c17] at H
         have c17b0 : ((rd l0_1 x27_2) == (-1)) = true := beq_iff_eq.mpr c17
         have c17b1 : ((rd l0_1 x27_2) != (-1)) = false := bne_eq_false_iff_eq.mpr c17
         clear c17
         have H' := Aside0.mk H
         clear H
         have p330 : 0 ≤ (x27_2 : Int) := od
         have q330 : x27_2 < (l0_1.length : Int) := od
         obtain ⟨ad330, e330, hx330_0⟩ := Kd.at_int HR0_1.out x27_2 p330 q330
         cases e330
         replace hx330_0 := hc HB hx330_0
         replace p330 := eq_true p330
         replace q330 := eq_true q330
         go_wp2
         go_roundg k2
         case measure => have := HJ1.out; have := HK2.out; omega
         case rel => exact ⟨(wrap64 (x27_2 + 1)), rs, H', ⟨by have := HJ1.out; have := HK2.out; omega⟩, ⟨bk BK327⟩, ⟨be1 HB GE327⟩⟩
        rw [if_neg c17] at H
        have c17b0 : ((rd l0_1 x27_2) == (-1)) = false := beq_eq_false_iff_ne.mpr c17
        have c17b1 : ((rd l0_1 x27_2) != (-1)) = true := bne_iff_ne.mpr c17
        by_cases c18 : (rd l0_1 x27_2) = a0_0
        ·rw [if_pos c18] at H
         have c18b0 : ((rd l0_1 x27_2) == a0_0) = true := beq_iff_eq.mpr c18
         have c18b1 : ((rd l0_1 x27_2) != a0_0) = false := bne_eq_false_iff_eq.mpr c18
         clear c18
         have H' := Aside0.mk H
         clear H
         have p330 : 0 ≤ (x27_2 : Int) := od
         have q330 : x27_2 < (l0_1.length : Int) := od
         obtain ⟨ad330, e330, hx330_0⟩ := Kd.at_int HR0_1.out x27_2 p330 q330
         cases e330
         replace hx330_0 := hc HB hx330_0
         replace p330 := eq_true p330
         replace q330 := eq_true q330
         have hcz19_0 := bz3 BK327
         go_wp2
         go_roundg k2
         case measure => have := HJ1.out; have := HK2.out; omega
         case rel => exact ⟨(wrap64 (x27_2 + 1)), rs, H', ⟨by have := HJ1.out; have := HK2.out; omega⟩, ⟨bk BK327⟩, ⟨be1 HB GE327⟩⟩
        rw [if_neg c18] at H
        have c18b0 : ((rd l0_1 x27_2) == a0_0) = false := beq_eq_false_iff_ne.mpr c18
        have c18b1 : ((rd l0_1 x27_2) != a0_0) = true := bne_iff_ne.mpr c18
        by_cases c20 : (rd l0_1 x27_2) = (wrap64 (a0_0 - 1))
        ·rw [if_pos c20] at H
         have c20b0 : ((rd l0_1 x27_2) == (wrap64 (a0_0 - 1))) = true := beq_iff_eq.mpr c20
         have c20b1 : ((rd l0_1 x27_2) != (wrap64 (a0_0 - 1))) = false := bne_eq_false_iff_eq.mpr c20
         clear c20
         have H' := Aside0.mk H
         clear H
         have p330 : 0 ≤ (x27_2 : Int) := od
         have q330 : x27_2 < (l0_1.length : Int) := od
         obtain ⟨ad330, e330, hx330_0⟩ := Kd.at_int HR0_1.out x27_2 p330 q330
         cases e330
         replace hx330_0 := hc HB hx330_0
         replace p330 := eq_true p330
         replace q330 := eq_true q330
         have hcz21_0 := bz3 BK327
         go_wp2
         go_roundg k2
         case measure => have := HJ1.out; have := HK2.out; omega
         case rel => exact ⟨(wrap64 (x27_2 + 1)), rs, H', ⟨by have := HJ1.out; have := HK2.out; omega⟩, ⟨bk BK327⟩, ⟨be1 HB GE327⟩⟩
        rw [if_neg c20] at H
        have c20b0 : ((rd l0_1 x27_2) == (wrap64 (a0_0 - 1))) = false := beq_eq_false_iff_ne.mpr c20
        have c20b1 : ((rd l0_1 x27_2) != (wrap64 (a0_0 - 1))) = true := bne_iff_ne.mpr c20
        obtain rfl := Option.some.inj H
        have p330 : 0 ≤ (x27_2 : Int) := od
        have q330 : x27_2 < (l0_1.length : Int) := od
        obtain ⟨ad330, e330, hx330_0⟩ := Kd.at_int HR0_1.out x27_2 p330 q330
        cases e330
        replace hx330_0 := hc HB hx330_0
        replace p330 := eq_true p330
        replace q330 := eq_true q330
        have hcz22_0 := bz3 BK327
        go_wp2
        go_ret
        exact ⟨er, be1 HB GE327⟩
       rw [if_neg c15] at H
       exact absurd H (by simp)
      rw [if_neg c14] at H
      exact absurd H (by simp)
     rw [if_neg c13] at H
     have c13b0 : decide (x27_2 < (l0_1.length : Int)) = false := decide_eq_false c13
     clear c13
     have H' := Aside0.mk H
     clear H
     have hcz23_0 := bz3 BK327
     go_wp2
     go_loopg [54] k2 (fun kq v54 w' => ∃ (x54_3 : Int), v54 = .int .i64 x54_3 ∧ Aside0 (impl_AgesOk.l1 kq l0_2 (l0_2.length : Int) x54_3 a0_0 l0_1 l0_2 = some r) ∧ Aside0 (kq ≤ k2) ∧ Aside0 (w'.heap[gb327]? = some (.cells #[.int .i64 a0_0, (.slice A0_1 l0_1.length c0_1), (.slice A0_2 l0_2.length c0_2)] 25 (0, 0))) ∧ Aside0 (Below w.heap.size w w'))
     case atStart => exact ⟨(0), rs, H', ⟨Nat.le_refl _⟩, ⟨bk BK327⟩, ⟨be1 HB GE327⟩⟩
     case round =>
      clear H'
      try clear c1; try clear c2; try clear p2; try clear p3; try clear q3; try clear hx3; try clear c5; try clear p6; try clear c7; try clear c9; try clear c11; try clear c13; try clear c13b0; try clear c14; try clear c14b0; try clear c15; try clear c15b0; try clear c16; try clear c16b0; try clear c17; try clear c17b0; try clear c17b1; try clear c18; try clear c18b0; try clear c18b1; try clear c20; try clear c20b0; try clear c20b1; try clear hcz10_0; try clear hcz12_0; try clear hcz19_0; try clear hcz21_0; try clear hcz22_0; try clear hcz23_0; try clear hcz8_0; try clear hcz9_0; try clear hx330_0; try clear p2; try clear p330; try clear q330
      obtain ⟨x54_3, rfl, HA, HK3, BK327, HB⟩ := hrel
      cases gk with
      | zero => exact absurd HA.out (by simp [impl_AgesOk.l1])
      | succ k3 =>
       have H := HA.out
       clear HA
       simp only [impl_AgesOk.l1] at H
       by_cases c24 : x54_3 < (l0_2.length : Int)
       ·rw [if_pos c24] at H
        have c24b0 : decide (x54_3 < (l0_2.length : Int)) = true := decide_eq_true c24
        clear c24
        by_cases c25 : 0 ≤ x54_3
        ·rw [if_pos c25] at H
         have c25b0 : decide (0 ≤ x54_3) = true := decide_eq_true c25
         clear c25
         by_cases c26 : x54_3 < (l0_2.length : Int)
         ·rw [if_pos c26] at H
          have c26b0 : decide (x54_3 < (l0_2.length : Int)) = true := decide_eq_true c26
          clear c26
          replace H := Option.bind_eq_some_iff.mp H
          obtain ⟨t333, A270, H⟩ := H
          try dsimp only at H
          have A27 := Aside0.mk A270
          clear A270
          by_cases c28 : t333 = true
          ·subst c28
           rw [if_pos rfl] at H
           by_cases c29 : x54_3 > 0
           ·rw [if_pos c29] at H
            have c29b0 : decide (0 < x54_3) = true := decide_eq_true c29
            clear c29
            obtain ⟨ji30, hji30⟩ : ∃ j_ : Int, (wrap64 (x54_3 - 1)) = j_ := ⟨_, rfl⟩
            replace H : (if 0 ≤ (ji30) then (if (ji30) < (l0_2.length : Int) then (if ((rd_T70 l0_2 (ji30)).f1) > ((rd_T70 l0_2 x54_3).f1) then (some false) else ((impl_Ages_inLimbo.f k3 a0_0 l0_1 l0_2 ((rd_T70 l0_2 x54_3).f0)).bind fun t335 => (if t335 = x54_3 then (impl_AgesOk.l1 k3 l0_2 (l0_2.length : Int) (wrap64 (x54_3 + 1)) a0_0 l0_1 l0_2) else (some false)))) else (none)) else (none)) = some r := by first | (rw [hji30] at H; exact H) | (simp only [hji30] at H ⊢; exact H)
            (try rw [hji30] at A27)
            have hji30w : (IntKind.i64.wrap (x54_3 - 1)) = ji30 := (i64_w _).trans hji30
            by_cases c31 : 0 ≤ (ji30)
            ·rw [if_pos c31] at H
             have c31b0 : decide (0 ≤ (ji30)) = true := decide_eq_true c31
             clear c31
             by_cases c32 : (ji30) < (l0_2.length : Int)
             ·rw [if_pos c32] at H
              have c32b0 : decide ((ji30) < (l0_2.length : Int)) = true := decide_eq_true c32
              clear c32
              by_cases c33 : ((rd_T70 l0_2 (ji30)).f1) > ((rd_T70 l0_2 x54_3).f1)
              ·rw [if_pos c33] at H
               have c33b0 : decide (((rd_T70 l0_2 x54_3).f1) < ((rd_T70 l0_2 (ji30)).f1)) = true := decide_eq_true c33
               clear c33
               obtain rfl := Option.some.inj H
               have p331 : 0 ≤ (x54_3 : Int) := od
               have q331 : x54_3 < (l0_2.length : Int) := od
               obtain ⟨ad331, e331, hx331_0, hx331_1⟩ := at_T70 HR0_2.out x54_3 p331 q331
               cases e331
               replace hx331_0 := hc HB hx331_0
               replace hx331_1 := hc HB hx331_1
               replace p331 := eq_true p331
               replace q331 := eq_true q331
               try go_wp2_with (first | ((with_reducible refine gate_dst (N := 6) rfl ?_); (try (refine gate_guard (by rfl) ?_; dsimp only)); refine bx 6 #[.int .i64 0, .int .i64 0] 70 ?_; intro gb332 hg w34 hbox hb; have BK332 := am hbox; have GW332 := gs1 hg HB GE327; have GE332 := gs1 hg HB GE327; replace HB := Aside0.mk (below_step (be1 HB GE327) hb); have NB327_332 := Aside0.mk ((by rw [hg]; exact Nat.ne_of_lt (bl BK327) : gb327 ≠ gb332)); have NB332_327 := Aside0.mk ((by rw [hg]; exact Nat.ne_of_gt (bl BK327) : gb332 ≠ gb327)); replace BK327 := bb BK327 hb; clear hb hbox hg; have hnb35 := NB332_327.out; have hnc35 := NB327_332.out; have hcz36_0 := bz2 BK332))
               have n0_ : Aside0 (((w34.setCell ⟨gb332, 0, none⟩ (.int .i64 ((rd_T70 l0_2 x54_3).f0))).setCell ⟨gb332, 1, none⟩ (.int .i64 ((rd_T70 l0_2 x54_3).f1))).heap[gb327]? = some (.cells #[.int .i64 a0_0, .slice A0_1 l0_1.length c0_1, .slice (some ad331) l0_2.length c0_2] 25 (0, 0))) := ⟨by (with_reducible repeat (first | refine blk_drewN ?_ _ | refine blk_drew ?_ | refine blk_alloc ?_ _)); refine blk_far ?_ NB327_332.out _; (with_reducible repeat (first | refine blk_drewN ?_ _ | refine blk_drew ?_ | refine blk_alloc ?_ _)); refine blk_far ?_ NB327_332.out _; (with_reducible repeat (first | refine blk_drewN ?_ _ | refine blk_drew ?_ | refine blk_alloc ?_ _)); exact BK327.out⟩
               have n1_ : Aside0 (((w34.setCell ⟨gb332, 0, none⟩ (.int .i64 ((rd_T70 l0_2 x54_3).f0))).setCell ⟨gb332, 1, none⟩ (.int .i64 ((rd_T70 l0_2 x54_3).f1))).heap[gb332]? = some (.cells #[.int .i64 ((rd_T70 l0_2 x54_3).f0), .int .i64 ((rd_T70 l0_2 x54_3).f1)] 70 (0, 0))) := ⟨by (with_reducible repeat (first | refine blk_drewN ?_ _ | refine blk_drew ?_ | refine blk_alloc ?_ _)); refine blk_put (cs := #[.int .i64 ((rd_T70 l0_2 x54_3).f0), .int .i64 0]) ?_ 1 _ rfl; (with_reducible repeat (first | refine blk_drewN ?_ _ | refine blk_drew ?_ | refine blk_alloc ?_ _)); refine blk_put (cs := #[.int .i64 0, .int .i64 0]) ?_ 0 _ rfl; (with_reducible repeat (first | refine blk_drewN ?_ _ | refine blk_drew ?_ | refine blk_alloc ?_ _)); exact BK332.out⟩
               have n2_ : Aside0 (Below w.heap.size w ((w34.setCell ⟨gb332, 0, none⟩ (.int .i64 ((rd_T70 l0_2 x54_3).f0))).setCell ⟨gb332, 1, none⟩ (.int .i64 ((rd_T70 l0_2 x54_3).f1)))) := ⟨be2 HB GE327 GE332⟩
               (try clear BK327)
               (try clear BK332)
               (try clear HB)
               generalize ((w34.setCell ⟨gb332, 0, none⟩ (.int .i64 ((rd_T70 l0_2 x54_3).f0))).setCell ⟨gb332, 1, none⟩ (.int .i64 ((rd_T70 l0_2 x54_3).f1))) = w37 at n0_ n1_ n2_ ⊢
               have BK327 := n0_
               have BK332 := n1_
               have HB := n2_
               clear n0_ n1_ n2_
               have n0_ := Aside0.mk (blk_drew BK327.out)
               have n1_ := Aside0.mk (blk_drew BK332.out)
               have n2_ := Aside0.mk (below_drew1 HB.out)
               clear BK327
               clear BK332
               clear HB
               have BK327 := n0_
               have BK332 := n1_
               have HB := n2_
               clear n0_ n1_ n2_
               have p334 : 0 ≤ ((ji30) : Int) := od
               have q334 : (ji30) < (l0_2.length : Int) := od
               obtain ⟨ad334, e334, hx334_0, hx334_1⟩ := at_T70 HR0_2.out (ji30) p334 q334
               have hw334_1 := hx334_1
               have hw334_0 := hx334_0
               obtain rfl : ad331 = ad334 := (by injection e334)
               replace hx334_0 := hc HB hx334_0
               replace hx334_1 := hc HB hx334_1
               replace p334 := eq_true p334
               replace q334 := eq_true q334
               refine start_ (n := 30) (S := fun w' => w'.cell? ⟨gb332, 0, none⟩ = some (.int .i64 ((rd_T70 l0_2 x54_3).f0)) ∧ w'.cell? ⟨gb332, 1, none⟩ = some (.int .i64 ((rd_T70 l0_2 x54_3).f1)) ∧ w'.cell? ⟨gb327, 0, none⟩ = some (.int .i64 a0_0) ∧ w'.cell? ⟨gb327, 1, none⟩ = some (.slice A0_1 l0_1.length c0_1) ∧ w'.cell? ⟨gb327, 2, none⟩ = some (.slice (some ad331) l0_2.length c0_2) ∧ w'.cell? (ad331.add (((ji30)).toNat * 2)) = some (.int .i64 ((rd_T70 l0_2 (ji30)).f0)) ∧ w'.cell? ⟨(ad331.add (((ji30)).toNat * 2)).block, (ad331.add (((ji30)).toNat * 2)).off + 1, none⟩ = some (.int .i64 ((rd_T70 l0_2 (ji30)).f1))) (ds := []) (bv 30 0x0) (by kernel_rfl) rfl rfl ⟨bc0 BK332, bc1 BK332, bc0 BK327, bc1 BK327, bc2 BK327, ((HB.out.cell (World.block_lt_of_cell? w _ hw334_0)).trans hw334_0), ((HB.out.cell (World.block_lt_of_cell? w _ hw334_1)).trans hw334_1)⟩ (fun hHeld => ?_); refine with_tabW impl_AgesOk.tab12 impl_AgesOk.bits12 (fun HT_ HW_ => ?_)
               generalize w37.drew = w38 at BK327 BK332 HB hx334_0 hx334_1 hHeld ⊢
               refine py HT_ 0 59 (bv 30 0x1) ?_
               refine py HT_ 2 61 (bv 30 0x5) ?_
               refine tk HT_ HW_ hHeld 1 60 (bv 30 0x7) ?_
               refine tk HT_ HW_ hHeld 3 62 (bv 30 0xf) ?_
               refine one_ (i := 4) (N := some 63) (bv 30 0x1f) rfl rfl (one_of HT_.out (by kernel_rfl)) (by decide) (fun K hK => ?_)
               refine goes_ Try.func46 (by kernel_rfl) rfl #[.int .i64 ((rd_T70 l0_2 x54_3).f1), .int .i64 0, .int .i64 a0_0] (by rfl) rfl rfl ml ?_
               with_reducible refine (impl_within.calls ((rd_T70 l0_2 x54_3).f1) 0 a0_0 true _ A27.out).mono ?_
               rintro e w' ⟨rfl, ⟨nd, rfl⟩⟩
               refine ⟨_, rfl, ?_⟩
               refine hK.out _ _ ⟨bc0 BK332, bc1 BK332, bc0 BK327, bc1 BK327, bc2 BK327, ((HB.out.cell (World.block_lt_of_cell? w _ hw334_0)).trans hw334_0), ((HB.out.cell (World.block_lt_of_cell? w _ hw334_1)).trans hw334_1)⟩ (fun hHeld => ?_)
               clear hK K
               refine norm_ (a' := ?_) ?_ ?_
               rotate_left
               ·show Act.put _ (some 63) _ = _
                simp only [aP]
                rfl
               refine py HT_ 5 64 (bv 30 0x3f) ?_
               refine py HT_ 6 65 (bv 30 0x7f) ?_
               refine py HT_ 7 66 (bv 30 0xff) ?_
               refine py HT_ 8 67 (bv 30 0x1ff) ?_
               refine py HT_ 9 68 (bv 30 0x3ff) ?_
               refine py HT_ 10 69 (bv 30 0x7ff) ?_
               refine py HT_ 12 71 (bv 30 0x17ff) ?_
               refine py HT_ 13 72 (bv 30 0x37ff) ?_
               refine py HT_ 17 76 (bv 30 0x237ff) ?_
               refine tk HT_ HW_ hHeld 11 70 (bv 30 0x23fff) ?_
               refine py HT_ 14 73 (bv 30 0x27fff) ?_
               refine py HT_ 15 74 (bv 30 0x2ffff) ?_
               refine tk HT_ HW_ hHeld 16 75 (bv 30 0x3ffff) ?_
               refine tk HT_ HW_ hHeld 18 77 (bv 30 0x7ffff) ?_
               refine py HT_ 19 78 (bv 30 0xfffff) ?_
               refine py HT_ 20 79 (bv 30 0x1fffff) ?_
               refine py HT_ 21 80 (bv 30 0x3fffff) ?_
               refine py HT_ 22 81 (bv 30 0x7fffff) ?_
               refine pu HT_ 23 82 (bv 30 0xffffff) ?_
               refine pu HT_ 24 83 (bv 30 0x1ffffff) ?_
               refine pu HT_ 25 84 (bv 30 0x3ffffff) ?_
               refine pu HT_ 26 85 (bv 30 0x7ffffff) ?_
               refine pu HT_ 27 86 (bv 30 0xfffffff) ?_
               refine pu HT_ 28 87 (bv 30 0x1fffffff) ?_
               refine py HT_ 29 88 (bv 30 0x3fffffff) ?_
               refine done_ (done_of HT_.out (by kernel_rfl)) ?_
               try go_wp2
               go_ret
               exact ⟨by first | rfl | (simp [errW_none, errW_some] <;> rfl) | (simp only [← hji30]; first | rfl | (simp [errW_none, errW_some] <;> rfl)) | (simp [*, errW_none, errW_some] <;> rfl), be2 HB GE327 GE332⟩
              rw [if_neg c33] at H
              have c33b0 : decide (((rd_T70 l0_2 x54_3).f1) < ((rd_T70 l0_2 (ji30)).f1)) = false := decide_eq_false c33
              clear c33
              replace H := Option.bind_eq_some_iff.mp H
              obtain ⟨t335, A390, H⟩ := H
              try dsimp only at H
              have A39 := Aside0.mk A390
              clear A390
              by_cases c40 : t335 = x54_3
              ·rw [if_pos c40] at H
               have c40b0 : (t335 == x54_3) = true := beq_iff_eq.mpr c40
               have c40b1 : (t335 != x54_3) = false := bne_eq_false_iff_eq.mpr c40
               clear c40
               have H' := Aside0.mk H
               clear H
               have p331 : 0 ≤ (x54_3 : Int) := od
               have q331 : x54_3 < (l0_2.length : Int) := od
               obtain ⟨ad331, e331, hx331_0, hx331_1⟩ := at_T70 HR0_2.out x54_3 p331 q331
               cases e331
               replace hx331_0 := hc HB hx331_0
               replace hx331_1 := hc HB hx331_1
               replace p331 := eq_true p331
               replace q331 := eq_true q331
               try go_wp2_with (first | ((with_reducible refine gate_dst (N := 6) rfl ?_); (try (refine gate_guard (by rfl) ?_; dsimp only)); refine bx 6 #[.int .i64 0, .int .i64 0] 70 ?_; intro gb332 hg w41 hbox hb; have BK332 := am hbox; have GW332 := gs1 hg HB GE327; have GE332 := gs1 hg HB GE327; replace HB := Aside0.mk (below_step (be1 HB GE327) hb); have NB327_332 := Aside0.mk ((by rw [hg]; exact Nat.ne_of_lt (bl BK327) : gb327 ≠ gb332)); have NB332_327 := Aside0.mk ((by rw [hg]; exact Nat.ne_of_gt (bl BK327) : gb332 ≠ gb327)); replace BK327 := bb BK327 hb; clear hb hbox hg; have hnb42 := NB332_327.out; have hnc42 := NB327_332.out; have hcz43_0 := bz2 BK332))
               have n0_ : Aside0 (((w41.setCell ⟨gb332, 0, none⟩ (.int .i64 ((rd_T70 l0_2 x54_3).f0))).setCell ⟨gb332, 1, none⟩ (.int .i64 ((rd_T70 l0_2 x54_3).f1))).heap[gb327]? = some (.cells #[.int .i64 a0_0, .slice A0_1 l0_1.length c0_1, .slice (some ad331) l0_2.length c0_2] 25 (0, 0))) := ⟨by (with_reducible repeat (first | refine blk_drewN ?_ _ | refine blk_drew ?_ | refine blk_alloc ?_ _)); refine blk_far ?_ NB327_332.out _; (with_reducible repeat (first | refine blk_drewN ?_ _ | refine blk_drew ?_ | refine blk_alloc ?_ _)); refine blk_far ?_ NB327_332.out _; (with_reducible repeat (first | refine blk_drewN ?_ _ | refine blk_drew ?_ | refine blk_alloc ?_ _)); exact BK327.out⟩
               have n1_ : Aside0 (((w41.setCell ⟨gb332, 0, none⟩ (.int .i64 ((rd_T70 l0_2 x54_3).f0))).setCell ⟨gb332, 1, none⟩ (.int .i64 ((rd_T70 l0_2 x54_3).f1))).heap[gb332]? = some (.cells #[.int .i64 ((rd_T70 l0_2 x54_3).f0), .int .i64 ((rd_T70 l0_2 x54_3).f1)] 70 (0, 0))) := ⟨by (with_reducible repeat (first | refine blk_drewN ?_ _ | refine blk_drew ?_ | refine blk_alloc ?_ _)); refine blk_put (cs := #[.int .i64 ((rd_T70 l0_2 x54_3).f0), .int .i64 0]) ?_ 1 _ rfl; (with_reducible repeat (first | refine blk_drewN ?_ _ | refine blk_drew ?_ | refine blk_alloc ?_ _)); refine blk_put (cs := #[.int .i64 0, .int .i64 0]) ?_ 0 _ rfl; (with_reducible repeat (first | refine blk_drewN ?_ _ | refine blk_drew ?_ | refine blk_alloc ?_ _)); exact BK332.out⟩
               have n2_ : Aside0 (Below w.heap.size w ((w41.setCell ⟨gb332, 0, none⟩ (.int .i64 ((rd_T70 l0_2 x54_3).f0))).setCell ⟨gb332, 1, none⟩ (.int .i64 ((rd_T70 l0_2 x54_3).f1)))) := ⟨be2 HB GE327 GE332⟩
               (try clear BK327)
               (try clear BK332)
               (try clear HB)
               generalize ((w41.setCell ⟨gb332, 0, none⟩ (.int .i64 ((rd_T70 l0_2 x54_3).f0))).setCell ⟨gb332, 1, none⟩ (.int .i64 ((rd_T70 l0_2 x54_3).f1))) = w44 at n0_ n1_ n2_ ⊢
               have BK327 := n0_
               have BK332 := n1_
               have HB := n2_
               clear n0_ n1_ n2_
               have n0_ := Aside0.mk (blk_drew BK327.out)
               have n1_ := Aside0.mk (blk_drew BK332.out)
               have n2_ := Aside0.mk (below_drew1 HB.out)
               clear BK327
               clear BK332
               clear HB
               have BK327 := n0_
               have BK332 := n1_
               have HB := n2_
               clear n0_ n1_ n2_
               have p334 : 0 ≤ ((ji30) : Int) := od
               have q334 : (ji30) < (l0_2.length : Int) := od
               obtain ⟨ad334, e334, hx334_0, hx334_1⟩ := at_T70 HR0_2.out (ji30) p334 q334
               have hw334_1 := hx334_1
               have hw334_0 := hx334_0
               obtain rfl : ad331 = ad334 := (by injection e334)
               replace hx334_0 := hc HB hx334_0
               replace hx334_1 := hc HB hx334_1
               replace p334 := eq_true p334
               replace q334 := eq_true q334
               refine start_ (n := 30) (S := fun w' => w'.cell? ⟨gb332, 0, none⟩ = some (.int .i64 ((rd_T70 l0_2 x54_3).f0)) ∧ w'.cell? ⟨gb332, 1, none⟩ = some (.int .i64 ((rd_T70 l0_2 x54_3).f1)) ∧ w'.cell? ⟨gb327, 0, none⟩ = some (.int .i64 a0_0) ∧ w'.cell? ⟨gb327, 1, none⟩ = some (.slice A0_1 l0_1.length c0_1) ∧ w'.cell? ⟨gb327, 2, none⟩ = some (.slice (some ad331) l0_2.length c0_2) ∧ w'.cell? (ad331.add (((ji30)).toNat * 2)) = some (.int .i64 ((rd_T70 l0_2 (ji30)).f0)) ∧ w'.cell? ⟨(ad331.add (((ji30)).toNat * 2)).block, (ad331.add (((ji30)).toNat * 2)).off + 1, none⟩ = some (.int .i64 ((rd_T70 l0_2 (ji30)).f1))) (ds := []) (bv 30 0x0) (by kernel_rfl) rfl rfl ⟨bc0 BK332, bc1 BK332, bc0 BK327, bc1 BK327, bc2 BK327, ((HB.out.cell (World.block_lt_of_cell? w _ hw334_0)).trans hw334_0), ((HB.out.cell (World.block_lt_of_cell? w _ hw334_1)).trans hw334_1)⟩ (fun hHeld => ?_); refine with_tabW impl_AgesOk.tab12 impl_AgesOk.bits12 (fun HT_ HW_ => ?_)
               generalize w44.drew = w45 at BK327 BK332 HB hx334_0 hx334_1 hHeld ⊢
               refine py HT_ 0 59 (bv 30 0x1) ?_
               refine py HT_ 2 61 (bv 30 0x5) ?_
               refine tk HT_ HW_ hHeld 1 60 (bv 30 0x7) ?_
               refine tk HT_ HW_ hHeld 3 62 (bv 30 0xf) ?_
               refine one_ (i := 4) (N := some 63) (bv 30 0x1f) rfl rfl (one_of HT_.out (by kernel_rfl)) (by decide) (fun K hK => ?_)
               refine goes_ Try.func46 (by kernel_rfl) rfl #[.int .i64 ((rd_T70 l0_2 x54_3).f1), .int .i64 0, .int .i64 a0_0] (by rfl) rfl rfl ml ?_
               with_reducible refine (impl_within.calls ((rd_T70 l0_2 x54_3).f1) 0 a0_0 true _ A27.out).mono ?_
               rintro e w' ⟨rfl, ⟨nd, rfl⟩⟩
               refine ⟨_, rfl, ?_⟩
               refine hK.out _ _ ⟨bc0 BK332, bc1 BK332, bc0 BK327, bc1 BK327, bc2 BK327, ((HB.out.cell (World.block_lt_of_cell? w _ hw334_0)).trans hw334_0), ((HB.out.cell (World.block_lt_of_cell? w _ hw334_1)).trans hw334_1)⟩ (fun hHeld => ?_)
               clear hK K
               refine norm_ (a' := ?_) ?_ ?_
               rotate_left
               ·show Act.put _ (some 63) _ = _
                simp only [aP]
                rfl
               refine py HT_ 5 64 (bv 30 0x3f) ?_
               refine py HT_ 6 65 (bv 30 0x7f) ?_
               refine py HT_ 7 66 (bv 30 0xff) ?_
               refine py HT_ 8 67 (bv 30 0x1ff) ?_
               refine py HT_ 9 68 (bv 30 0x3ff) ?_
               refine py HT_ 10 69 (bv 30 0x7ff) ?_
               refine py HT_ 12 71 (bv 30 0x17ff) ?_
               refine py HT_ 13 72 (bv 30 0x37ff) ?_
               refine py HT_ 17 76 (bv 30 0x237ff) ?_
               refine tk HT_ HW_ hHeld 11 70 (bv 30 0x23fff) ?_
               refine py HT_ 14 73 (bv 30 0x27fff) ?_
               refine py HT_ 15 74 (bv 30 0x2ffff) ?_
               refine tk HT_ HW_ hHeld 16 75 (bv 30 0x3ffff) ?_
               refine tk HT_ HW_ hHeld 18 77 (bv 30 0x7ffff) ?_
               refine py HT_ 19 78 (bv 30 0xfffff) ?_
               refine py HT_ 20 79 (bv 30 0x1fffff) ?_
               refine py HT_ 21 80 (bv 30 0x3fffff) ?_
               refine py HT_ 22 81 (bv 30 0x7fffff) ?_
               refine py HT_ 24 83 (bv 30 0x17fffff) ?_
               refine py HT_ 27 86 (bv 30 0x97fffff) ?_
               refine tk HT_ HW_ hHeld 23 82 (bv 30 0x9ffffff) ?_
               refine tk HT_ HW_ hHeld 25 84 (bv 30 0xbffffff) ?_
               refine one_ (i := 26) (N := some 85) (bv 30 0xfffffff) rfl rfl (one_of HT_.out (by kernel_rfl)) (by decide) (fun K hK => ?_)
               refine goes_ Try.func62 (by kernel_rfl) rfl #[.agg #[.int .i64 a0_0, .slice A0_1 l0_1.length c0_1, .slice (some ad331) l0_2.length c0_2], .int .i64 ((rd_T70 l0_2 x54_3).f0)] (by rfl) rfl rfl ml ?_
               with_reducible refine (impl_Ages_inLimbo.calls k3 a0_0 _ _ l0_1 _ _ l0_2 ((rd_T70 l0_2 x54_3).f0) t335 _ ?side1 ?side2 ?side3 ?side4 A39.out).mono ?_
               (case side1 => repeat (first | exact (Kd.C_below HR0_1.out (be2 HB GE327 GE332)) | (with_reducible refine Kd.C_alloc ?_ _) | (with_reducible refine Kd.C_drewN ?_ _) | (with_reducible refine Kd.C_drew ?_)))
               (case side2 => exact HC0_1.out)
               (case side3 => repeat (first | exact (Kd.C_below HR0_2.out (be2 HB GE327 GE332)) | (with_reducible refine Kd.C_alloc ?_ _) | (with_reducible refine Kd.C_drewN ?_ _) | (with_reducible refine Kd.C_drew ?_)))
               (case side4 => exact HC0_2.out)
               rintro e w46 ⟨rfl, hb⟩
               refine ⟨_, rfl, ?_⟩
               have n0_ := bb BK327 hb
               have n1_ := bb BK332 hb
               have n2_ := Aside0.mk (below_step (be2 HB GE327 GE332) hb)
               clear BK327
               clear BK332
               clear HB
               have BK327 := n0_
               have BK332 := n1_
               have HB := n2_
               clear n0_ n1_ n2_
               (try clear hb)
               (try clear hb2)
               (try clear hk)
               (try clear hi)
               refine hK.out _ _ ⟨bc0 BK332, bc1 BK332, bc0 BK327, bc1 BK327, bc2 BK327, ((HB.out.cell (World.block_lt_of_cell? w _ hw334_0)).trans hw334_0), ((HB.out.cell (World.block_lt_of_cell? w _ hw334_1)).trans hw334_1)⟩ (fun hHeld => ?_)
               clear hK K
               refine norm_ (a' := ?_) ?_ ?_
               rotate_left
               ·show Act.put _ (some 85) _ = _
                simp only [aP]
                rfl
               refine py HT_ 28 87 (bv 30 0x1fffffff) ?_
               refine py HT_ 29 88 (bv 30 0x3fffffff) ?_
               refine done_ (done_of HT_.out (by kernel_rfl)) ?_
               try go_wp2
               go_roundg k3
               case measure => have := HJ1.out; have := HK2.out; have := HK3.out; omega
               case rel => exact ⟨(wrap64 (x54_3 + 1)), rs, H', ⟨by have := HJ1.out; have := HK2.out; have := HK3.out; omega⟩, ⟨bk BK327⟩, ⟨be2 HB GE327 GE332⟩⟩
              rw [if_neg c40] at H
              have c40b0 : (t335 == x54_3) = false := beq_eq_false_iff_ne.mpr c40
              have c40b1 : (t335 != x54_3) = true := bne_iff_ne.mpr c40
              obtain rfl := Option.some.inj H
              have p331 : 0 ≤ (x54_3 : Int) := od
              have q331 : x54_3 < (l0_2.length : Int) := od
              obtain ⟨ad331, e331, hx331_0, hx331_1⟩ := at_T70 HR0_2.out x54_3 p331 q331
              cases e331
              replace hx331_0 := hc HB hx331_0
              replace hx331_1 := hc HB hx331_1
              replace p331 := eq_true p331
              replace q331 := eq_true q331
              try go_wp2_with (first | ((with_reducible refine gate_dst (N := 6) rfl ?_); (try (refine gate_guard (by rfl) ?_; dsimp only)); refine bx 6 #[.int .i64 0, .int .i64 0] 70 ?_; intro gb332 hg w47 hbox hb; have BK332 := am hbox; have GW332 := gs1 hg HB GE327; have GE332 := gs1 hg HB GE327; replace HB := Aside0.mk (below_step (be1 HB GE327) hb); have NB327_332 := Aside0.mk ((by rw [hg]; exact Nat.ne_of_lt (bl BK327) : gb327 ≠ gb332)); have NB332_327 := Aside0.mk ((by rw [hg]; exact Nat.ne_of_gt (bl BK327) : gb332 ≠ gb327)); replace BK327 := bb BK327 hb; clear hb hbox hg; have hnb48 := NB332_327.out; have hnc48 := NB327_332.out; have hcz49_0 := bz2 BK332))
              have n0_ : Aside0 (((w47.setCell ⟨gb332, 0, none⟩ (.int .i64 ((rd_T70 l0_2 x54_3).f0))).setCell ⟨gb332, 1, none⟩ (.int .i64 ((rd_T70 l0_2 x54_3).f1))).heap[gb327]? = some (.cells #[.int .i64 a0_0, .slice A0_1 l0_1.length c0_1, .slice (some ad331) l0_2.length c0_2] 25 (0, 0))) := ⟨by (with_reducible repeat (first | refine blk_drewN ?_ _ | refine blk_drew ?_ | refine blk_alloc ?_ _)); refine blk_far ?_ NB327_332.out _; (with_reducible repeat (first | refine blk_drewN ?_ _ | refine blk_drew ?_ | refine blk_alloc ?_ _)); refine blk_far ?_ NB327_332.out _; (with_reducible repeat (first | refine blk_drewN ?_ _ | refine blk_drew ?_ | refine blk_alloc ?_ _)); exact BK327.out⟩
              have n1_ : Aside0 (((w47.setCell ⟨gb332, 0, none⟩ (.int .i64 ((rd_T70 l0_2 x54_3).f0))).setCell ⟨gb332, 1, none⟩ (.int .i64 ((rd_T70 l0_2 x54_3).f1))).heap[gb332]? = some (.cells #[.int .i64 ((rd_T70 l0_2 x54_3).f0), .int .i64 ((rd_T70 l0_2 x54_3).f1)] 70 (0, 0))) := ⟨by (with_reducible repeat (first | refine blk_drewN ?_ _ | refine blk_drew ?_ | refine blk_alloc ?_ _)); refine blk_put (cs := #[.int .i64 ((rd_T70 l0_2 x54_3).f0), .int .i64 0]) ?_ 1 _ rfl; (with_reducible repeat (first | refine blk_drewN ?_ _ | refine blk_drew ?_ | refine blk_alloc ?_ _)); refine blk_put (cs := #[.int .i64 0, .int .i64 0]) ?_ 0 _ rfl; (with_reducible repeat (first | refine blk_drewN ?_ _ | refine blk_drew ?_ | refine blk_alloc ?_ _)); exact BK332.out⟩
              have n2_ : Aside0 (Below w.heap.size w ((w47.setCell ⟨gb332, 0, none⟩ (.int .i64 ((rd_T70 l0_2 x54_3).f0))).setCell ⟨gb332, 1, none⟩ (.int .i64 ((rd_T70 l0_2 x54_3).f1)))) := ⟨be2 HB GE327 GE332⟩
              (try clear BK327)
              (try clear BK332)
              (try clear HB)
              generalize ((w47.setCell ⟨gb332, 0, none⟩ (.int .i64 ((rd_T70 l0_2 x54_3).f0))).setCell ⟨gb332, 1, none⟩ (.int .i64 ((rd_T70 l0_2 x54_3).f1))) = w50 at n0_ n1_ n2_ ⊢
              have BK327 := n0_
              have BK332 := n1_
              have HB := n2_
              clear n0_ n1_ n2_
              have n0_ := Aside0.mk (blk_drew BK327.out)
              have n1_ := Aside0.mk (blk_drew BK332.out)
              have n2_ := Aside0.mk (below_drew1 HB.out)
              clear BK327
              clear BK332
              clear HB
              have BK327 := n0_
              have BK332 := n1_
              have HB := n2_
              clear n0_ n1_ n2_
              have p334 : 0 ≤ ((ji30) : Int) := od
              have q334 : (ji30) < (l0_2.length : Int) := od
              obtain ⟨ad334, e334, hx334_0, hx334_1⟩ := at_T70 HR0_2.out (ji30) p334 q334
              have hw334_1 := hx334_1
              have hw334_0 := hx334_0
              obtain rfl : ad331 = ad334 := (by injection e334)
              replace hx334_0 := hc HB hx334_0
              replace hx334_1 := hc HB hx334_1
              replace p334 := eq_true p334
              replace q334 := eq_true q334
              refine start_ (n := 30) (S := fun w' => w'.cell? ⟨gb332, 0, none⟩ = some (.int .i64 ((rd_T70 l0_2 x54_3).f0)) ∧ w'.cell? ⟨gb332, 1, none⟩ = some (.int .i64 ((rd_T70 l0_2 x54_3).f1)) ∧ w'.cell? ⟨gb327, 0, none⟩ = some (.int .i64 a0_0) ∧ w'.cell? ⟨gb327, 1, none⟩ = some (.slice A0_1 l0_1.length c0_1) ∧ w'.cell? ⟨gb327, 2, none⟩ = some (.slice (some ad331) l0_2.length c0_2) ∧ w'.cell? (ad331.add (((ji30)).toNat * 2)) = some (.int .i64 ((rd_T70 l0_2 (ji30)).f0)) ∧ w'.cell? ⟨(ad331.add (((ji30)).toNat * 2)).block, (ad331.add (((ji30)).toNat * 2)).off + 1, none⟩ = some (.int .i64 ((rd_T70 l0_2 (ji30)).f1))) (ds := []) (bv 30 0x0) (by kernel_rfl) rfl rfl ⟨bc0 BK332, bc1 BK332, bc0 BK327, bc1 BK327, bc2 BK327, ((HB.out.cell (World.block_lt_of_cell? w _ hw334_0)).trans hw334_0), ((HB.out.cell (World.block_lt_of_cell? w _ hw334_1)).trans hw334_1)⟩ (fun hHeld => ?_); refine with_tabW impl_AgesOk.tab12 impl_AgesOk.bits12 (fun HT_ HW_ => ?_)
              generalize w50.drew = w51 at BK327 BK332 HB hx334_0 hx334_1 hHeld ⊢
              refine py HT_ 0 59 (bv 30 0x1) ?_
              refine py HT_ 2 61 (bv 30 0x5) ?_
              refine tk HT_ HW_ hHeld 1 60 (bv 30 0x7) ?_
              refine tk HT_ HW_ hHeld 3 62 (bv 30 0xf) ?_
              refine one_ (i := 4) (N := some 63) (bv 30 0x1f) rfl rfl (one_of HT_.out (by kernel_rfl)) (by decide) (fun K hK => ?_)
              refine goes_ Try.func46 (by kernel_rfl) rfl #[.int .i64 ((rd_T70 l0_2 x54_3).f1), .int .i64 0, .int .i64 a0_0] (by rfl) rfl rfl ml ?_
              with_reducible refine (impl_within.calls ((rd_T70 l0_2 x54_3).f1) 0 a0_0 true _ A27.out).mono ?_
              rintro e w' ⟨rfl, ⟨nd, rfl⟩⟩
              refine ⟨_, rfl, ?_⟩
              refine hK.out _ _ ⟨bc0 BK332, bc1 BK332, bc0 BK327, bc1 BK327, bc2 BK327, ((HB.out.cell (World.block_lt_of_cell? w _ hw334_0)).trans hw334_0), ((HB.out.cell (World.block_lt_of_cell? w _ hw334_1)).trans hw334_1)⟩ (fun hHeld => ?_)
              clear hK K
              refine norm_ (a' := ?_) ?_ ?_
              rotate_left
              ·show Act.put _ (some 63) _ = _
               simp only [aP]
               rfl
              refine py HT_ 5 64 (bv 30 0x3f) ?_
              refine py HT_ 6 65 (bv 30 0x7f) ?_
              refine py HT_ 7 66 (bv 30 0xff) ?_
              refine py HT_ 8 67 (bv 30 0x1ff) ?_
              refine py HT_ 9 68 (bv 30 0x3ff) ?_
              refine py HT_ 10 69 (bv 30 0x7ff) ?_
              refine py HT_ 12 71 (bv 30 0x17ff) ?_
              refine py HT_ 13 72 (bv 30 0x37ff) ?_
              refine py HT_ 17 76 (bv 30 0x237ff) ?_
              refine tk HT_ HW_ hHeld 11 70 (bv 30 0x23fff) ?_
              refine py HT_ 14 73 (bv 30 0x27fff) ?_
              refine py HT_ 15 74 (bv 30 0x2ffff) ?_
              refine tk HT_ HW_ hHeld 16 75 (bv 30 0x3ffff) ?_
              refine tk HT_ HW_ hHeld 18 77 (bv 30 0x7ffff) ?_
              refine py HT_ 19 78 (bv 30 0xfffff) ?_
              refine py HT_ 20 79 (bv 30 0x1fffff) ?_
              refine py HT_ 21 80 (bv 30 0x3fffff) ?_
              refine py HT_ 22 81 (bv 30 0x7fffff) ?_
              refine py HT_ 24 83 (bv 30 0x17fffff) ?_
              refine py HT_ 27 86 (bv 30 0x97fffff) ?_
              refine tk HT_ HW_ hHeld 23 82 (bv 30 0x9ffffff) ?_
              refine tk HT_ HW_ hHeld 25 84 (bv 30 0xbffffff) ?_
              refine one_ (i := 26) (N := some 85) (bv 30 0xfffffff) rfl rfl (one_of HT_.out (by kernel_rfl)) (by decide) (fun K hK => ?_)
              refine goes_ Try.func62 (by kernel_rfl) rfl #[.agg #[.int .i64 a0_0, .slice A0_1 l0_1.length c0_1, .slice (some ad331) l0_2.length c0_2], .int .i64 ((rd_T70 l0_2 x54_3).f0)] (by rfl) rfl rfl ml ?_
              with_reducible refine (impl_Ages_inLimbo.calls k3 a0_0 _ _ l0_1 _ _ l0_2 ((rd_T70 l0_2 x54_3).f0) t335 _ ?side1 ?side2 ?side3 ?side4 A39.out).mono ?_
              (case side1 => repeat (first | exact (Kd.C_below HR0_1.out (be2 HB GE327 GE332)) | (with_reducible refine Kd.C_alloc ?_ _) | (with_reducible refine Kd.C_drewN ?_ _) | (with_reducible refine Kd.C_drew ?_)))
              (case side2 => exact HC0_1.out)
              (case side3 => repeat (first | exact (Kd.C_below HR0_2.out (be2 HB GE327 GE332)) | (with_reducible refine Kd.C_alloc ?_ _) | (with_reducible refine Kd.C_drewN ?_ _) | (with_reducible refine Kd.C_drew ?_)))
              (case side4 => exact HC0_2.out)
              rintro e w52 ⟨rfl, hb⟩
              refine ⟨_, rfl, ?_⟩
              have n0_ := bb BK327 hb
              have n1_ := bb BK332 hb
              have n2_ := Aside0.mk (below_step (be2 HB GE327 GE332) hb)
              clear BK327
              clear BK332
              clear HB
              have BK327 := n0_
              have BK332 := n1_
              have HB := n2_
              clear n0_ n1_ n2_
              (try clear hb)
              (try clear hb2)
              (try clear hk)
              (try clear hi)
              refine hK.out _ _ ⟨bc0 BK332, bc1 BK332, bc0 BK327, bc1 BK327, bc2 BK327, ((HB.out.cell (World.block_lt_of_cell? w _ hw334_0)).trans hw334_0), ((HB.out.cell (World.block_lt_of_cell? w _ hw334_1)).trans hw334_1)⟩ (fun hHeld => ?_)
              clear hK K
              refine norm_ (a' := ?_) ?_ ?_
              rotate_left
              ·show Act.put _ (some 85) _ = _
               simp only [aP]
               rfl
              refine py HT_ 28 87 (bv 30 0x1fffffff) ?_
              refine py HT_ 29 88 (bv 30 0x3fffffff) ?_
              refine done_ (done_of HT_.out (by kernel_rfl)) ?_
              try go_wp2
              go_ret
              exact ⟨by first | rfl | (simp [errW_none, errW_some] <;> rfl) | (simp only [← hji30]; first | rfl | (simp [errW_none, errW_some] <;> rfl)) | (simp [*, errW_none, errW_some] <;> rfl), be2 HB GE327 GE332⟩
             rw [if_neg c32] at H
             exact absurd H (by simp)
            rw [if_neg c31] at H
            exact absurd H (by simp)
           rw [if_neg c29] at H
           have c29b0 : decide (0 < x54_3) = false := decide_eq_false c29
           clear c29
           replace H := Option.bind_eq_some_iff.mp H
           obtain ⟨t336, A530, H⟩ := H
           try dsimp only at H
           have A53 := Aside0.mk A530
           clear A530
           by_cases c54 : t336 = x54_3
           ·rw [if_pos c54] at H
            have c54b0 : (t336 == x54_3) = true := beq_iff_eq.mpr c54
            have c54b1 : (t336 != x54_3) = false := bne_eq_false_iff_eq.mpr c54
            clear c54
            have H' := Aside0.mk H
            clear H
            have p331 : 0 ≤ (x54_3 : Int) := od
            have q331 : x54_3 < (l0_2.length : Int) := od
            obtain ⟨ad331, e331, hx331_0, hx331_1⟩ := at_T70 HR0_2.out x54_3 p331 q331
            cases e331
            replace hx331_0 := hc HB hx331_0
            replace hx331_1 := hc HB hx331_1
            replace p331 := eq_true p331
            replace q331 := eq_true q331
            try go_wp2_with (first | ((with_reducible refine gate_dst (N := 6) rfl ?_); (try (refine gate_guard (by rfl) ?_; dsimp only)); refine bx 6 #[.int .i64 0, .int .i64 0] 70 ?_; intro gb332 hg w55 hbox hb; have BK332 := am hbox; have GW332 := gs1 hg HB GE327; have GE332 := gs1 hg HB GE327; replace HB := Aside0.mk (below_step (be1 HB GE327) hb); have NB327_332 := Aside0.mk ((by rw [hg]; exact Nat.ne_of_lt (bl BK327) : gb327 ≠ gb332)); have NB332_327 := Aside0.mk ((by rw [hg]; exact Nat.ne_of_gt (bl BK327) : gb332 ≠ gb327)); replace BK327 := bb BK327 hb; clear hb hbox hg; have hnb56 := NB332_327.out; have hnc56 := NB327_332.out; have hcz57_0 := bz2 BK332))
            have n0_ : Aside0 (((w55.setCell ⟨gb332, 0, none⟩ (.int .i64 ((rd_T70 l0_2 x54_3).f0))).setCell ⟨gb332, 1, none⟩ (.int .i64 ((rd_T70 l0_2 x54_3).f1))).heap[gb327]? = some (.cells #[.int .i64 a0_0, .slice A0_1 l0_1.length c0_1, .slice (some ad331) l0_2.length c0_2] 25 (0, 0))) := ⟨by (with_reducible repeat (first | refine blk_drewN ?_ _ | refine blk_drew ?_ | refine blk_alloc ?_ _)); refine blk_far ?_ NB327_332.out _; (with_reducible repeat (first | refine blk_drewN ?_ _ | refine blk_drew ?_ | refine blk_alloc ?_ _)); refine blk_far ?_ NB327_332.out _; (with_reducible repeat (first | refine blk_drewN ?_ _ | refine blk_drew ?_ | refine blk_alloc ?_ _)); exact BK327.out⟩
            have n1_ : Aside0 (((w55.setCell ⟨gb332, 0, none⟩ (.int .i64 ((rd_T70 l0_2 x54_3).f0))).setCell ⟨gb332, 1, none⟩ (.int .i64 ((rd_T70 l0_2 x54_3).f1))).heap[gb332]? = some (.cells #[.int .i64 ((rd_T70 l0_2 x54_3).f0), .int .i64 ((rd_T70 l0_2 x54_3).f1)] 70 (0, 0))) := ⟨by (with_reducible repeat (first | refine blk_drewN ?_ _ | refine blk_drew ?_ | refine blk_alloc ?_ _)); refine blk_put (cs := #[.int .i64 ((rd_T70 l0_2 x54_3).f0), .int .i64 0]) ?_ 1 _ rfl; (with_reducible repeat (first | refine blk_drewN ?_ _ | refine blk_drew ?_ | refine blk_alloc ?_ _)); refine blk_put (cs := #[.int .i64 0, .int .i64 0]) ?_ 0 _ rfl; (with_reducible repeat (first | refine blk_drewN ?_ _ | refine blk_drew ?_ | refine blk_alloc ?_ _)); exact BK332.out⟩
            have n2_ : Aside0 (Below w.heap.size w ((w55.setCell ⟨gb332, 0, none⟩ (.int .i64 ((rd_T70 l0_2 x54_3).f0))).setCell ⟨gb332, 1, none⟩ (.int .i64 ((rd_T70 l0_2 x54_3).f1)))) := ⟨be2 HB GE327 GE332⟩
            (try clear BK327)
            (try clear BK332)
            (try clear HB)
            generalize ((w55.setCell ⟨gb332, 0, none⟩ (.int .i64 ((rd_T70 l0_2 x54_3).f0))).setCell ⟨gb332, 1, none⟩ (.int .i64 ((rd_T70 l0_2 x54_3).f1))) = w58 at n0_ n1_ n2_ ⊢
            have BK327 := n0_
            have BK332 := n1_
            have HB := n2_
            clear n0_ n1_ n2_
            have n0_ := Aside0.mk (blk_drew BK327.out)
            have n1_ := Aside0.mk (blk_drew BK332.out)
            have n2_ := Aside0.mk (below_drew1 HB.out)
            clear BK327
            clear BK332
            clear HB
            have BK327 := n0_
            have BK332 := n1_
            have HB := n2_
            clear n0_ n1_ n2_
            refine start_ (n := 30) (S := fun w' => w'.cell? ⟨gb332, 0, none⟩ = some (.int .i64 ((rd_T70 l0_2 x54_3).f0)) ∧ w'.cell? ⟨gb332, 1, none⟩ = some (.int .i64 ((rd_T70 l0_2 x54_3).f1)) ∧ w'.cell? ⟨gb327, 0, none⟩ = some (.int .i64 a0_0) ∧ w'.cell? ⟨gb327, 1, none⟩ = some (.slice A0_1 l0_1.length c0_1) ∧ w'.cell? ⟨gb327, 2, none⟩ = some (.slice (some ad331) l0_2.length c0_2)) (ds := []) (bv 30 0x0) (by kernel_rfl) rfl rfl ⟨bc0 BK332, bc1 BK332, bc0 BK327, bc1 BK327, bc2 BK327⟩ (fun hHeld => ?_); refine with_tabW impl_AgesOk.tab12 impl_AgesOk.bits12 (fun HT_ HW_ => ?_)
            generalize w58.drew = w59 at BK327 BK332 HB hHeld ⊢
            refine py HT_ 0 59 (bv 30 0x1) ?_
            refine py HT_ 2 61 (bv 30 0x5) ?_
            refine tk HT_ HW_ hHeld 1 60 (bv 30 0x7) ?_
            refine tk HT_ HW_ hHeld 3 62 (bv 30 0xf) ?_
            refine one_ (i := 4) (N := some 63) (bv 30 0x1f) rfl rfl (one_of HT_.out (by kernel_rfl)) (by decide) (fun K hK => ?_)
            refine goes_ Try.func46 (by kernel_rfl) rfl #[.int .i64 ((rd_T70 l0_2 x54_3).f1), .int .i64 0, .int .i64 a0_0] (by rfl) rfl rfl ml ?_
            with_reducible refine (impl_within.calls ((rd_T70 l0_2 x54_3).f1) 0 a0_0 true _ A27.out).mono ?_
            rintro e w' ⟨rfl, ⟨nd, rfl⟩⟩
            refine ⟨_, rfl, ?_⟩
            refine hK.out _ _ ⟨bc0 BK332, bc1 BK332, bc0 BK327, bc1 BK327, bc2 BK327⟩ (fun hHeld => ?_)
            clear hK K
            refine norm_ (a' := ?_) ?_ ?_
            rotate_left
            ·show Act.put _ (some 63) _ = _
             simp only [aP]
             rfl
            refine py HT_ 5 64 (bv 30 0x3f) ?_
            refine py HT_ 6 65 (bv 30 0x7f) ?_
            refine py HT_ 7 66 (bv 30 0xff) ?_
            refine py HT_ 8 67 (bv 30 0x1ff) ?_
            refine py HT_ 9 68 (bv 30 0x3ff) ?_
            refine pu HT_ 10 69 (bv 30 0x7ff) ?_
            refine pu HT_ 11 70 (bv 30 0xfff) ?_
            refine pu HT_ 12 71 (bv 30 0x1fff) ?_
            refine pu HT_ 13 72 (bv 30 0x3fff) ?_
            refine pu HT_ 14 73 (bv 30 0x7fff) ?_
            refine pu HT_ 15 74 (bv 30 0xffff) ?_
            refine pu HT_ 16 75 (bv 30 0x1ffff) ?_
            refine pu HT_ 17 76 (bv 30 0x3ffff) ?_
            refine pu HT_ 18 77 (bv 30 0x7ffff) ?_
            refine pu HT_ 19 78 (bv 30 0xfffff) ?_
            refine py HT_ 20 79 (bv 30 0x1fffff) ?_
            refine py HT_ 21 80 (bv 30 0x3fffff) ?_
            refine py HT_ 22 81 (bv 30 0x7fffff) ?_
            refine py HT_ 24 83 (bv 30 0x17fffff) ?_
            refine py HT_ 27 86 (bv 30 0x97fffff) ?_
            refine tk HT_ HW_ hHeld 23 82 (bv 30 0x9ffffff) ?_
            refine tk HT_ HW_ hHeld 25 84 (bv 30 0xbffffff) ?_
            refine one_ (i := 26) (N := some 85) (bv 30 0xfffffff) rfl rfl (one_of HT_.out (by kernel_rfl)) (by decide) (fun K hK => ?_)
            refine goes_ Try.func62 (by kernel_rfl) rfl #[.agg #[.int .i64 a0_0, .slice A0_1 l0_1.length c0_1, .slice (some ad331) l0_2.length c0_2], .int .i64 ((rd_T70 l0_2 x54_3).f0)] (by rfl) rfl rfl ml ?_
            with_reducible refine (impl_Ages_inLimbo.calls k3 a0_0 _ _ l0_1 _ _ l0_2 ((rd_T70 l0_2 x54_3).f0) t336 _ ?side1 ?side2 ?side3 ?side4 A53.out).mono ?_
            (case side1 => repeat (first | exact (Kd.C_below HR0_1.out (be2 HB GE327 GE332)) | (with_reducible refine Kd.C_alloc ?_ _) | (with_reducible refine Kd.C_drewN ?_ _) | (with_reducible refine Kd.C_drew ?_)))
            (case side2 => exact HC0_1.out)
            (case side3 => repeat (first | exact (Kd.C_below HR0_2.out (be2 HB GE327 GE332)) | (with_reducible refine Kd.C_alloc ?_ _) | (with_reducible refine Kd.C_drewN ?_ _) | (with_reducible refine Kd.C_drew ?_)))
            (case side4 => exact HC0_2.out)
            rintro e w60 ⟨rfl, hb⟩
            refine ⟨_, rfl, ?_⟩
            have n0_ := bb BK327 hb
            have n1_ := bb BK332 hb
            have n2_ := Aside0.mk (below_step (be2 HB GE327 GE332) hb)
            clear BK327
            clear BK332
            clear HB
            have BK327 := n0_
            have BK332 := n1_
            have HB := n2_
            clear n0_ n1_ n2_
            (try clear hb)
            (try clear hb2)
            (try clear hk)
            (try clear hi)
            refine hK.out _ _ ⟨bc0 BK332, bc1 BK332, bc0 BK327, bc1 BK327, bc2 BK327⟩ (fun hHeld => ?_)
            clear hK K
            refine norm_ (a' := ?_) ?_ ?_
            rotate_left
            ·show Act.put _ (some 85) _ = _
             simp only [aP]
             rfl
            refine py HT_ 28 87 (bv 30 0x1fffffff) ?_
            refine py HT_ 29 88 (bv 30 0x3fffffff) ?_
            refine done_ (done_of HT_.out (by kernel_rfl)) ?_
            try go_wp2
            go_roundg k3
            case measure => have := HJ1.out; have := HK2.out; have := HK3.out; omega
            case rel => exact ⟨(wrap64 (x54_3 + 1)), rs, H', ⟨by have := HJ1.out; have := HK2.out; have := HK3.out; omega⟩, ⟨bk BK327⟩, ⟨be2 HB GE327 GE332⟩⟩
           rw [if_neg c54] at H
           have c54b0 : (t336 == x54_3) = false := beq_eq_false_iff_ne.mpr c54
           have c54b1 : (t336 != x54_3) = true := bne_iff_ne.mpr c54
           obtain rfl := Option.some.inj H
           have p331 : 0 ≤ (x54_3 : Int) := od
           have q331 : x54_3 < (l0_2.length : Int) := od
           obtain ⟨ad331, e331, hx331_0, hx331_1⟩ := at_T70 HR0_2.out x54_3 p331 q331
           cases e331
           replace hx331_0 := hc HB hx331_0
           replace hx331_1 := hc HB hx331_1
           replace p331 := eq_true p331
           replace q331 := eq_true q331
           try go_wp2_with (first | ((with_reducible refine gate_dst (N := 6) rfl ?_); (try (refine gate_guard (by rfl) ?_; dsimp only)); refine bx 6 #[.int .i64 0, .int .i64 0] 70 ?_; intro gb332 hg w61 hbox hb; have BK332 := am hbox; have GW332 := gs1 hg HB GE327; have GE332 := gs1 hg HB GE327; replace HB := Aside0.mk (below_step (be1 HB GE327) hb); have NB327_332 := Aside0.mk ((by rw [hg]; exact Nat.ne_of_lt (bl BK327) : gb327 ≠ gb332)); have NB332_327 := Aside0.mk ((by rw [hg]; exact Nat.ne_of_gt (bl BK327) : gb332 ≠ gb327)); replace BK327 := bb BK327 hb; clear hb hbox hg; have hnb62 := NB332_327.out; have hnc62 := NB327_332.out; have hcz63_0 := bz2 BK332))
           have n0_ : Aside0 (((w61.setCell ⟨gb332, 0, none⟩ (.int .i64 ((rd_T70 l0_2 x54_3).f0))).setCell ⟨gb332, 1, none⟩ (.int .i64 ((rd_T70 l0_2 x54_3).f1))).heap[gb327]? = some (.cells #[.int .i64 a0_0, .slice A0_1 l0_1.length c0_1, .slice (some ad331) l0_2.length c0_2] 25 (0, 0))) := ⟨by (with_reducible repeat (first | refine blk_drewN ?_ _ | refine blk_drew ?_ | refine blk_alloc ?_ _)); refine blk_far ?_ NB327_332.out _; (with_reducible repeat (first | refine blk_drewN ?_ _ | refine blk_drew ?_ | refine blk_alloc ?_ _)); refine blk_far ?_ NB327_332.out _; (with_reducible repeat (first | refine blk_drewN ?_ _ | refine blk_drew ?_ | refine blk_alloc ?_ _)); exact BK327.out⟩
           have n1_ : Aside0 (((w61.setCell ⟨gb332, 0, none⟩ (.int .i64 ((rd_T70 l0_2 x54_3).f0))).setCell ⟨gb332, 1, none⟩ (.int .i64 ((rd_T70 l0_2 x54_3).f1))).heap[gb332]? = some (.cells #[.int .i64 ((rd_T70 l0_2 x54_3).f0), .int .i64 ((rd_T70 l0_2 x54_3).f1)] 70 (0, 0))) := ⟨by (with_reducible repeat (first | refine blk_drewN ?_ _ | refine blk_drew ?_ | refine blk_alloc ?_ _)); refine blk_put (cs := #[.int .i64 ((rd_T70 l0_2 x54_3).f0), .int .i64 0]) ?_ 1 _ rfl; (with_reducible repeat (first | refine blk_drewN ?_ _ | refine blk_drew ?_ | refine blk_alloc ?_ _)); refine blk_put (cs := #[.int .i64 0, .int .i64 0]) ?_ 0 _ rfl; (with_reducible repeat (first | refine blk_drewN ?_ _ | refine blk_drew ?_ | refine blk_alloc ?_ _)); exact BK332.out⟩
           have n2_ : Aside0 (Below w.heap.size w ((w61.setCell ⟨gb332, 0, none⟩ (.int .i64 ((rd_T70 l0_2 x54_3).f0))).setCell ⟨gb332, 1, none⟩ (.int .i64 ((rd_T70 l0_2 x54_3).f1)))) := ⟨be2 HB GE327 GE332⟩
           (try clear BK327)
           (try clear BK332)
           (try clear HB)
           generalize ((w61.setCell ⟨gb332, 0, none⟩ (.int .i64 ((rd_T70 l0_2 x54_3).f0))).setCell ⟨gb332, 1, none⟩ (.int .i64 ((rd_T70 l0_2 x54_3).f1))) = w64 at n0_ n1_ n2_ ⊢
           have BK327 := n0_
           have BK332 := n1_
           have HB := n2_
           clear n0_ n1_ n2_
           have n0_ := Aside0.mk (blk_drew BK327.out)
           have n1_ := Aside0.mk (blk_drew BK332.out)
           have n2_ := Aside0.mk (below_drew1 HB.out)
           clear BK327
           clear BK332
           clear HB
           have BK327 := n0_
           have BK332 := n1_
           have HB := n2_
           clear n0_ n1_ n2_
           refine start_ (n := 30) (S := fun w' => w'.cell? ⟨gb332, 0, none⟩ = some (.int .i64 ((rd_T70 l0_2 x54_3).f0)) ∧ w'.cell? ⟨gb332, 1, none⟩ = some (.int .i64 ((rd_T70 l0_2 x54_3).f1)) ∧ w'.cell? ⟨gb327, 0, none⟩ = some (.int .i64 a0_0) ∧ w'.cell? ⟨gb327, 1, none⟩ = some (.slice A0_1 l0_1.length c0_1) ∧ w'.cell? ⟨gb327, 2, none⟩ = some (.slice (some ad331) l0_2.length c0_2)) (ds := []) (bv 30 0x0) (by kernel_rfl) rfl rfl ⟨bc0 BK332, bc1 BK332, bc0 BK327, bc1 BK327, bc2 BK327⟩ (fun hHeld => ?_); refine with_tabW impl_AgesOk.tab12 impl_AgesOk.bits12 (fun HT_ HW_ => ?_)
           generalize w64.drew = w65 at BK327 BK332 HB hHeld ⊢
           refine py HT_ 0 59 (bv 30 0x1) ?_
           refine py HT_ 2 61 (bv 30 0x5) ?_
           refine tk HT_ HW_ hHeld 1 60 (bv 30 0x7) ?_
           refine tk HT_ HW_ hHeld 3 62 (bv 30 0xf) ?_
           refine one_ (i := 4) (N := some 63) (bv 30 0x1f) rfl rfl (one_of HT_.out (by kernel_rfl)) (by decide) (fun K hK => ?_)
           refine goes_ Try.func46 (by kernel_rfl) rfl #[.int .i64 ((rd_T70 l0_2 x54_3).f1), .int .i64 0, .int .i64 a0_0] (by rfl) rfl rfl ml ?_
           with_reducible refine (impl_within.calls ((rd_T70 l0_2 x54_3).f1) 0 a0_0 true _ A27.out).mono ?_
           rintro e w' ⟨rfl, ⟨nd, rfl⟩⟩
           refine ⟨_, rfl, ?_⟩
           refine hK.out _ _ ⟨bc0 BK332, bc1 BK332, bc0 BK327, bc1 BK327, bc2 BK327⟩ (fun hHeld => ?_)
           clear hK K
           refine norm_ (a' := ?_) ?_ ?_
           rotate_left
           ·show Act.put _ (some 63) _ = _
            simp only [aP]
            rfl
           refine py HT_ 5 64 (bv 30 0x3f) ?_
           refine py HT_ 6 65 (bv 30 0x7f) ?_
           refine py HT_ 7 66 (bv 30 0xff) ?_
           refine py HT_ 8 67 (bv 30 0x1ff) ?_
           refine py HT_ 9 68 (bv 30 0x3ff) ?_
           refine pu HT_ 10 69 (bv 30 0x7ff) ?_
           refine pu HT_ 11 70 (bv 30 0xfff) ?_
           refine pu HT_ 12 71 (bv 30 0x1fff) ?_
           refine pu HT_ 13 72 (bv 30 0x3fff) ?_
           refine pu HT_ 14 73 (bv 30 0x7fff) ?_
           refine pu HT_ 15 74 (bv 30 0xffff) ?_
           refine pu HT_ 16 75 (bv 30 0x1ffff) ?_
           refine pu HT_ 17 76 (bv 30 0x3ffff) ?_
           refine pu HT_ 18 77 (bv 30 0x7ffff) ?_
           refine pu HT_ 19 78 (bv 30 0xfffff) ?_
           refine py HT_ 20 79 (bv 30 0x1fffff) ?_
           refine py HT_ 21 80 (bv 30 0x3fffff) ?_
           refine py HT_ 22 81 (bv 30 0x7fffff) ?_
           refine py HT_ 24 83 (bv 30 0x17fffff) ?_
           refine py HT_ 27 86 (bv 30 0x97fffff) ?_
           refine tk HT_ HW_ hHeld 23 82 (bv 30 0x9ffffff) ?_
           refine tk HT_ HW_ hHeld 25 84 (bv 30 0xbffffff) ?_
           refine one_ (i := 26) (N := some 85) (bv 30 0xfffffff) rfl rfl (one_of HT_.out (by kernel_rfl)) (by decide) (fun K hK => ?_)
           refine goes_ Try.func62 (by kernel_rfl) rfl #[.agg #[.int .i64 a0_0, .slice A0_1 l0_1.length c0_1, .slice (some ad331) l0_2.length c0_2], .int .i64 ((rd_T70 l0_2 x54_3).f0)] (by rfl) rfl rfl ml ?_
           with_reducible refine (impl_Ages_inLimbo.calls k3 a0_0 _ _ l0_1 _ _ l0_2 ((rd_T70 l0_2 x54_3).f0) t336 _ ?side1 ?side2 ?side3 ?side4 A53.out).mono ?_
           (case side1 => repeat (first | exact (Kd.C_below HR0_1.out (be2 HB GE327 GE332)) | (with_reducible refine Kd.C_alloc ?_ _) | (with_reducible refine Kd.C_drewN ?_ _) | (with_reducible refine Kd.C_drew ?_)))
           (case side2 => exact HC0_1.out)
           (case side3 => repeat (first | exact (Kd.C_below HR0_2.out (be2 HB GE327 GE332)) | (with_reducible refine Kd.C_alloc ?_ _) | (with_reducible refine Kd.C_drewN ?_ _) | (with_reducible refine Kd.C_drew ?_)))
           (case side4 => exact HC0_2.out)
           rintro e w66 ⟨rfl, hb⟩
           refine ⟨_, rfl, ?_⟩
           have n0_ := bb BK327 hb
           have n1_ := bb BK332 hb
           have n2_ := Aside0.mk (below_step (be2 HB GE327 GE332) hb)
           clear BK327
           clear BK332
           clear HB
           have BK327 := n0_
           have BK332 := n1_
           have HB := n2_
           clear n0_ n1_ n2_
           (try clear hb)
           (try clear hb2)
           (try clear hk)
           (try clear hi)
           refine hK.out _ _ ⟨bc0 BK332, bc1 BK332, bc0 BK327, bc1 BK327, bc2 BK327⟩ (fun hHeld => ?_)
           clear hK K
           refine norm_ (a' := ?_) ?_ ?_
           rotate_left
           ·show Act.put _ (some 85) _ = _
            simp only [aP]
            rfl
           refine py HT_ 28 87 (bv 30 0x1fffffff) ?_
           refine py HT_ 29 88 (bv 30 0x3fffffff) ?_
           refine done_ (done_of HT_.out (by kernel_rfl)) ?_
           try go_wp2
           go_ret
           exact ⟨er, be2 HB GE327 GE332⟩
          replace c28 := Bool.eq_false_iff.mpr c28
          subst c28
          rw [if_neg (show ¬ (false = true) by decide)] at H
          obtain rfl := Option.some.inj H
          have p331 : 0 ≤ (x54_3 : Int) := od
          have q331 : x54_3 < (l0_2.length : Int) := od
          obtain ⟨ad331, e331, hx331_0, hx331_1⟩ := at_T70 HR0_2.out x54_3 p331 q331
          cases e331
          replace hx331_0 := hc HB hx331_0
          replace hx331_1 := hc HB hx331_1
          replace p331 := eq_true p331
          replace q331 := eq_true q331
          try go_wp2_with (first | ((with_reducible refine gate_dst (N := 6) rfl ?_); (try (refine gate_guard (by rfl) ?_; dsimp only)); refine bx 6 #[.int .i64 0, .int .i64 0] 70 ?_; intro gb332 hg w67 hbox hb; have BK332 := am hbox; have GW332 := gs1 hg HB GE327; have GE332 := gs1 hg HB GE327; replace HB := Aside0.mk (below_step (be1 HB GE327) hb); have NB327_332 := Aside0.mk ((by rw [hg]; exact Nat.ne_of_lt (bl BK327) : gb327 ≠ gb332)); have NB332_327 := Aside0.mk ((by rw [hg]; exact Nat.ne_of_gt (bl BK327) : gb332 ≠ gb327)); replace BK327 := bb BK327 hb; clear hb hbox hg; have hnb68 := NB332_327.out; have hnc68 := NB327_332.out; have hcz69_0 := bz2 BK332))
          have n0_ : Aside0 (((w67.setCell ⟨gb332, 0, none⟩ (.int .i64 ((rd_T70 l0_2 x54_3).f0))).setCell ⟨gb332, 1, none⟩ (.int .i64 ((rd_T70 l0_2 x54_3).f1))).heap[gb327]? = some (.cells #[.int .i64 a0_0, .slice A0_1 l0_1.length c0_1, .slice (some ad331) l0_2.length c0_2] 25 (0, 0))) := ⟨by (with_reducible repeat (first | refine blk_drewN ?_ _ | refine blk_drew ?_ | refine blk_alloc ?_ _)); refine blk_far ?_ NB327_332.out _; (with_reducible repeat (first | refine blk_drewN ?_ _ | refine blk_drew ?_ | refine blk_alloc ?_ _)); refine blk_far ?_ NB327_332.out _; (with_reducible repeat (first | refine blk_drewN ?_ _ | refine blk_drew ?_ | refine blk_alloc ?_ _)); exact BK327.out⟩
          have n1_ : Aside0 (((w67.setCell ⟨gb332, 0, none⟩ (.int .i64 ((rd_T70 l0_2 x54_3).f0))).setCell ⟨gb332, 1, none⟩ (.int .i64 ((rd_T70 l0_2 x54_3).f1))).heap[gb332]? = some (.cells #[.int .i64 ((rd_T70 l0_2 x54_3).f0), .int .i64 ((rd_T70 l0_2 x54_3).f1)] 70 (0, 0))) := ⟨by (with_reducible repeat (first | refine blk_drewN ?_ _ | refine blk_drew ?_ | refine blk_alloc ?_ _)); refine blk_put (cs := #[.int .i64 ((rd_T70 l0_2 x54_3).f0), .int .i64 0]) ?_ 1 _ rfl; (with_reducible repeat (first | refine blk_drewN ?_ _ | refine blk_drew ?_ | refine blk_alloc ?_ _)); refine blk_put (cs := #[.int .i64 0, .int .i64 0]) ?_ 0 _ rfl; (with_reducible repeat (first | refine blk_drewN ?_ _ | refine blk_drew ?_ | refine blk_alloc ?_ _)); exact BK332.out⟩
          have n2_ : Aside0 (Below w.heap.size w ((w67.setCell ⟨gb332, 0, none⟩ (.int .i64 ((rd_T70 l0_2 x54_3).f0))).setCell ⟨gb332, 1, none⟩ (.int .i64 ((rd_T70 l0_2 x54_3).f1)))) := ⟨be2 HB GE327 GE332⟩
          (try clear BK327)
          (try clear BK332)
          (try clear HB)
          generalize ((w67.setCell ⟨gb332, 0, none⟩ (.int .i64 ((rd_T70 l0_2 x54_3).f0))).setCell ⟨gb332, 1, none⟩ (.int .i64 ((rd_T70 l0_2 x54_3).f1))) = w70 at n0_ n1_ n2_ ⊢
          have BK327 := n0_
          have BK332 := n1_
          have HB := n2_
          clear n0_ n1_ n2_
          have n0_ := Aside0.mk (blk_drew BK327.out)
          have n1_ := Aside0.mk (blk_drew BK332.out)
          have n2_ := Aside0.mk (below_drew1 HB.out)
          clear BK327
          clear BK332
          clear HB
          have BK327 := n0_
          have BK332 := n1_
          have HB := n2_
          clear n0_ n1_ n2_
          refine start_ (n := 30) (S := fun w' => w'.cell? ⟨gb332, 0, none⟩ = some (.int .i64 ((rd_T70 l0_2 x54_3).f0)) ∧ w'.cell? ⟨gb332, 1, none⟩ = some (.int .i64 ((rd_T70 l0_2 x54_3).f1)) ∧ w'.cell? ⟨gb327, 0, none⟩ = some (.int .i64 a0_0) ∧ w'.cell? ⟨gb327, 1, none⟩ = some (.slice A0_1 l0_1.length c0_1) ∧ w'.cell? ⟨gb327, 2, none⟩ = some (.slice (some ad331) l0_2.length c0_2)) (ds := []) (bv 30 0x0) (by kernel_rfl) rfl rfl ⟨bc0 BK332, bc1 BK332, bc0 BK327, bc1 BK327, bc2 BK327⟩ (fun hHeld => ?_); refine with_tabW impl_AgesOk.tab12 impl_AgesOk.bits12 (fun HT_ HW_ => ?_)
          generalize w70.drew = w71 at BK327 BK332 HB hHeld ⊢
          refine py HT_ 0 59 (bv 30 0x1) ?_
          refine py HT_ 2 61 (bv 30 0x5) ?_
          refine tk HT_ HW_ hHeld 1 60 (bv 30 0x7) ?_
          refine tk HT_ HW_ hHeld 3 62 (bv 30 0xf) ?_
          refine one_ (i := 4) (N := some 63) (bv 30 0x1f) rfl rfl (one_of HT_.out (by kernel_rfl)) (by decide) (fun K hK => ?_)
          refine goes_ Try.func46 (by kernel_rfl) rfl #[.int .i64 ((rd_T70 l0_2 x54_3).f1), .int .i64 0, .int .i64 a0_0] (by rfl) rfl rfl ml ?_
          with_reducible refine (impl_within.calls ((rd_T70 l0_2 x54_3).f1) 0 a0_0 false _ A27.out).mono ?_
          rintro e w' ⟨rfl, ⟨nd, rfl⟩⟩
          refine ⟨_, rfl, ?_⟩
          refine hK.out _ _ ⟨bc0 BK332, bc1 BK332, bc0 BK327, bc1 BK327, bc2 BK327⟩ (fun hHeld => ?_)
          clear hK K
          refine norm_ (a' := ?_) ?_ ?_
          rotate_left
          ·show Act.put _ (some 63) _ = _
           simp only [aP]
           rfl
          refine py HT_ 5 64 (bv 30 0x3f) ?_
          refine py HT_ 6 65 (bv 30 0x7f) ?_
          refine pu HT_ 7 66 (bv 30 0xff) ?_
          refine pu HT_ 8 67 (bv 30 0x1ff) ?_
          refine pu HT_ 9 68 (bv 30 0x3ff) ?_
          refine pu HT_ 10 69 (bv 30 0x7ff) ?_
          refine pu HT_ 11 70 (bv 30 0xfff) ?_
          refine pu HT_ 12 71 (bv 30 0x1fff) ?_
          refine pu HT_ 13 72 (bv 30 0x3fff) ?_
          refine pu HT_ 14 73 (bv 30 0x7fff) ?_
          refine pu HT_ 15 74 (bv 30 0xffff) ?_
          refine pu HT_ 16 75 (bv 30 0x1ffff) ?_
          refine pu HT_ 17 76 (bv 30 0x3ffff) ?_
          refine pu HT_ 18 77 (bv 30 0x7ffff) ?_
          refine pu HT_ 19 78 (bv 30 0xfffff) ?_
          refine pu HT_ 20 79 (bv 30 0x1fffff) ?_
          refine py HT_ 21 80 (bv 30 0x3fffff) ?_
          refine py HT_ 22 81 (bv 30 0x7fffff) ?_
          refine pu HT_ 23 82 (bv 30 0xffffff) ?_
          refine pu HT_ 24 83 (bv 30 0x1ffffff) ?_
          refine pu HT_ 25 84 (bv 30 0x3ffffff) ?_
          refine pu HT_ 26 85 (bv 30 0x7ffffff) ?_
          refine pu HT_ 27 86 (bv 30 0xfffffff) ?_
          refine pu HT_ 28 87 (bv 30 0x1fffffff) ?_
          refine py HT_ 29 88 (bv 30 0x3fffffff) ?_
          refine done_ (done_of HT_.out (by kernel_rfl)) ?_
          try go_wp2
          go_ret
          exact ⟨er, be2 HB GE327 GE332⟩
         rw [if_neg c26] at H
         exact absurd H (by simp)
        rw [if_neg c25] at H
        exact absurd H (by simp)
       rw [if_neg c24] at H
       have c24b0 : decide (x54_3 < (l0_2.length : Int)) = false := decide_eq_false c24
       clear c24
       obtain rfl := Option.some.inj H
       go_wp2
       go_ret
       exact ⟨er, be1 HB GE327⟩

end Go.Proofs.Ytdgpidhlbpaolaa.QFnExactAlloc
