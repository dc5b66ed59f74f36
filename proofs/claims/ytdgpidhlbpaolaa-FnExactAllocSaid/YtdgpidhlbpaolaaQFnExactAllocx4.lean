-- made by a program of this session (myprint.py)
import Derived.Test.YtdgpidhlbpaolaaQFnExactAllocx0
import Derived.Test.YtdgpidhlbpaolaaQFnExactAllocx3
namespace Go.Proofs.Ytdgpidhlbpaolaa.QFnExactAlloc
open Go.RowKit Go.Proofs.YtdgpidhlbpaolaaW.PrintWords Go.Proofs.YtdgpidhlbpaolaaW.PrintLast Go.Proofs.YtdgpidhlbpaolaaW.PrintMore
attribute [local go_sem] max2_int min2_int max_two min_two max_three min_three max_four min_four   -- for this text's walks alone
set_option linter.unusedVariables false
set_option linter.unusedSimpArgs false

/-! ### spec_AgesOk: function 53 -/
mutual
def spec_AgesOk.j0 : Nat → Bool → Int → List Int → List (S70) → Option (Bool)
 | 0, _, _, _, _ => none
 | k + 1, x28, x208000, x208001, x208002 => if x28 = true then (some false) else (spec_AgesOk.l0 k x208001 (x208001.length : Int) 0 x208000 x208001 x208002)
def spec_AgesOk.l0 : Nat → List Int → Int → Int → Int → List Int → List (S70) → Option (Bool)
 | 0, _, _, _, _, _, _ => none
 | k + 1, x30, x31, x32, x208000, x208001, x208002 => if x32 < x31 then (if 0 ≤ x32 then (if x32 < (x30.length : Int) then (if (rd x30 x32) = (-1) then (spec_AgesOk.l0 k x30 x31 (wrap64 (x32 + 1)) x208000 x208001 x208002) else (if (rd x30 x32) = x208000 then (spec_AgesOk.l0 k x30 x31 (wrap64 (x32 + 1)) x208000 x208001 x208002) else (if (rd x30 x32) < 0 then (some false) else (if (rd x30 x32) = (wrap64 (x208000 - 1)) then (spec_AgesOk.l0 k x30 x31 (wrap64 (x32 + 1)) x208000 x208001 x208002) else (some false))))) else (none)) else (none)) else (spec_AgesOk.l1 k x208002 (x208002.length : Int) 0 x208000 x208001 x208002)
def spec_AgesOk.l1 : Nat → List (S70) → Int → Int → Int → List Int → List (S70) → Option (Bool)
 | 0, _, _, _, _, _, _ => none
 | k + 1, x57, x58, x59, x208000, x208001, x208002 => if x59 < x58 then (if 0 ≤ x59 then (if x59 < (x57.length : Int) then (if ((rd_T70 x57 x59).f1) < 0 then (some false) else (if ((rd_T70 x57 x59).f1) > x208000 then (some false) else (if x59 > 0 then (if 0 ≤ (wrap64 (x59 - 1)) then (if (wrap64 (x59 - 1)) < (x208002.length : Int) then (if ((rd_T70 x208002 (wrap64 (x59 - 1))).f1) > ((rd_T70 x57 x59).f1) then (some false) else (if x59 ≤ (x208002.length : Int) then ((spec_l06Node.f k (x208002.take (x59 : Int).toNat) ((rd_T70 x57 x59).f0)).bind fun t217 => (if t217 = true then (some false) else (spec_AgesOk.l1 k x57 x58 (wrap64 (x59 + 1)) x208000 x208001 x208002))) else (none))) else (none)) else (none)) else (if x59 ≤ (x208002.length : Int) then ((spec_l06Node.f k (x208002.take (x59 : Int).toNat) ((rd_T70 x57 x59).f0)).bind fun t222 => (if t222 = true then (some false) else (spec_AgesOk.l1 k x57 x58 (wrap64 (x59 + 1)) x208000 x208001 x208002))) else (none))))) else (none)) else (none)) else (some true)
end
def spec_AgesOk.f (k : Nat) (a0_0 : Int) (l0_1 : List Int) (l0_2 : List (S70)) : Option (Bool) := (spec_l01Num.f a0_0).bind fun t208 => (if t208 = true then (if (l0_1.length : Int) < 1 then (spec_AgesOk.j0 k true a0_0 l0_1 l0_2) else (if (l0_1.length : Int) > 8 then (spec_AgesOk.j0 k true a0_0 l0_1 l0_2) else (spec_AgesOk.j0 k (decide ((l0_2.length : Int) > 100)) a0_0 l0_1 l0_2))) else (spec_AgesOk.j0 k true a0_0 l0_1 l0_2))
theorem spec_AgesOk.mono_l : ∀ k, (∀ y0 y1 y2 y3, LeO (spec_AgesOk.j0 k y0 y1 y2 y3) (spec_AgesOk.j0 (k + 1) y0 y1 y2 y3)) ∧ (∀ y0 y1 y2 y3 y4 y5, LeO (spec_AgesOk.l0 k y0 y1 y2 y3 y4 y5) (spec_AgesOk.l0 (k + 1) y0 y1 y2 y3 y4 y5)) ∧ (∀ y0 y1 y2 y3 y4 y5, LeO (spec_AgesOk.l1 k y0 y1 y2 y3 y4 y5) (spec_AgesOk.l1 (k + 1) y0 y1 y2 y3 y4 y5))
 | 0 => ⟨fun _ _ _ _ r h => by simp [spec_AgesOk.j0] at h, fun _ _ _ _ _ _ r h => by simp [spec_AgesOk.l0] at h, fun _ _ _ _ _ _ r h => by simp [spec_AgesOk.l1] at h⟩
 | k + 1 => by
  obtain ⟨ih0, ih1, ih2⟩ := spec_AgesOk.mono_l k
  refine ⟨?_, ?_, ?_⟩
  ·intro y0 y1 y2 y3
   unfold spec_AgesOk.j0
   repeat' first
   | (with_reducible exact ih0 _ _ _ _)
   | (with_reducible exact ih1 _ _ _ _ _ _)
   | (with_reducible exact ih2 _ _ _ _ _ _)
   | (with_reducible exact spec_l06Node.mono _ _ _)
   | (with_reducible exact LeO.refl _)
   | (with_reducible exact LeO.none _)
   | (with_reducible refine LeO.ite ?_ ?_)
   | (with_reducible refine LeO.bind ?_ (fun _ => ?_))
   | exact ih0 _ _ _ _
   | exact ih1 _ _ _ _ _ _
   | exact ih2 _ _ _ _ _ _
   | exact spec_l06Node.mono _ _ _
   | exact LeO.none _
   | refine LeO.ite ?_ ?_
   | refine LeO.bind ?_ (fun _ => ?_)
  ·intro y0 y1 y2 y3 y4 y5
   unfold spec_AgesOk.l0
   repeat' first
   | (with_reducible exact ih0 _ _ _ _)
   | (with_reducible exact ih1 _ _ _ _ _ _)
   | (with_reducible exact ih2 _ _ _ _ _ _)
   | (with_reducible exact spec_l06Node.mono _ _ _)
   | (with_reducible exact LeO.refl _)
   | (with_reducible exact LeO.none _)
   | (with_reducible refine LeO.ite ?_ ?_)
   | (with_reducible refine LeO.bind ?_ (fun _ => ?_))
   | exact ih0 _ _ _ _
   | exact ih1 _ _ _ _ _ _
   | exact ih2 _ _ _ _ _ _
   | exact spec_l06Node.mono _ _ _
   | exact LeO.none _
   | refine LeO.ite ?_ ?_
   | refine LeO.bind ?_ (fun _ => ?_)
  intro y0 y1 y2 y3 y4 y5
  unfold spec_AgesOk.l1
  repeat' first
  | (with_reducible exact ih0 _ _ _ _)
  | (with_reducible exact ih1 _ _ _ _ _ _)
  | (with_reducible exact ih2 _ _ _ _ _ _)
  | (with_reducible exact spec_l06Node.mono _ _ _)
  | (with_reducible exact LeO.refl _)
  | (with_reducible exact LeO.none _)
  | (with_reducible refine LeO.ite ?_ ?_)
  | (with_reducible refine LeO.bind ?_ (fun _ => ?_))
  | exact ih0 _ _ _ _
  | exact ih1 _ _ _ _ _ _
  | exact ih2 _ _ _ _ _ _
  | exact spec_l06Node.mono _ _ _
  | exact LeO.none _
  | refine LeO.ite ?_ ?_
  | refine LeO.bind ?_ (fun _ => ?_)
theorem spec_AgesOk.mono : ∀ a0 a1 a2 k, LeO (spec_AgesOk.f k a0 a1 a2) (spec_AgesOk.f (k + 1) a0 a1 a2) := by
 intro a0 a1 a2 k
 obtain ⟨ih0, ih1, ih2⟩ := spec_AgesOk.mono_l k
 unfold spec_AgesOk.f
 repeat' first
   | (with_reducible exact ih0 _ _ _ _)
   | (with_reducible exact ih1 _ _ _ _ _ _)
   | (with_reducible exact ih2 _ _ _ _ _ _)
   | (with_reducible exact spec_l06Node.mono _ _ _)
   | (with_reducible exact LeO.refl _)
   | (with_reducible exact LeO.none _)
   | (with_reducible refine LeO.ite ?_ ?_)
   | (with_reducible refine LeO.bind ?_ (fun _ => ?_))
   | exact ih0 _ _ _ _
   | exact ih1 _ _ _ _ _ _
   | exact ih2 _ _ _ _ _ _
   | exact spec_l06Node.mono _ _ _
   | exact LeO.none _
   | refine LeO.ite ?_ ?_
   | refine LeO.bind ?_ (fun _ => ?_)
def spec_AgesOk.T12 : Bool × List (List Nat × List Nat) := (true, [([], []), ([0], [0]), ([1], [1]), ([2], [2]), ([3], [3]), ([4, 3], [3, 4]), ([3], [3]), ([6, 3], [3, 6]), ([5, 7, 3], [3, 5, 7]), ([3, 8], [3, 8]), ([9, 3], [9]), ([10], [10]), ([11, 10], [10, 11]), ([12, 10, 10], [10, 12]), ([13], [13]), ([14, 13], [13, 14]), ([13], [13]), ([16, 13], [13, 16]), ([15, 17, 13], [13, 15, 17]), ([18, 13], [13, 18]), ([19, 13], [13, 19]), ([13], [13]), ([21, 13], [13, 21]), ([20, 22, 13], [13, 20, 22]), ([13, 23, 10], [10, 13, 23]), ([10, 24], [10, 24]), ([25, 13], [25]), ([26], [26]), ([27, 26], [26, 27]), ([26], [26]), ([28, 29, 26], [26, 28, 29]), ([26], [26]), ([31, 26], [26, 31]), ([30, 32, 26, 26], [26, 30, 32]), ([26, 33], [26, 33])])
def spec_AgesOk.B12 : List Nat := [0, 1, 3, 7, 15, 31, 15, 79, 255, 511, 1023, 2047, 4095, 8191, 16383, 32767, 16383, 81919, 262143, 524287, 1048575, 16383, 2113535, 8388607, 16777215, 33554431, 67108863, 134217727, 268435455, 134217727, 1073741823, 134217727, 2281701375, 8589934591, 17179869183]
theorem spec_AgesOk.tab12 : rtab .any (opsOf Try.f53 12) = spec_AgesOk.T12 := by kernel_rfl
theorem spec_AgesOk.bits12 : waitsOk spec_AgesOk.T12.2 spec_AgesOk.B12 = true := by kernel_rfl
set_option maxHeartbeats 8000000 in
set_option maxRecDepth 100000 in
theorem spec_AgesOk.calls (k : Nat) (a0_0 : Int) (A0_1 : Option Addr) (c0_1 : Nat) (l0_1 : List Int) (A0_2 : Option Addr) (c0_2 : Nat) (l0_2 : List (S70)) (r : Bool) (w : World) (hr0_1 : Kd.C (Kd.int .i64) w A0_1 l0_1.length l0_1) (hc0_1 : l0_1.length ≤ c0_1) (hr0_2 : Kd.C k70 w A0_2 l0_2.length l0_2) (hc0_2 : l0_2.length ≤ c0_2) (h : spec_AgesOk.f k a0_0 l0_1 l0_2 = some r) :
  Calls Try.prog 53 #[.agg #[.int .i64 a0_0, .slice A0_1 l0_1.length c0_1, .slice A0_2 l0_2.length c0_2]] w fun e w' => e = .returned (.bool r) ∧ Below w.heap.size w w' := by
 have hu25 := Try.underlying25
 have hu70 := Try.underlying70
 have HR0_1 := Aside0.mk hr0_1
 have HC0_1 := Aside0.mk hc0_1
 clear hr0_1 hc0_1
 have HR0_2 := Aside0.mk hr0_2
 have HC0_2 := Aside0.mk hc0_2
 clear hr0_2 hc0_2
 have HB := Aside0.mk (Below.refl w.heap.size w)
 have H : ((spec_l01Num.f a0_0).bind fun t208 => (if t208 = true then (if (l0_1.length : Int) < 1 then (spec_AgesOk.j0 k true a0_0 l0_1 l0_2) else (if (l0_1.length : Int) > 8 then (spec_AgesOk.j0 k true a0_0 l0_1 l0_2) else (spec_AgesOk.j0 k (decide ((l0_2.length : Int) > 100)) a0_0 l0_1 l0_2))) else (spec_AgesOk.j0 k true a0_0 l0_1 l0_2))) = some r := h
 clear h
 have HC2 := Aside0.mk H
 clear H
 go_enter Try.func53, Try.ntmps53
 go_upto_region 1 with (first | ((with_reducible refine gate_dst (N := 1) rfl ?_); (try (refine gate_guard (by rfl) ?_; dsimp only)); refine bx 1 #[.int .i64 a0_0, .slice A0_1 l0_1.length c0_1, .slice A0_2 l0_2.length c0_2] 25 ?_; intro gb207 hg w3 hbox hb; have BK207 := am hbox; have GW207 := gs0 hg HB; have GE207 := gs0 hg HB; replace HB := s0 HB hb; clear hb hbox hg))
 (try simp only [Act.put, List.setIfInBounds_toArray, List.set_cons_zero, List.set_cons_succ])
 go_cut [28] (fun v28 wc => ∃ (kq : Nat) (x28_1 : Bool), v28 = .bool x28_1 ∧ Aside0 (spec_AgesOk.j0 kq x28_1 a0_0 l0_1 l0_2 = some r) ∧ Aside0 (kq ≤ k) ∧ Aside0 (wc.heap[gb207]? = some (.cells #[.int .i64 a0_0, (.slice A0_1 l0_1.length c0_1), (.slice A0_2 l0_2.length c0_2)] 25 (0, 0))) ∧ Aside0 (Below w.heap.size w wc))
 case first =>
  have H := HC2.out
  clear HC2
  replace H := Option.bind_eq_some_iff.mp H
  obtain ⟨t208, A40, H⟩ := H
  try dsimp only at H
  have A4 := Aside0.mk A40
  clear A40
  by_cases c5 : t208 = true
  ·subst c5
   rw [if_pos rfl] at H
   by_cases c6 : (l0_1.length : Int) < 1
   ·rw [if_pos c6] at H
    have c6b0 : decide ((l0_1.length : Int) < 1) = true := decide_eq_true c6
    have c6b1 : decide (l0_1.length < 1) = true := decide_eq_true (by omega)
    clear c6
    (first | rw [c6b0] | (simp only [i64_w, i32_w]; rw [c6b0]) | skip)
    have H' := Aside0.mk H
    clear H
    have hcz7_0 := bz3 BK207
    go_wp2_with (first | ((with_reducible refine gate_callee (f := 88) rfl ?_); refine gl 9 Try.func88 #[.int .i64 a0_0] ?_; (with_reducible refine (spec_l01Num.calls a0_0 true _ A4.out).mono ?_); rintro e w' ⟨rfl, ⟨nd, rfl⟩⟩; refine ⟨_, rfl, ?_⟩))
    go_meet
    case rel => exact ⟨_, (true), rs, H', ⟨by first | omega | exact Nat.le_refl _⟩, ⟨bk BK207⟩, ⟨be1 HB GE207⟩⟩
   rw [if_neg c6] at H
   have c6b0 : decide ((l0_1.length : Int) < 1) = false := decide_eq_false c6
   have c6b1 : decide (l0_1.length < 1) = false := decide_eq_false (by omega)
   clear c6
   (first | rw [c6b0] | (simp only [i64_w, i32_w]; rw [c6b0]) | skip)
   by_cases c8 : (l0_1.length : Int) > 8
   ·rw [if_pos c8] at H
    have c8b0 : decide (8 < (l0_1.length : Int)) = true := decide_eq_true c8
    have c8b1 : decide (8 < l0_1.length) = true := decide_eq_true (by omega)
    clear c8
    have H' := Aside0.mk H
    clear H
    have hcz9_0 := bz3 BK207
    go_wp2_with (first | ((with_reducible refine gate_callee (f := 88) rfl ?_); refine gl 9 Try.func88 #[.int .i64 a0_0] ?_; (with_reducible refine (spec_l01Num.calls a0_0 true _ A4.out).mono ?_); rintro e w' ⟨rfl, ⟨nd, rfl⟩⟩; refine ⟨_, rfl, ?_⟩))
    go_meet
    case rel => exact ⟨_, (true), rs, H', ⟨by first | omega | exact Nat.le_refl _⟩, ⟨bk BK207⟩, ⟨be1 HB GE207⟩⟩
   rw [if_neg c8] at H
   have c8b0 : decide (8 < (l0_1.length : Int)) = false := decide_eq_false c8
   have c8b1 : decide (8 < l0_1.length) = false := decide_eq_false (by omega)
   clear c8
   have H' := Aside0.mk H
   clear H
   have hcz10_0 := bz3 BK207
   go_wp2_with (first | ((with_reducible refine gate_callee (f := 88) rfl ?_); refine gl 9 Try.func88 #[.int .i64 a0_0] ?_; (with_reducible refine (spec_l01Num.calls a0_0 true _ A4.out).mono ?_); rintro e w' ⟨rfl, ⟨nd, rfl⟩⟩; refine ⟨_, rfl, ?_⟩))
   go_meet
   case rel => exact ⟨_, (decide ((l0_2.length : Int) > 100)), rs, H', ⟨by first | omega | exact Nat.le_refl _⟩, ⟨bk BK207⟩, ⟨be1 HB GE207⟩⟩
  replace c5 := Bool.eq_false_iff.mpr c5
  subst c5
  rw [if_neg (show ¬ (false = true) by decide)] at H
  have H' := Aside0.mk H
  clear H
  have hcz11_0 := bz3 BK207
  go_wp2_with (first | ((with_reducible refine gate_callee (f := 88) rfl ?_); refine gl 9 Try.func88 #[.int .i64 a0_0] ?_; (with_reducible refine (spec_l01Num.calls a0_0 false _ A4.out).mono ?_); rintro e w' ⟨rfl, ⟨nd, rfl⟩⟩; refine ⟨_, rfl, ?_⟩))
  go_meet
  case rel => exact ⟨_, (true), rs, H', ⟨by first | omega | exact Nat.le_refl _⟩, ⟨bk BK207⟩, ⟨be1 HB GE207⟩⟩
 case rest =>
  clear HC2
  try clear p2; try clear c5; try clear c6; try clear c6b0; try clear c6b1; try clear c8; try clear c8b0; try clear c8b1; try clear hcz10_0; try clear hcz11_0; try clear hcz7_0; try clear hcz9_0
  obtain ⟨kq, x28_1, rfl, HA, HJ1, BK207, HB⟩ := hcut
  cases kq with
  | zero => exact absurd HA.out (by simp [spec_AgesOk.j0])
  | succ kj1 =>
   have H := HA.out
   clear HA
   simp only [spec_AgesOk.j0] at H
   by_cases c12 : x28_1 = true
   ·subst c12
    rw [if_pos rfl] at H
    obtain rfl := Option.some.inj H
    go_wp2
    go_ret
    exact ⟨er, be1 HB GE207⟩
   replace c12 := Bool.eq_false_iff.mpr c12
   subst c12
   rw [if_neg (show ¬ (false = true) by decide)] at H
   have H' := Aside0.mk H
   clear H
   have hcz13_0 := bz3 BK207
   go_wp2
   go_loopg [32] kj1 (fun kq v32 w' => ∃ (x32_2 : Int), v32 = .int .i64 x32_2 ∧ Aside0 (spec_AgesOk.l0 kq l0_1 (l0_1.length : Int) x32_2 a0_0 l0_1 l0_2 = some r) ∧ Aside0 (kq ≤ kj1) ∧ Aside0 (w'.heap[gb207]? = some (.cells #[.int .i64 a0_0, (.slice A0_1 l0_1.length c0_1), (.slice A0_2 l0_2.length c0_2)] 25 (0, 0))) ∧ Aside0 (Below w.heap.size w w'))
   case atStart => exact ⟨(0), rs, H', ⟨Nat.le_refl _⟩, ⟨bk BK207⟩, ⟨be1 HB GE207⟩⟩
   case round =>
    clear H'
    try clear c1; try clear p2; try clear c5; try clear c6; try clear c6b0; try clear c6b1; try clear c8; try clear c8b0; try clear c8b1; try clear c12; try clear hcz10_0; try clear hcz11_0; try clear hcz13_0; try clear hcz7_0; try clear hcz9_0; try clear p2
    obtain ⟨x32_2, rfl, HA, HK2, BK207, HB⟩ := hrel
    cases gk with
    | zero => exact absurd HA.out (by simp [spec_AgesOk.l0])
    | succ k2 =>
     have H := HA.out
     clear HA
     simp only [spec_AgesOk.l0] at H
     by_cases c14 : x32_2 < (l0_1.length : Int)
     ·rw [if_pos c14] at H
      have c14b0 : decide (x32_2 < (l0_1.length : Int)) = true := decide_eq_true c14
      clear c14
      by_cases c15 : 0 ≤ x32_2
      ·rw [if_pos c15] at H
       have c15b0 : decide (0 ≤ x32_2) = true := decide_eq_true c15
       clear c15
       by_cases c16 : x32_2 < (l0_1.length : Int)
       ·rw [if_pos c16] at H
        have c16b0 : decide (x32_2 < (l0_1.length : Int)) = true := decide_eq_true c16
        clear c16
        by_cases c17 : (rd l0_1 x32_2) = (-1)
        ·rw [if_pos c17] at H
         have c17b0 : ((rd l0_1 x32_2) == (-1)) = true := beq_iff_eq.mpr c17
         have c17b1 : ((rd l0_1 x32_2) != (-1)) = false := bne_eq_false_iff_eq.mpr c17
         clear c17
         have H' := Aside0.mk H
         clear H
         have p209 : 0 ≤ (x32_2 : Int) := od
         have q209 : x32_2 < (l0_1.length : Int) := od
         obtain ⟨ad209, e209, hx209_0⟩ := Kd.at_int HR0_1.out x32_2 p209 q209
         cases e209
         replace hx209_0 := hc HB hx209_0
         replace p209 := eq_true p209
         replace q209 := eq_true q209
         go_wp2
         go_roundg k2
         case measure => have := HJ1.out; have := HK2.out; omega
         case rel => exact ⟨(wrap64 (x32_2 + 1)), rs, H', ⟨by have := HJ1.out; have := HK2.out; omega⟩, ⟨bk BK207⟩, ⟨be1 HB GE207⟩⟩
        rw [if_neg c17] at H
        have c17b0 : ((rd l0_1 x32_2) == (-1)) = false := beq_eq_false_iff_ne.mpr c17
        have c17b1 : ((rd l0_1 x32_2) != (-1)) = true := bne_iff_ne.mpr c17
        by_cases c18 : (rd l0_1 x32_2) = a0_0
        ·rw [if_pos c18] at H
         have c18b0 : ((rd l0_1 x32_2) == a0_0) = true := beq_iff_eq.mpr c18
         have c18b1 : ((rd l0_1 x32_2) != a0_0) = false := bne_eq_false_iff_eq.mpr c18
         clear c18
         have H' := Aside0.mk H
         clear H
         have p209 : 0 ≤ (x32_2 : Int) := od
         have q209 : x32_2 < (l0_1.length : Int) := od
         obtain ⟨ad209, e209, hx209_0⟩ := Kd.at_int HR0_1.out x32_2 p209 q209
         cases e209
         replace hx209_0 := hc HB hx209_0
         replace p209 := eq_true p209
         replace q209 := eq_true q209
         have hcz19_0 := bz3 BK207
         go_wp2
         go_roundg k2
         case measure => have := HJ1.out; have := HK2.out; omega
         case rel => exact ⟨(wrap64 (x32_2 + 1)), rs, H', ⟨by have := HJ1.out; have := HK2.out; omega⟩, ⟨bk BK207⟩, ⟨be1 HB GE207⟩⟩
        rw [if_neg c18] at H
        have c18b0 : ((rd l0_1 x32_2) == a0_0) = false := beq_eq_false_iff_ne.mpr c18
        have c18b1 : ((rd l0_1 x32_2) != a0_0) = true := bne_iff_ne.mpr c18
        by_cases c20 : (rd l0_1 x32_2) < 0
        ·rw [if_pos c20] at H
         have c20b0 : decide ((rd l0_1 x32_2) < 0) = true := decide_eq_true c20
         clear c20
         obtain rfl := Option.some.inj H
         have p209 : 0 ≤ (x32_2 : Int) := od
         have q209 : x32_2 < (l0_1.length : Int) := od
         obtain ⟨ad209, e209, hx209_0⟩ := Kd.at_int HR0_1.out x32_2 p209 q209
         cases e209
         replace hx209_0 := hc HB hx209_0
         replace p209 := eq_true p209
         replace q209 := eq_true q209
         have hcz21_0 := bz3 BK207
         go_wp2
         go_ret
         exact ⟨er, be1 HB GE207⟩
        rw [if_neg c20] at H
        have c20b0 : decide ((rd l0_1 x32_2) < 0) = false := decide_eq_false c20
        clear c20
        by_cases c22 : (rd l0_1 x32_2) = (wrap64 (a0_0 - 1))
        ·rw [if_pos c22] at H
         have c22b0 : ((rd l0_1 x32_2) == (wrap64 (a0_0 - 1))) = true := beq_iff_eq.mpr c22
         have c22b1 : ((rd l0_1 x32_2) != (wrap64 (a0_0 - 1))) = false := bne_eq_false_iff_eq.mpr c22
         clear c22
         have H' := Aside0.mk H
         clear H
         have p209 : 0 ≤ (x32_2 : Int) := od
         have q209 : x32_2 < (l0_1.length : Int) := od
         obtain ⟨ad209, e209, hx209_0⟩ := Kd.at_int HR0_1.out x32_2 p209 q209
         cases e209
         replace hx209_0 := hc HB hx209_0
         replace p209 := eq_true p209
         replace q209 := eq_true q209
         have hcz23_0 := bz3 BK207
         go_wp2
         go_roundg k2
         case measure => have := HJ1.out; have := HK2.out; omega
         case rel => exact ⟨(wrap64 (x32_2 + 1)), rs, H', ⟨by have := HJ1.out; have := HK2.out; omega⟩, ⟨bk BK207⟩, ⟨be1 HB GE207⟩⟩
        rw [if_neg c22] at H
        have c22b0 : ((rd l0_1 x32_2) == (wrap64 (a0_0 - 1))) = false := beq_eq_false_iff_ne.mpr c22
        have c22b1 : ((rd l0_1 x32_2) != (wrap64 (a0_0 - 1))) = true := bne_iff_ne.mpr c22
        obtain rfl := Option.some.inj H
        have p209 : 0 ≤ (x32_2 : Int) := od
        have q209 : x32_2 < (l0_1.length : Int) := od
        obtain ⟨ad209, e209, hx209_0⟩ := Kd.at_int HR0_1.out x32_2 p209 q209
        cases e209
        replace hx209_0 := hc HB hx209_0
        replace p209 := eq_true p209
        replace q209 := eq_true q209
        have hcz24_0 := bz3 BK207
        go_wp2
        go_ret
        exact ⟨er, be1 HB GE207⟩
       rw [if_neg c16] at H
       exact absurd H (by simp)
      rw [if_neg c15] at H
      exact absurd H (by simp)
     rw [if_neg c14] at H
     have c14b0 : decide (x32_2 < (l0_1.length : Int)) = false := decide_eq_false c14
     clear c14
     have H' := Aside0.mk H
     clear H
     have hcz25_0 := bz3 BK207
     go_wp2
     go_loopg [59] k2 (fun kq v59 w' => ∃ (x59_3 : Int), v59 = .int .i64 x59_3 ∧ Aside0 (spec_AgesOk.l1 kq l0_2 (l0_2.length : Int) x59_3 a0_0 l0_1 l0_2 = some r) ∧ Aside0 (kq ≤ k2) ∧ Aside0 (w'.heap[gb207]? = some (.cells #[.int .i64 a0_0, (.slice A0_1 l0_1.length c0_1), (.slice A0_2 l0_2.length c0_2)] 25 (0, 0))) ∧ Aside0 (Below w.heap.size w w'))
     case atStart => exact ⟨(0), rs, H', ⟨Nat.le_refl _⟩, ⟨bk BK207⟩, ⟨be1 HB GE207⟩⟩
     case round =>
      clear H'
      try clear c1; try clear c2; try clear p2; try clear q2; try clear hx2; try clear c5; try clear c6; try clear c6b0; try clear c6b1; try clear p6; try clear c8; try clear c8b0; try clear c8b1; try clear c12; try clear c14; try clear c14b0; try clear c15; try clear c15b0; try clear c16; try clear c16b0; try clear c17; try clear c17b0; try clear c17b1; try clear c18; try clear c18b0; try clear c18b1; try clear c20; try clear c20b0; try clear p20; try clear q20; try clear hx20; try clear c22; try clear c22b0; try clear c22b1; try clear hcz10_0; try clear hcz11_0; try clear hcz13_0; try clear hcz19_0; try clear hcz21_0; try clear hcz23_0; try clear hcz24_0; try clear hcz25_0; try clear hcz7_0; try clear hcz9_0; try clear hx209_0; try clear p2; try clear p209; try clear q209
      obtain ⟨x59_3, rfl, HA, HK3, BK207, HB⟩ := hrel
      cases gk with
      | zero => exact absurd HA.out (by simp [spec_AgesOk.l1])
      | succ k3 =>
       have H := HA.out
       clear HA
       simp only [spec_AgesOk.l1] at H
       by_cases c26 : x59_3 < (l0_2.length : Int)
       ·rw [if_pos c26] at H
        have c26b0 : decide (x59_3 < (l0_2.length : Int)) = true := decide_eq_true c26
        clear c26
        by_cases c27 : 0 ≤ x59_3
        ·rw [if_pos c27] at H
         have c27b0 : decide (0 ≤ x59_3) = true := decide_eq_true c27
         clear c27
         by_cases c28 : x59_3 < (l0_2.length : Int)
         ·rw [if_pos c28] at H
          have c28b0 : decide (x59_3 < (l0_2.length : Int)) = true := decide_eq_true c28
          clear c28
          by_cases c29 : ((rd_T70 l0_2 x59_3).f1) < 0
          ·rw [if_pos c29] at H
           have c29b0 : decide (((rd_T70 l0_2 x59_3).f1) < 0) = true := decide_eq_true c29
           clear c29
           obtain rfl := Option.some.inj H
           have p210 : 0 ≤ (x59_3 : Int) := od
           have q210 : x59_3 < (l0_2.length : Int) := od
           obtain ⟨ad210, e210, hx210_0, hx210_1⟩ := at_T70 HR0_2.out x59_3 p210 q210
           cases e210
           replace hx210_0 := hc HB hx210_0
           replace hx210_1 := hc HB hx210_1
           replace p210 := eq_true p210
           replace q210 := eq_true q210
           try go_wp2_with (first | ((with_reducible refine gate_dst (N := 6) rfl ?_); (try (refine gate_guard (by rfl) ?_; dsimp only)); refine bx 6 #[.int .i64 0, .int .i64 0] 70 ?_; intro gb211 hg w30 hbox hb; have BK211 := am hbox; have GW211 := gs1 hg HB GE207; have GE211 := gs1 hg HB GE207; replace HB := Aside0.mk (below_step (be1 HB GE207) hb); have NB207_211 := Aside0.mk ((by rw [hg]; exact Nat.ne_of_lt (bl BK207) : gb207 ≠ gb211)); have NB211_207 := Aside0.mk ((by rw [hg]; exact Nat.ne_of_gt (bl BK207) : gb211 ≠ gb207)); replace BK207 := bb BK207 hb; clear hb hbox hg; have hnb31 := NB211_207.out; have hnc31 := NB207_211.out; have hcz32_0 := bz2 BK211))
           have n0_ : Aside0 (((w30.setCell ⟨gb211, 0, none⟩ (.int .i64 ((rd_T70 l0_2 x59_3).f0))).setCell ⟨gb211, 1, none⟩ (.int .i64 ((rd_T70 l0_2 x59_3).f1))).heap[gb207]? = some (.cells #[.int .i64 a0_0, .slice A0_1 l0_1.length c0_1, .slice (some ad210) l0_2.length c0_2] 25 (0, 0))) := ⟨by (with_reducible repeat (first | refine blk_drewN ?_ _ | refine blk_drew ?_ | refine blk_alloc ?_ _)); refine blk_far ?_ NB207_211.out _; (with_reducible repeat (first | refine blk_drewN ?_ _ | refine blk_drew ?_ | refine blk_alloc ?_ _)); refine blk_far ?_ NB207_211.out _; (with_reducible repeat (first | refine blk_drewN ?_ _ | refine blk_drew ?_ | refine blk_alloc ?_ _)); exact BK207.out⟩
           have n1_ : Aside0 (((w30.setCell ⟨gb211, 0, none⟩ (.int .i64 ((rd_T70 l0_2 x59_3).f0))).setCell ⟨gb211, 1, none⟩ (.int .i64 ((rd_T70 l0_2 x59_3).f1))).heap[gb211]? = some (.cells #[.int .i64 ((rd_T70 l0_2 x59_3).f0), .int .i64 ((rd_T70 l0_2 x59_3).f1)] 70 (0, 0))) := ⟨by (with_reducible repeat (first | refine blk_drewN ?_ _ | refine blk_drew ?_ | refine blk_alloc ?_ _)); refine blk_put (cs := #[.int .i64 ((rd_T70 l0_2 x59_3).f0), .int .i64 0]) ?_ 1 _ rfl; (with_reducible repeat (first | refine blk_drewN ?_ _ | refine blk_drew ?_ | refine blk_alloc ?_ _)); refine blk_put (cs := #[.int .i64 0, .int .i64 0]) ?_ 0 _ rfl; (with_reducible repeat (first | refine blk_drewN ?_ _ | refine blk_drew ?_ | refine blk_alloc ?_ _)); exact BK211.out⟩
           have n2_ : Aside0 (Below w.heap.size w ((w30.setCell ⟨gb211, 0, none⟩ (.int .i64 ((rd_T70 l0_2 x59_3).f0))).setCell ⟨gb211, 1, none⟩ (.int .i64 ((rd_T70 l0_2 x59_3).f1)))) := ⟨be2 HB GE207 GE211⟩
           (try clear BK207)
           (try clear BK211)
           (try clear HB)
           generalize ((w30.setCell ⟨gb211, 0, none⟩ (.int .i64 ((rd_T70 l0_2 x59_3).f0))).setCell ⟨gb211, 1, none⟩ (.int .i64 ((rd_T70 l0_2 x59_3).f1))) = w33 at n0_ n1_ n2_ ⊢
           have BK207 := n0_
           have BK211 := n1_
           have HB := n2_
           clear n0_ n1_ n2_
           have n0_ := Aside0.mk (blk_drew BK207.out)
           have n1_ := Aside0.mk (blk_drew BK211.out)
           have n2_ := Aside0.mk (below_drew1 HB.out)
           clear BK207
           clear BK211
           clear HB
           have BK207 := n0_
           have BK211 := n1_
           have HB := n2_
           clear n0_ n1_ n2_
           refine start_ (n := 35) (S := fun w' => w'.cell? ⟨gb211, 0, none⟩ = some (.int .i64 ((rd_T70 l0_2 x59_3).f0)) ∧ w'.cell? ⟨gb211, 1, none⟩ = some (.int .i64 ((rd_T70 l0_2 x59_3).f1))) (ds := []) (bv 35 0x0) (by kernel_rfl) rfl rfl ⟨bc0 BK211, bc1 BK211⟩ (fun hHeld => ?_); refine with_tabW spec_AgesOk.tab12 spec_AgesOk.bits12 (fun HT_ HW_ => ?_)
           generalize w33.drew = w34 at BK207 BK211 HB hHeld ⊢
           refine py HT_ 0 64 (bv 35 0x1) ?_
           refine tk HT_ HW_ hHeld 1 65 (bv 35 0x3) ?_
           refine py HT_ 2 66 (bv 35 0x7) ?_
           refine py HT_ 3 67 (bv 35 0xf) ?_
           refine pu HT_ 4 68 (bv 35 0x1f) ?_
           refine pu HT_ 5 69 (bv 35 0x3f) ?_
           refine pu HT_ 6 70 (bv 35 0x7f) ?_
           refine pu HT_ 7 71 (bv 35 0xff) ?_
           refine pu HT_ 8 72 (bv 35 0x1ff) ?_
           refine py HT_ 9 73 (bv 35 0x3ff) ?_
           refine py HT_ 10 74 (bv 35 0x7ff) ?_
           refine pu HT_ 11 75 (bv 35 0xfff) ?_
           refine pu HT_ 12 76 (bv 35 0x1fff) ?_
           refine pu HT_ 13 77 (bv 35 0x3fff) ?_
           refine pu HT_ 14 78 (bv 35 0x7fff) ?_
           refine pu HT_ 15 79 (bv 35 0xffff) ?_
           refine pu HT_ 16 80 (bv 35 0x1ffff) ?_
           refine pu HT_ 17 81 (bv 35 0x3ffff) ?_
           refine pu HT_ 18 82 (bv 35 0x7ffff) ?_
           refine pu HT_ 19 83 (bv 35 0xfffff) ?_
           refine pu HT_ 20 84 (bv 35 0x1fffff) ?_
           refine pu HT_ 21 85 (bv 35 0x3fffff) ?_
           refine pu HT_ 22 86 (bv 35 0x7fffff) ?_
           refine pu HT_ 23 87 (bv 35 0xffffff) ?_
           refine pu HT_ 24 88 (bv 35 0x1ffffff) ?_
           refine py HT_ 25 89 (bv 35 0x3ffffff) ?_
           refine py HT_ 26 90 (bv 35 0x7ffffff) ?_
           refine pu HT_ 27 91 (bv 35 0xfffffff) ?_
           refine pu HT_ 28 92 (bv 35 0x1fffffff) ?_
           refine pu HT_ 29 93 (bv 35 0x3fffffff) ?_
           refine pu HT_ 30 94 (bv 35 0x7fffffff) ?_
           refine pu HT_ 31 95 (bv 35 0xffffffff) ?_
           refine pu HT_ 32 96 (bv 35 0x1ffffffff) ?_
           refine pu HT_ 33 97 (bv 35 0x3ffffffff) ?_
           refine py HT_ 34 98 (bv 35 0x7ffffffff) ?_
           refine done_ (done_of HT_.out (by kernel_rfl)) ?_
           try go_wp2
           go_ret
           exact ⟨er, be2 HB GE207 GE211⟩
          rw [if_neg c29] at H
          have c29b0 : decide (((rd_T70 l0_2 x59_3).f1) < 0) = false := decide_eq_false c29
          clear c29
          by_cases c35 : ((rd_T70 l0_2 x59_3).f1) > a0_0
          ·rw [if_pos c35] at H
           have c35b0 : decide (a0_0 < ((rd_T70 l0_2 x59_3).f1)) = true := decide_eq_true c35
           clear c35
           obtain rfl := Option.some.inj H
           have p210 : 0 ≤ (x59_3 : Int) := od
           have q210 : x59_3 < (l0_2.length : Int) := od
           obtain ⟨ad210, e210, hx210_0, hx210_1⟩ := at_T70 HR0_2.out x59_3 p210 q210
           cases e210
           replace hx210_0 := hc HB hx210_0
           replace hx210_1 := hc HB hx210_1
           replace p210 := eq_true p210
           replace q210 := eq_true q210
           try go_wp2_with (first | ((with_reducible refine gate_dst (N := 6) rfl ?_); (try (refine gate_guard (by rfl) ?_; dsimp only)); refine bx 6 #[.int .i64 0, .int .i64 0] 70 ?_; intro gb211 hg w36 hbox hb; have BK211 := am hbox; have GW211 := gs1 hg HB GE207; have GE211 := gs1 hg HB GE207; replace HB := Aside0.mk (below_step (be1 HB GE207) hb); have NB207_211 := Aside0.mk ((by rw [hg]; exact Nat.ne_of_lt (bl BK207) : gb207 ≠ gb211)); have NB211_207 := Aside0.mk ((by rw [hg]; exact Nat.ne_of_gt (bl BK207) : gb211 ≠ gb207)); replace BK207 := bb BK207 hb; clear hb hbox hg; have hnb37 := NB211_207.out; have hnc37 := NB207_211.out; have hcz38_0 := bz2 BK211))
           have n0_ : Aside0 (((w36.setCell ⟨gb211, 0, none⟩ (.int .i64 ((rd_T70 l0_2 x59_3).f0))).setCell ⟨gb211, 1, none⟩ (.int .i64 ((rd_T70 l0_2 x59_3).f1))).heap[gb207]? = some (.cells #[.int .i64 a0_0, .slice A0_1 l0_1.length c0_1, .slice (some ad210) l0_2.length c0_2] 25 (0, 0))) := ⟨by (with_reducible repeat (first | refine blk_drewN ?_ _ | refine blk_drew ?_ | refine blk_alloc ?_ _)); refine blk_far ?_ NB207_211.out _; (with_reducible repeat (first | refine blk_drewN ?_ _ | refine blk_drew ?_ | refine blk_alloc ?_ _)); refine blk_far ?_ NB207_211.out _; (with_reducible repeat (first | refine blk_drewN ?_ _ | refine blk_drew ?_ | refine blk_alloc ?_ _)); exact BK207.out⟩
           have n1_ : Aside0 (((w36.setCell ⟨gb211, 0, none⟩ (.int .i64 ((rd_T70 l0_2 x59_3).f0))).setCell ⟨gb211, 1, none⟩ (.int .i64 ((rd_T70 l0_2 x59_3).f1))).heap[gb211]? = some (.cells #[.int .i64 ((rd_T70 l0_2 x59_3).f0), .int .i64 ((rd_T70 l0_2 x59_3).f1)] 70 (0, 0))) := ⟨by (with_reducible repeat (first | refine blk_drewN ?_ _ | refine blk_drew ?_ | refine blk_alloc ?_ _)); refine blk_put (cs := #[.int .i64 ((rd_T70 l0_2 x59_3).f0), .int .i64 0]) ?_ 1 _ rfl; (with_reducible repeat (first | refine blk_drewN ?_ _ | refine blk_drew ?_ | refine blk_alloc ?_ _)); refine blk_put (cs := #[.int .i64 0, .int .i64 0]) ?_ 0 _ rfl; (with_reducible repeat (first | refine blk_drewN ?_ _ | refine blk_drew ?_ | refine blk_alloc ?_ _)); exact BK211.out⟩
           have n2_ : Aside0 (Below w.heap.size w ((w36.setCell ⟨gb211, 0, none⟩ (.int .i64 ((rd_T70 l0_2 x59_3).f0))).setCell ⟨gb211, 1, none⟩ (.int .i64 ((rd_T70 l0_2 x59_3).f1)))) := ⟨be2 HB GE207 GE211⟩
           (try clear BK207)
           (try clear BK211)
           (try clear HB)
           generalize ((w36.setCell ⟨gb211, 0, none⟩ (.int .i64 ((rd_T70 l0_2 x59_3).f0))).setCell ⟨gb211, 1, none⟩ (.int .i64 ((rd_T70 l0_2 x59_3).f1))) = w39 at n0_ n1_ n2_ ⊢
           have BK207 := n0_
           have BK211 := n1_
           have HB := n2_
           clear n0_ n1_ n2_
           have n0_ := Aside0.mk (blk_drew BK207.out)
           have n1_ := Aside0.mk (blk_drew BK211.out)
           have n2_ := Aside0.mk (below_drew1 HB.out)
           clear BK207
           clear BK211
           clear HB
           have BK207 := n0_
           have BK211 := n1_
           have HB := n2_
           clear n0_ n1_ n2_
           refine start_ (n := 35) (S := fun w' => w'.cell? ⟨gb211, 0, none⟩ = some (.int .i64 ((rd_T70 l0_2 x59_3).f0)) ∧ w'.cell? ⟨gb211, 1, none⟩ = some (.int .i64 ((rd_T70 l0_2 x59_3).f1)) ∧ w'.cell? ⟨gb207, 0, none⟩ = some (.int .i64 a0_0) ∧ w'.cell? ⟨gb207, 1, none⟩ = some (.slice A0_1 l0_1.length c0_1) ∧ w'.cell? ⟨gb207, 2, none⟩ = some (.slice (some ad210) l0_2.length c0_2)) (ds := []) (bv 35 0x0) (by kernel_rfl) rfl rfl ⟨bc0 BK211, bc1 BK211, bc0 BK207, bc1 BK207, bc2 BK207⟩ (fun hHeld => ?_); refine with_tabW spec_AgesOk.tab12 spec_AgesOk.bits12 (fun HT_ HW_ => ?_)
           generalize w39.drew = w40 at BK207 BK211 HB hHeld ⊢
           refine py HT_ 0 64 (bv 35 0x1) ?_
           refine tk HT_ HW_ hHeld 1 65 (bv 35 0x3) ?_
           refine py HT_ 2 66 (bv 35 0x7) ?_
           refine py HT_ 3 67 (bv 35 0xf) ?_
           refine py HT_ 4 68 (bv 35 0x1f) ?_
           refine py HT_ 6 70 (bv 35 0x5f) ?_
           refine tk HT_ HW_ hHeld 5 69 (bv 35 0x7f) ?_
           refine tk HT_ HW_ hHeld 7 71 (bv 35 0xff) ?_
           refine py HT_ 8 72 (bv 35 0x1ff) ?_
           refine py HT_ 9 73 (bv 35 0x3ff) ?_
           refine py HT_ 10 74 (bv 35 0x7ff) ?_
           refine pu HT_ 11 75 (bv 35 0xfff) ?_
           refine pu HT_ 12 76 (bv 35 0x1fff) ?_
           refine pu HT_ 13 77 (bv 35 0x3fff) ?_
           refine pu HT_ 14 78 (bv 35 0x7fff) ?_
           refine pu HT_ 15 79 (bv 35 0xffff) ?_
           refine pu HT_ 16 80 (bv 35 0x1ffff) ?_
           refine pu HT_ 17 81 (bv 35 0x3ffff) ?_
           refine pu HT_ 18 82 (bv 35 0x7ffff) ?_
           refine pu HT_ 19 83 (bv 35 0xfffff) ?_
           refine pu HT_ 20 84 (bv 35 0x1fffff) ?_
           refine pu HT_ 21 85 (bv 35 0x3fffff) ?_
           refine pu HT_ 22 86 (bv 35 0x7fffff) ?_
           refine pu HT_ 23 87 (bv 35 0xffffff) ?_
           refine pu HT_ 24 88 (bv 35 0x1ffffff) ?_
           refine py HT_ 25 89 (bv 35 0x3ffffff) ?_
           refine py HT_ 26 90 (bv 35 0x7ffffff) ?_
           refine pu HT_ 27 91 (bv 35 0xfffffff) ?_
           refine pu HT_ 28 92 (bv 35 0x1fffffff) ?_
           refine pu HT_ 29 93 (bv 35 0x3fffffff) ?_
           refine pu HT_ 30 94 (bv 35 0x7fffffff) ?_
           refine pu HT_ 31 95 (bv 35 0xffffffff) ?_
           refine pu HT_ 32 96 (bv 35 0x1ffffffff) ?_
           refine pu HT_ 33 97 (bv 35 0x3ffffffff) ?_
           refine py HT_ 34 98 (bv 35 0x7ffffffff) ?_
           refine done_ (done_of HT_.out (by kernel_rfl)) ?_
           try go_wp2
           go_ret
           exact ⟨er, be2 HB GE207 GE211⟩
          rw [if_neg c35] at H
          have c35b0 : decide (a0_0 < ((rd_T70 l0_2 x59_3).f1)) = false := decide_eq_false c35
          clear c35
          by_cases c41 : x59_3 > 0
          ·rw [if_pos c41] at H
           have c41b0 : decide (0 < x59_3) = true := decide_eq_true c41
           clear c41
           obtain ⟨ji42, hji42⟩ : ∃ j_ : Int, (wrap64 (x59_3 - 1)) = j_ := ⟨_, rfl⟩
           replace H : (if 0 ≤ (ji42) then (if (ji42) < (l0_2.length : Int) then (if ((rd_T70 l0_2 (ji42)).f1) > ((rd_T70 l0_2 x59_3).f1) then (some false) else (if x59_3 ≤ (l0_2.length : Int) then ((spec_l06Node.f k3 (l0_2.take (x59_3 : Int).toNat) ((rd_T70 l0_2 x59_3).f0)).bind fun t217 => (if t217 = true then (some false) else (spec_AgesOk.l1 k3 l0_2 (l0_2.length : Int) (wrap64 (x59_3 + 1)) a0_0 l0_1 l0_2))) else (none))) else (none)) else (none)) = some r := by first | (rw [hji42] at H; exact H) | (simp only [hji42] at H ⊢; exact H)
           have hji42w : (IntKind.i64.wrap (x59_3 - 1)) = ji42 := (i64_w _).trans hji42
           by_cases c43 : 0 ≤ (ji42)
           ·rw [if_pos c43] at H
            have c43b0 : decide (0 ≤ (ji42)) = true := decide_eq_true c43
            clear c43
            by_cases c44 : (ji42) < (l0_2.length : Int)
            ·rw [if_pos c44] at H
             have c44b0 : decide ((ji42) < (l0_2.length : Int)) = true := decide_eq_true c44
             clear c44
             by_cases c45 : ((rd_T70 l0_2 (ji42)).f1) > ((rd_T70 l0_2 x59_3).f1)
             ·rw [if_pos c45] at H
              have c45b0 : decide (((rd_T70 l0_2 x59_3).f1) < ((rd_T70 l0_2 (ji42)).f1)) = true := decide_eq_true c45
              clear c45
              obtain rfl := Option.some.inj H
              have p210 : 0 ≤ (x59_3 : Int) := od
              have q210 : x59_3 < (l0_2.length : Int) := od
              obtain ⟨ad210, e210, hx210_0, hx210_1⟩ := at_T70 HR0_2.out x59_3 p210 q210
              cases e210
              replace hx210_0 := hc HB hx210_0
              replace hx210_1 := hc HB hx210_1
              replace p210 := eq_true p210
              replace q210 := eq_true q210
              try go_wp2_with (first | ((with_reducible refine gate_dst (N := 6) rfl ?_); (try (refine gate_guard (by rfl) ?_; dsimp only)); refine bx 6 #[.int .i64 0, .int .i64 0] 70 ?_; intro gb211 hg w46 hbox hb; have BK211 := am hbox; have GW211 := gs1 hg HB GE207; have GE211 := gs1 hg HB GE207; replace HB := Aside0.mk (below_step (be1 HB GE207) hb); have NB207_211 := Aside0.mk ((by rw [hg]; exact Nat.ne_of_lt (bl BK207) : gb207 ≠ gb211)); have NB211_207 := Aside0.mk ((by rw [hg]; exact Nat.ne_of_gt (bl BK207) : gb211 ≠ gb207)); replace BK207 := bb BK207 hb; clear hb hbox hg; have hnb47 := NB211_207.out; have hnc47 := NB207_211.out; have hcz48_0 := bz2 BK211))
              have n0_ : Aside0 (((w46.setCell ⟨gb211, 0, none⟩ (.int .i64 ((rd_T70 l0_2 x59_3).f0))).setCell ⟨gb211, 1, none⟩ (.int .i64 ((rd_T70 l0_2 x59_3).f1))).heap[gb207]? = some (.cells #[.int .i64 a0_0, .slice A0_1 l0_1.length c0_1, .slice (some ad210) l0_2.length c0_2] 25 (0, 0))) := ⟨by (with_reducible repeat (first | refine blk_drewN ?_ _ | refine blk_drew ?_ | refine blk_alloc ?_ _)); refine blk_far ?_ NB207_211.out _; (with_reducible repeat (first | refine blk_drewN ?_ _ | refine blk_drew ?_ | refine blk_alloc ?_ _)); refine blk_far ?_ NB207_211.out _; (with_reducible repeat (first | refine blk_drewN ?_ _ | refine blk_drew ?_ | refine blk_alloc ?_ _)); exact BK207.out⟩
              have n1_ : Aside0 (((w46.setCell ⟨gb211, 0, none⟩ (.int .i64 ((rd_T70 l0_2 x59_3).f0))).setCell ⟨gb211, 1, none⟩ (.int .i64 ((rd_T70 l0_2 x59_3).f1))).heap[gb211]? = some (.cells #[.int .i64 ((rd_T70 l0_2 x59_3).f0), .int .i64 ((rd_T70 l0_2 x59_3).f1)] 70 (0, 0))) := ⟨by (with_reducible repeat (first | refine blk_drewN ?_ _ | refine blk_drew ?_ | refine blk_alloc ?_ _)); refine blk_put (cs := #[.int .i64 ((rd_T70 l0_2 x59_3).f0), .int .i64 0]) ?_ 1 _ rfl; (with_reducible repeat (first | refine blk_drewN ?_ _ | refine blk_drew ?_ | refine blk_alloc ?_ _)); refine blk_put (cs := #[.int .i64 0, .int .i64 0]) ?_ 0 _ rfl; (with_reducible repeat (first | refine blk_drewN ?_ _ | refine blk_drew ?_ | refine blk_alloc ?_ _)); exact BK211.out⟩
              have n2_ : Aside0 (Below w.heap.size w ((w46.setCell ⟨gb211, 0, none⟩ (.int .i64 ((rd_T70 l0_2 x59_3).f0))).setCell ⟨gb211, 1, none⟩ (.int .i64 ((rd_T70 l0_2 x59_3).f1)))) := ⟨be2 HB GE207 GE211⟩
              (try clear BK207)
              (try clear BK211)
              (try clear HB)
              generalize ((w46.setCell ⟨gb211, 0, none⟩ (.int .i64 ((rd_T70 l0_2 x59_3).f0))).setCell ⟨gb211, 1, none⟩ (.int .i64 ((rd_T70 l0_2 x59_3).f1))) = w49 at n0_ n1_ n2_ ⊢
              have BK207 := n0_
              have BK211 := n1_
              have HB := n2_
              clear n0_ n1_ n2_
              have n0_ := Aside0.mk (blk_drew BK207.out)
              have n1_ := Aside0.mk (blk_drew BK211.out)
              have n2_ := Aside0.mk (below_drew1 HB.out)
              clear BK207
              clear BK211
              clear HB
              have BK207 := n0_
              have BK211 := n1_
              have HB := n2_
              clear n0_ n1_ n2_
              have p212 : 0 ≤ ((ji42) : Int) := od
              have q212 : (ji42) < (l0_2.length : Int) := od
              obtain ⟨ad212, e212, hx212_0, hx212_1⟩ := at_T70 HR0_2.out (ji42) p212 q212
              have hw212_1 := hx212_1
              have hw212_0 := hx212_0
              obtain rfl : ad210 = ad212 := (by injection e212)
              replace hx212_0 := hc HB hx212_0
              replace hx212_1 := hc HB hx212_1
              replace p212 := eq_true p212
              replace q212 := eq_true q212
              refine start_ (n := 35) (S := fun w' => w'.cell? ⟨gb211, 0, none⟩ = some (.int .i64 ((rd_T70 l0_2 x59_3).f0)) ∧ w'.cell? ⟨gb211, 1, none⟩ = some (.int .i64 ((rd_T70 l0_2 x59_3).f1)) ∧ w'.cell? ⟨gb207, 0, none⟩ = some (.int .i64 a0_0) ∧ w'.cell? ⟨gb207, 1, none⟩ = some (.slice A0_1 l0_1.length c0_1) ∧ w'.cell? ⟨gb207, 2, none⟩ = some (.slice (some ad210) l0_2.length c0_2) ∧ w'.cell? (ad210.add (((ji42)).toNat * 2)) = some (.int .i64 ((rd_T70 l0_2 (ji42)).f0)) ∧ w'.cell? ⟨(ad210.add (((ji42)).toNat * 2)).block, (ad210.add (((ji42)).toNat * 2)).off + 1, none⟩ = some (.int .i64 ((rd_T70 l0_2 (ji42)).f1))) (ds := []) (bv 35 0x0) (by kernel_rfl) rfl rfl ⟨bc0 BK211, bc1 BK211, bc0 BK207, bc1 BK207, bc2 BK207, ((HB.out.cell (World.block_lt_of_cell? w _ hw212_0)).trans hw212_0), ((HB.out.cell (World.block_lt_of_cell? w _ hw212_1)).trans hw212_1)⟩ (fun hHeld => ?_); refine with_tabW spec_AgesOk.tab12 spec_AgesOk.bits12 (fun HT_ HW_ => ?_)
              generalize w49.drew = w50 at BK207 BK211 HB hx212_0 hx212_1 hHeld ⊢
              refine py HT_ 0 64 (bv 35 0x1) ?_
              refine tk HT_ HW_ hHeld 1 65 (bv 35 0x3) ?_
              refine py HT_ 2 66 (bv 35 0x7) ?_
              refine py HT_ 3 67 (bv 35 0xf) ?_
              refine py HT_ 4 68 (bv 35 0x1f) ?_
              refine py HT_ 6 70 (bv 35 0x5f) ?_
              refine tk HT_ HW_ hHeld 5 69 (bv 35 0x7f) ?_
              refine tk HT_ HW_ hHeld 7 71 (bv 35 0xff) ?_
              refine py HT_ 8 72 (bv 35 0x1ff) ?_
              refine py HT_ 9 73 (bv 35 0x3ff) ?_
              refine py HT_ 10 74 (bv 35 0x7ff) ?_
              refine py HT_ 11 75 (bv 35 0xfff) ?_
              refine py HT_ 12 76 (bv 35 0x1fff) ?_
              refine py HT_ 13 77 (bv 35 0x3fff) ?_
              refine py HT_ 14 78 (bv 35 0x7fff) ?_
              refine py HT_ 16 80 (bv 35 0x17fff) ?_
              refine py HT_ 17 81 (bv 35 0x37fff) ?_
              refine py HT_ 21 85 (bv 35 0x237fff) ?_
              refine tk HT_ HW_ hHeld 15 79 (bv 35 0x23ffff) ?_
              refine py HT_ 18 82 (bv 35 0x27ffff) ?_
              refine py HT_ 19 83 (bv 35 0x2fffff) ?_
              refine tk HT_ HW_ hHeld 20 84 (bv 35 0x3fffff) ?_
              refine tk HT_ HW_ hHeld 22 86 (bv 35 0x7fffff) ?_
              refine py HT_ 23 87 (bv 35 0xffffff) ?_
              refine py HT_ 24 88 (bv 35 0x1ffffff) ?_
              refine py HT_ 25 89 (bv 35 0x3ffffff) ?_
              refine py HT_ 26 90 (bv 35 0x7ffffff) ?_
              refine pu HT_ 27 91 (bv 35 0xfffffff) ?_
              refine pu HT_ 28 92 (bv 35 0x1fffffff) ?_
              refine pu HT_ 29 93 (bv 35 0x3fffffff) ?_
              refine pu HT_ 30 94 (bv 35 0x7fffffff) ?_
              refine pu HT_ 31 95 (bv 35 0xffffffff) ?_
              refine pu HT_ 32 96 (bv 35 0x1ffffffff) ?_
              refine pu HT_ 33 97 (bv 35 0x3ffffffff) ?_
              refine py HT_ 34 98 (bv 35 0x7ffffffff) ?_
              refine done_ (done_of HT_.out (by kernel_rfl)) ?_
              try go_wp2
              go_ret
              exact ⟨by first | rfl | (simp [errW_none, errW_some] <;> rfl) | (simp only [← hji42]; first | rfl | (simp [errW_none, errW_some] <;> rfl)) | (simp [*, errW_none, errW_some] <;> rfl), be2 HB GE207 GE211⟩
             rw [if_neg c45] at H
             have c45b0 : decide (((rd_T70 l0_2 x59_3).f1) < ((rd_T70 l0_2 (ji42)).f1)) = false := decide_eq_false c45
             clear c45
             have c51b0 := eq_true (od : 0 ≤ x59_3)
             by_cases c52 : x59_3 ≤ (l0_2.length : Int)
             ·rw [if_pos c52] at H
              have c52b0 := eq_true c52
              have c52b1 : decide (x59_3 ≤ (l0_2.length : Int)) = true := decide_eq_true c52
              clear c52
              obtain ⟨y213, hy213⟩ : ∃ y_ : List (S70), y_ = (l0_2.take (x59_3 : Int).toNat) := ⟨_, rfl⟩
              replace H : ((spec_l06Node.f k3 y213 ((rd_T70 l0_2 x59_3).f0)).bind fun t217 => (if t217 = true then (some false) else (spec_AgesOk.l1 k3 l0_2 (l0_2.length : Int) (wrap64 (x59_3 + 1)) a0_0 l0_1 l0_2))) = some r := by first | (rw [hy213]; with_reducible exact H) | (have H2_ := (Option.bind_some _ _).symm.trans H; rw [hy213]; with_reducible exact H2_) | (have H2_ := (Option.bind_some _ _).symm.trans H; with_reducible exact H2_) | with_reducible exact H | (rw [hy213]; exact H) | exact H
              have Ny213 := Aside0.mk hy213
              clear hy213
              replace H := Option.bind_eq_some_iff.mp H
              obtain ⟨t217, A530, H⟩ := H
              try dsimp only at H
              have A53 := Aside0.mk A530
              clear A530
              by_cases c54 : t217 = true
              ·subst c54
               rw [if_pos rfl] at H
               obtain rfl := Option.some.inj H
               have p210 : 0 ≤ (x59_3 : Int) := od
               have q210 : x59_3 < (l0_2.length : Int) := od
               obtain ⟨ad210, e210, hx210_0, hx210_1⟩ := at_T70 HR0_2.out x59_3 p210 q210
               cases e210
               replace hx210_0 := hc HB hx210_0
               replace hx210_1 := hc HB hx210_1
               replace p210 := eq_true p210
               replace q210 := eq_true q210
               try go_wp2_with (first | ((with_reducible refine gate_dst (N := 6) rfl ?_); (try (refine gate_guard (by rfl) ?_; dsimp only)); refine bx 6 #[.int .i64 0, .int .i64 0] 70 ?_; intro gb211 hg w55 hbox hb; have BK211 := am hbox; have GW211 := gs1 hg HB GE207; have GE211 := gs1 hg HB GE207; replace HB := Aside0.mk (below_step (be1 HB GE207) hb); have NB207_211 := Aside0.mk ((by rw [hg]; exact Nat.ne_of_lt (bl BK207) : gb207 ≠ gb211)); have NB211_207 := Aside0.mk ((by rw [hg]; exact Nat.ne_of_gt (bl BK207) : gb211 ≠ gb207)); replace BK207 := bb BK207 hb; clear hb hbox hg; have hnb56 := NB211_207.out; have hnc56 := NB207_211.out; have hcz57_0 := bz2 BK211))
               have n0_ : Aside0 (((w55.setCell ⟨gb211, 0, none⟩ (.int .i64 ((rd_T70 l0_2 x59_3).f0))).setCell ⟨gb211, 1, none⟩ (.int .i64 ((rd_T70 l0_2 x59_3).f1))).heap[gb207]? = some (.cells #[.int .i64 a0_0, .slice A0_1 l0_1.length c0_1, .slice (some ad210) l0_2.length c0_2] 25 (0, 0))) := ⟨by (with_reducible repeat (first | refine blk_drewN ?_ _ | refine blk_drew ?_ | refine blk_alloc ?_ _)); refine blk_far ?_ NB207_211.out _; (with_reducible repeat (first | refine blk_drewN ?_ _ | refine blk_drew ?_ | refine blk_alloc ?_ _)); refine blk_far ?_ NB207_211.out _; (with_reducible repeat (first | refine blk_drewN ?_ _ | refine blk_drew ?_ | refine blk_alloc ?_ _)); exact BK207.out⟩
               have n1_ : Aside0 (((w55.setCell ⟨gb211, 0, none⟩ (.int .i64 ((rd_T70 l0_2 x59_3).f0))).setCell ⟨gb211, 1, none⟩ (.int .i64 ((rd_T70 l0_2 x59_3).f1))).heap[gb211]? = some (.cells #[.int .i64 ((rd_T70 l0_2 x59_3).f0), .int .i64 ((rd_T70 l0_2 x59_3).f1)] 70 (0, 0))) := ⟨by (with_reducible repeat (first | refine blk_drewN ?_ _ | refine blk_drew ?_ | refine blk_alloc ?_ _)); refine blk_put (cs := #[.int .i64 ((rd_T70 l0_2 x59_3).f0), .int .i64 0]) ?_ 1 _ rfl; (with_reducible repeat (first | refine blk_drewN ?_ _ | refine blk_drew ?_ | refine blk_alloc ?_ _)); refine blk_put (cs := #[.int .i64 0, .int .i64 0]) ?_ 0 _ rfl; (with_reducible repeat (first | refine blk_drewN ?_ _ | refine blk_drew ?_ | refine blk_alloc ?_ _)); exact BK211.out⟩
               have n2_ : Aside0 (Below w.heap.size w ((w55.setCell ⟨gb211, 0, none⟩ (.int .i64 ((rd_T70 l0_2 x59_3).f0))).setCell ⟨gb211, 1, none⟩ (.int .i64 ((rd_T70 l0_2 x59_3).f1)))) := ⟨be2 HB GE207 GE211⟩
               (try clear BK207)
               (try clear BK211)
               (try clear HB)
               generalize ((w55.setCell ⟨gb211, 0, none⟩ (.int .i64 ((rd_T70 l0_2 x59_3).f0))).setCell ⟨gb211, 1, none⟩ (.int .i64 ((rd_T70 l0_2 x59_3).f1))) = w58 at n0_ n1_ n2_ ⊢
               have BK207 := n0_
               have BK211 := n1_
               have HB := n2_
               clear n0_ n1_ n2_
               have n0_ := Aside0.mk (blk_drew BK207.out)
               have n1_ := Aside0.mk (blk_drew BK211.out)
               have n2_ := Aside0.mk (below_drew1 HB.out)
               clear BK207
               clear BK211
               clear HB
               have BK207 := n0_
               have BK211 := n1_
               have HB := n2_
               clear n0_ n1_ n2_
               have p212 : 0 ≤ ((ji42) : Int) := od
               have q212 : (ji42) < (l0_2.length : Int) := od
               obtain ⟨ad212, e212, hx212_0, hx212_1⟩ := at_T70 HR0_2.out (ji42) p212 q212
               have hw212_1 := hx212_1
               have hw212_0 := hx212_0
               obtain rfl : ad210 = ad212 := (by injection e212)
               replace hx212_0 := hc HB hx212_0
               replace hx212_1 := hc HB hx212_1
               replace p212 := eq_true p212
               replace q212 := eq_true q212
               have q60 : (x59_3 : Int) ≤ ((l0_2.length : Int) : Int) := od
               obtain ⟨i060, hi060, _, hsz60, _⟩ := info_parts info70
               have hroom60 : l0_2.length ≤ c0_2 := HC0_2.out
               have hC60 : Kd.C k70 _ (some ad210) l0_2.length l0_2 := HR0_2.out
               have hcut60 := cut_to (P := Try.prog) 23 70 .i64 Try.underlying23 hi060 (some ad210) l0_2.length c0_2 x59_3 (od) q60 hroom60
               have hr60 := Kd.C_take (m := (x59_3 : Int).toNat) hC60 (by omega)
               have hy60 : y213.length = (x59_3 : Int).toNat := (by rw [Ny213.out, List.length_take]; omega)
               rw [← Ny213.out] at hr60
               rw [← hy60] at hcut60
               have HR216 := Aside0.mk hr60
               have HC216 := Aside0.mk (show y213.length ≤ c0_2 from by omega)
               clear hr60 hC60 hroom60 hi060 hsz60
               have KY60 := Aside0.mk hy60
               clear hy60
               replace q60 := eq_true q60
               refine start_ (n := 35) (S := fun w' => w'.cell? ⟨gb211, 0, none⟩ = some (.int .i64 ((rd_T70 l0_2 x59_3).f0)) ∧ w'.cell? ⟨gb211, 1, none⟩ = some (.int .i64 ((rd_T70 l0_2 x59_3).f1)) ∧ w'.cell? ⟨gb207, 0, none⟩ = some (.int .i64 a0_0) ∧ w'.cell? ⟨gb207, 1, none⟩ = some (.slice A0_1 l0_1.length c0_1) ∧ w'.cell? ⟨gb207, 2, none⟩ = some (.slice (some ad210) l0_2.length c0_2) ∧ w'.cell? (ad210.add (((ji42)).toNat * 2)) = some (.int .i64 ((rd_T70 l0_2 (ji42)).f0)) ∧ w'.cell? ⟨(ad210.add (((ji42)).toNat * 2)).block, (ad210.add (((ji42)).toNat * 2)).off + 1, none⟩ = some (.int .i64 ((rd_T70 l0_2 (ji42)).f1))) (ds := []) (bv 35 0x0) (by kernel_rfl) rfl rfl ⟨bc0 BK211, bc1 BK211, bc0 BK207, bc1 BK207, bc2 BK207, ((HB.out.cell (World.block_lt_of_cell? w _ hw212_0)).trans hw212_0), ((HB.out.cell (World.block_lt_of_cell? w _ hw212_1)).trans hw212_1)⟩ (fun hHeld => ?_); refine with_tabW spec_AgesOk.tab12 spec_AgesOk.bits12 (fun HT_ HW_ => ?_)
               generalize w58.drew = w59 at BK207 BK211 HB HR216 hx212_0 hx212_1 hHeld ⊢
               refine py HT_ 0 64 (bv 35 0x1) ?_
               refine tk HT_ HW_ hHeld 1 65 (bv 35 0x3) ?_
               refine py HT_ 2 66 (bv 35 0x7) ?_
               refine py HT_ 3 67 (bv 35 0xf) ?_
               refine py HT_ 4 68 (bv 35 0x1f) ?_
               refine py HT_ 6 70 (bv 35 0x5f) ?_
               refine tk HT_ HW_ hHeld 5 69 (bv 35 0x7f) ?_
               refine tk HT_ HW_ hHeld 7 71 (bv 35 0xff) ?_
               refine py HT_ 8 72 (bv 35 0x1ff) ?_
               refine py HT_ 9 73 (bv 35 0x3ff) ?_
               refine py HT_ 10 74 (bv 35 0x7ff) ?_
               refine py HT_ 11 75 (bv 35 0xfff) ?_
               refine py HT_ 12 76 (bv 35 0x1fff) ?_
               refine py HT_ 13 77 (bv 35 0x3fff) ?_
               refine py HT_ 14 78 (bv 35 0x7fff) ?_
               refine py HT_ 16 80 (bv 35 0x17fff) ?_
               refine py HT_ 17 81 (bv 35 0x37fff) ?_
               refine py HT_ 21 85 (bv 35 0x237fff) ?_
               refine tk HT_ HW_ hHeld 15 79 (bv 35 0x23ffff) ?_
               refine py HT_ 18 82 (bv 35 0x27ffff) ?_
               refine py HT_ 19 83 (bv 35 0x2fffff) ?_
               refine tk HT_ HW_ hHeld 20 84 (bv 35 0x3fffff) ?_
               refine tk HT_ HW_ hHeld 22 86 (bv 35 0x7fffff) ?_
               refine py HT_ 23 87 (bv 35 0xffffff) ?_
               refine py HT_ 24 88 (bv 35 0x1ffffff) ?_
               refine py HT_ 25 89 (bv 35 0x3ffffff) ?_
               refine py HT_ 26 90 (bv 35 0x7ffffff) ?_
               refine py HT_ 27 91 (bv 35 0xfffffff) ?_
               refine py HT_ 29 93 (bv 35 0x2fffffff) ?_
               refine py HT_ 31 95 (bv 35 0xafffffff) ?_
               refine tk HT_ HW_ hHeld 28 92 (bv 35 0xbfffffff) ?_
               refine py HT_ 30 94 (bv 35 0xffffffff) ?_
               refine tk HT_ HW_ hHeld 32 96 (bv 35 0x1ffffffff) ?_
               refine one_ (i := 33) (N := some 97) (bv 35 0x3ffffffff) rfl rfl (one_of HT_.out (by kernel_rfl)) (by decide) (fun K hK => ?_)
               refine goes_ Try.func89 (by kernel_rfl) rfl #[.slice (some ad210) y213.length c0_2, .int .i64 ((rd_T70 l0_2 x59_3).f0)] (by rfl) rfl rfl ml ?_
               with_reducible refine (spec_l06Node.calls k3 _ _ y213 ((rd_T70 l0_2 x59_3).f0) true _ ?side1 ?side2 A53.out).mono ?_
               (case side1 => exact cb HR216 HB)
               (case side2 => exact HC216.out)
               rintro e w61 ⟨rfl, hb⟩
               refine ⟨_, rfl, ?_⟩
               have n0_ := bb BK207 hb
               have n1_ := bb BK211 hb
               have n2_ := Aside0.mk (below_step (be2 HB GE207 GE211) hb)
               clear BK207
               clear BK211
               clear HB
               have BK207 := n0_
               have BK211 := n1_
               have HB := n2_
               clear n0_ n1_ n2_
               (try clear hb)
               (try clear hb2)
               (try clear hk)
               (try clear hi)
               refine hK.out _ _ ⟨bc0 BK211, bc1 BK211, bc0 BK207, bc1 BK207, bc2 BK207, ((HB.out.cell (World.block_lt_of_cell? w _ hw212_0)).trans hw212_0), ((HB.out.cell (World.block_lt_of_cell? w _ hw212_1)).trans hw212_1)⟩ (fun hHeld => ?_)
               clear hK K
               refine norm_ (a' := ?_) ?_ ?_
               rotate_left
               ·show Act.put _ (some 97) _ = _
                simp only [aP]
                rfl
               refine py HT_ 34 98 (bv 35 0x7ffffffff) ?_
               refine done_ (done_of HT_.out (by kernel_rfl)) ?_
               try go_wp2
               go_ret
               exact ⟨by first | rfl | (simp [errW_none, errW_some] <;> rfl) | (simp only [← hji42]; first | rfl | (simp [errW_none, errW_some] <;> rfl)) | (simp [*, errW_none, errW_some] <;> rfl), be2 HB GE207 GE211⟩
              replace c54 := Bool.eq_false_iff.mpr c54
              subst c54
              rw [if_neg (show ¬ (false = true) by decide)] at H
              have H' := Aside0.mk H
              clear H
              have p210 : 0 ≤ (x59_3 : Int) := od
              have q210 : x59_3 < (l0_2.length : Int) := od
              obtain ⟨ad210, e210, hx210_0, hx210_1⟩ := at_T70 HR0_2.out x59_3 p210 q210
              cases e210
              replace hx210_0 := hc HB hx210_0
              replace hx210_1 := hc HB hx210_1
              replace p210 := eq_true p210
              replace q210 := eq_true q210
              try go_wp2_with (first | ((with_reducible refine gate_dst (N := 6) rfl ?_); (try (refine gate_guard (by rfl) ?_; dsimp only)); refine bx 6 #[.int .i64 0, .int .i64 0] 70 ?_; intro gb211 hg w62 hbox hb; have BK211 := am hbox; have GW211 := gs1 hg HB GE207; have GE211 := gs1 hg HB GE207; replace HB := Aside0.mk (below_step (be1 HB GE207) hb); have NB207_211 := Aside0.mk ((by rw [hg]; exact Nat.ne_of_lt (bl BK207) : gb207 ≠ gb211)); have NB211_207 := Aside0.mk ((by rw [hg]; exact Nat.ne_of_gt (bl BK207) : gb211 ≠ gb207)); replace BK207 := bb BK207 hb; clear hb hbox hg; have hnb63 := NB211_207.out; have hnc63 := NB207_211.out; have hcz64_0 := bz2 BK211))
              have n0_ : Aside0 (((w62.setCell ⟨gb211, 0, none⟩ (.int .i64 ((rd_T70 l0_2 x59_3).f0))).setCell ⟨gb211, 1, none⟩ (.int .i64 ((rd_T70 l0_2 x59_3).f1))).heap[gb207]? = some (.cells #[.int .i64 a0_0, .slice A0_1 l0_1.length c0_1, .slice (some ad210) l0_2.length c0_2] 25 (0, 0))) := ⟨by (with_reducible repeat (first | refine blk_drewN ?_ _ | refine blk_drew ?_ | refine blk_alloc ?_ _)); refine blk_far ?_ NB207_211.out _; (with_reducible repeat (first | refine blk_drewN ?_ _ | refine blk_drew ?_ | refine blk_alloc ?_ _)); refine blk_far ?_ NB207_211.out _; (with_reducible repeat (first | refine blk_drewN ?_ _ | refine blk_drew ?_ | refine blk_alloc ?_ _)); exact BK207.out⟩
              have n1_ : Aside0 (((w62.setCell ⟨gb211, 0, none⟩ (.int .i64 ((rd_T70 l0_2 x59_3).f0))).setCell ⟨gb211, 1, none⟩ (.int .i64 ((rd_T70 l0_2 x59_3).f1))).heap[gb211]? = some (.cells #[.int .i64 ((rd_T70 l0_2 x59_3).f0), .int .i64 ((rd_T70 l0_2 x59_3).f1)] 70 (0, 0))) := ⟨by (with_reducible repeat (first | refine blk_drewN ?_ _ | refine blk_drew ?_ | refine blk_alloc ?_ _)); refine blk_put (cs := #[.int .i64 ((rd_T70 l0_2 x59_3).f0), .int .i64 0]) ?_ 1 _ rfl; (with_reducible repeat (first | refine blk_drewN ?_ _ | refine blk_drew ?_ | refine blk_alloc ?_ _)); refine blk_put (cs := #[.int .i64 0, .int .i64 0]) ?_ 0 _ rfl; (with_reducible repeat (first | refine blk_drewN ?_ _ | refine blk_drew ?_ | refine blk_alloc ?_ _)); exact BK211.out⟩
              have n2_ : Aside0 (Below w.heap.size w ((w62.setCell ⟨gb211, 0, none⟩ (.int .i64 ((rd_T70 l0_2 x59_3).f0))).setCell ⟨gb211, 1, none⟩ (.int .i64 ((rd_T70 l0_2 x59_3).f1)))) := ⟨be2 HB GE207 GE211⟩
              (try clear BK207)
              (try clear BK211)
              (try clear HB)
              generalize ((w62.setCell ⟨gb211, 0, none⟩ (.int .i64 ((rd_T70 l0_2 x59_3).f0))).setCell ⟨gb211, 1, none⟩ (.int .i64 ((rd_T70 l0_2 x59_3).f1))) = w65 at n0_ n1_ n2_ ⊢
              have BK207 := n0_
              have BK211 := n1_
              have HB := n2_
              clear n0_ n1_ n2_
              have n0_ := Aside0.mk (blk_drew BK207.out)
              have n1_ := Aside0.mk (blk_drew BK211.out)
              have n2_ := Aside0.mk (below_drew1 HB.out)
              clear BK207
              clear BK211
              clear HB
              have BK207 := n0_
              have BK211 := n1_
              have HB := n2_
              clear n0_ n1_ n2_
              have p212 : 0 ≤ ((ji42) : Int) := od
              have q212 : (ji42) < (l0_2.length : Int) := od
              obtain ⟨ad212, e212, hx212_0, hx212_1⟩ := at_T70 HR0_2.out (ji42) p212 q212
              have hw212_1 := hx212_1
              have hw212_0 := hx212_0
              obtain rfl : ad210 = ad212 := (by injection e212)
              replace hx212_0 := hc HB hx212_0
              replace hx212_1 := hc HB hx212_1
              replace p212 := eq_true p212
              replace q212 := eq_true q212
              have q67 : (x59_3 : Int) ≤ ((l0_2.length : Int) : Int) := od
              obtain ⟨i067, hi067, _, hsz67, _⟩ := info_parts info70
              have hroom67 : l0_2.length ≤ c0_2 := HC0_2.out
              have hC67 : Kd.C k70 _ (some ad210) l0_2.length l0_2 := HR0_2.out
              have hcut67 := cut_to (P := Try.prog) 23 70 .i64 Try.underlying23 hi067 (some ad210) l0_2.length c0_2 x59_3 (od) q67 hroom67
              have hr67 := Kd.C_take (m := (x59_3 : Int).toNat) hC67 (by omega)
              have hy67 : y213.length = (x59_3 : Int).toNat := (by rw [Ny213.out, List.length_take]; omega)
              rw [← Ny213.out] at hr67
              rw [← hy67] at hcut67
              have HR216 := Aside0.mk hr67
              have HC216 := Aside0.mk (show y213.length ≤ c0_2 from by omega)
              clear hr67 hC67 hroom67 hi067 hsz67
              have KY67 := Aside0.mk hy67
              clear hy67
              replace q67 := eq_true q67
              refine start_ (n := 35) (S := fun w' => w'.cell? ⟨gb211, 0, none⟩ = some (.int .i64 ((rd_T70 l0_2 x59_3).f0)) ∧ w'.cell? ⟨gb211, 1, none⟩ = some (.int .i64 ((rd_T70 l0_2 x59_3).f1)) ∧ w'.cell? ⟨gb207, 0, none⟩ = some (.int .i64 a0_0) ∧ w'.cell? ⟨gb207, 1, none⟩ = some (.slice A0_1 l0_1.length c0_1) ∧ w'.cell? ⟨gb207, 2, none⟩ = some (.slice (some ad210) l0_2.length c0_2) ∧ w'.cell? (ad210.add (((ji42)).toNat * 2)) = some (.int .i64 ((rd_T70 l0_2 (ji42)).f0)) ∧ w'.cell? ⟨(ad210.add (((ji42)).toNat * 2)).block, (ad210.add (((ji42)).toNat * 2)).off + 1, none⟩ = some (.int .i64 ((rd_T70 l0_2 (ji42)).f1))) (ds := []) (bv 35 0x0) (by kernel_rfl) rfl rfl ⟨bc0 BK211, bc1 BK211, bc0 BK207, bc1 BK207, bc2 BK207, ((HB.out.cell (World.block_lt_of_cell? w _ hw212_0)).trans hw212_0), ((HB.out.cell (World.block_lt_of_cell? w _ hw212_1)).trans hw212_1)⟩ (fun hHeld => ?_); refine with_tabW spec_AgesOk.tab12 spec_AgesOk.bits12 (fun HT_ HW_ => ?_)
              generalize w65.drew = w66 at BK207 BK211 HB HR216 hx212_0 hx212_1 hHeld ⊢
              refine py HT_ 0 64 (bv 35 0x1) ?_
              refine tk HT_ HW_ hHeld 1 65 (bv 35 0x3) ?_
              refine py HT_ 2 66 (bv 35 0x7) ?_
              refine py HT_ 3 67 (bv 35 0xf) ?_
              refine py HT_ 4 68 (bv 35 0x1f) ?_
              refine py HT_ 6 70 (bv 35 0x5f) ?_
              refine tk HT_ HW_ hHeld 5 69 (bv 35 0x7f) ?_
              refine tk HT_ HW_ hHeld 7 71 (bv 35 0xff) ?_
              refine py HT_ 8 72 (bv 35 0x1ff) ?_
              refine py HT_ 9 73 (bv 35 0x3ff) ?_
              refine py HT_ 10 74 (bv 35 0x7ff) ?_
              refine py HT_ 11 75 (bv 35 0xfff) ?_
              refine py HT_ 12 76 (bv 35 0x1fff) ?_
              refine py HT_ 13 77 (bv 35 0x3fff) ?_
              refine py HT_ 14 78 (bv 35 0x7fff) ?_
              refine py HT_ 16 80 (bv 35 0x17fff) ?_
              refine py HT_ 17 81 (bv 35 0x37fff) ?_
              refine py HT_ 21 85 (bv 35 0x237fff) ?_
              refine tk HT_ HW_ hHeld 15 79 (bv 35 0x23ffff) ?_
              refine py HT_ 18 82 (bv 35 0x27ffff) ?_
              refine py HT_ 19 83 (bv 35 0x2fffff) ?_
              refine tk HT_ HW_ hHeld 20 84 (bv 35 0x3fffff) ?_
              refine tk HT_ HW_ hHeld 22 86 (bv 35 0x7fffff) ?_
              refine py HT_ 23 87 (bv 35 0xffffff) ?_
              refine py HT_ 24 88 (bv 35 0x1ffffff) ?_
              refine py HT_ 25 89 (bv 35 0x3ffffff) ?_
              refine py HT_ 26 90 (bv 35 0x7ffffff) ?_
              refine py HT_ 27 91 (bv 35 0xfffffff) ?_
              refine py HT_ 29 93 (bv 35 0x2fffffff) ?_
              refine py HT_ 31 95 (bv 35 0xafffffff) ?_
              refine tk HT_ HW_ hHeld 28 92 (bv 35 0xbfffffff) ?_
              refine py HT_ 30 94 (bv 35 0xffffffff) ?_
              refine tk HT_ HW_ hHeld 32 96 (bv 35 0x1ffffffff) ?_
              refine one_ (i := 33) (N := some 97) (bv 35 0x3ffffffff) rfl rfl (one_of HT_.out (by kernel_rfl)) (by decide) (fun K hK => ?_)
              refine goes_ Try.func89 (by kernel_rfl) rfl #[.slice (some ad210) y213.length c0_2, .int .i64 ((rd_T70 l0_2 x59_3).f0)] (by rfl) rfl rfl ml ?_
              with_reducible refine (spec_l06Node.calls k3 _ _ y213 ((rd_T70 l0_2 x59_3).f0) false _ ?side1 ?side2 A53.out).mono ?_
              (case side1 => exact cb HR216 HB)
              (case side2 => exact HC216.out)
              rintro e w68 ⟨rfl, hb⟩
              refine ⟨_, rfl, ?_⟩
              have n0_ := bb BK207 hb
              have n1_ := bb BK211 hb
              have n2_ := Aside0.mk (below_step (be2 HB GE207 GE211) hb)
              clear BK207
              clear BK211
              clear HB
              have BK207 := n0_
              have BK211 := n1_
              have HB := n2_
              clear n0_ n1_ n2_
              (try clear hb)
              (try clear hb2)
              (try clear hk)
              (try clear hi)
              refine hK.out _ _ ⟨bc0 BK211, bc1 BK211, bc0 BK207, bc1 BK207, bc2 BK207, ((HB.out.cell (World.block_lt_of_cell? w _ hw212_0)).trans hw212_0), ((HB.out.cell (World.block_lt_of_cell? w _ hw212_1)).trans hw212_1)⟩ (fun hHeld => ?_)
              clear hK K
              refine norm_ (a' := ?_) ?_ ?_
              rotate_left
              ·show Act.put _ (some 97) _ = _
               simp only [aP]
               rfl
              refine py HT_ 34 98 (bv 35 0x7ffffffff) ?_
              refine done_ (done_of HT_.out (by kernel_rfl)) ?_
              try go_wp2
              go_roundg k3
              case measure => have := HJ1.out; have := HK2.out; have := HK3.out; omega
              case rel => exact ⟨(wrap64 (x59_3 + 1)), rs, H', ⟨by have := HJ1.out; have := HK2.out; have := HK3.out; omega⟩, ⟨bk BK207⟩, ⟨be2 HB GE207 GE211⟩⟩
             rw [if_neg c52] at H
             exact absurd H (by simp)
            rw [if_neg c44] at H
            exact absurd H (by simp)
           rw [if_neg c43] at H
           exact absurd H (by simp)
          rw [if_neg c41] at H
          have c41b0 : decide (0 < x59_3) = false := decide_eq_false c41
          clear c41
          have c69b0 := eq_true (od : 0 ≤ x59_3)
          by_cases c70 : x59_3 ≤ (l0_2.length : Int)
          ·rw [if_pos c70] at H
           have c70b0 := eq_true c70
           have c70b1 : decide (x59_3 ≤ (l0_2.length : Int)) = true := decide_eq_true c70
           clear c70
           obtain ⟨y218, hy218⟩ : ∃ y_ : List (S70), y_ = (l0_2.take (x59_3 : Int).toNat) := ⟨_, rfl⟩
           replace H : ((spec_l06Node.f k3 y218 ((rd_T70 l0_2 x59_3).f0)).bind fun t222 => (if t222 = true then (some false) else (spec_AgesOk.l1 k3 l0_2 (l0_2.length : Int) (wrap64 (x59_3 + 1)) a0_0 l0_1 l0_2))) = some r := by first | (rw [hy218]; with_reducible exact H) | (have H2_ := (Option.bind_some _ _).symm.trans H; rw [hy218]; with_reducible exact H2_) | (have H2_ := (Option.bind_some _ _).symm.trans H; with_reducible exact H2_) | with_reducible exact H | (rw [hy218]; exact H) | exact H
           have Ny218 := Aside0.mk hy218
           clear hy218
           replace H := Option.bind_eq_some_iff.mp H
           obtain ⟨t222, A710, H⟩ := H
           try dsimp only at H
           have A71 := Aside0.mk A710
           clear A710
           by_cases c72 : t222 = true
           ·subst c72
            rw [if_pos rfl] at H
            obtain rfl := Option.some.inj H
            have p210 : 0 ≤ (x59_3 : Int) := od
            have q210 : x59_3 < (l0_2.length : Int) := od
            obtain ⟨ad210, e210, hx210_0, hx210_1⟩ := at_T70 HR0_2.out x59_3 p210 q210
            cases e210
            replace hx210_0 := hc HB hx210_0
            replace hx210_1 := hc HB hx210_1
            replace p210 := eq_true p210
            replace q210 := eq_true q210
            try go_wp2_with (first | ((with_reducible refine gate_dst (N := 6) rfl ?_); (try (refine gate_guard (by rfl) ?_; dsimp only)); refine bx 6 #[.int .i64 0, .int .i64 0] 70 ?_; intro gb211 hg w73 hbox hb; have BK211 := am hbox; have GW211 := gs1 hg HB GE207; have GE211 := gs1 hg HB GE207; replace HB := Aside0.mk (below_step (be1 HB GE207) hb); have NB207_211 := Aside0.mk ((by rw [hg]; exact Nat.ne_of_lt (bl BK207) : gb207 ≠ gb211)); have NB211_207 := Aside0.mk ((by rw [hg]; exact Nat.ne_of_gt (bl BK207) : gb211 ≠ gb207)); replace BK207 := bb BK207 hb; clear hb hbox hg; have hnb74 := NB211_207.out; have hnc74 := NB207_211.out; have hcz75_0 := bz2 BK211))
            have n0_ : Aside0 (((w73.setCell ⟨gb211, 0, none⟩ (.int .i64 ((rd_T70 l0_2 x59_3).f0))).setCell ⟨gb211, 1, none⟩ (.int .i64 ((rd_T70 l0_2 x59_3).f1))).heap[gb207]? = some (.cells #[.int .i64 a0_0, .slice A0_1 l0_1.length c0_1, .slice (some ad210) l0_2.length c0_2] 25 (0, 0))) := ⟨by (with_reducible repeat (first | refine blk_drewN ?_ _ | refine blk_drew ?_ | refine blk_alloc ?_ _)); refine blk_far ?_ NB207_211.out _; (with_reducible repeat (first | refine blk_drewN ?_ _ | refine blk_drew ?_ | refine blk_alloc ?_ _)); refine blk_far ?_ NB207_211.out _; (with_reducible repeat (first | refine blk_drewN ?_ _ | refine blk_drew ?_ | refine blk_alloc ?_ _)); exact BK207.out⟩
            have n1_ : Aside0 (((w73.setCell ⟨gb211, 0, none⟩ (.int .i64 ((rd_T70 l0_2 x59_3).f0))).setCell ⟨gb211, 1, none⟩ (.int .i64 ((rd_T70 l0_2 x59_3).f1))).heap[gb211]? = some (.cells #[.int .i64 ((rd_T70 l0_2 x59_3).f0), .int .i64 ((rd_T70 l0_2 x59_3).f1)] 70 (0, 0))) := ⟨by (with_reducible repeat (first | refine blk_drewN ?_ _ | refine blk_drew ?_ | refine blk_alloc ?_ _)); refine blk_put (cs := #[.int .i64 ((rd_T70 l0_2 x59_3).f0), .int .i64 0]) ?_ 1 _ rfl; (with_reducible repeat (first | refine blk_drewN ?_ _ | refine blk_drew ?_ | refine blk_alloc ?_ _)); refine blk_put (cs := #[.int .i64 0, .int .i64 0]) ?_ 0 _ rfl; (with_reducible repeat (first | refine blk_drewN ?_ _ | refine blk_drew ?_ | refine blk_alloc ?_ _)); exact BK211.out⟩
            have n2_ : Aside0 (Below w.heap.size w ((w73.setCell ⟨gb211, 0, none⟩ (.int .i64 ((rd_T70 l0_2 x59_3).f0))).setCell ⟨gb211, 1, none⟩ (.int .i64 ((rd_T70 l0_2 x59_3).f1)))) := ⟨be2 HB GE207 GE211⟩
            (try clear BK207)
            (try clear BK211)
            (try clear HB)
            generalize ((w73.setCell ⟨gb211, 0, none⟩ (.int .i64 ((rd_T70 l0_2 x59_3).f0))).setCell ⟨gb211, 1, none⟩ (.int .i64 ((rd_T70 l0_2 x59_3).f1))) = w76 at n0_ n1_ n2_ ⊢
            have BK207 := n0_
            have BK211 := n1_
            have HB := n2_
            clear n0_ n1_ n2_
            have n0_ := Aside0.mk (blk_drew BK207.out)
            have n1_ := Aside0.mk (blk_drew BK211.out)
            have n2_ := Aside0.mk (below_drew1 HB.out)
            clear BK207
            clear BK211
            clear HB
            have BK207 := n0_
            have BK211 := n1_
            have HB := n2_
            clear n0_ n1_ n2_
            have q78 : (x59_3 : Int) ≤ ((l0_2.length : Int) : Int) := od
            obtain ⟨i078, hi078, _, hsz78, _⟩ := info_parts info70
            have hroom78 : l0_2.length ≤ c0_2 := HC0_2.out
            have hC78 : Kd.C k70 _ (some ad210) l0_2.length l0_2 := HR0_2.out
            have hcut78 := cut_to (P := Try.prog) 23 70 .i64 Try.underlying23 hi078 (some ad210) l0_2.length c0_2 x59_3 (od) q78 hroom78
            have hr78 := Kd.C_take (m := (x59_3 : Int).toNat) hC78 (by omega)
            have hy78 : y218.length = (x59_3 : Int).toNat := (by rw [Ny218.out, List.length_take]; omega)
            rw [← Ny218.out] at hr78
            rw [← hy78] at hcut78
            have HR221 := Aside0.mk hr78
            have HC221 := Aside0.mk (show y218.length ≤ c0_2 from by omega)
            clear hr78 hC78 hroom78 hi078 hsz78
            have KY78 := Aside0.mk hy78
            clear hy78
            replace q78 := eq_true q78
            refine start_ (n := 35) (S := fun w' => w'.cell? ⟨gb211, 0, none⟩ = some (.int .i64 ((rd_T70 l0_2 x59_3).f0)) ∧ w'.cell? ⟨gb211, 1, none⟩ = some (.int .i64 ((rd_T70 l0_2 x59_3).f1)) ∧ w'.cell? ⟨gb207, 0, none⟩ = some (.int .i64 a0_0) ∧ w'.cell? ⟨gb207, 1, none⟩ = some (.slice A0_1 l0_1.length c0_1) ∧ w'.cell? ⟨gb207, 2, none⟩ = some (.slice (some ad210) l0_2.length c0_2)) (ds := []) (bv 35 0x0) (by kernel_rfl) rfl rfl ⟨bc0 BK211, bc1 BK211, bc0 BK207, bc1 BK207, bc2 BK207⟩ (fun hHeld => ?_); refine with_tabW spec_AgesOk.tab12 spec_AgesOk.bits12 (fun HT_ HW_ => ?_)
            generalize w76.drew = w77 at BK207 BK211 HB HR221 hHeld ⊢
            refine py HT_ 0 64 (bv 35 0x1) ?_
            refine tk HT_ HW_ hHeld 1 65 (bv 35 0x3) ?_
            refine py HT_ 2 66 (bv 35 0x7) ?_
            refine py HT_ 3 67 (bv 35 0xf) ?_
            refine py HT_ 4 68 (bv 35 0x1f) ?_
            refine py HT_ 6 70 (bv 35 0x5f) ?_
            refine tk HT_ HW_ hHeld 5 69 (bv 35 0x7f) ?_
            refine tk HT_ HW_ hHeld 7 71 (bv 35 0xff) ?_
            refine py HT_ 8 72 (bv 35 0x1ff) ?_
            refine py HT_ 9 73 (bv 35 0x3ff) ?_
            refine py HT_ 10 74 (bv 35 0x7ff) ?_
            refine py HT_ 11 75 (bv 35 0xfff) ?_
            refine py HT_ 12 76 (bv 35 0x1fff) ?_
            refine py HT_ 13 77 (bv 35 0x3fff) ?_
            refine pu HT_ 14 78 (bv 35 0x7fff) ?_
            refine pu HT_ 15 79 (bv 35 0xffff) ?_
            refine pu HT_ 16 80 (bv 35 0x1ffff) ?_
            refine pu HT_ 17 81 (bv 35 0x3ffff) ?_
            refine pu HT_ 18 82 (bv 35 0x7ffff) ?_
            refine pu HT_ 19 83 (bv 35 0xfffff) ?_
            refine pu HT_ 20 84 (bv 35 0x1fffff) ?_
            refine pu HT_ 21 85 (bv 35 0x3fffff) ?_
            refine pu HT_ 22 86 (bv 35 0x7fffff) ?_
            refine pu HT_ 23 87 (bv 35 0xffffff) ?_
            refine py HT_ 24 88 (bv 35 0x1ffffff) ?_
            refine py HT_ 25 89 (bv 35 0x3ffffff) ?_
            refine py HT_ 26 90 (bv 35 0x7ffffff) ?_
            refine py HT_ 27 91 (bv 35 0xfffffff) ?_
            refine py HT_ 29 93 (bv 35 0x2fffffff) ?_
            refine py HT_ 31 95 (bv 35 0xafffffff) ?_
            refine tk HT_ HW_ hHeld 28 92 (bv 35 0xbfffffff) ?_
            refine py HT_ 30 94 (bv 35 0xffffffff) ?_
            refine tk HT_ HW_ hHeld 32 96 (bv 35 0x1ffffffff) ?_
            refine one_ (i := 33) (N := some 97) (bv 35 0x3ffffffff) rfl rfl (one_of HT_.out (by kernel_rfl)) (by decide) (fun K hK => ?_)
            refine goes_ Try.func89 (by kernel_rfl) rfl #[.slice (some ad210) y218.length c0_2, .int .i64 ((rd_T70 l0_2 x59_3).f0)] (by rfl) rfl rfl ml ?_
            with_reducible refine (spec_l06Node.calls k3 _ _ y218 ((rd_T70 l0_2 x59_3).f0) true _ ?side1 ?side2 A71.out).mono ?_
            (case side1 => exact cb HR221 HB)
            (case side2 => exact HC221.out)
            rintro e w79 ⟨rfl, hb⟩
            refine ⟨_, rfl, ?_⟩
            have n0_ := bb BK207 hb
            have n1_ := bb BK211 hb
            have n2_ := Aside0.mk (below_step (be2 HB GE207 GE211) hb)
            clear BK207
            clear BK211
            clear HB
            have BK207 := n0_
            have BK211 := n1_
            have HB := n2_
            clear n0_ n1_ n2_
            (try clear hb)
            (try clear hb2)
            (try clear hk)
            (try clear hi)
            refine hK.out _ _ ⟨bc0 BK211, bc1 BK211, bc0 BK207, bc1 BK207, bc2 BK207⟩ (fun hHeld => ?_)
            clear hK K
            refine norm_ (a' := ?_) ?_ ?_
            rotate_left
            ·show Act.put _ (some 97) _ = _
             simp only [aP]
             rfl
            refine py HT_ 34 98 (bv 35 0x7ffffffff) ?_
            refine done_ (done_of HT_.out (by kernel_rfl)) ?_
            try go_wp2
            go_ret
            exact ⟨er, be2 HB GE207 GE211⟩
           replace c72 := Bool.eq_false_iff.mpr c72
           subst c72
           rw [if_neg (show ¬ (false = true) by decide)] at H
           have H' := Aside0.mk H
           clear H
           have p210 : 0 ≤ (x59_3 : Int) := od
           have q210 : x59_3 < (l0_2.length : Int) := od
           obtain ⟨ad210, e210, hx210_0, hx210_1⟩ := at_T70 HR0_2.out x59_3 p210 q210
           cases e210
           replace hx210_0 := hc HB hx210_0
           replace hx210_1 := hc HB hx210_1
           replace p210 := eq_true p210
           replace q210 := eq_true q210
           try go_wp2_with (first | ((with_reducible refine gate_dst (N := 6) rfl ?_); (try (refine gate_guard (by rfl) ?_; dsimp only)); refine bx 6 #[.int .i64 0, .int .i64 0] 70 ?_; intro gb211 hg w80 hbox hb; have BK211 := am hbox; have GW211 := gs1 hg HB GE207; have GE211 := gs1 hg HB GE207; replace HB := Aside0.mk (below_step (be1 HB GE207) hb); have NB207_211 := Aside0.mk ((by rw [hg]; exact Nat.ne_of_lt (bl BK207) : gb207 ≠ gb211)); have NB211_207 := Aside0.mk ((by rw [hg]; exact Nat.ne_of_gt (bl BK207) : gb211 ≠ gb207)); replace BK207 := bb BK207 hb; clear hb hbox hg; have hnb81 := NB211_207.out; have hnc81 := NB207_211.out; have hcz82_0 := bz2 BK211))
           have n0_ : Aside0 (((w80.setCell ⟨gb211, 0, none⟩ (.int .i64 ((rd_T70 l0_2 x59_3).f0))).setCell ⟨gb211, 1, none⟩ (.int .i64 ((rd_T70 l0_2 x59_3).f1))).heap[gb207]? = some (.cells #[.int .i64 a0_0, .slice A0_1 l0_1.length c0_1, .slice (some ad210) l0_2.length c0_2] 25 (0, 0))) := ⟨by (with_reducible repeat (first | refine blk_drewN ?_ _ | refine blk_drew ?_ | refine blk_alloc ?_ _)); refine blk_far ?_ NB207_211.out _; (with_reducible repeat (first | refine blk_drewN ?_ _ | refine blk_drew ?_ | refine blk_alloc ?_ _)); refine blk_far ?_ NB207_211.out _; (with_reducible repeat (first | refine blk_drewN ?_ _ | refine blk_drew ?_ | refine blk_alloc ?_ _)); exact BK207.out⟩
           have n1_ : Aside0 (((w80.setCell ⟨gb211, 0, none⟩ (.int .i64 ((rd_T70 l0_2 x59_3).f0))).setCell ⟨gb211, 1, none⟩ (.int .i64 ((rd_T70 l0_2 x59_3).f1))).heap[gb211]? = some (.cells #[.int .i64 ((rd_T70 l0_2 x59_3).f0), .int .i64 ((rd_T70 l0_2 x59_3).f1)] 70 (0, 0))) := ⟨by (with_reducible repeat (first | refine blk_drewN ?_ _ | refine blk_drew ?_ | refine blk_alloc ?_ _)); refine blk_put (cs := #[.int .i64 ((rd_T70 l0_2 x59_3).f0), .int .i64 0]) ?_ 1 _ rfl; (with_reducible repeat (first | refine blk_drewN ?_ _ | refine blk_drew ?_ | refine blk_alloc ?_ _)); refine blk_put (cs := #[.int .i64 0, .int .i64 0]) ?_ 0 _ rfl; (with_reducible repeat (first | refine blk_drewN ?_ _ | refine blk_drew ?_ | refine blk_alloc ?_ _)); exact BK211.out⟩
           have n2_ : Aside0 (Below w.heap.size w ((w80.setCell ⟨gb211, 0, none⟩ (.int .i64 ((rd_T70 l0_2 x59_3).f0))).setCell ⟨gb211, 1, none⟩ (.int .i64 ((rd_T70 l0_2 x59_3).f1)))) := ⟨be2 HB GE207 GE211⟩
           (try clear BK207)
           (try clear BK211)
           (try clear HB)
           generalize ((w80.setCell ⟨gb211, 0, none⟩ (.int .i64 ((rd_T70 l0_2 x59_3).f0))).setCell ⟨gb211, 1, none⟩ (.int .i64 ((rd_T70 l0_2 x59_3).f1))) = w83 at n0_ n1_ n2_ ⊢
           have BK207 := n0_
           have BK211 := n1_
           have HB := n2_
           clear n0_ n1_ n2_
           have n0_ := Aside0.mk (blk_drew BK207.out)
           have n1_ := Aside0.mk (blk_drew BK211.out)
           have n2_ := Aside0.mk (below_drew1 HB.out)
           clear BK207
           clear BK211
           clear HB
           have BK207 := n0_
           have BK211 := n1_
           have HB := n2_
           clear n0_ n1_ n2_
           have q85 : (x59_3 : Int) ≤ ((l0_2.length : Int) : Int) := od
           obtain ⟨i085, hi085, _, hsz85, _⟩ := info_parts info70
           have hroom85 : l0_2.length ≤ c0_2 := HC0_2.out
           have hC85 : Kd.C k70 _ (some ad210) l0_2.length l0_2 := HR0_2.out
           have hcut85 := cut_to (P := Try.prog) 23 70 .i64 Try.underlying23 hi085 (some ad210) l0_2.length c0_2 x59_3 (od) q85 hroom85
           have hr85 := Kd.C_take (m := (x59_3 : Int).toNat) hC85 (by omega)
           have hy85 : y218.length = (x59_3 : Int).toNat := (by rw [Ny218.out, List.length_take]; omega)
           rw [← Ny218.out] at hr85
           rw [← hy85] at hcut85
           have HR221 := Aside0.mk hr85
           have HC221 := Aside0.mk (show y218.length ≤ c0_2 from by omega)
           clear hr85 hC85 hroom85 hi085 hsz85
           have KY85 := Aside0.mk hy85
           clear hy85
           replace q85 := eq_true q85
           refine start_ (n := 35) (S := fun w' => w'.cell? ⟨gb211, 0, none⟩ = some (.int .i64 ((rd_T70 l0_2 x59_3).f0)) ∧ w'.cell? ⟨gb211, 1, none⟩ = some (.int .i64 ((rd_T70 l0_2 x59_3).f1)) ∧ w'.cell? ⟨gb207, 0, none⟩ = some (.int .i64 a0_0) ∧ w'.cell? ⟨gb207, 1, none⟩ = some (.slice A0_1 l0_1.length c0_1) ∧ w'.cell? ⟨gb207, 2, none⟩ = some (.slice (some ad210) l0_2.length c0_2)) (ds := []) (bv 35 0x0) (by kernel_rfl) rfl rfl ⟨bc0 BK211, bc1 BK211, bc0 BK207, bc1 BK207, bc2 BK207⟩ (fun hHeld => ?_); refine with_tabW spec_AgesOk.tab12 spec_AgesOk.bits12 (fun HT_ HW_ => ?_)
           generalize w83.drew = w84 at BK207 BK211 HB HR221 hHeld ⊢
           refine py HT_ 0 64 (bv 35 0x1) ?_
           refine tk HT_ HW_ hHeld 1 65 (bv 35 0x3) ?_
           refine py HT_ 2 66 (bv 35 0x7) ?_
           refine py HT_ 3 67 (bv 35 0xf) ?_
           refine py HT_ 4 68 (bv 35 0x1f) ?_
           refine py HT_ 6 70 (bv 35 0x5f) ?_
           refine tk HT_ HW_ hHeld 5 69 (bv 35 0x7f) ?_
           refine tk HT_ HW_ hHeld 7 71 (bv 35 0xff) ?_
           refine py HT_ 8 72 (bv 35 0x1ff) ?_
           refine py HT_ 9 73 (bv 35 0x3ff) ?_
           refine py HT_ 10 74 (bv 35 0x7ff) ?_
           refine py HT_ 11 75 (bv 35 0xfff) ?_
           refine py HT_ 12 76 (bv 35 0x1fff) ?_
           refine py HT_ 13 77 (bv 35 0x3fff) ?_
           refine pu HT_ 14 78 (bv 35 0x7fff) ?_
           refine pu HT_ 15 79 (bv 35 0xffff) ?_
           refine pu HT_ 16 80 (bv 35 0x1ffff) ?_
           refine pu HT_ 17 81 (bv 35 0x3ffff) ?_
           refine pu HT_ 18 82 (bv 35 0x7ffff) ?_
           refine pu HT_ 19 83 (bv 35 0xfffff) ?_
           refine pu HT_ 20 84 (bv 35 0x1fffff) ?_
           refine pu HT_ 21 85 (bv 35 0x3fffff) ?_
           refine pu HT_ 22 86 (bv 35 0x7fffff) ?_
           refine pu HT_ 23 87 (bv 35 0xffffff) ?_
           refine py HT_ 24 88 (bv 35 0x1ffffff) ?_
           refine py HT_ 25 89 (bv 35 0x3ffffff) ?_
           refine py HT_ 26 90 (bv 35 0x7ffffff) ?_
           refine py HT_ 27 91 (bv 35 0xfffffff) ?_
           refine py HT_ 29 93 (bv 35 0x2fffffff) ?_
           refine py HT_ 31 95 (bv 35 0xafffffff) ?_
           refine tk HT_ HW_ hHeld 28 92 (bv 35 0xbfffffff) ?_
           refine py HT_ 30 94 (bv 35 0xffffffff) ?_
           refine tk HT_ HW_ hHeld 32 96 (bv 35 0x1ffffffff) ?_
           refine one_ (i := 33) (N := some 97) (bv 35 0x3ffffffff) rfl rfl (one_of HT_.out (by kernel_rfl)) (by decide) (fun K hK => ?_)
           refine goes_ Try.func89 (by kernel_rfl) rfl #[.slice (some ad210) y218.length c0_2, .int .i64 ((rd_T70 l0_2 x59_3).f0)] (by rfl) rfl rfl ml ?_
           with_reducible refine (spec_l06Node.calls k3 _ _ y218 ((rd_T70 l0_2 x59_3).f0) false _ ?side1 ?side2 A71.out).mono ?_
           (case side1 => exact cb HR221 HB)
           (case side2 => exact HC221.out)
           rintro e w86 ⟨rfl, hb⟩
           refine ⟨_, rfl, ?_⟩
           have n0_ := bb BK207 hb
           have n1_ := bb BK211 hb
           have n2_ := Aside0.mk (below_step (be2 HB GE207 GE211) hb)
           clear BK207
           clear BK211
           clear HB
           have BK207 := n0_
           have BK211 := n1_
           have HB := n2_
           clear n0_ n1_ n2_
           (try clear hb)
           (try clear hb2)
           (try clear hk)
           (try clear hi)
           refine hK.out _ _ ⟨bc0 BK211, bc1 BK211, bc0 BK207, bc1 BK207, bc2 BK207⟩ (fun hHeld => ?_)
           clear hK K
           refine norm_ (a' := ?_) ?_ ?_
           rotate_left
           ·show Act.put _ (some 97) _ = _
            simp only [aP]
            rfl
           refine py HT_ 34 98 (bv 35 0x7ffffffff) ?_
           refine done_ (done_of HT_.out (by kernel_rfl)) ?_
           try go_wp2
           go_roundg k3
           case measure => have := HJ1.out; have := HK2.out; have := HK3.out; omega
           case rel => exact ⟨(wrap64 (x59_3 + 1)), rs, H', ⟨by have := HJ1.out; have := HK2.out; have := HK3.out; omega⟩, ⟨bk BK207⟩, ⟨be2 HB GE207 GE211⟩⟩
          rw [if_neg c70] at H
          exact absurd H (by simp)
         rw [if_neg c28] at H
         exact absurd H (by simp)
        rw [if_neg c27] at H
        exact absurd H (by simp)
       rw [if_neg c26] at H
       have c26b0 : decide (x59_3 < (l0_2.length : Int)) = false := decide_eq_false c26
       clear c26
       obtain rfl := Option.some.inj H
       go_wp2
       go_ret
       exact ⟨er, be1 HB GE207⟩

end Go.Proofs.Ytdgpidhlbpaolaa.QFnExactAlloc
