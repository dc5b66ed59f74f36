-- made by a program of this session (myprint.py)
import Derived.Test.YtdgpidhlbpaolaaOw
import Derived.Test.YtdgpidhlbpaolaaSh
import Derived.Test.YtdgpidhlbpaolaaQFnExactEnterx0
namespace Go.Proofs.Ytdgpidhlbpaolaa.QFnExactEnter
open Go.RowKit Go.Proofs.YtdgpidhlbpaolaaW.PrintWords Go.Proofs.YtdgpidhlbpaolaaW.PrintLast Go.Proofs.YtdgpidhlbpaolaaW.PrintMore
attribute [local go_sem] max2_int min2_int max_two min_two max_three min_three max_four min_four   -- for this text's walks alone
set_option linter.unusedVariables false
set_option linter.unusedSimpArgs false

/-! ### slices_Sort_int_int: function 58 -/
def slices_Sort_int_int.f (k : Nat) (l0 : List Int) : Option (List Int) := match k with | 0 => none | _ + 1 => if l0.length < 4611686018427387904 then some (l0.mergeSort fun x y => decide (x ≤ y)) else none
theorem slices_Sort_int_int.mono : ∀ a0 k, LeO (slices_Sort_int_int.f k a0) (slices_Sort_int_int.f (k + 1) a0) := by
 intro a0 k
 cases k with
 | zero => exact LeO.none _
 | succ k => exact LeO.refl _
set_option maxHeartbeats 8000000 in
set_option maxRecDepth 100000 in
theorem slices_Sort_int_int.calls (k : Nat) (P0_ : Nat → Prop) (u9000_ : Value) (l0 : List Int) (r : List Int) (w0 w : World) (hB : Below w0.heap.size w0 w) (ho0 : Kd.R (Kd.int .i64) 3 w w0.heap.size P0_ u9000_ l0) (h : slices_Sort_int_int.f k l0 = some r) :
  Calls Try.prog 58 #[u9000_] w fun e w' => e = .returned (.tuple #[]) ∧ Kd.R (Kd.int .i64) 3 w' w0.heap.size (fun k_ => (P0_ k_ ∨ w.heap.size ≤ k_)) u9000_ r ∧ Below w0.heap.size w0 w' ∧ Kept w w' (fun k_ => P0_ k_) := by
 cases k with
 | zero => cases h
 | succ k =>
 have h' : (if l0.length < 4611686018427387904 then some (l0.mergeSort fun x y => decide (x ≤ y)) else none) = some r := h
 clear h
 by_cases hlen : l0.length < 4611686018427387904
 case neg => rw [if_neg hlen] at h'; cases h'
 rw [if_pos hlen] at h'
 obtain rfl := Option.some.inj h'
 clear h'
 rcases Nat.eq_zero_or_pos l0.length with hz | hn
 ·obtain rfl := List.length_eq_zero_iff.1 hz
  obtain ⟨A, c, rfl⟩ := Kd.R_slice ho0
  refine (Try.slices_Sort_int_none A c w).mono ?_
  rintro e w' ⟨rfl, rfl⟩
  refine ⟨rfl, ?_, hB, Kept.refl _ _⟩
  rw [List.mergeSort_nil]
  exact Kd.R_mono ho0 (fun k_ hk => (.inl hk))
 obtain ⟨g, cap, cur, rfl, hg, hh, hc1, hc2, hs, ht, hok⟩ := Ow.opened ho0 hn
 have hm : cap ≤ 9223372036854775807 := hc2
 refine (Try.slices_Sort_int g 0 cap l0 w (Go.holds_of_blockI hh ht) (blk_lt hh) hlen).mono ?_
 rintro e w' ⟨rfl, n, os, rfl⟩
 have hgr := Go.grownBy_sortedI (w := w) (g := g) (n := n) (os := os) (l0.mergeSort fun x y => decide (x ≤ y)).toArray
 have hl : (l0.mergeSort fun x y => decide (x ≤ y)).length = l0.length := List.length_mergeSort _
 refine ⟨rfl, ?_, ?_, ?_⟩
 ·have hm := Ow.made (α := Int) (enc := Value.int .i64) (h1 := fun _ => rfl) (base := w0.heap.size) (ok := fun k_ => (P0_ k_ ∨ w.heap.size ≤ k_)) (xs := l0.mergeSort fun x y => decide (x ≤ y)) (cap := cap) (.inl hok) hg (Go.heap_sortedI (n := n) (os := os) (l0.mergeSort fun x y => decide (x ≤ y)).toArray hh) (by rw [hl]; exact hc1) hc2 (by unfold Go.Sort.putCells; rw [Array.size_mapIdx]; exact hs) (Go.take_putCellsI _ _ (by rw [hl]; omega))
  rw [hl] at hm
  exact hm
 ·exact ⟨hgr.os.trans hB.os, hgr.tape.trans hB.tape, hgr.output.trans hB.output, Nat.le_trans hB.size hgr.size, fun i hi => (hgr.block i (Nat.lt_of_lt_of_le hi hB.size) (fun he => by have := Option.some.inj he; omega)).trans (hB.block i hi)⟩
 ·exact (Kept.refl w _).of_grown hgr (fun k hk => .inl (Option.some.inj hk ▸ hok))


/-! ### impl_within: function 46 -/
def impl_within.f (a0 : Int) (a1 : Int) (a2 : Int) : Option (Bool) := if a0 ≥ a1 then (some (decide (a0 ≤ a2))) else (some false)
set_option maxHeartbeats 8000000 in
set_option maxRecDepth 100000 in
theorem impl_within.calls (a0 : Int) (a1 : Int) (a2 : Int) (r : Bool) (w : World) (h : impl_within.f a0 a1 a2 = some r) :
  Calls Try.prog 46 #[.int .i64 a0, .int .i64 a1, .int .i64 a2] w fun e w' => e = .returned (.bool r) ∧ Drawn0 w w' := by
 have H : (if a0 ≥ a1 then (some (decide (a0 ≤ a2))) else (some false)) = some r := h
 clear h
 by_cases c4 : a0 ≥ a1
 ·rw [if_pos c4] at H
  have c4b0 : decide (a1 ≤ a0) = true := decide_eq_true c4
  clear c4
  obtain rfl := Option.some.inj H
  go_enter Try.func46, Try.ntmps46
  go_wp2
  go_ret
  exact ⟨by first | rfl | (simp; done) | (simp [*]; done), by repeat (first | exact Drawn0.refl _ | apply Drawn0.step)⟩
 rw [if_neg c4] at H
 have c4b0 : decide (a1 ≤ a0) = false := decide_eq_false c4
 clear c4
 obtain rfl := Option.some.inj H
 go_enter Try.func46, Try.ntmps46
 go_wp2
 go_ret
 exact ⟨by first | rfl | (simp; done) | (simp [*]; done), by repeat (first | exact Drawn0.refl _ | apply Drawn0.step)⟩

/-! ### impl_Ages_inLimbo: function 62 -/
def impl_Ages_inLimbo.l0 : Nat → Int → List (S70) → Int → Int → Option (Int)
 | 0, _, _, _, _ => none
 | k + 1, x1, x8, x9, x10 => if x10 < x9 then (if 0 ≤ x10 then (if x10 < (x8.length : Int) then (if ((rd_T70 x8 x10).f0) = x1 then (some x10) else (impl_Ages_inLimbo.l0 k x1 x8 x9 (wrap64 (x10 + 1)))) else (none)) else (none)) else (some (-1))
def impl_Ages_inLimbo.f (k : Nat) (a0_0 : Int) (l0_1 : List Int) (l0_2 : List (S70)) (a1 : Int) : Option (Int) := impl_Ages_inLimbo.l0 k a1 l0_2 (l0_2.length : Int) 0
theorem impl_Ages_inLimbo.mono_l : ∀ k, (∀ y0 y1 y2 y3, LeO (impl_Ages_inLimbo.l0 k y0 y1 y2 y3) (impl_Ages_inLimbo.l0 (k + 1) y0 y1 y2 y3))
 | 0 => fun _ _ _ _ r h => by simp [impl_Ages_inLimbo.l0] at h
 | k + 1 => by
  have ih0 := impl_Ages_inLimbo.mono_l k
  ·intro y0 y1 y2 y3
   unfold impl_Ages_inLimbo.l0
   repeat' first
   | (with_reducible exact ih0 _ _ _ _)
   | (with_reducible exact LeO.refl _)
   | (with_reducible exact LeO.none _)
   | (with_reducible refine LeO.ite ?_ ?_)
   | (with_reducible refine LeO.bind ?_ (fun _ => ?_))
   | exact ih0 _ _ _ _
   | exact LeO.none _
   | refine LeO.ite ?_ ?_
   | refine LeO.bind ?_ (fun _ => ?_)
theorem impl_Ages_inLimbo.mono : ∀ a0 a1 a2 a3 k, LeO (impl_Ages_inLimbo.f k a0 a1 a2 a3) (impl_Ages_inLimbo.f (k + 1) a0 a1 a2 a3) := by
 intro a0 a1 a2 a3 k
 have ih0 := impl_Ages_inLimbo.mono_l k
 unfold impl_Ages_inLimbo.f
 repeat' first
   | (with_reducible exact ih0 _ _ _ _)
   | (with_reducible exact LeO.refl _)
   | (with_reducible exact LeO.none _)
   | (with_reducible refine LeO.ite ?_ ?_)
   | (with_reducible refine LeO.bind ?_ (fun _ => ?_))
   | exact ih0 _ _ _ _
   | exact LeO.none _
   | refine LeO.ite ?_ ?_
   | refine LeO.bind ?_ (fun _ => ?_)
set_option maxHeartbeats 8000000 in
set_option maxRecDepth 100000 in
theorem impl_Ages_inLimbo.calls (k : Nat) (a0_0 : Int) (A0_1 : Option Addr) (c0_1 : Nat) (l0_1 : List Int) (A0_2 : Option Addr) (c0_2 : Nat) (l0_2 : List (S70)) (a1 : Int) (r : Int) (w : World) (hr0_1 : Kd.C (Kd.int .i64) w A0_1 l0_1.length l0_1) (hc0_1 : l0_1.length ≤ c0_1) (hr0_2 : Kd.C k70 w A0_2 l0_2.length l0_2) (hc0_2 : l0_2.length ≤ c0_2) (h : impl_Ages_inLimbo.f k a0_0 l0_1 l0_2 a1 = some r) :
  Calls Try.prog 62 #[.agg #[.int .i64 a0_0, .slice A0_1 l0_1.length c0_1, .slice A0_2 l0_2.length c0_2], .int .i64 a1] w fun e w' => e = .returned (.int .i64 r) ∧ Below w.heap.size w w' := by
 have hu25 := Try.underlying25
 have hu70 := Try.underlying70
 have HR0_1 := Aside0.mk hr0_1
 have HC0_1 := Aside0.mk hc0_1
 clear hr0_1 hc0_1
 have HR0_2 := Aside0.mk hr0_2
 have HC0_2 := Aside0.mk hc0_2
 clear hr0_2 hc0_2
 have HB := Aside0.mk (Below.refl w.heap.size w)
 have H : (impl_Ages_inLimbo.l0 k a1 l0_2 (l0_2.length : Int) 0) = some r := h
 clear h
 have H' := Aside0.mk H
 clear H
 go_enter Try.func62, Try.ntmps62
 go_wp2_with (first | ((with_reducible refine gate_dst (N := 2) rfl ?_); refine bx 2 #[.int .i64 a0_0, .slice A0_1 l0_1.length c0_1, .slice A0_2 l0_2.length c0_2] 25 ?_; intro gb345 hg w3 hbox hb; have BK345 := am hbox; have GW345 := gs0 hg HB; have GE345 := gs0 hg HB; replace HB := s0 HB hb; clear hb hbox hg; have hcz4_0 := bz3 BK345))
 go_loopg [10] k (fun kq v10 w' => ∃ (x10_1 : Int), v10 = .int .i64 x10_1 ∧ Aside0 (impl_Ages_inLimbo.l0 kq a1 l0_2 (l0_2.length : Int) x10_1 = some r) ∧ Aside0 (kq ≤ k) ∧ Aside0 (w'.heap[gb345]? = some (.cells #[.int .i64 a0_0, (.slice A0_1 l0_1.length c0_1), (.slice A0_2 l0_2.length c0_2)] 25 (0, 0))) ∧ Aside0 (Below w.heap.size w w'))
 case atStart => exact ⟨(0), rs, H', ⟨Nat.le_refl _⟩, ⟨bk BK345⟩, ⟨be1 HB GE345⟩⟩
 case round =>
  clear H'
  try clear p2; try clear hcz4_0
  obtain ⟨x10_1, rfl, HA, HK1, BK345, HB⟩ := hrel
  cases gk with
  | zero => exact absurd HA.out (by simp [impl_Ages_inLimbo.l0])
  | succ k1 =>
   have H := HA.out
   clear HA
   simp only [impl_Ages_inLimbo.l0] at H
   by_cases c5 : x10_1 < (l0_2.length : Int)
   ·rw [if_pos c5] at H
    have c5b0 : decide (x10_1 < (l0_2.length : Int)) = true := decide_eq_true c5
    clear c5
    by_cases c6 : 0 ≤ x10_1
    ·rw [if_pos c6] at H
     have c6b0 : decide (0 ≤ x10_1) = true := decide_eq_true c6
     clear c6
     by_cases c7 : x10_1 < (l0_2.length : Int)
     ·rw [if_pos c7] at H
      have c7b0 : decide (x10_1 < (l0_2.length : Int)) = true := decide_eq_true c7
      clear c7
      by_cases c8 : ((rd_T70 l0_2 x10_1).f0) = a1
      ·rw [if_pos c8] at H
       have c8b0 : (((rd_T70 l0_2 x10_1).f0) == a1) = true := beq_iff_eq.mpr c8
       have c8b1 : (((rd_T70 l0_2 x10_1).f0) != a1) = false := bne_eq_false_iff_eq.mpr c8
       clear c8
       obtain rfl := Option.some.inj H
       have p346 : 0 ≤ (x10_1 : Int) := od
       have q346 : x10_1 < (l0_2.length : Int) := od
       obtain ⟨ad346, e346, hx346_0, hx346_1⟩ := at_T70 HR0_2.out x10_1 p346 q346
       cases e346
       replace hx346_0 := hc HB hx346_0
       replace hx346_1 := hc HB hx346_1
       replace p346 := eq_true p346
       replace q346 := eq_true q346
       go_wp2_with (first | ((with_reducible refine gate_dst (N := 6) rfl ?_); refine bx 6 #[.int .i64 0, .int .i64 0] 70 ?_; intro gb347 hg w9 hbox hb; have BK347 := am hbox; have GW347 := gs1 hg HB GE345; have GE347 := gs1 hg HB GE345; replace HB := Aside0.mk (below_step (be1 HB GE345) hb); have NB345_347 := Aside0.mk ((by rw [hg]; exact Nat.ne_of_lt (bl BK345) : gb345 ≠ gb347)); have NB347_345 := Aside0.mk ((by rw [hg]; exact Nat.ne_of_gt (bl BK345) : gb347 ≠ gb345)); replace BK345 := bb BK345 hb; clear hb hbox hg; have hnb10 := NB347_345.out; have hnc10 := NB345_347.out; have hcz11_0 := bz2 BK347))
       go_ret
       exact ⟨er, be2 HB GE345 GE347⟩
      rw [if_neg c8] at H
      have c8b0 : (((rd_T70 l0_2 x10_1).f0) == a1) = false := beq_eq_false_iff_ne.mpr c8
      have c8b1 : (((rd_T70 l0_2 x10_1).f0) != a1) = true := bne_iff_ne.mpr c8
      have H' := Aside0.mk H
      clear H
      have p346 : 0 ≤ (x10_1 : Int) := od
      have q346 : x10_1 < (l0_2.length : Int) := od
      obtain ⟨ad346, e346, hx346_0, hx346_1⟩ := at_T70 HR0_2.out x10_1 p346 q346
      cases e346
      replace hx346_0 := hc HB hx346_0
      replace hx346_1 := hc HB hx346_1
      replace p346 := eq_true p346
      replace q346 := eq_true q346
      go_wp2_with (first | ((with_reducible refine gate_dst (N := 6) rfl ?_); refine bx 6 #[.int .i64 0, .int .i64 0] 70 ?_; intro gb347 hg w12 hbox hb; have BK347 := am hbox; have GW347 := gs1 hg HB GE345; have GE347 := gs1 hg HB GE345; replace HB := Aside0.mk (below_step (be1 HB GE345) hb); have NB345_347 := Aside0.mk ((by rw [hg]; exact Nat.ne_of_lt (bl BK345) : gb345 ≠ gb347)); have NB347_345 := Aside0.mk ((by rw [hg]; exact Nat.ne_of_gt (bl BK345) : gb347 ≠ gb345)); replace BK345 := bb BK345 hb; clear hb hbox hg; have hnb13 := NB347_345.out; have hnc13 := NB345_347.out; have hcz14_0 := bz2 BK347))
      go_roundg k1
      case measure => have := HK1.out; omega
      case rel => exact ⟨(wrap64 (x10_1 + 1)), rs, H', ⟨by have := HK1.out; omega⟩, ⟨by (with_reducible repeat (first | refine blk_drewN ?_ _ | refine blk_drew ?_ | refine blk_alloc ?_ _)); refine blk_far ?_ NB345_347.out _; (with_reducible repeat (first | refine blk_drewN ?_ _ | refine blk_drew ?_ | refine blk_alloc ?_ _)); refine blk_far ?_ NB345_347.out _; (with_reducible repeat (first | refine blk_drewN ?_ _ | refine blk_drew ?_ | refine blk_alloc ?_ _)); exact BK345.out⟩, ⟨be2 HB GE345 GE347⟩⟩
     rw [if_neg c7] at H
     exact absurd H (by simp)
    rw [if_neg c6] at H
    exact absurd H (by simp)
   rw [if_neg c5] at H
   have c5b0 : decide (x10_1 < (l0_2.length : Int)) = false := decide_eq_false c5
   clear c5
   obtain rfl := Option.some.inj H
   go_wp2
   go_ret
   exact ⟨er, be1 HB GE345⟩

/-! ### impl_isNum: function 93 -/
def impl_isNum.f (a0 : Int) : Option (Bool) := (impl_within.f a0 0 4294967295).bind fun t348 => (some t348)
set_option maxHeartbeats 8000000 in
set_option maxRecDepth 100000 in
theorem impl_isNum.calls (a0 : Int) (r : Bool) (w : World) (h : impl_isNum.f a0 = some r) :
  Calls Try.prog 93 #[.int .i64 a0] w fun e w' => e = .returned (.bool r) ∧ Drawn0 w w' := by
 have H : ((impl_within.f a0 0 4294967295).bind fun t348 => (some t348)) = some r := h
 clear h
 replace H := Option.bind_eq_some_iff.mp H
 obtain ⟨t348, A20, H⟩ := H
 replace H : (some t348) = some r := H
 have A2 := Aside0.mk A20
 clear A20
 obtain rfl := Option.some.inj H
 go_enter Try.func93, Try.ntmps93
 go_wp2_with (first | ((with_reducible refine gate_callee (f := 46) rfl ?_); refine gl 4 Try.func46 #[.int .i64 a0, .int .i64 0, .int .i64 4294967295] ?_; (with_reducible refine (impl_within.calls a0 0 4294967295 t348 _ A2.out).mono ?_); rintro e w' ⟨rfl, ⟨nd, rfl⟩⟩; refine ⟨_, rfl, ?_⟩))
 go_ret
 exact ⟨by first | rfl | (simp; done) | (simp [*]; done), by repeat (first | exact Drawn0.refl _ | apply Drawn0.step)⟩

end Go.Proofs.Ytdgpidhlbpaolaa.QFnExactEnter
