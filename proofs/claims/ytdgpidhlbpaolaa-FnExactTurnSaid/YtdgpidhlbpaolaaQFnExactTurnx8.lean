-- made by a program of this session (myprint.py)
import Derived.Test.YtdgpidhlbpaolaaOw
import Derived.Test.YtdgpidhlbpaolaaSh
import Derived.Test.YtdgpidhlbpaolaaQFnExactTurnx0
import Derived.Test.YtdgpidhlbpaolaaQFnExactTurnx4
import Derived.Test.YtdgpidhlbpaolaaQFnExactTurnx5
import Derived.Test.YtdgpidhlbpaolaaQFnExactTurnx6
import Derived.Test.YtdgpidhlbpaolaaQFnExactTurnx7
namespace Go.Proofs.Ytdgpidhlbpaolaa.QFnExactTurn
open Go.RowKit Go.Proofs.YtdgpidhlbpaolaaW.PrintWords Go.Proofs.YtdgpidhlbpaolaaW.PrintLast Go.Proofs.YtdgpidhlbpaolaaW.PrintMore
attribute [local go_sem] max2_int min2_int max_two min_two max_three min_three max_four min_four   -- for this text's walks alone
set_option linter.unusedVariables false
set_option linter.unusedSimpArgs false

/-! ### spec_Advance: function 75 -/
def spec_Advance.l0 : Nat → List Int → Int → Int → Int → List Int → List (S70) → Int → List Int → List (S70) → Option (Int × List Int × (List (S70)) × Bool)
 | 0, _, _, _, _, _, _, _, _, _ => none
 | k + 1, x14, x15, x16, x291000, x291001, x291002, x301000, x301001, x301002 => if x16 < x15 then (if 0 ≤ x16 then (if x16 < (x14.length : Int) then (if (rd x14 x16) = (-1) then (spec_Advance.l0 k x14 x15 (wrap64 (x16 + 1)) x291000 x291001 x291002 x301000 x301001 x301002) else (if (rd x14 x16) = x291000 then (spec_Advance.l0 k x14 x15 (wrap64 (x16 + 1)) x291000 x291001 x291002 x301000 x301001 x301002) else (some (x301000, x301001, x301002, false)))) else (none)) else (none)) else (if x291000 = 4294967295 then (some (x301000, x301001, x301002, false)) else (some (wrap64 (x301000 + 1), x301001, x301002, true)))
def spec_Advance.f (k : Nat) (a0_0 : Int) (l0_1 : List Int) (l0_2 : List (S70)) : Option (Int × List Int × (List (S70)) × Bool) := (spec_AgesOk.f k a0_0 l0_1 l0_2).bind fun t292 => (if t292 = true then ((spec_l06Copy.f a0_0 l0_1 l0_2).bind fun bt293 => (spec_Advance.l0 k l0_1 (l0_1.length : Int) 0 a0_0 l0_1 l0_2 bt293.1 bt293.2.1 bt293.2.2)) else (some (0, ([] : List Int), ([] : List (S70)), false)))
theorem spec_Advance.mono_l : ∀ k, (∀ y0 y1 y2 y3 y4 y5 y6 y7 y8, LeO (spec_Advance.l0 k y0 y1 y2 y3 y4 y5 y6 y7 y8) (spec_Advance.l0 (k + 1) y0 y1 y2 y3 y4 y5 y6 y7 y8))
 | 0 => fun _ _ _ _ _ _ _ _ _ r h => by simp [spec_Advance.l0] at h
 | k + 1 => by
  have ih0 := spec_Advance.mono_l k
  ·intro y0 y1 y2 y3 y4 y5 y6 y7 y8
   unfold spec_Advance.l0
   repeat' first
   | (with_reducible exact ih0 _ _ _ _ _ _ _ _ _)
   | (with_reducible exact spec_AgesOk.mono _ _ _ _)
   | (with_reducible exact LeO.refl _)
   | (with_reducible exact LeO.none _)
   | (with_reducible refine LeO.ite ?_ ?_)
   | (with_reducible refine LeO.bind ?_ (fun _ => ?_))
   | exact ih0 _ _ _ _ _ _ _ _ _
   | exact spec_AgesOk.mono _ _ _ _
   | exact LeO.none _
   | refine LeO.ite ?_ ?_
   | refine LeO.bind ?_ (fun _ => ?_)
theorem spec_Advance.mono : ∀ a0 a1 a2 k, LeO (spec_Advance.f k a0 a1 a2) (spec_Advance.f (k + 1) a0 a1 a2) := by
 intro a0 a1 a2 k
 have ih0 := spec_Advance.mono_l k
 unfold spec_Advance.f
 repeat' first
   | (with_reducible exact ih0 _ _ _ _ _ _ _ _ _)
   | (with_reducible exact spec_AgesOk.mono _ _ _ _)
   | (with_reducible exact LeO.refl _)
   | (with_reducible exact LeO.none _)
   | (with_reducible refine LeO.ite ?_ ?_)
   | (with_reducible refine LeO.bind ?_ (fun _ => ?_))
   | exact ih0 _ _ _ _ _ _ _ _ _
   | exact spec_AgesOk.mono _ _ _ _
   | exact LeO.none _
   | refine LeO.ite ?_ ?_
   | refine LeO.bind ?_ (fun _ => ?_)
set_option maxHeartbeats 8000000 in
set_option maxRecDepth 100000 in
theorem spec_Advance.calls (k : Nat) (a0_0 : Int) (A0_1 : Option Addr) (c0_1 : Nat) (l0_1 : List Int) (A0_2 : Option Addr) (c0_2 : Nat) (l0_2 : List (S70)) (r1 : Int) (r2 : List Int) (r3 : List (S70)) (r4 : Bool) (w : World) (hr0_1 : Kd.C (Kd.int .i64) w A0_1 l0_1.length l0_1) (hc0_1 : l0_1.length ≤ c0_1) (hr0_2 : Kd.C k70 w A0_2 l0_2.length l0_2) (hc0_2 : l0_2.length ≤ c0_2) (h : spec_Advance.f k a0_0 l0_1 l0_2 = some (r1, r2, r3, r4)) :
  Calls Try.prog 75 #[.agg #[.int .i64 a0_0, .slice A0_1 l0_1.length c0_1, .slice A0_2 l0_2.length c0_2]] w fun e w' => ∃ v1_ v2_ : Value, e = .returned (.tuple #[.agg #[.int .i64 r1, v1_, v2_], .bool r4]) ∧ Kd.R (Kd.int .i64) 3 w' w.heap.size (fun _ => True) v1_ r2 ∧ Kd.R k70 70 w' w.heap.size (fun _ => True) v2_ r3 ∧ Below w.heap.size w w' := by
 have hu25 := Try.underlying25
 have HR0_1 := Aside0.mk hr0_1
 have HC0_1 := Aside0.mk hc0_1
 clear hr0_1 hc0_1
 have HR0_2 := Aside0.mk hr0_2
 have HC0_2 := Aside0.mk hc0_2
 clear hr0_2 hc0_2
 have HB := Aside0.mk (Below.refl w.heap.size w)
 have H : ((spec_AgesOk.f k a0_0 l0_1 l0_2).bind fun t292 => (if t292 = true then ((spec_l06Copy.f a0_0 l0_1 l0_2).bind fun bt293 => (spec_Advance.l0 k l0_1 (l0_1.length : Int) 0 a0_0 l0_1 l0_2 bt293.1 bt293.2.1 bt293.2.2)) else (some (0, ([] : List Int), ([] : List (S70)), false)))) = some (r1, r2, r3, r4) := h
 clear h
 replace H := Option.bind_eq_some_iff.mp H
 obtain ⟨t292, A20, H⟩ := H
 replace H : (if t292 = true then ((spec_l06Copy.f a0_0 l0_1 l0_2).bind fun bt293 => (spec_Advance.l0 k l0_1 (l0_1.length : Int) 0 a0_0 l0_1 l0_2 bt293.1 bt293.2.1 bt293.2.2)) else (some (0, ([] : List Int), ([] : List (S70)), false))) = some (r1, r2, r3, r4) := H
 have A2 := Aside0.mk A20
 clear A20
 by_cases c3 : t292 = true
 ·subst c3
  have H1 : ((spec_l06Copy.f a0_0 l0_1 l0_2).bind fun bt293 => (spec_Advance.l0 k l0_1 (l0_1.length : Int) 0 a0_0 l0_1 l0_2 bt293.1 bt293.2.1 bt293.2.2)) = some (r1, r2, r3, r4) := by rw [if_pos rfl] at H; exact H
  clear H
  have H := H1
  clear H1
  replace H := Option.bind_eq_some_iff.mp H
  obtain ⟨⟨t293, t294, t297⟩, A40, H⟩ := H
  replace H : (spec_Advance.l0 k l0_1 (l0_1.length : Int) 0 a0_0 l0_1 l0_2 t293 t294 t297) = some (r1, r2, r3, r4) := H
  have A4 := Aside0.mk A40
  clear A40
  have H' := Aside0.mk H
  clear H
  go_enter Try.func75, Try.ntmps75
  go_wp2_with (first | ((with_reducible refine gate_dst (N := 1) rfl ?_); refine bx 1 #[.int .i64 a0_0, .slice A0_1 l0_1.length c0_1, .slice A0_2 l0_2.length c0_2] 25 ?_; intro gb290 hg w5 hbox hb; have BK290 := am hbox; have GW290 := gs0 hg HB; have GE290 := gs0 hg HB; replace HB := s0 HB hb; clear hb hbox hg) | ((with_reducible refine gate_dst (N := 2) rfl ?_); refine bx 2 #[.int .i64 0, .slice none 0 0, .slice none 0 0] 25 ?_; intro gb291 hg w6 hbox hb; have BK291 := am hbox; have GW291 := gs1 hg HB GE290; have GE291 := gs1 hg HB GE290; replace HB := Aside0.mk (below_step (be1 HB GE290) hb); have NB290_291 := Aside0.mk ((by rw [hg]; exact Nat.ne_of_lt (bl BK290) : gb290 ≠ gb291)); have NB291_290 := Aside0.mk ((by rw [hg]; exact Nat.ne_of_gt (bl BK290) : gb291 ≠ gb290)); replace BK290 := bb BK290 hb; clear hb hbox hg; have hnb7 := NB290_291.out; have hnc7 := NB291_290.out; have hcz8_0 := bz3 BK290) | ((with_reducible refine gate_callee (f := 53) rfl ?_); refine gl 8 Try.func53 #[.agg #[.int .i64 a0_0, .slice A0_1 l0_1.length c0_1, .slice A0_2 l0_2.length c0_2]] ?_; (with_reducible refine (spec_AgesOk.calls k a0_0 _ _ l0_1 _ _ l0_2 true _ (cb HR0_1 HB) HC0_1.out (cb HR0_2 HB) HC0_2.out A2.out).mono ?_); rintro e w9 ⟨rfl, hb⟩; refine ⟨_, rfl, ?_⟩; replace BK290 := bb BK290 hb; replace BK291 := bb BK291 hb; replace HB := Aside0.mk (below_step (be2 HB GE290 GE291) hb); (try clear hb); have hcz10_0 := bz3 BK290) | ((with_reducible refine gate_callee (f := 95) rfl ?_); refine gl 12 Try.func95 #[.agg #[.int .i64 a0_0, .slice A0_1 l0_1.length c0_1, .slice A0_2 l0_2.length c0_2]] ?_; (with_reducible refine (spec_l06Copy.calls a0_0 _ _ l0_1 _ _ l0_2 t293 t294 t297 _ (cb HR0_1 HB) HC0_1.out (cb HR0_2 HB) HC0_2.out A4.out).mono ?_); rintro e w11 ⟨v295, v298, rfl, ho0, ho1, hb⟩; refine ⟨_, rfl, ?_⟩; have HO296 := Aside0.mk (Kd.R_lower ho0 (below_size (be2 HB GE290 GE291))); have HO299 := Aside0.mk (Kd.R_lower ho1 (below_size (be2 HB GE290 GE291))); replace BK290 := bb BK290 hb; replace BK291 := bb BK291 hb; replace HB := Aside0.mk (below_step (be2 HB GE290 GE291) hb); (try clear hb); (try clear ho0); (try clear ho1)) | ((with_reducible refine gate_dst (N := 4) rfl ?_); refine bx 4 #[.int .i64 0, .slice none 0 0, .slice none 0 0] 25 ?_; intro gb300 hg w12 hbox hb; replace HO296 := rb HO296 hb; replace HO299 := rb HO299 hb; have BK300 := am hbox; have GW300 := gs2 hg HB GE290 GE291; have GE300 := gs2 hg HB GE290 GE291; replace HB := Aside0.mk (below_step (be2 HB GE290 GE291) hb); have NB290_300 := Aside0.mk ((by rw [hg]; exact Nat.ne_of_lt (bl BK290) : gb290 ≠ gb300)); have NB300_290 := Aside0.mk ((by rw [hg]; exact Nat.ne_of_gt (bl BK290) : gb300 ≠ gb290)); replace BK290 := bb BK290 hb; have NB291_300 := Aside0.mk ((by rw [hg]; exact Nat.ne_of_lt (bl BK291) : gb291 ≠ gb300)); have NB300_291 := Aside0.mk ((by rw [hg]; exact Nat.ne_of_gt (bl BK291) : gb300 ≠ gb291)); replace BK291 := bb BK291 hb; clear hb hbox hg; have hnb13 := NB300_290.out; have hnc13 := NB290_300.out; have hnb14 := NB300_291.out; have hnc14 := NB291_300.out; have hcz15_0 := bz3 BK300; obtain ⟨Ao16, co16, eo16⟩ := Kd.R_slice HO296.out; subst eo16; obtain ⟨Ao17, co17, eo17⟩ := Kd.R_slice HO299.out; subst eo17; have hcz18_0 := bz3 BK290))
  go_loopg [16] k (fun kq v16 w' => ∃ (x16_1 : Int) (x292000_1 : Int), v16 = .int .i64 x16_1 ∧ Aside0 (spec_Advance.l0 kq l0_1 (l0_1.length : Int) x16_1 a0_0 l0_1 l0_2 t293 t294 t297 = some (r1, r2, r3, r4)) ∧ Aside0 (kq ≤ k) ∧ Aside0 (Kd.R (Kd.int .i64) 3 w' w.heap.size (fun _ => True) (.slice Ao16 t294.length co16) t294) ∧ Aside0 (Kd.R k70 70 w' w.heap.size (fun _ => True) (.slice Ao17 t297.length co17) t297) ∧ Aside0 (w'.heap[gb290]? = some (.cells #[.int .i64 a0_0, (.slice A0_1 l0_1.length c0_1), (.slice A0_2 l0_2.length c0_2)] 25 (0, 0))) ∧ Aside0 (w'.heap[gb291]? = some (.cells #[.int .i64 x292000_1, (.slice none 0 0), (.slice none 0 0)] 25 (0, 0))) ∧ Aside0 (w'.heap[gb300]? = some (.cells #[.int .i64 t293, (.slice Ao16 t294.length co16), (.slice Ao17 t297.length co17)] 25 (0, 0))) ∧ Aside0 (Below w.heap.size w w'))
  case atStart => exact ⟨(0), (0), rs, H', ⟨Nat.le_refl _⟩, ⟨by (with_reducible repeat (first | apply Kd.R_alloc | apply Kd.R_drewN | apply Kd.R_drew)); exact Kd.R_mono (Kd.R_far (p := ⟨gb300, 2, none⟩) (Kd.R_far (p := ⟨gb300, 1, none⟩) (Kd.R_far (p := ⟨gb300, 0, none⟩) (Kd.R_types HO296.out BK300.out (by decide)) (fun _ hk => hk.2) (.int .i64 t293)) (fun _ hk => hk.2) (.slice Ao16 t294.length co16)) (fun _ hk => hk.2) (.slice Ao17 t297.length co17)) (fun _ hk => trivial)⟩, ⟨by (with_reducible repeat (first | apply Kd.R_alloc | apply Kd.R_drewN | apply Kd.R_drew)); exact Kd.R_mono (Kd.R_far (p := ⟨gb300, 2, none⟩) (Kd.R_far (p := ⟨gb300, 1, none⟩) (Kd.R_far (p := ⟨gb300, 0, none⟩) (Kd.R_types HO299.out BK300.out (by decide)) (fun _ hk => hk.2) (.int .i64 t293)) (fun _ hk => hk.2) (.slice Ao16 t294.length co16)) (fun _ hk => hk.2) (.slice Ao17 t297.length co17)) (fun _ hk => trivial)⟩, ⟨by (with_reducible repeat (first | refine blk_drewN ?_ _ | refine blk_drew ?_ | refine blk_alloc ?_ _)); refine blk_far ?_ NB290_300.out _; (with_reducible repeat (first | refine blk_drewN ?_ _ | refine blk_drew ?_ | refine blk_alloc ?_ _)); refine blk_far ?_ NB290_300.out _; (with_reducible repeat (first | refine blk_drewN ?_ _ | refine blk_drew ?_ | refine blk_alloc ?_ _)); refine blk_far ?_ NB290_300.out _; (with_reducible repeat (first | refine blk_drewN ?_ _ | refine blk_drew ?_ | refine blk_alloc ?_ _)); exact BK290.out⟩, ⟨by (with_reducible repeat (first | refine blk_drewN ?_ _ | refine blk_drew ?_ | refine blk_alloc ?_ _)); refine blk_far ?_ NB291_300.out _; (with_reducible repeat (first | refine blk_drewN ?_ _ | refine blk_drew ?_ | refine blk_alloc ?_ _)); refine blk_far ?_ NB291_300.out _; (with_reducible repeat (first | refine blk_drewN ?_ _ | refine blk_drew ?_ | refine blk_alloc ?_ _)); refine blk_far ?_ NB291_300.out _; (with_reducible repeat (first | refine blk_drewN ?_ _ | refine blk_drew ?_ | refine blk_alloc ?_ _)); exact BK291.out⟩, ⟨by (with_reducible repeat (first | refine blk_drewN ?_ _ | refine blk_drew ?_ | refine blk_alloc ?_ _)); refine blk_put (cs := #[.int .i64 t293, .slice Ao16 t294.length co16, .slice none 0 0]) ?_ 2 _ rfl; (with_reducible repeat (first | refine blk_drewN ?_ _ | refine blk_drew ?_ | refine blk_alloc ?_ _)); refine blk_put (cs := #[.int .i64 t293, .slice none 0 0, .slice none 0 0]) ?_ 1 _ rfl; (with_reducible repeat (first | refine blk_drewN ?_ _ | refine blk_drew ?_ | refine blk_alloc ?_ _)); refine blk_put (cs := #[.int .i64 0, .slice none 0 0, .slice none 0 0]) ?_ 0 _ rfl; (with_reducible repeat (first | refine blk_drewN ?_ _ | refine blk_drew ?_ | refine blk_alloc ?_ _)); exact BK300.out⟩, ⟨be3 HB GE290 GE291 GE300⟩⟩
  case round =>
   clear H'
   try clear c1; try clear p2; try clear c3; try clear c5; try clear c7; try clear c9; try clear c13; try clear c14; try clear hcz10_0; try clear hcz15_0; try clear hcz18_0; try clear hcz8_0
   obtain ⟨x16_1, x292000_1, rfl, HA, HK1, HO_301001, HO_301002, BK290, BK291, BK300, HB⟩ := hrel
   cases gk with
   | zero => exact absurd HA.out (by simp [spec_Advance.l0])
   | succ k1 =>
    have H := HA.out
    clear HA
    simp only [spec_Advance.l0] at H
    by_cases c19 : x16_1 < (l0_1.length : Int)
    ·rw [if_pos c19] at H
     have c19b0 : decide (x16_1 < (l0_1.length : Int)) = true := decide_eq_true c19
     clear c19
     by_cases c20 : 0 ≤ x16_1
     ·rw [if_pos c20] at H
      have c20b0 : decide (0 ≤ x16_1) = true := decide_eq_true c20
      clear c20
      by_cases c21 : x16_1 < (l0_1.length : Int)
      ·rw [if_pos c21] at H
       have c21b0 : decide (x16_1 < (l0_1.length : Int)) = true := decide_eq_true c21
       clear c21
       by_cases c22 : (rd l0_1 x16_1) = (-1)
       ·rw [if_pos c22] at H
        have c22b0 : ((rd l0_1 x16_1) == (-1)) = true := beq_iff_eq.mpr c22
        have c22b1 : ((rd l0_1 x16_1) != (-1)) = false := bne_eq_false_iff_eq.mpr c22
        clear c22
        have H' := Aside0.mk H
        clear H
        have p301 : 0 ≤ (x16_1 : Int) := od
        have q301 : x16_1 < (l0_1.length : Int) := od
        obtain ⟨ad301, e301, hx301_0⟩ := Kd.at_int HR0_1.out x16_1 p301 q301
        cases e301
        replace hx301_0 := hc HB hx301_0
        replace p301 := eq_true p301
        replace q301 := eq_true q301
        go_wp2
        go_roundg k1
        case measure => have := HK1.out; omega
        case rel => exact ⟨(wrap64 (x16_1 + 1)), (x292000_1), rs, H', ⟨by have := HK1.out; omega⟩, ⟨ro HO_301001⟩, ⟨ro HO_301002⟩, ⟨bk BK290⟩, ⟨bk BK291⟩, ⟨bk BK300⟩, ⟨be3 HB GE290 GE291 GE300⟩⟩
       rw [if_neg c22] at H
       have c22b0 : ((rd l0_1 x16_1) == (-1)) = false := beq_eq_false_iff_ne.mpr c22
       have c22b1 : ((rd l0_1 x16_1) != (-1)) = true := bne_iff_ne.mpr c22
       by_cases c23 : (rd l0_1 x16_1) = a0_0
       ·rw [if_pos c23] at H
        have c23b0 : ((rd l0_1 x16_1) == a0_0) = true := beq_iff_eq.mpr c23
        have c23b1 : ((rd l0_1 x16_1) != a0_0) = false := bne_eq_false_iff_eq.mpr c23
        clear c23
        have H' := Aside0.mk H
        clear H
        have p301 : 0 ≤ (x16_1 : Int) := od
        have q301 : x16_1 < (l0_1.length : Int) := od
        obtain ⟨ad301, e301, hx301_0⟩ := Kd.at_int HR0_1.out x16_1 p301 q301
        cases e301
        replace hx301_0 := hc HB hx301_0
        replace p301 := eq_true p301
        replace q301 := eq_true q301
        have hnb24 := NB290_291.out
        have hnc24 := NB291_290.out
        have hnb25 := NB290_300.out
        have hnc25 := NB300_290.out
        have hcz26_0 := bz3 BK290
        go_wp2
        go_roundg k1
        case measure => have := HK1.out; omega
        case rel => exact ⟨(wrap64 (x16_1 + 1)), (x292000_1), rs, H', ⟨by have := HK1.out; omega⟩, ⟨ro HO_301001⟩, ⟨ro HO_301002⟩, ⟨bk BK290⟩, ⟨bk BK291⟩, ⟨bk BK300⟩, ⟨be3 HB GE290 GE291 GE300⟩⟩
       rw [if_neg c23] at H
       have c23b0 : ((rd l0_1 x16_1) == a0_0) = false := beq_eq_false_iff_ne.mpr c23
       have c23b1 : ((rd l0_1 x16_1) != a0_0) = true := bne_iff_ne.mpr c23
       simp only [Option.some.injEq, Prod.mk.injEq] at H
       obtain ⟨rfl, rfl, rfl, rfl⟩ := H
       have p301 : 0 ≤ (x16_1 : Int) := od
       have q301 : x16_1 < (l0_1.length : Int) := od
       obtain ⟨ad301, e301, hx301_0⟩ := Kd.at_int HR0_1.out x16_1 p301 q301
       cases e301
       replace hx301_0 := hc HB hx301_0
       replace p301 := eq_true p301
       replace q301 := eq_true q301
       have hnb27 := NB290_291.out
       have hnc27 := NB291_290.out
       have hnb28 := NB290_300.out
       have hnc28 := NB300_290.out
       have hcz29_0 := bz3 BK290
       have hnb30 := NB300_291.out
       have hnc30 := NB291_300.out
       have hcz31_0 := bz3 BK300
       have hcz32_0 := bz3 BK291
       go_wp2
       refine bodyPost_ret (results_ct rfl _ _ gb291 25 #[.int .i64 t293, .slice Ao16 t294.length co16, .slice Ao17 t297.length co17] (0, 0) _ rfl (by (with_reducible repeat (first | refine blk_drewN ?_ _ | refine blk_drew ?_ | refine blk_alloc ?_ _)); refine blk_put (cs := #[.int .i64 t293, .slice Ao16 t294.length co16, .slice none 0 0]) ?_ 2 _ rfl; (with_reducible repeat (first | refine blk_drewN ?_ _ | refine blk_drew ?_ | refine blk_alloc ?_ _)); refine blk_put (cs := #[.int .i64 t293, .slice none 0 0, .slice none 0 0]) ?_ 1 _ rfl; (with_reducible repeat (first | refine blk_drewN ?_ _ | refine blk_drew ?_ | refine blk_alloc ?_ _)); refine blk_put (cs := #[.int .i64 x292000_1, .slice none 0 0, .slice none 0 0]) ?_ 0 _ rfl; (with_reducible repeat (first | refine blk_drewN ?_ _ | refine blk_drew ?_ | refine blk_alloc ?_ _)); exact BK291.out) Try.underlying25 rfl (by kernel_rfl)) rfl ?_
       exact ⟨_, _, er, by (with_reducible repeat (first | apply Kd.R_alloc | apply Kd.R_drewN | apply Kd.R_drew)); exact Kd.R_mono (Kd.R_far (p := ⟨gb291, 2, none⟩) (Kd.R_far (p := ⟨gb291, 1, none⟩) (Kd.R_far (p := ⟨gb291, 0, none⟩) (Kd.R_types HO_301001.out BK291.out (by decide)) (fun _ hk => hk.2) (.int .i64 t293)) (fun _ hk => hk.2) (.slice Ao16 t294.length co16)) (fun _ hk => hk.2) (.slice Ao17 t297.length co17)) (fun _ hk => trivial), by (with_reducible repeat (first | apply Kd.R_alloc | apply Kd.R_drewN | apply Kd.R_drew)); exact Kd.R_mono (Kd.R_far (p := ⟨gb291, 2, none⟩) (Kd.R_far (p := ⟨gb291, 1, none⟩) (Kd.R_far (p := ⟨gb291, 0, none⟩) (Kd.R_types HO_301002.out BK291.out (by decide)) (fun _ hk => hk.2) (.int .i64 t293)) (fun _ hk => hk.2) (.slice Ao16 t294.length co16)) (fun _ hk => hk.2) (.slice Ao17 t297.length co17)) (fun _ hk => trivial), be3 HB GE290 GE291 GE300⟩
      rw [if_neg c21] at H
      exact absurd H (by simp)
     rw [if_neg c20] at H
     exact absurd H (by simp)
    rw [if_neg c19] at H
    have c19b0 : decide (x16_1 < (l0_1.length : Int)) = false := decide_eq_false c19
    clear c19
    by_cases c33 : a0_0 = 4294967295
    ·rw [if_pos c33] at H
     have c33b0 : (a0_0 == 4294967295) = true := beq_iff_eq.mpr c33
     have c33b1 : (a0_0 != 4294967295) = false := bne_eq_false_iff_eq.mpr c33
     clear c33
     simp only [Option.some.injEq, Prod.mk.injEq] at H
     obtain ⟨rfl, rfl, rfl, rfl⟩ := H
     have hnb34 := NB290_291.out
     have hnc34 := NB291_290.out
     have hnb35 := NB290_300.out
     have hnc35 := NB300_290.out
     have hcz36_0 := bz3 BK290
     have hnb37 := NB300_291.out
     have hnc37 := NB291_300.out
     have hcz38_0 := bz3 BK300
     have hcz39_0 := bz3 BK291
     go_wp2
     refine bodyPost_ret (results_ct rfl _ _ gb291 25 #[.int .i64 t293, .slice Ao16 t294.length co16, .slice Ao17 t297.length co17] (0, 0) _ rfl (by (with_reducible repeat (first | refine blk_drewN ?_ _ | refine blk_drew ?_ | refine blk_alloc ?_ _)); refine blk_put (cs := #[.int .i64 t293, .slice Ao16 t294.length co16, .slice none 0 0]) ?_ 2 _ rfl; (with_reducible repeat (first | refine blk_drewN ?_ _ | refine blk_drew ?_ | refine blk_alloc ?_ _)); refine blk_put (cs := #[.int .i64 t293, .slice none 0 0, .slice none 0 0]) ?_ 1 _ rfl; (with_reducible repeat (first | refine blk_drewN ?_ _ | refine blk_drew ?_ | refine blk_alloc ?_ _)); refine blk_put (cs := #[.int .i64 x292000_1, .slice none 0 0, .slice none 0 0]) ?_ 0 _ rfl; (with_reducible repeat (first | refine blk_drewN ?_ _ | refine blk_drew ?_ | refine blk_alloc ?_ _)); exact BK291.out) Try.underlying25 rfl (by kernel_rfl)) rfl ?_
     exact ⟨_, _, er, by (with_reducible repeat (first | apply Kd.R_alloc | apply Kd.R_drewN | apply Kd.R_drew)); exact Kd.R_mono (Kd.R_far (p := ⟨gb291, 2, none⟩) (Kd.R_far (p := ⟨gb291, 1, none⟩) (Kd.R_far (p := ⟨gb291, 0, none⟩) (Kd.R_types HO_301001.out BK291.out (by decide)) (fun _ hk => hk.2) (.int .i64 t293)) (fun _ hk => hk.2) (.slice Ao16 t294.length co16)) (fun _ hk => hk.2) (.slice Ao17 t297.length co17)) (fun _ hk => trivial), by (with_reducible repeat (first | apply Kd.R_alloc | apply Kd.R_drewN | apply Kd.R_drew)); exact Kd.R_mono (Kd.R_far (p := ⟨gb291, 2, none⟩) (Kd.R_far (p := ⟨gb291, 1, none⟩) (Kd.R_far (p := ⟨gb291, 0, none⟩) (Kd.R_types HO_301002.out BK291.out (by decide)) (fun _ hk => hk.2) (.int .i64 t293)) (fun _ hk => hk.2) (.slice Ao16 t294.length co16)) (fun _ hk => hk.2) (.slice Ao17 t297.length co17)) (fun _ hk => trivial), be3 HB GE290 GE291 GE300⟩
    rw [if_neg c33] at H
    have c33b0 : (a0_0 == 4294967295) = false := beq_eq_false_iff_ne.mpr c33
    have c33b1 : (a0_0 != 4294967295) = true := bne_iff_ne.mpr c33
    simp only [Option.some.injEq, Prod.mk.injEq] at H
    obtain ⟨rfl, rfl, rfl, rfl⟩ := H
    have hnb40 := NB290_291.out
    have hnc40 := NB291_290.out
    have hnb41 := NB290_300.out
    have hnc41 := NB300_290.out
    have hcz42_0 := bz3 BK290
    have hnb43 := NB300_291.out
    have hnc43 := NB291_300.out
    have hcz44_0 := bz3 BK300
    have hcz45_0 := bz3 BK291
    go_wp2
    refine bodyPost_ret (results_ct rfl _ _ gb291 25 #[.int .i64 (wrap64 (t293 + 1)), .slice Ao16 t294.length co16, .slice Ao17 t297.length co17] (0, 0) _ rfl (by (with_reducible repeat (first | refine blk_drewN ?_ _ | refine blk_drew ?_ | refine blk_alloc ?_ _)); refine blk_put (cs := #[.int .i64 (wrap64 (t293 + 1)), .slice Ao16 t294.length co16, .slice none 0 0]) ?_ 2 _ rfl; (with_reducible repeat (first | refine blk_drewN ?_ _ | refine blk_drew ?_ | refine blk_alloc ?_ _)); refine blk_put (cs := #[.int .i64 (wrap64 (t293 + 1)), .slice none 0 0, .slice none 0 0]) ?_ 1 _ rfl; (with_reducible repeat (first | refine blk_drewN ?_ _ | refine blk_drew ?_ | refine blk_alloc ?_ _)); refine blk_put (cs := #[.int .i64 x292000_1, .slice none 0 0, .slice none 0 0]) ?_ 0 _ rfl; (with_reducible repeat (first | refine blk_drewN ?_ _ | refine blk_drew ?_ | refine blk_alloc ?_ _)); refine blk_far ?_ NB291_300.out _; (with_reducible repeat (first | refine blk_drewN ?_ _ | refine blk_drew ?_ | refine blk_alloc ?_ _)); exact BK291.out) Try.underlying25 rfl (by kernel_rfl)) rfl ?_
    exact ⟨_, _, er, by (with_reducible repeat (first | apply Kd.R_alloc | apply Kd.R_drewN | apply Kd.R_drew)); exact Kd.R_mono (Kd.R_far (p := ⟨gb291, 2, none⟩) (Kd.R_far (p := ⟨gb291, 1, none⟩) (Kd.R_far (p := ⟨gb291, 0, none⟩) (Kd.R_far (p := ⟨gb300, 0, none⟩) (Kd.R_types (Kd.R_types HO_301001.out BK300.out (by decide)) BK291.out (by decide)) (fun _ hk => hk.1.2) (.int .i64 (wrap64 (t293 + 1)))) (fun _ hk => hk.2) (.int .i64 (wrap64 (t293 + 1)))) (fun _ hk => hk.2) (.slice Ao16 t294.length co16)) (fun _ hk => hk.2) (.slice Ao17 t297.length co17)) (fun _ hk => trivial), by (with_reducible repeat (first | apply Kd.R_alloc | apply Kd.R_drewN | apply Kd.R_drew)); exact Kd.R_mono (Kd.R_far (p := ⟨gb291, 2, none⟩) (Kd.R_far (p := ⟨gb291, 1, none⟩) (Kd.R_far (p := ⟨gb291, 0, none⟩) (Kd.R_far (p := ⟨gb300, 0, none⟩) (Kd.R_types (Kd.R_types HO_301002.out BK300.out (by decide)) BK291.out (by decide)) (fun _ hk => hk.1.2) (.int .i64 (wrap64 (t293 + 1)))) (fun _ hk => hk.2) (.int .i64 (wrap64 (t293 + 1)))) (fun _ hk => hk.2) (.slice Ao16 t294.length co16)) (fun _ hk => hk.2) (.slice Ao17 t297.length co17)) (fun _ hk => trivial), be3 HB GE290 GE291 GE300⟩
 replace c3 := Bool.eq_false_iff.mpr c3
 subst c3
 have H1 : (some (0, ([] : List Int), ([] : List (S70)), false)) = some (r1, r2, r3, r4) := by rw [if_neg (show ¬ (false = true) by decide)] at H; exact H
 clear H
 have H := H1
 clear H1
 simp only [Option.some.injEq, Prod.mk.injEq] at H
 obtain ⟨rfl, rfl, rfl, rfl⟩ := H
 go_enter Try.func75, Try.ntmps75
 go_wp2_with (first | ((with_reducible refine gate_dst (N := 1) rfl ?_); refine bx 1 #[.int .i64 a0_0, .slice A0_1 l0_1.length c0_1, .slice A0_2 l0_2.length c0_2] 25 ?_; intro gb290 hg w46 hbox hb; have BK290 := am hbox; have GW290 := gs0 hg HB; have GE290 := gs0 hg HB; replace HB := s0 HB hb; clear hb hbox hg) | ((with_reducible refine gate_dst (N := 2) rfl ?_); refine bx 2 #[.int .i64 0, .slice none 0 0, .slice none 0 0] 25 ?_; intro gb291 hg w47 hbox hb; have BK291 := am hbox; have GW291 := gs1 hg HB GE290; have GE291 := gs1 hg HB GE290; replace HB := Aside0.mk (below_step (be1 HB GE290) hb); have NB290_291 := Aside0.mk ((by rw [hg]; exact Nat.ne_of_lt (bl BK290) : gb290 ≠ gb291)); have NB291_290 := Aside0.mk ((by rw [hg]; exact Nat.ne_of_gt (bl BK290) : gb291 ≠ gb290)); replace BK290 := bb BK290 hb; clear hb hbox hg; have hnb48 := NB290_291.out; have hnc48 := NB291_290.out; have hcz49_0 := bz3 BK290) | ((with_reducible refine gate_callee (f := 53) rfl ?_); refine gl 8 Try.func53 #[.agg #[.int .i64 a0_0, .slice A0_1 l0_1.length c0_1, .slice A0_2 l0_2.length c0_2]] ?_; (with_reducible refine (spec_AgesOk.calls k a0_0 _ _ l0_1 _ _ l0_2 false _ (cb HR0_1 HB) HC0_1.out (cb HR0_2 HB) HC0_2.out A2.out).mono ?_); rintro e w50 ⟨rfl, hb⟩; refine ⟨_, rfl, ?_⟩; replace BK290 := bb BK290 hb; replace BK291 := bb BK291 hb; replace HB := Aside0.mk (below_step (be2 HB GE290 GE291) hb); (try clear hb); have hcz51_0 := bz3 BK291))
 refine bodyPost_ret (results_ct rfl _ _ gb291 25 #[.int .i64 0, .slice none 0 0, .slice none 0 0] (0, 0) _ rfl (by (with_reducible repeat (first | refine blk_drewN ?_ _ | refine blk_drew ?_ | refine blk_alloc ?_ _)); refine blk_put (cs := #[.int .i64 0, .slice none 0 0, .slice none 0 0]) ?_ 2 _ rfl; (with_reducible repeat (first | refine blk_drewN ?_ _ | refine blk_drew ?_ | refine blk_alloc ?_ _)); refine blk_put (cs := #[.int .i64 0, .slice none 0 0, .slice none 0 0]) ?_ 1 _ rfl; (with_reducible repeat (first | refine blk_drewN ?_ _ | refine blk_drew ?_ | refine blk_alloc ?_ _)); refine blk_put (cs := #[.int .i64 0, .slice none 0 0, .slice none 0 0]) ?_ 0 _ rfl; (with_reducible repeat (first | refine blk_drewN ?_ _ | refine blk_drew ?_ | refine blk_alloc ?_ _)); exact BK291.out) Try.underlying25 rfl (by kernel_rfl)) rfl ?_
 exact ⟨_, _, er, by first | exact Kd.R_nil _ _ _ _ _ | exact Kd.N_nil _ _ _ _ _ | exact Kd.V_nil _ _ _ _ _ | exact Kd.Q_nil _ _ _ _ _ | exact Kd.S_nil _ _ _ _ _, by first | exact Kd.R_nil _ _ _ _ _ | exact Kd.N_nil _ _ _ _ _ | exact Kd.V_nil _ _ _ _ _ | exact Kd.Q_nil _ _ _ _ _ | exact Kd.S_nil _ _ _ _ _, be2 HB GE290 GE291⟩

/-! ### spec_Turn: function 36 -/
def spec_Turn.j0 : Nat → Bool → Bool → List Int → Int → List Int → List (S70) → List Int → Int → List Int → List (S70) → Option (List Int × Int × List Int × (List (S70)) × List Int × Bool)
 | 0, _, _, _, _, _, _, _, _, _, _ => none
 | k + 1, x5, x17, x303000, x303001, x303002, x303003, x303004, x313000, x313001, x313002 => if x17 = true then ((spec_l09Copy.f x303000 x303001 x303002 x303003 x303004).bind fun bt314 => (some (bt314.1, bt314.2.1, bt314.2.2.1, bt314.2.2.2.1, bt314.2.2.2.2, false))) else ((spec_l09With.f k x303000 x303001 x303002 x303003 x303004 x313000 x313001 x313002 x5).bind fun bt327 => (some (bt327.1, bt327.2.1, bt327.2.2.1, bt327.2.2.2.1, bt327.2.2.2.2.1, bt327.2.2.2.2.2)))
def spec_Turn.f (k : Nat) (l0_0 : List Int) (a0_1 : Int) (l0_2 : List Int) (l0_3 : List (S70)) (l0_4 : List Int) : Option (List Int × Int × List Int × (List (S70)) × List Int × Bool) := (spec_Advance.f k a0_1 l0_2 l0_3).bind fun bt304 => ((spec_PoolOk.f k l0_0 a0_1 l0_2 l0_3 l0_4).bind fun t313 => (if t313 = true then (spec_Turn.j0 k bt304.2.2.2 (!bt304.2.2.2) l0_0 a0_1 l0_2 l0_3 l0_4 bt304.1 bt304.2.1 bt304.2.2.1) else (spec_Turn.j0 k bt304.2.2.2 false l0_0 a0_1 l0_2 l0_3 l0_4 bt304.1 bt304.2.1 bt304.2.2.1)))
theorem spec_Turn.mono_l : ∀ k, (∀ y0 y1 y2 y3 y4 y5 y6 y7 y8 y9, LeO (spec_Turn.j0 k y0 y1 y2 y3 y4 y5 y6 y7 y8 y9) (spec_Turn.j0 (k + 1) y0 y1 y2 y3 y4 y5 y6 y7 y8 y9))
 | 0 => fun _ _ _ _ _ _ _ _ _ _ r h => by simp [spec_Turn.j0] at h
 | k + 1 => by
  have ih0 := spec_Turn.mono_l k
  ·intro y0 y1 y2 y3 y4 y5 y6 y7 y8 y9
   unfold spec_Turn.j0
   repeat' first
   | (with_reducible exact ih0 _ _ _ _ _ _ _ _ _ _)
   | (with_reducible exact spec_Advance.mono _ _ _ _)
   | (with_reducible exact spec_PoolOk.mono _ _ _ _ _ _)
   | (with_reducible exact spec_l09With.mono _ _ _ _ _ _ _ _ _ _)
   | (with_reducible exact LeO.refl _)
   | (with_reducible exact LeO.none _)
   | (with_reducible refine LeO.ite ?_ ?_)
   | (with_reducible refine LeO.bind ?_ (fun _ => ?_))
   | exact ih0 _ _ _ _ _ _ _ _ _ _
   | exact spec_Advance.mono _ _ _ _
   | exact spec_PoolOk.mono _ _ _ _ _ _
   | exact spec_l09With.mono _ _ _ _ _ _ _ _ _ _
   | exact LeO.none _
   | refine LeO.ite ?_ ?_
   | refine LeO.bind ?_ (fun _ => ?_)
theorem spec_Turn.mono : ∀ a0 a1 a2 a3 a4 k, LeO (spec_Turn.f k a0 a1 a2 a3 a4) (spec_Turn.f (k + 1) a0 a1 a2 a3 a4) := by
 intro a0 a1 a2 a3 a4 k
 have ih0 := spec_Turn.mono_l k
 unfold spec_Turn.f
 repeat' first
   | (with_reducible exact ih0 _ _ _ _ _ _ _ _ _ _)
   | (with_reducible exact spec_Advance.mono _ _ _ _)
   | (with_reducible exact spec_PoolOk.mono _ _ _ _ _ _)
   | (with_reducible exact spec_l09With.mono _ _ _ _ _ _ _ _ _ _)
   | (with_reducible exact LeO.refl _)
   | (with_reducible exact LeO.none _)
   | (with_reducible refine LeO.ite ?_ ?_)
   | (with_reducible refine LeO.bind ?_ (fun _ => ?_))
   | exact ih0 _ _ _ _ _ _ _ _ _ _
   | exact spec_Advance.mono _ _ _ _
   | exact spec_PoolOk.mono _ _ _ _ _ _
   | exact spec_l09With.mono _ _ _ _ _ _ _ _ _ _
   | exact LeO.none _
   | refine LeO.ite ?_ ?_
   | refine LeO.bind ?_ (fun _ => ?_)
set_option maxHeartbeats 8000000 in
set_option maxRecDepth 100000 in
theorem spec_Turn.calls (k : Nat) (A0_0 : Option Addr) (c0_0 : Nat) (l0_0 : List Int) (a0_1 : Int) (A0_2 : Option Addr) (c0_2 : Nat) (l0_2 : List Int) (A0_3 : Option Addr) (c0_3 : Nat) (l0_3 : List (S70)) (A0_4 : Option Addr) (c0_4 : Nat) (l0_4 : List Int) (r1 : List Int) (r2 : Int) (r3 : List Int) (r4 : List (S70)) (r5 : List Int) (r6 : Bool) (w : World) (hr0_0 : Kd.C (Kd.int .i64) w A0_0 l0_0.length l0_0) (hc0_0 : l0_0.length ≤ c0_0) (hr0_2 : Kd.C (Kd.int .i64) w A0_2 l0_2.length l0_2) (hc0_2 : l0_2.length ≤ c0_2) (hr0_3 : Kd.C k70 w A0_3 l0_3.length l0_3) (hc0_3 : l0_3.length ≤ c0_3) (hr0_4 : Kd.C (Kd.int .i64) w A0_4 l0_4.length l0_4) (hc0_4 : l0_4.length ≤ c0_4) (h : spec_Turn.f k l0_0 a0_1 l0_2 l0_3 l0_4 = some (r1, r2, r3, r4, r5, r6)) :
  Calls Try.prog 36 #[.agg #[.slice A0_0 l0_0.length c0_0, .int .i64 a0_1, .slice A0_2 l0_2.length c0_2, .slice A0_3 l0_3.length c0_3, .slice A0_4 l0_4.length c0_4]] w fun e w' => ∃ v0_ v2_ v3_ v4_ : Value, e = .returned (.tuple #[.agg #[v0_, .int .i64 r2, v2_, v3_, v4_], .bool r6]) ∧ Kd.R (Kd.int .i64) 3 w' w.heap.size (fun k_ => some k_ ≠ (v2_ : Value).ownBlock ∧ some k_ ≠ (v4_ : Value).ownBlock) v0_ r1 ∧ Kd.R (Kd.int .i64) 3 w' w.heap.size (fun k_ => some k_ ≠ (v0_ : Value).ownBlock ∧ some k_ ≠ (v4_ : Value).ownBlock) v2_ r3 ∧ Kd.R k70 70 w' w.heap.size (fun _ => True) v3_ r4 ∧ Kd.R (Kd.int .i64) 3 w' w.heap.size (fun k_ => some k_ ≠ (v0_ : Value).ownBlock ∧ some k_ ≠ (v2_ : Value).ownBlock) v4_ r5 ∧ Below w.heap.size w w' := by
 have hu27 := Try.underlying27
 have hu25 := Try.underlying25
 have HR0_0 := Aside0.mk hr0_0
 have HC0_0 := Aside0.mk hc0_0
 clear hr0_0 hc0_0
 have HR0_2 := Aside0.mk hr0_2
 have HC0_2 := Aside0.mk hc0_2
 clear hr0_2 hc0_2
 have HR0_3 := Aside0.mk hr0_3
 have HC0_3 := Aside0.mk hc0_3
 clear hr0_3 hc0_3
 have HR0_4 := Aside0.mk hr0_4
 have HC0_4 := Aside0.mk hc0_4
 clear hr0_4 hc0_4
 have HB := Aside0.mk (Below.refl w.heap.size w)
 have H : ((spec_Advance.f k a0_1 l0_2 l0_3).bind fun bt304 => ((spec_PoolOk.f k l0_0 a0_1 l0_2 l0_3 l0_4).bind fun t313 => (if t313 = true then (spec_Turn.j0 k bt304.2.2.2 (!bt304.2.2.2) l0_0 a0_1 l0_2 l0_3 l0_4 bt304.1 bt304.2.1 bt304.2.2.1) else (spec_Turn.j0 k bt304.2.2.2 false l0_0 a0_1 l0_2 l0_3 l0_4 bt304.1 bt304.2.1 bt304.2.2.1)))) = some (r1, r2, r3, r4, r5, r6) := h
 clear h
 replace H := Option.bind_eq_some_iff.mp H
 obtain ⟨⟨t304, t305, t308, t311⟩, A20, H⟩ := H
 replace H : ((spec_PoolOk.f k l0_0 a0_1 l0_2 l0_3 l0_4).bind fun t313 => (if t313 = true then (spec_Turn.j0 k t311 (!t311) l0_0 a0_1 l0_2 l0_3 l0_4 t304 t305 t308) else (spec_Turn.j0 k t311 false l0_0 a0_1 l0_2 l0_3 l0_4 t304 t305 t308))) = some (r1, r2, r3, r4, r5, r6) := H
 have A2 := Aside0.mk A20
 clear A20
 have HC3 := Aside0.mk H
 clear H
 go_enter Try.func36, Try.ntmps36
 go_upto_region 2 with (first | ((with_reducible refine gate_dst (N := 1) rfl ?_); refine bx 1 #[.slice A0_0 l0_0.length c0_0, .int .i64 a0_1, .slice A0_2 l0_2.length c0_2, .slice A0_3 l0_3.length c0_3, .slice A0_4 l0_4.length c0_4] 27 ?_; intro gb302 hg w4 hbox hb; have BK302 := am hbox; have GW302 := gs0 hg HB; have GE302 := gs0 hg HB; replace HB := s0 HB hb; clear hb hbox hg) | ((with_reducible refine gate_dst (N := 2) rfl ?_); refine bx 2 #[.slice none 0 0, .int .i64 0, .slice none 0 0, .slice none 0 0, .slice none 0 0] 27 ?_; intro gb303 hg w5 hbox hb; have BK303 := am hbox; have GW303 := gs1 hg HB GE302; have GE303 := gs1 hg HB GE302; replace HB := Aside0.mk (below_step (be1 HB GE302) hb); have NB302_303 := Aside0.mk ((by rw [hg]; exact Nat.ne_of_lt (bl BK302) : gb302 ≠ gb303)); have NB303_302 := Aside0.mk ((by rw [hg]; exact Nat.ne_of_gt (bl BK302) : gb303 ≠ gb302)); replace BK302 := bb BK302 hb; clear hb hbox hg; have hnb6 := NB302_303.out; have hnc6 := NB303_302.out; have hcz7_0 := bz5 BK302) | ((with_reducible refine gate_callee (f := 75) rfl ?_); refine gl 9 Try.func75 #[.agg #[.int .i64 a0_1, .slice A0_2 l0_2.length c0_2, .slice A0_3 l0_3.length c0_3]] ?_; (with_reducible refine (spec_Advance.calls k a0_1 _ _ l0_2 _ _ l0_3 t304 t305 t308 t311 _ (cb HR0_2 HB) HC0_2.out (cb HR0_3 HB) HC0_3.out A2.out).mono ?_); rintro e w8 ⟨v306, v309, rfl, ho0, ho1, hb⟩; refine ⟨_, rfl, ?_⟩; have HO307 := Aside0.mk (Kd.R_lower ho0 (below_size (be2 HB GE302 GE303))); have HO310 := Aside0.mk (Kd.R_lower ho1 (below_size (be2 HB GE302 GE303))); replace BK302 := bb BK302 hb; replace BK303 := bb BK303 hb; replace HB := Aside0.mk (below_step (be2 HB GE302 GE303) hb); (try clear hb); (try clear ho0); (try clear ho1)) | ((with_reducible refine gate_dst (N := 4) rfl ?_); refine bx 4 #[.int .i64 0, .slice none 0 0, .slice none 0 0] 25 ?_; intro gb312 hg w9 hbox hb; replace HO307 := rb HO307 hb; replace HO310 := rb HO310 hb; have BK312 := am hbox; have GW312 := gs2 hg HB GE302 GE303; have GE312 := gs2 hg HB GE302 GE303; replace HB := Aside0.mk (below_step (be2 HB GE302 GE303) hb); have NB302_312 := Aside0.mk ((by rw [hg]; exact Nat.ne_of_lt (bl BK302) : gb302 ≠ gb312)); have NB312_302 := Aside0.mk ((by rw [hg]; exact Nat.ne_of_gt (bl BK302) : gb312 ≠ gb302)); replace BK302 := bb BK302 hb; have NB303_312 := Aside0.mk ((by rw [hg]; exact Nat.ne_of_lt (bl BK303) : gb303 ≠ gb312)); have NB312_303 := Aside0.mk ((by rw [hg]; exact Nat.ne_of_gt (bl BK303) : gb312 ≠ gb303)); replace BK303 := bb BK303 hb; clear hb hbox hg; have hnb10 := NB312_302.out; have hnc10 := NB302_312.out; have hnb11 := NB312_303.out; have hnc11 := NB303_312.out; have hcz12_0 := bz3 BK312; obtain ⟨Ao13, co13, eo13⟩ := Kd.R_slice HO307.out; subst eo13; obtain ⟨Ao14, co14, eo14⟩ := Kd.R_slice HO310.out; subst eo14))
 (try simp only [Act.put, List.setIfInBounds_toArray, List.set_cons_zero, List.set_cons_succ])
 go_cut [17] (fun v17 wc => ∃ (kq : Nat) (x17_2 : Bool), v17 = .bool x17_2 ∧ Aside0 (spec_Turn.j0 kq t311 x17_2 l0_0 a0_1 l0_2 l0_3 l0_4 t304 t305 t308 = some (r1, r2, r3, r4, r5, r6)) ∧ Aside0 (kq ≤ k) ∧ Aside0 (Kd.R (Kd.int .i64) 3 wc w.heap.size (fun _ => True) (.slice Ao13 t305.length co13) t305) ∧ Aside0 (Kd.R k70 70 wc w.heap.size (fun _ => True) (.slice Ao14 t308.length co14) t308) ∧ Aside0 (wc.heap[gb302]? = some (.cells #[(.slice A0_0 l0_0.length c0_0), .int .i64 a0_1, (.slice A0_2 l0_2.length c0_2), (.slice A0_3 l0_3.length c0_3), (.slice A0_4 l0_4.length c0_4)] 27 (0, 0))) ∧ Aside0 (wc.heap[gb303]? = some (.cells #[(.slice none 0 0), .int .i64 0, (.slice none 0 0), (.slice none 0 0), (.slice none 0 0)] 27 (0, 0))) ∧ Aside0 (wc.heap[gb312]? = some (.cells #[.int .i64 t304, (.slice Ao13 t305.length co13), (.slice Ao14 t308.length co14)] 25 (0, 0))) ∧ Aside0 (Below w.heap.size w wc))
 case first =>
  have H := HC3.out
  clear HC3
  replace H := Option.bind_eq_some_iff.mp H
  obtain ⟨t313, A150, H⟩ := H
  replace H : (if t313 = true then (spec_Turn.j0 k t311 (!t311) l0_0 a0_1 l0_2 l0_3 l0_4 t304 t305 t308) else (spec_Turn.j0 k t311 false l0_0 a0_1 l0_2 l0_3 l0_4 t304 t305 t308)) = some (r1, r2, r3, r4, r5, r6) := H
  have A15 := Aside0.mk A150
  clear A150
  by_cases c16 : t313 = true
  ·subst c16
   have H1 : (spec_Turn.j0 k t311 (!t311) l0_0 a0_1 l0_2 l0_3 l0_4 t304 t305 t308) = some (r1, r2, r3, r4, r5, r6) := by rw [if_pos rfl] at H; exact H
   clear H
   have H := H1
   clear H1
   have H' := Aside0.mk H
   clear H
   have hnb17 := NB302_303.out
   have hnc17 := NB303_302.out
   have hnb18 := NB302_312.out
   have hnc18 := NB312_302.out
   have hcz19_0 := bz5 BK302
   go_wp2_with (first | ((with_reducible refine gate_callee (f := 20) rfl ?_); refine gl 13 Try.func20 #[.agg #[.slice A0_0 l0_0.length c0_0, .int .i64 a0_1, .slice A0_2 l0_2.length c0_2, .slice A0_3 l0_3.length c0_3, .slice A0_4 l0_4.length c0_4]] ?_; (with_reducible refine (spec_PoolOk.calls k _ _ l0_0 a0_1 _ _ l0_2 _ _ l0_3 _ _ l0_4 true _ ?side1 HC0_0.out ?side3 HC0_2.out ?side5 HC0_3.out ?side7 HC0_4.out A15.out).mono ?_); (case side1 => exact Kd.C_below HR0_0.out (be3 HB GE302 GE303 GE312)); (case side3 => exact Kd.C_below HR0_2.out (be3 HB GE302 GE303 GE312)); (case side5 => exact Kd.C_below HR0_3.out (be3 HB GE302 GE303 GE312)); (case side7 => exact Kd.C_below HR0_4.out (be3 HB GE302 GE303 GE312)); rintro e w20 ⟨rfl, hb⟩; refine ⟨_, rfl, ?_⟩; replace HO307 := Aside0.mk (Kd.R_below (rf HO307 BK312) hb); replace HO310 := Aside0.mk (Kd.R_below (rf HO310 BK312) hb); replace BK302 := Aside0.mk (blk_below (g := gb302) (o := .cells #[.slice A0_0 l0_0.length c0_0, .int .i64 a0_1, .slice A0_2 l0_2.length c0_2, .slice A0_3 l0_3.length c0_3, .slice A0_4 l0_4.length c0_4] 27 (0, 0)) (bf1 BK302 NB302_312) hb); replace BK303 := Aside0.mk (blk_below (g := gb303) (o := .cells #[.slice none 0 0, .int .i64 0, .slice none 0 0, .slice none 0 0, .slice none 0 0] 27 (0, 0)) (bf1 BK303 NB303_312) hb); replace BK312 := Aside0.mk (blk_below (g := gb312) (o := .cells #[.int .i64 t304, .slice Ao13 t305.length co13, .slice Ao14 t308.length co14] 25 (0, 0)) (by (with_reducible repeat (first | refine blk_drewN ?_ _ | refine blk_drew ?_ | refine blk_alloc ?_ _)); refine blk_put (cs := #[.int .i64 t304, .slice Ao13 t305.length co13, .slice none 0 0]) ?_ 2 _ rfl; (with_reducible repeat (first | refine blk_drewN ?_ _ | refine blk_drew ?_ | refine blk_alloc ?_ _)); refine blk_put (cs := #[.int .i64 t304, .slice none 0 0, .slice none 0 0]) ?_ 1 _ rfl; (with_reducible repeat (first | refine blk_drewN ?_ _ | refine blk_drew ?_ | refine blk_alloc ?_ _)); refine blk_put (cs := #[.int .i64 0, .slice none 0 0, .slice none 0 0]) ?_ 0 _ rfl; (with_reducible repeat (first | refine blk_drewN ?_ _ | refine blk_drew ?_ | refine blk_alloc ?_ _)); exact BK312.out) hb); replace HB := Aside0.mk (below_step (be3 HB GE302 GE303 GE312) hb); (try clear hb)))
   go_meet
   case rel => exact ⟨_, (!t311), rs, H', ⟨by first | omega | exact Nat.le_refl _⟩, ⟨ro HO307⟩, ⟨ro HO310⟩, ⟨bk BK302⟩, ⟨bk BK303⟩, ⟨bk BK312⟩, ⟨be3 HB GE302 GE303 GE312⟩⟩
  replace c16 := Bool.eq_false_iff.mpr c16
  subst c16
  have H1 : (spec_Turn.j0 k t311 false l0_0 a0_1 l0_2 l0_3 l0_4 t304 t305 t308) = some (r1, r2, r3, r4, r5, r6) := by rw [if_neg (show ¬ (false = true) by decide)] at H; exact H
  clear H
  have H := H1
  clear H1
  have H' := Aside0.mk H
  clear H
  have hnb21 := NB302_303.out
  have hnc21 := NB303_302.out
  have hnb22 := NB302_312.out
  have hnc22 := NB312_302.out
  have hcz23_0 := bz5 BK302
  go_wp2_with (first | ((with_reducible refine gate_callee (f := 20) rfl ?_); refine gl 13 Try.func20 #[.agg #[.slice A0_0 l0_0.length c0_0, .int .i64 a0_1, .slice A0_2 l0_2.length c0_2, .slice A0_3 l0_3.length c0_3, .slice A0_4 l0_4.length c0_4]] ?_; (with_reducible refine (spec_PoolOk.calls k _ _ l0_0 a0_1 _ _ l0_2 _ _ l0_3 _ _ l0_4 false _ ?side1 HC0_0.out ?side3 HC0_2.out ?side5 HC0_3.out ?side7 HC0_4.out A15.out).mono ?_); (case side1 => exact Kd.C_below HR0_0.out (be3 HB GE302 GE303 GE312)); (case side3 => exact Kd.C_below HR0_2.out (be3 HB GE302 GE303 GE312)); (case side5 => exact Kd.C_below HR0_3.out (be3 HB GE302 GE303 GE312)); (case side7 => exact Kd.C_below HR0_4.out (be3 HB GE302 GE303 GE312)); rintro e w24 ⟨rfl, hb⟩; refine ⟨_, rfl, ?_⟩; replace HO307 := Aside0.mk (Kd.R_below (rf HO307 BK312) hb); replace HO310 := Aside0.mk (Kd.R_below (rf HO310 BK312) hb); replace BK302 := Aside0.mk (blk_below (g := gb302) (o := .cells #[.slice A0_0 l0_0.length c0_0, .int .i64 a0_1, .slice A0_2 l0_2.length c0_2, .slice A0_3 l0_3.length c0_3, .slice A0_4 l0_4.length c0_4] 27 (0, 0)) (bf1 BK302 NB302_312) hb); replace BK303 := Aside0.mk (blk_below (g := gb303) (o := .cells #[.slice none 0 0, .int .i64 0, .slice none 0 0, .slice none 0 0, .slice none 0 0] 27 (0, 0)) (bf1 BK303 NB303_312) hb); replace BK312 := Aside0.mk (blk_below (g := gb312) (o := .cells #[.int .i64 t304, .slice Ao13 t305.length co13, .slice Ao14 t308.length co14] 25 (0, 0)) (by (with_reducible repeat (first | refine blk_drewN ?_ _ | refine blk_drew ?_ | refine blk_alloc ?_ _)); refine blk_put (cs := #[.int .i64 t304, .slice Ao13 t305.length co13, .slice none 0 0]) ?_ 2 _ rfl; (with_reducible repeat (first | refine blk_drewN ?_ _ | refine blk_drew ?_ | refine blk_alloc ?_ _)); refine blk_put (cs := #[.int .i64 t304, .slice none 0 0, .slice none 0 0]) ?_ 1 _ rfl; (with_reducible repeat (first | refine blk_drewN ?_ _ | refine blk_drew ?_ | refine blk_alloc ?_ _)); refine blk_put (cs := #[.int .i64 0, .slice none 0 0, .slice none 0 0]) ?_ 0 _ rfl; (with_reducible repeat (first | refine blk_drewN ?_ _ | refine blk_drew ?_ | refine blk_alloc ?_ _)); exact BK312.out) hb); replace HB := Aside0.mk (below_step (be3 HB GE302 GE303 GE312) hb); (try clear hb)))
  go_meet
  case rel => exact ⟨_, (false), rs, H', ⟨by first | omega | exact Nat.le_refl _⟩, ⟨ro HO307⟩, ⟨ro HO310⟩, ⟨bk BK302⟩, ⟨bk BK303⟩, ⟨bk BK312⟩, ⟨be3 HB GE302 GE303 GE312⟩⟩
 case rest =>
  clear HC3
  try clear c1; try clear c2; try clear p2; try clear c3; try clear c6; try clear c7; try clear c10; try clear c11; try clear c16; try clear c17; try clear c18; try clear c20; try clear c21; try clear c22; try clear hcz12_0; try clear hcz19_0; try clear hcz23_0; try clear hcz7_0
  obtain ⟨kq, x17_2, rfl, HA, HJ2, HO_313001, HO_313002, BK302, BK303, BK312, HB⟩ := hcut
  cases kq with
  | zero => exact absurd HA.out (by simp [spec_Turn.j0])
  | succ kj2 =>
   have H := HA.out
   clear HA
   simp only [spec_Turn.j0] at H
   by_cases c25 : x17_2 = true
   ·subst c25
    have H1 : ((spec_l09Copy.f l0_0 a0_1 l0_2 l0_3 l0_4).bind fun bt314 => (some (bt314.1, bt314.2.1, bt314.2.2.1, bt314.2.2.2.1, bt314.2.2.2.2, false))) = some (r1, r2, r3, r4, r5, r6) := by rw [if_pos rfl] at H; exact H
    clear H
    have H := H1
    clear H1
    replace H := Option.bind_eq_some_iff.mp H
    obtain ⟨⟨t314, t317, t318, t321, t324⟩, A260, H⟩ := H
    replace H : (some (t314, t317, t318, t321, t324, false)) = some (r1, r2, r3, r4, r5, r6) := H
    have A26 := Aside0.mk A260
    clear A260
    simp only [Option.some.injEq, Prod.mk.injEq] at H
    obtain ⟨rfl, rfl, rfl, rfl, rfl, rfl⟩ := H
    have hnb27 := NB302_303.out
    have hnc27 := NB303_302.out
    have hnb28 := NB302_312.out
    have hnc28 := NB312_302.out
    have hcz29_0 := bz5 BK302
    go_wp2_with (first | ((with_reducible refine gate_callee (f := 64) rfl ?_); refine gl 19 Try.func64 #[.agg #[.slice A0_0 l0_0.length c0_0, .int .i64 a0_1, .slice A0_2 l0_2.length c0_2, .slice A0_3 l0_3.length c0_3, .slice A0_4 l0_4.length c0_4]] ?_; (with_reducible refine (spec_l09Copy.calls _ _ l0_0 a0_1 _ _ l0_2 _ _ l0_3 _ _ l0_4 t314 t317 t318 t321 t324 _ (cb HR0_0 HB) HC0_0.out (cb HR0_2 HB) HC0_2.out (cb HR0_3 HB) HC0_3.out (cb HR0_4 HB) HC0_4.out A26.out).mono ?_); rintro e w30 ⟨v315, v319, v322, v325, rfl, ho0, ho1, ho2, ho3, hb⟩; refine ⟨_, rfl, ?_⟩; have HO316 := Aside0.mk (Kd.R_lower (nw ho0 HO_313001) (below_size (be3 HB GE302 GE303 GE312))); have HO320 := Aside0.mk (Kd.R_lower (nw ho1 HO_313001) (below_size (be3 HB GE302 GE303 GE312))); have HO323 := Aside0.mk (Kd.R_lower (nw ho2 HO_313002) (below_size (be3 HB GE302 GE303 GE312))); replace HO_313002 := Aside0.mk (Kd.R_elder' (ro HO_313002) (Kd.R_base ho2) hb); have HO326 := Aside0.mk (Kd.R_lower (nw ho3 HO_313001) (below_size (be3 HB GE302 GE303 GE312))); replace HO_313001 := td3 (ro HO_313001) hb ho0 ho1 ho3; replace BK302 := bb BK302 hb; replace BK303 := bb BK303 hb; replace BK312 := bb BK312 hb; replace HB := Aside0.mk (below_step (be3 HB GE302 GE303 GE312) hb); (try clear hb); (try clear ho0); (try clear ho1); (try clear ho2); (try clear ho3); obtain ⟨Ao31, co31, eo31⟩ := Kd.R_slice HO316.out; subst eo31; have hnb32 := NB303_312.out; have hnc32 := NB312_303.out; have hcz33_0 := bz5 BK303; obtain ⟨Ao34, co34, eo34⟩ := Kd.R_slice HO320.out; subst eo34; obtain ⟨Ao35, co35, eo35⟩ := Kd.R_slice HO323.out; subst eo35; obtain ⟨Ao36, co36, eo36⟩ := Kd.R_slice HO326.out; subst eo36))
    refine bodyPost_ret (results_ct rfl _ _ gb303 27 #[.slice Ao31 t314.length co31, .int .i64 t317, .slice Ao34 t318.length co34, .slice Ao35 t321.length co35, .slice Ao36 t324.length co36] (0, 0) _ rfl (by (with_reducible repeat (first | refine blk_drewN ?_ _ | refine blk_drew ?_ | refine blk_alloc ?_ _)); refine blk_put (cs := #[.slice Ao31 t314.length co31, .int .i64 t317, .slice Ao34 t318.length co34, .slice Ao35 t321.length co35, .slice none 0 0]) ?_ 4 _ rfl; (with_reducible repeat (first | refine blk_drewN ?_ _ | refine blk_drew ?_ | refine blk_alloc ?_ _)); refine blk_put (cs := #[.slice Ao31 t314.length co31, .int .i64 t317, .slice Ao34 t318.length co34, .slice none 0 0, .slice none 0 0]) ?_ 3 _ rfl; (with_reducible repeat (first | refine blk_drewN ?_ _ | refine blk_drew ?_ | refine blk_alloc ?_ _)); refine blk_put (cs := #[.slice Ao31 t314.length co31, .int .i64 t317, .slice none 0 0, .slice none 0 0, .slice none 0 0]) ?_ 2 _ rfl; (with_reducible repeat (first | refine blk_drewN ?_ _ | refine blk_drew ?_ | refine blk_alloc ?_ _)); refine blk_put (cs := #[.slice Ao31 t314.length co31, .int .i64 0, .slice none 0 0, .slice none 0 0, .slice none 0 0]) ?_ 1 _ rfl; (with_reducible repeat (first | refine blk_drewN ?_ _ | refine blk_drew ?_ | refine blk_alloc ?_ _)); refine blk_put (cs := #[.slice none 0 0, .int .i64 0, .slice none 0 0, .slice none 0 0, .slice none 0 0]) ?_ 0 _ rfl; (with_reducible repeat (first | refine blk_drewN ?_ _ | refine blk_drew ?_ | refine blk_alloc ?_ _)); exact BK303.out) Try.underlying27 rfl (by kernel_rfl)) rfl ?_
    exact ⟨_, _, _, _, er, by (with_reducible repeat (first | apply Kd.R_alloc | apply Kd.R_drewN | apply Kd.R_drew)); exact Kd.R_mono (Kd.R_far (p := ⟨gb303, 4, none⟩) (Kd.R_far (p := ⟨gb303, 3, none⟩) (Kd.R_far (p := ⟨gb303, 2, none⟩) (Kd.R_far (p := ⟨gb303, 1, none⟩) (Kd.R_far (p := ⟨gb303, 0, none⟩) (Kd.R_types HO316.out BK303.out (by decide)) (fun _ hk => hk.2) (.slice Ao31 t314.length co31)) (fun _ hk => hk.2) (.int .i64 t317)) (fun _ hk => hk.2) (.slice Ao34 t318.length co34)) (fun _ hk => hk.2) (.slice Ao35 t321.length co35)) (fun _ hk => hk.2) (.slice Ao36 t324.length co36)) (fun _ hk => ⟨hk.1.1.1, hk.1.1.2⟩), by (with_reducible repeat (first | apply Kd.R_alloc | apply Kd.R_drewN | apply Kd.R_drew)); exact Kd.R_mono (Kd.R_far (p := ⟨gb303, 4, none⟩) (Kd.R_far (p := ⟨gb303, 3, none⟩) (Kd.R_far (p := ⟨gb303, 2, none⟩) (Kd.R_far (p := ⟨gb303, 1, none⟩) (Kd.R_far (p := ⟨gb303, 0, none⟩) (Kd.R_types HO320.out BK303.out (by decide)) (fun _ hk => hk.2) (.slice Ao31 t314.length co31)) (fun _ hk => hk.2) (.int .i64 t317)) (fun _ hk => hk.2) (.slice Ao34 t318.length co34)) (fun _ hk => hk.2) (.slice Ao35 t321.length co35)) (fun _ hk => hk.2) (.slice Ao36 t324.length co36)) (fun _ hk => ⟨hk.1.1.1, hk.1.1.2⟩), by (with_reducible repeat (first | apply Kd.R_alloc | apply Kd.R_drewN | apply Kd.R_drew)); exact Kd.R_mono (Kd.R_far (p := ⟨gb303, 4, none⟩) (Kd.R_far (p := ⟨gb303, 3, none⟩) (Kd.R_far (p := ⟨gb303, 2, none⟩) (Kd.R_far (p := ⟨gb303, 1, none⟩) (Kd.R_far (p := ⟨gb303, 0, none⟩) (Kd.R_types HO323.out BK303.out (by decide)) (fun _ hk => hk.2) (.slice Ao31 t314.length co31)) (fun _ hk => hk.2) (.int .i64 t317)) (fun _ hk => hk.2) (.slice Ao34 t318.length co34)) (fun _ hk => hk.2) (.slice Ao35 t321.length co35)) (fun _ hk => hk.2) (.slice Ao36 t324.length co36)) (fun _ hk => trivial), by (with_reducible repeat (first | apply Kd.R_alloc | apply Kd.R_drewN | apply Kd.R_drew)); exact Kd.R_mono (Kd.R_far (p := ⟨gb303, 4, none⟩) (Kd.R_far (p := ⟨gb303, 3, none⟩) (Kd.R_far (p := ⟨gb303, 2, none⟩) (Kd.R_far (p := ⟨gb303, 1, none⟩) (Kd.R_far (p := ⟨gb303, 0, none⟩) (Kd.R_types HO326.out BK303.out (by decide)) (fun _ hk => hk.2) (.slice Ao31 t314.length co31)) (fun _ hk => hk.2) (.int .i64 t317)) (fun _ hk => hk.2) (.slice Ao34 t318.length co34)) (fun _ hk => hk.2) (.slice Ao35 t321.length co35)) (fun _ hk => hk.2) (.slice Ao36 t324.length co36)) (fun _ hk => ⟨hk.1.1.1, hk.1.1.2⟩), be3 HB GE302 GE303 GE312⟩
   replace c25 := Bool.eq_false_iff.mpr c25
   subst c25
   have H1 : ((spec_l09With.f kj2 l0_0 a0_1 l0_2 l0_3 l0_4 t304 t305 t308 t311).bind fun bt327 => (some (bt327.1, bt327.2.1, bt327.2.2.1, bt327.2.2.2.1, bt327.2.2.2.2.1, bt327.2.2.2.2.2))) = some (r1, r2, r3, r4, r5, r6) := by rw [if_neg (show ¬ (false = true) by decide)] at H; exact H
   clear H
   have H := H1
   clear H1
   replace H := Option.bind_eq_some_iff.mp H
   obtain ⟨⟨t327, t330, t331, t334, t337, t340⟩, A370, H⟩ := H
   replace H : (some (t327, t330, t331, t334, t337, t340)) = some (r1, r2, r3, r4, r5, r6) := H
   have A37 := Aside0.mk A370
   clear A370
   simp only [Option.some.injEq, Prod.mk.injEq] at H
   obtain ⟨rfl, rfl, rfl, rfl, rfl, rfl⟩ := H
   have hnb38 := NB302_303.out
   have hnc38 := NB303_302.out
   have hnb39 := NB302_312.out
   have hnc39 := NB312_302.out
   have hcz40_0 := bz5 BK302
   have hnb41 := NB312_303.out
   have hnc41 := NB303_312.out
   have hcz42_0 := bz3 BK312
   go_wp2_with (first | ((with_reducible refine gate_callee (f := 68) rfl ?_); refine gl 23 Try.func68 #[.agg #[.slice A0_0 l0_0.length c0_0, .int .i64 a0_1, .slice A0_2 l0_2.length c0_2, .slice A0_3 l0_3.length c0_3, .slice A0_4 l0_4.length c0_4], .agg #[.int .i64 t304, .slice Ao13 t305.length co13, .slice Ao14 t308.length co14], .bool t311] ?_; (with_reducible refine (spec_l09With.calls kj2 _ _ l0_0 a0_1 _ _ l0_2 _ _ l0_3 _ _ l0_4 t304 (fun k_ => some k_ = (.slice Ao13 t305.length co13 : Value).ownBlock) (.slice Ao13 t305.length co13) t305 (fun k_ => some k_ = (.slice Ao14 t308.length co14 : Value).ownBlock) (.slice Ao14 t308.length co14) t308 t311 t327 t330 t331 t334 t337 t340 w _ ?side1 ?side2 HC0_0.out ?side4 HC0_2.out ?side6 HC0_3.out ?side8 HC0_4.out ?side10 ?side11 A37.out).mono ?_); (case side1 => repeat (first | (with_reducible first | exact HB.out | apply below_alloc | apply pw_below_drewN | apply below_drew1 | refine below_set ?_ GE302.out | refine below_set ?_ GE303.out | refine below_set ?_ GE312.out) | exact HB.out)); (case side2 => exact Kd.C_kept_came (Kd.heap_int .i64) HR0_0.out (be3 HB GE302 GE303 GE312) (fun k_ hs_ => Or.elim hs_ (fun e_ => (fun e_ => Kd.R_base HO_313001.out k_ e_.symm) e_) (fun e_ => (fun e_ => Kd.R_base HO_313002.out k_ e_.symm) e_))); (case side4 => exact Kd.C_kept_came (Kd.heap_int .i64) HR0_2.out (be3 HB GE302 GE303 GE312) (fun k_ hs_ => Or.elim hs_ (fun e_ => (fun e_ => Kd.R_base HO_313001.out k_ e_.symm) e_) (fun e_ => (fun e_ => Kd.R_base HO_313002.out k_ e_.symm) e_))); (case side6 => exact Kd.C_kept_came k70_heap HR0_3.out (be3 HB GE302 GE303 GE312) (fun k_ hs_ => Or.elim hs_ (fun e_ => (fun e_ => Kd.R_base HO_313001.out k_ e_.symm) e_) (fun e_ => (fun e_ => Kd.R_base HO_313002.out k_ e_.symm) e_))); (case side8 => exact Kd.C_kept_came (Kd.heap_int .i64) HR0_4.out (be3 HB GE302 GE303 GE312) (fun k_ hs_ => Or.elim hs_ (fun e_ => (fun e_ => Kd.R_base HO_313001.out k_ e_.symm) e_) (fun e_ => (fun e_ => Kd.R_base HO_313002.out k_ e_.symm) e_))); (case side10 => exact Kd.R_tight rfl HO_313001.out); (case side11 => exact Kd.R_tight rfl HO_313002.out); rintro e w43 ⟨v328, v332, v335, v338, rfl, ho0, ho1, ho2, ho3, hb, hkp⟩; refine ⟨_, rfl, ?_⟩; replace BK302 := Aside0.mk (blk_kept (bk BK302) hkp (fun hs_ => Or.elim hs_ (fun e_ => (fun e_ => (Kd.R_ne HO_313001.out BK302.out (by decide)) e_) e_) (fun e_ => (fun e_ => (Kd.R_ne HO_313002.out BK302.out (by decide)) e_) e_))); replace BK303 := Aside0.mk (blk_kept (bk BK303) hkp (fun hs_ => Or.elim hs_ (fun e_ => (fun e_ => (Kd.R_ne HO_313001.out BK303.out (by decide)) e_) e_) (fun e_ => (fun e_ => (Kd.R_ne HO_313002.out BK303.out (by decide)) e_) e_))); replace BK312 := Aside0.mk (blk_kept (bk BK312) hkp (fun hs_ => Or.elim hs_ (fun e_ => (fun e_ => (Kd.R_ne HO_313001.out BK312.out (by decide)) e_) e_) (fun e_ => (fun e_ => (Kd.R_ne HO_313002.out BK312.out (by decide)) e_) e_))); have HO329 := Aside0.mk (Kd.R_mono (ok' := fun k_ => some k_ ≠ (v332 : Value).ownBlock ∧ some k_ ≠ (v338 : Value).ownBlock) ho0 cj); have HO333 := Aside0.mk (Kd.R_mono (ok' := fun k_ => some k_ ≠ (v328 : Value).ownBlock ∧ some k_ ≠ (v338 : Value).ownBlock) ho1 cj); have HO336 := Aside0.mk (Kd.R_mono (ok' := fun k_ => True) ho2 (fun k_ hk_ => trivial)); have HO339 := Aside0.mk (Kd.R_mono (ok' := fun k_ => some k_ ≠ (v328 : Value).ownBlock ∧ some k_ ≠ (v332 : Value).ownBlock) ho3 cj); replace HB := Aside0.mk (hb); clear HO_313001; clear HO_313002; (try clear hb); (try clear hkp); (try clear ho0); (try clear ho1); (try clear ho2); (try clear ho3); obtain ⟨Ao44, co44, eo44⟩ := Kd.R_slice HO329.out; subst eo44; have hcz45_0 := bz5 BK303; obtain ⟨Ao46, co46, eo46⟩ := Kd.R_slice HO333.out; subst eo46; obtain ⟨Ao47, co47, eo47⟩ := Kd.R_slice HO336.out; subst eo47; obtain ⟨Ao48, co48, eo48⟩ := Kd.R_slice HO339.out; subst eo48))
   refine bodyPost_ret (results_ct rfl _ _ gb303 27 #[.slice Ao44 t327.length co44, .int .i64 t330, .slice Ao46 t331.length co46, .slice Ao47 t334.length co47, .slice Ao48 t337.length co48] (0, 0) _ rfl (by (with_reducible repeat (first | refine blk_drewN ?_ _ | refine blk_drew ?_ | refine blk_alloc ?_ _)); refine blk_put (cs := #[.slice Ao44 t327.length co44, .int .i64 t330, .slice Ao46 t331.length co46, .slice Ao47 t334.length co47, .slice none 0 0]) ?_ 4 _ rfl; (with_reducible repeat (first | refine blk_drewN ?_ _ | refine blk_drew ?_ | refine blk_alloc ?_ _)); refine blk_put (cs := #[.slice Ao44 t327.length co44, .int .i64 t330, .slice Ao46 t331.length co46, .slice none 0 0, .slice none 0 0]) ?_ 3 _ rfl; (with_reducible repeat (first | refine blk_drewN ?_ _ | refine blk_drew ?_ | refine blk_alloc ?_ _)); refine blk_put (cs := #[.slice Ao44 t327.length co44, .int .i64 t330, .slice none 0 0, .slice none 0 0, .slice none 0 0]) ?_ 2 _ rfl; (with_reducible repeat (first | refine blk_drewN ?_ _ | refine blk_drew ?_ | refine blk_alloc ?_ _)); refine blk_put (cs := #[.slice Ao44 t327.length co44, .int .i64 0, .slice none 0 0, .slice none 0 0, .slice none 0 0]) ?_ 1 _ rfl; (with_reducible repeat (first | refine blk_drewN ?_ _ | refine blk_drew ?_ | refine blk_alloc ?_ _)); refine blk_put (cs := #[.slice none 0 0, .int .i64 0, .slice none 0 0, .slice none 0 0, .slice none 0 0]) ?_ 0 _ rfl; (with_reducible repeat (first | refine blk_drewN ?_ _ | refine blk_drew ?_ | refine blk_alloc ?_ _)); exact BK303.out) Try.underlying27 rfl (by kernel_rfl)) rfl ?_
   exact ⟨_, _, _, _, er, by (with_reducible repeat (first | apply Kd.R_alloc | apply Kd.R_drewN | apply Kd.R_drew)); exact Kd.R_mono (Kd.R_far (p := ⟨gb303, 4, none⟩) (Kd.R_far (p := ⟨gb303, 3, none⟩) (Kd.R_far (p := ⟨gb303, 2, none⟩) (Kd.R_far (p := ⟨gb303, 1, none⟩) (Kd.R_far (p := ⟨gb303, 0, none⟩) (Kd.R_types HO329.out BK303.out (by decide)) (fun _ hk => hk.2) (.slice Ao44 t327.length co44)) (fun _ hk => hk.2) (.int .i64 t330)) (fun _ hk => hk.2) (.slice Ao46 t331.length co46)) (fun _ hk => hk.2) (.slice Ao47 t334.length co47)) (fun _ hk => hk.2) (.slice Ao48 t337.length co48)) (fun _ hk => ⟨hk.1.1, hk.1.2⟩), by (with_reducible repeat (first | apply Kd.R_alloc | apply Kd.R_drewN | apply Kd.R_drew)); exact Kd.R_mono (Kd.R_far (p := ⟨gb303, 4, none⟩) (Kd.R_far (p := ⟨gb303, 3, none⟩) (Kd.R_far (p := ⟨gb303, 2, none⟩) (Kd.R_far (p := ⟨gb303, 1, none⟩) (Kd.R_far (p := ⟨gb303, 0, none⟩) (Kd.R_types HO333.out BK303.out (by decide)) (fun _ hk => hk.2) (.slice Ao44 t327.length co44)) (fun _ hk => hk.2) (.int .i64 t330)) (fun _ hk => hk.2) (.slice Ao46 t331.length co46)) (fun _ hk => hk.2) (.slice Ao47 t334.length co47)) (fun _ hk => hk.2) (.slice Ao48 t337.length co48)) (fun _ hk => ⟨hk.1.1, hk.1.2⟩), by (with_reducible repeat (first | apply Kd.R_alloc | apply Kd.R_drewN | apply Kd.R_drew)); exact Kd.R_mono (Kd.R_far (p := ⟨gb303, 4, none⟩) (Kd.R_far (p := ⟨gb303, 3, none⟩) (Kd.R_far (p := ⟨gb303, 2, none⟩) (Kd.R_far (p := ⟨gb303, 1, none⟩) (Kd.R_far (p := ⟨gb303, 0, none⟩) (Kd.R_types HO336.out BK303.out (by decide)) (fun _ hk => hk.2) (.slice Ao44 t327.length co44)) (fun _ hk => hk.2) (.int .i64 t330)) (fun _ hk => hk.2) (.slice Ao46 t331.length co46)) (fun _ hk => hk.2) (.slice Ao47 t334.length co47)) (fun _ hk => hk.2) (.slice Ao48 t337.length co48)) (fun _ hk => trivial), by (with_reducible repeat (first | apply Kd.R_alloc | apply Kd.R_drewN | apply Kd.R_drew)); exact Kd.R_mono (Kd.R_far (p := ⟨gb303, 4, none⟩) (Kd.R_far (p := ⟨gb303, 3, none⟩) (Kd.R_far (p := ⟨gb303, 2, none⟩) (Kd.R_far (p := ⟨gb303, 1, none⟩) (Kd.R_far (p := ⟨gb303, 0, none⟩) (Kd.R_types HO339.out BK303.out (by decide)) (fun _ hk => hk.2) (.slice Ao44 t327.length co44)) (fun _ hk => hk.2) (.int .i64 t330)) (fun _ hk => hk.2) (.slice Ao46 t331.length co46)) (fun _ hk => hk.2) (.slice Ao47 t334.length co47)) (fun _ hk => hk.2) (.slice Ao48 t337.length co48)) (fun _ hk => ⟨hk.1.1, hk.1.2⟩), be3 HB GE302 GE303 GE312⟩

/-! ### impl_copyInts: function 57 -/
def impl_copyInts.f (l0 : List Int) : Option (List Int) := (some (([] : List Int) : List Int)).bind fun y341 => (if y341.length + l0.length < 17592186044416 then (some (y341 ++ l0)) else (none))
set_option maxHeartbeats 8000000 in
set_option maxRecDepth 100000 in
theorem impl_copyInts.calls (A0 : Option Addr) (c0 : Nat) (l0 : List Int) (r : List Int) (w : World) (hr0 : Kd.C (Kd.int .i64) w A0 l0.length l0) (hc0 : l0.length ≤ c0) (h : impl_copyInts.f l0 = some r) :
  Calls Try.prog 57 #[.slice A0 l0.length c0] w fun e w' => ∃ v0_ : Value, e = .returned (v0_) ∧ Kd.R (Kd.int .i64) 3 w' w.heap.size (fun _ => True) v0_ r ∧ Below w.heap.size w w' := by
 have HR0 := Aside0.mk hr0
 have HC0 := Aside0.mk hc0
 clear hr0 hc0
 have HB := Aside0.mk (Below.refl w.heap.size w)
 have H : ((some (([] : List Int) : List Int)).bind fun y341 => (if y341.length + l0.length < 17592186044416 then (some (y341 ++ l0)) else (none))) = some r := h
 clear h
 obtain ⟨y341, hy341⟩ : ∃ y_ : List Int, y_ = (([] : List Int)) := ⟨_, rfl⟩
 replace H : (if y341.length + l0.length < 17592186044416 then (some (y341 ++ l0)) else (none)) = some r := by first | (rw [hy341]; with_reducible exact H) | (have H2_ := (Option.bind_some _ _).symm.trans H; rw [hy341]; with_reducible exact H2_) | (have H2_ := (Option.bind_some _ _).symm.trans H; with_reducible exact H2_) | with_reducible exact H | (rw [hy341]; exact H) | exact H
 have Ny341 := Aside0.mk hy341
 clear hy341
 by_cases c2 : y341.length + l0.length < 17592186044416
 ·rw [if_pos c2] at H
  have LMc2 := Aside0.mk c2
  clear c2
  obtain ⟨y344, hy344⟩ : ∃ y_ : List Int, y_ = (y341 ++ l0) := ⟨_, rfl⟩
  replace H : (some y344) = some r := by first | (rw [hy344]; with_reducible exact H) | (have H2_ := (Option.bind_some _ _).symm.trans H; rw [hy344]; with_reducible exact H2_) | (have H2_ := (Option.bind_some _ _).symm.trans H; with_reducible exact H2_) | with_reducible exact H | (rw [hy344]; exact H) | exact H
  have Ny344 := Aside0.mk hy344
  clear hy344
  obtain rfl := Option.some.inj H
  go_enter Try.func57, Try.ntmps57
  have HO343 := Aside0.mk (show Kd.R (Kd.int .i64) 3 w w.heap.size (fun _ => True) (.slice none 0 0) y341 from by rw [Ny341.out]; exact Kd.R_nil _ _ _ _ _)
  go_wp2_with (first | ((with_reducible refine gate_builtin (b := .append) (xs := #[.const (.slice none 0 0), .tmp 3]) rfl ?_); at_builtin; refine Kd.R_append_rows (Kd.int .i64) (w0 := w) w.heap.size rfl (.const (.slice none 0 0)) (.tmp 3) 22 3 (.int .i64 0) 8 rfl Try.underlying22 info3 rfl (by decide) (by omega) (.slice none 0 0) y341 l0 _ _ _ (fun _ => True) (fun _ => False) rfl rfl ?aO ?aR (fun _ _ h => h) (fun _ h => h.elim) ?aF ?aB ?aS ?aL ?_; (case aR => repeat (first | exact (Kd.C_below HR0.out HB.out) | (with_reducible refine Kd.C_alloc ?_ _) | (with_reducible refine Kd.C_drewN ?_ _) | (with_reducible refine Kd.C_drew ?_))); (case aB => exact (be HB)); (case aF => exact (fun _ _ => trivial)); (case aO => exact (ro HO343)); (case aS => exact (below_size (be HB))); (case aL => have := LMc2.out; omega); intro v345 w5 ho hb hg hat; rw [← Ny344.out] at ho; replace HB := Aside0.mk (hb); have HO346 := Aside0.mk (ho); clear HO343; clear ho hb hg hat))
  go_ret
  exact ⟨_, er, by (with_reducible repeat (first | apply Kd.R_alloc | apply Kd.R_drewN | apply Kd.R_drew)); exact HO346.out, be HB⟩
 rw [if_neg c2] at H
 exact absurd H (by simp)

/-! ### slices_Sort_int_int: function 58 -/
def slices_Sort_int_int.f (k : Nat) (l0 : List Int) : Option (List Int) := match k with | 0 => none | _ + 1 => if l0.length < 4611686018427387904 then some (l0.mergeSort fun x y => decide (x ≤ y)) else none
theorem slices_Sort_int_int.mono : ∀ a0 k, LeO (slices_Sort_int_int.f k a0) (slices_Sort_int_int.f (k + 1) a0) := by
 intro a0 k
 cases k with
 | zero => exact LeO.none _
 | succ k => exact LeO.refl _
set_option maxHeartbeats 8000000 in
set_option maxRecDepth 100000 in
theorem slices_Sort_int_int.calls (k : Nat) (P0_ : Nat → Prop) (u9000_ : Value) (l0 : List Int) (r : List Int) (w0 w : World) (hB : Below w0.heap.size w0 w) (ho0 : Kd.R (Kd.int .i64) 3 w w0.heap.size P0_ u9000_ l0) (h : slices_Sort_int_int.f k l0 = some r) :
  Calls Try.prog 58 #[u9000_] w fun e w' => e = .returned (.tuple #[]) ∧ Kd.R (Kd.int .i64) 3 w' w0.heap.size (fun k_ => (P0_ k_ ∨ w.heap.size ≤ k_)) u9000_ r ∧ Below w0.heap.size w0 w' ∧ Kept w w' (fun k_ => P0_ k_) := by
 cases k with
 | zero => cases h
 | succ k =>
 have h' : (if l0.length < 4611686018427387904 then some (l0.mergeSort fun x y => decide (x ≤ y)) else none) = some r := h
 clear h
 by_cases hlen : l0.length < 4611686018427387904
 case neg => rw [if_neg hlen] at h'; cases h'
 rw [if_pos hlen] at h'
 obtain rfl := Option.some.inj h'
 clear h'
 rcases Nat.eq_zero_or_pos l0.length with hz | hn
 ·obtain rfl := List.length_eq_zero_iff.1 hz
  obtain ⟨A, c, rfl⟩ := Kd.R_slice ho0
  refine (Try.slices_Sort_int_none A c w).mono ?_
  rintro e w' ⟨rfl, rfl⟩
  refine ⟨rfl, ?_, hB, Kept.refl _ _⟩
  rw [List.mergeSort_nil]
  exact Kd.R_mono ho0 (fun k_ hk => (.inl hk))
 obtain ⟨g, cap, cur, rfl, hg, hh, hc1, hc2, hs, ht, hok⟩ := Ow.opened ho0 hn
 have hm : cap ≤ 9223372036854775807 := hc2
 refine (Try.slices_Sort_int g 0 cap l0 w (Go.holds_of_blockI hh ht) (blk_lt hh) hlen).mono ?_
 rintro e w' ⟨rfl, n, os, rfl⟩
 have hgr := Go.grownBy_sortedI (w := w) (g := g) (n := n) (os := os) (l0.mergeSort fun x y => decide (x ≤ y)).toArray
 have hl : (l0.mergeSort fun x y => decide (x ≤ y)).length = l0.length := List.length_mergeSort _
 refine ⟨rfl, ?_, ?_, ?_⟩
 ·have hm := Ow.made (α := Int) (enc := Value.int .i64) (h1 := fun _ => rfl) (base := w0.heap.size) (ok := fun k_ => (P0_ k_ ∨ w.heap.size ≤ k_)) (xs := l0.mergeSort fun x y => decide (x ≤ y)) (cap := cap) (.inl hok) hg (Go.heap_sortedI (n := n) (os := os) (l0.mergeSort fun x y => decide (x ≤ y)).toArray hh) (by rw [hl]; exact hc1) hc2 (by unfold Go.Sort.putCells; rw [Array.size_mapIdx]; exact hs) (Go.take_putCellsI _ _ (by rw [hl]; omega))
  rw [hl] at hm
  exact hm
 ·exact ⟨hgr.os.trans hB.os, hgr.tape.trans hB.tape, hgr.output.trans hB.output, Nat.le_trans hB.size hgr.size, fun i hi => (hgr.block i (Nat.lt_of_lt_of_le hi hB.size) (fun he => by have := Option.some.inj he; omega)).trans (hB.block i hi)⟩
 ·exact (Kept.refl w _).of_grown hgr (fun k hk => .inl (Option.some.inj hk ▸ hok))


/-! ### impl_within: function 46 -/
def impl_within.f (a0 : Int) (a1 : Int) (a2 : Int) : Option (Bool) := if a0 ≥ a1 then (some (decide (a0 ≤ a2))) else (some false)
set_option maxHeartbeats 8000000 in
set_option maxRecDepth 100000 in
theorem impl_within.calls (a0 : Int) (a1 : Int) (a2 : Int) (r : Bool) (w : World) (h : impl_within.f a0 a1 a2 = some r) :
  Calls Try.prog 46 #[.int .i64 a0, .int .i64 a1, .int .i64 a2] w fun e w' => e = .returned (.bool r) ∧ Drawn0 w w' := by
 have H : (if a0 ≥ a1 then (some (decide (a0 ≤ a2))) else (some false)) = some r := h
 clear h
 by_cases c4 : a0 ≥ a1
 ·rw [if_pos c4] at H
  have c4b0 : decide (a1 ≤ a0) = true := decide_eq_true c4
  clear c4
  obtain rfl := Option.some.inj H
  go_enter Try.func46, Try.ntmps46
  go_wp2
  go_ret
  exact ⟨by first | rfl | (simp; done) | (simp [*]; done), by repeat (first | exact Drawn0.refl _ | apply Drawn0.step)⟩
 rw [if_neg c4] at H
 have c4b0 : decide (a1 ≤ a0) = false := decide_eq_false c4
 clear c4
 obtain rfl := Option.some.inj H
 go_enter Try.func46, Try.ntmps46
 go_wp2
 go_ret
 exact ⟨by first | rfl | (simp; done) | (simp [*]; done), by repeat (first | exact Drawn0.refl _ | apply Drawn0.step)⟩

/-! ### impl_Ages_inLimbo: function 62 -/
def impl_Ages_inLimbo.l0 : Nat → Int → List (S70) → Int → Int → Option (Int)
 | 0, _, _, _, _ => none
 | k + 1, x1, x8, x9, x10 => if x10 < x9 then (if 0 ≤ x10 then (if x10 < (x8.length : Int) then (if ((rd_T70 x8 x10).f0) = x1 then (some x10) else (impl_Ages_inLimbo.l0 k x1 x8 x9 (wrap64 (x10 + 1)))) else (none)) else (none)) else (some (-1))
def impl_Ages_inLimbo.f (k : Nat) (a0_0 : Int) (l0_1 : List Int) (l0_2 : List (S70)) (a1 : Int) : Option (Int) := impl_Ages_inLimbo.l0 k a1 l0_2 (l0_2.length : Int) 0
theorem impl_Ages_inLimbo.mono_l : ∀ k, (∀ y0 y1 y2 y3, LeO (impl_Ages_inLimbo.l0 k y0 y1 y2 y3) (impl_Ages_inLimbo.l0 (k + 1) y0 y1 y2 y3))
 | 0 => fun _ _ _ _ r h => by simp [impl_Ages_inLimbo.l0] at h
 | k + 1 => by
  have ih0 := impl_Ages_inLimbo.mono_l k
  ·intro y0 y1 y2 y3
   unfold impl_Ages_inLimbo.l0
   repeat' first
   | (with_reducible exact ih0 _ _ _ _)
   | (with_reducible exact LeO.refl _)
   | (with_reducible exact LeO.none _)
   | (with_reducible refine LeO.ite ?_ ?_)
   | (with_reducible refine LeO.bind ?_ (fun _ => ?_))
   | exact ih0 _ _ _ _
   | exact LeO.none _
   | refine LeO.ite ?_ ?_
   | refine LeO.bind ?_ (fun _ => ?_)
theorem impl_Ages_inLimbo.mono : ∀ a0 a1 a2 a3 k, LeO (impl_Ages_inLimbo.f k a0 a1 a2 a3) (impl_Ages_inLimbo.f (k + 1) a0 a1 a2 a3) := by
 intro a0 a1 a2 a3 k
 have ih0 := impl_Ages_inLimbo.mono_l k
 unfold impl_Ages_inLimbo.f
 repeat' first
   | (with_reducible exact ih0 _ _ _ _)
   | (with_reducible exact LeO.refl _)
   | (with_reducible exact LeO.none _)
   | (with_reducible refine LeO.ite ?_ ?_)
   | (with_reducible refine LeO.bind ?_ (fun _ => ?_))
   | exact ih0 _ _ _ _
   | exact LeO.none _
   | refine LeO.ite ?_ ?_
   | refine LeO.bind ?_ (fun _ => ?_)
set_option maxHeartbeats 8000000 in
set_option maxRecDepth 100000 in
theorem impl_Ages_inLimbo.calls (k : Nat) (a0_0 : Int) (A0_1 : Option Addr) (c0_1 : Nat) (l0_1 : List Int) (A0_2 : Option Addr) (c0_2 : Nat) (l0_2 : List (S70)) (a1 : Int) (r : Int) (w : World) (hr0_1 : Kd.C (Kd.int .i64) w A0_1 l0_1.length l0_1) (hc0_1 : l0_1.length ≤ c0_1) (hr0_2 : Kd.C k70 w A0_2 l0_2.length l0_2) (hc0_2 : l0_2.length ≤ c0_2) (h : impl_Ages_inLimbo.f k a0_0 l0_1 l0_2 a1 = some r) :
  Calls Try.prog 62 #[.agg #[.int .i64 a0_0, .slice A0_1 l0_1.length c0_1, .slice A0_2 l0_2.length c0_2], .int .i64 a1] w fun e w' => e = .returned (.int .i64 r) ∧ Below w.heap.size w w' := by
 have hu25 := Try.underlying25
 have hu70 := Try.underlying70
 have HR0_1 := Aside0.mk hr0_1
 have HC0_1 := Aside0.mk hc0_1
 clear hr0_1 hc0_1
 have HR0_2 := Aside0.mk hr0_2
 have HC0_2 := Aside0.mk hc0_2
 clear hr0_2 hc0_2
 have HB := Aside0.mk (Below.refl w.heap.size w)
 have H : (impl_Ages_inLimbo.l0 k a1 l0_2 (l0_2.length : Int) 0) = some r := h
 clear h
 have H' := Aside0.mk H
 clear H
 go_enter Try.func62, Try.ntmps62
 go_wp2_with (first | ((with_reducible refine gate_dst (N := 2) rfl ?_); refine bx 2 #[.int .i64 a0_0, .slice A0_1 l0_1.length c0_1, .slice A0_2 l0_2.length c0_2] 25 ?_; intro gb348 hg w3 hbox hb; have BK348 := am hbox; have GW348 := gs0 hg HB; have GE348 := gs0 hg HB; replace HB := s0 HB hb; clear hb hbox hg; have hcz4_0 := bz3 BK348))
 go_loopg [10] k (fun kq v10 w' => ∃ (x10_1 : Int), v10 = .int .i64 x10_1 ∧ Aside0 (impl_Ages_inLimbo.l0 kq a1 l0_2 (l0_2.length : Int) x10_1 = some r) ∧ Aside0 (kq ≤ k) ∧ Aside0 (w'.heap[gb348]? = some (.cells #[.int .i64 a0_0, (.slice A0_1 l0_1.length c0_1), (.slice A0_2 l0_2.length c0_2)] 25 (0, 0))) ∧ Aside0 (Below w.heap.size w w'))
 case atStart => exact ⟨(0), rs, H', ⟨Nat.le_refl _⟩, ⟨bk BK348⟩, ⟨be1 HB GE348⟩⟩
 case round =>
  clear H'
  try clear p2; try clear hcz4_0
  obtain ⟨x10_1, rfl, HA, HK1, BK348, HB⟩ := hrel
  cases gk with
  | zero => exact absurd HA.out (by simp [impl_Ages_inLimbo.l0])
  | succ k1 =>
   have H := HA.out
   clear HA
   simp only [impl_Ages_inLimbo.l0] at H
   by_cases c5 : x10_1 < (l0_2.length : Int)
   ·rw [if_pos c5] at H
    have c5b0 : decide (x10_1 < (l0_2.length : Int)) = true := decide_eq_true c5
    clear c5
    by_cases c6 : 0 ≤ x10_1
    ·rw [if_pos c6] at H
     have c6b0 : decide (0 ≤ x10_1) = true := decide_eq_true c6
     clear c6
     by_cases c7 : x10_1 < (l0_2.length : Int)
     ·rw [if_pos c7] at H
      have c7b0 : decide (x10_1 < (l0_2.length : Int)) = true := decide_eq_true c7
      clear c7
      by_cases c8 : ((rd_T70 l0_2 x10_1).f0) = a1
      ·rw [if_pos c8] at H
       have c8b0 : (((rd_T70 l0_2 x10_1).f0) == a1) = true := beq_iff_eq.mpr c8
       have c8b1 : (((rd_T70 l0_2 x10_1).f0) != a1) = false := bne_eq_false_iff_eq.mpr c8
       clear c8
       obtain rfl := Option.some.inj H
       have p349 : 0 ≤ (x10_1 : Int) := od
       have q349 : x10_1 < (l0_2.length : Int) := od
       obtain ⟨ad349, e349, hx349_0, hx349_1⟩ := at_T70 HR0_2.out x10_1 p349 q349
       cases e349
       replace hx349_0 := hc HB hx349_0
       replace hx349_1 := hc HB hx349_1
       replace p349 := eq_true p349
       replace q349 := eq_true q349
       go_wp2_with (first | ((with_reducible refine gate_dst (N := 6) rfl ?_); refine bx 6 #[.int .i64 0, .int .i64 0] 70 ?_; intro gb350 hg w9 hbox hb; have BK350 := am hbox; have GW350 := gs1 hg HB GE348; have GE350 := gs1 hg HB GE348; replace HB := Aside0.mk (below_step (be1 HB GE348) hb); have NB348_350 := Aside0.mk ((by rw [hg]; exact Nat.ne_of_lt (bl BK348) : gb348 ≠ gb350)); have NB350_348 := Aside0.mk ((by rw [hg]; exact Nat.ne_of_gt (bl BK348) : gb350 ≠ gb348)); replace BK348 := bb BK348 hb; clear hb hbox hg; have hnb10 := NB350_348.out; have hnc10 := NB348_350.out; have hcz11_0 := bz2 BK350))
       go_ret
       exact ⟨er, be2 HB GE348 GE350⟩
      rw [if_neg c8] at H
      have c8b0 : (((rd_T70 l0_2 x10_1).f0) == a1) = false := beq_eq_false_iff_ne.mpr c8
      have c8b1 : (((rd_T70 l0_2 x10_1).f0) != a1) = true := bne_iff_ne.mpr c8
      have H' := Aside0.mk H
      clear H
      have p349 : 0 ≤ (x10_1 : Int) := od
      have q349 : x10_1 < (l0_2.length : Int) := od
      obtain ⟨ad349, e349, hx349_0, hx349_1⟩ := at_T70 HR0_2.out x10_1 p349 q349
      cases e349
      replace hx349_0 := hc HB hx349_0
      replace hx349_1 := hc HB hx349_1
      replace p349 := eq_true p349
      replace q349 := eq_true q349
      go_wp2_with (first | ((with_reducible refine gate_dst (N := 6) rfl ?_); refine bx 6 #[.int .i64 0, .int .i64 0] 70 ?_; intro gb350 hg w12 hbox hb; have BK350 := am hbox; have GW350 := gs1 hg HB GE348; have GE350 := gs1 hg HB GE348; replace HB := Aside0.mk (below_step (be1 HB GE348) hb); have NB348_350 := Aside0.mk ((by rw [hg]; exact Nat.ne_of_lt (bl BK348) : gb348 ≠ gb350)); have NB350_348 := Aside0.mk ((by rw [hg]; exact Nat.ne_of_gt (bl BK348) : gb350 ≠ gb348)); replace BK348 := bb BK348 hb; clear hb hbox hg; have hnb13 := NB350_348.out; have hnc13 := NB348_350.out; have hcz14_0 := bz2 BK350))
      go_roundg k1
      case measure => have := HK1.out; omega
      case rel => exact ⟨(wrap64 (x10_1 + 1)), rs, H', ⟨by have := HK1.out; omega⟩, ⟨by (with_reducible repeat (first | refine blk_drewN ?_ _ | refine blk_drew ?_ | refine blk_alloc ?_ _)); refine blk_far ?_ NB348_350.out _; (with_reducible repeat (first | refine blk_drewN ?_ _ | refine blk_drew ?_ | refine blk_alloc ?_ _)); refine blk_far ?_ NB348_350.out _; (with_reducible repeat (first | refine blk_drewN ?_ _ | refine blk_drew ?_ | refine blk_alloc ?_ _)); exact BK348.out⟩, ⟨be2 HB GE348 GE350⟩⟩
     rw [if_neg c7] at H
     exact absurd H (by simp)
    rw [if_neg c6] at H
    exact absurd H (by simp)
   rw [if_neg c5] at H
   have c5b0 : decide (x10_1 < (l0_2.length : Int)) = false := decide_eq_false c5
   clear c5
   obtain rfl := Option.some.inj H
   go_wp2
   go_ret
   exact ⟨er, be1 HB GE348⟩

/-! ### impl_isNum: function 93 -/
def impl_isNum.f (a0 : Int) : Option (Bool) := (impl_within.f a0 0 4294967295).bind fun t351 => (some t351)
set_option maxHeartbeats 8000000 in
set_option maxRecDepth 100000 in
theorem impl_isNum.calls (a0 : Int) (r : Bool) (w : World) (h : impl_isNum.f a0 = some r) :
  Calls Try.prog 93 #[.int .i64 a0] w fun e w' => e = .returned (.bool r) ∧ Drawn0 w w' := by
 have H : ((impl_within.f a0 0 4294967295).bind fun t351 => (some t351)) = some r := h
 clear h
 replace H := Option.bind_eq_some_iff.mp H
 obtain ⟨t351, A20, H⟩ := H
 replace H : (some t351) = some r := H
 have A2 := Aside0.mk A20
 clear A20
 obtain rfl := Option.some.inj H
 go_enter Try.func93, Try.ntmps93
 go_wp2_with (first | ((with_reducible refine gate_callee (f := 46) rfl ?_); refine gl 4 Try.func46 #[.int .i64 a0, .int .i64 0, .int .i64 4294967295] ?_; (with_reducible refine (impl_within.calls a0 0 4294967295 t351 _ A2.out).mono ?_); rintro e w' ⟨rfl, ⟨nd, rfl⟩⟩; refine ⟨_, rfl, ?_⟩))
 go_ret
 exact ⟨by first | rfl | (simp; done) | (simp [*]; done), by repeat (first | exact Drawn0.refl _ | apply Drawn0.step)⟩

end Go.Proofs.Ytdgpidhlbpaolaa.QFnExactTurn
