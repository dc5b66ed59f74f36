-- made by a program of this session (myprint.py)
import Derived.Test.YtdgpidhlbpaolaaOw
import Derived.Test.YtdgpidhlbpaolaaSh
import Derived.Test.YtdgpidhlbpaolaaQFnExactAllocx0
import Derived.Test.YtdgpidhlbpaolaaQFnExactAllocx5
import Derived.Test.YtdgpidhlbpaolaaQFnExactAllocx7
namespace Go.Proofs.Ytdgpidhlbpaolaa.QFnExactAlloc
open Go.RowKit Go.Proofs.YtdgpidhlbpaolaaW.PrintWords Go.Proofs.YtdgpidhlbpaolaaW.PrintLast Go.Proofs.YtdgpidhlbpaolaaW.PrintMore
attribute [local go_sem] max2_int min2_int max_two min_two max_three min_three max_four min_four   -- for this text's walks alone
set_option linter.unusedVariables false
set_option linter.unusedSimpArgs false

/-! ### spec_Alloc: function 25 -/
def spec_Alloc.f (k : Nat) (l0_0 : List Int) (a0_1 : Int) (l0_2 : List Int) (l0_3 : List (S70)) (l0_4 : List Int) : Option (List Int × Int × List Int × (List (S70)) × List Int × Int × Bool) := (spec_PoolOk.f k l0_0 a0_1 l0_2 l0_3 l0_4).bind fun t293 => (if t293 = true then ((spec_l09Copy.f l0_0 a0_1 l0_2 l0_3 l0_4).bind fun bt294 => (if (l0_0.length : Int) = 0 then (some (bt294.1, bt294.2.1, bt294.2.2.1, bt294.2.2.2.1, bt294.2.2.2.2, 0, false)) else (if 1 ≤ (bt294.1.length : Int) then (if 0 < (l0_0.length : Int) then ((spec_l08With.f k bt294.2.2.2.2 (rd l0_0 0)).bind fun t312 => (some ((bt294.1.drop (1 : Int).toNat), bt294.2.1, bt294.2.2.1, bt294.2.2.2.1, t312, rd l0_0 0, true))) else (none)) else (none)))) else (some (([] : List Int), 0, ([] : List Int), ([] : List (S70)), ([] : List Int), 0, false)))
theorem spec_Alloc.mono : ∀ a0 a1 a2 a3 a4 k, LeO (spec_Alloc.f k a0 a1 a2 a3 a4) (spec_Alloc.f (k + 1) a0 a1 a2 a3 a4) := by
 intro a0 a1 a2 a3 a4 k
 unfold spec_Alloc.f
 repeat' first
   | (with_reducible exact spec_PoolOk.mono _ _ _ _ _ _)
   | (with_reducible exact spec_l08With.mono _ _ _)
   | (with_reducible exact LeO.refl _)
   | (with_reducible exact LeO.none _)
   | (with_reducible refine LeO.ite ?_ ?_)
   | (with_reducible refine LeO.bind ?_ (fun _ => ?_))
   | exact spec_PoolOk.mono _ _ _ _ _ _
   | exact spec_l08With.mono _ _ _
   | exact LeO.none _
   | refine LeO.ite ?_ ?_
   | refine LeO.bind ?_ (fun _ => ?_)
def spec_Alloc.T7 : Bool × List (List Nat × List Nat) := (true, [([], []), ([0], [0]), ([], []), ([2], [2]), ([3], [3]), ([4], [4]), ([1, 5], [1, 5]), ([0, 1, 2, 3, 4, 5, 6], []), ([7, 6, 6, 0, 1, 2, 3, 4, 5, 6], [6, 7])])
def spec_Alloc.B7 : List Nat := [0, 1, 0, 4, 12, 28, 63, 127, 255]
theorem spec_Alloc.tab7 : rtab .any (opsOf Try.f25 7) = spec_Alloc.T7 := by kernel_rfl
theorem spec_Alloc.bits7 : waitsOk spec_Alloc.T7.2 spec_Alloc.B7 = true := by kernel_rfl
def spec_Alloc.T8 : Bool × List (List Nat × List Nat) := (true, [([], []), ([], []), ([1], [1]), ([2], [2]), ([3], [3]), ([0, 0], [0]), ([4, 5, 0, 1, 2, 3, 4, 5], [4]), ([6, 0, 1, 2, 3, 4, 5, 6], [])])
def spec_Alloc.B8 : List Nat := [0, 0, 2, 6, 14, 1, 63, 127]
theorem spec_Alloc.tab8 : rtab .any (opsOf Try.f25 8) = spec_Alloc.T8 := by kernel_rfl
theorem spec_Alloc.bits8 : waitsOk spec_Alloc.T8.2 spec_Alloc.B8 = true := by kernel_rfl
set_option maxHeartbeats 8000000 in
set_option maxRecDepth 100000 in
theorem spec_Alloc.calls (k : Nat) (A0_0 : Option Addr) (c0_0 : Nat) (l0_0 : List Int) (a0_1 : Int) (A0_2 : Option Addr) (c0_2 : Nat) (l0_2 : List Int) (A0_3 : Option Addr) (c0_3 : Nat) (l0_3 : List (S70)) (A0_4 : Option Addr) (c0_4 : Nat) (l0_4 : List Int) (r1 : List Int) (r2 : Int) (r3 : List Int) (r4 : List (S70)) (r5 : List Int) (r6 : Int) (r7 : Bool) (w : World) (hr0_0 : Kd.C (Kd.int .i64) w A0_0 l0_0.length l0_0) (hc0_0 : l0_0.length ≤ c0_0) (hr0_2 : Kd.C (Kd.int .i64) w A0_2 l0_2.length l0_2) (hc0_2 : l0_2.length ≤ c0_2) (hr0_3 : Kd.C k70 w A0_3 l0_3.length l0_3) (hc0_3 : l0_3.length ≤ c0_3) (hr0_4 : Kd.C (Kd.int .i64) w A0_4 l0_4.length l0_4) (hc0_4 : l0_4.length ≤ c0_4) (h : spec_Alloc.f k l0_0 a0_1 l0_2 l0_3 l0_4 = some (r1, r2, r3, r4, r5, r6, r7)) :
  Calls Try.prog 25 #[.agg #[.slice A0_0 l0_0.length c0_0, .int .i64 a0_1, .slice A0_2 l0_2.length c0_2, .slice A0_3 l0_3.length c0_3, .slice A0_4 l0_4.length c0_4]] w fun e w' => ∃ v0_ v2_ v3_ v4_ : Value, e = .returned (.tuple #[.agg #[v0_, .int .i64 r2, v2_, v3_, v4_], .int .i64 r6, .bool r7]) ∧ Kd.Q (Kd.int .i64) 3 w' w.heap.size (fun k_ => some k_ ≠ (v2_ : Value).ownBlock ∧ some k_ ≠ (v4_ : Value).ownBlock) v0_ r1 ∧ Kd.R (Kd.int .i64) 3 w' w.heap.size (fun k_ => some k_ ≠ (v0_ : Value).ownBlock ∧ some k_ ≠ (v4_ : Value).ownBlock) v2_ r3 ∧ Kd.R k70 70 w' w.heap.size (fun _ => True) v3_ r4 ∧ Kd.R (Kd.int .i64) 3 w' w.heap.size (fun k_ => some k_ ≠ (v0_ : Value).ownBlock ∧ some k_ ≠ (v2_ : Value).ownBlock) v4_ r5 ∧ Below w.heap.size w w' := by
 have hu27 := Try.underlying27
 have HR0_0 := Aside0.mk hr0_0
 have HC0_0 := Aside0.mk hc0_0
 clear hr0_0 hc0_0
 have HR0_2 := Aside0.mk hr0_2
 have HC0_2 := Aside0.mk hc0_2
 clear hr0_2 hc0_2
 have HR0_3 := Aside0.mk hr0_3
 have HC0_3 := Aside0.mk hc0_3
 clear hr0_3 hc0_3
 have HR0_4 := Aside0.mk hr0_4
 have HC0_4 := Aside0.mk hc0_4
 clear hr0_4 hc0_4
 have HB := Aside0.mk (Below.refl w.heap.size w)
 have H : ((spec_PoolOk.f k l0_0 a0_1 l0_2 l0_3 l0_4).bind fun t293 => (if t293 = true then ((spec_l09Copy.f l0_0 a0_1 l0_2 l0_3 l0_4).bind fun bt294 => (if (l0_0.length : Int) = 0 then (some (bt294.1, bt294.2.1, bt294.2.2.1, bt294.2.2.2.1, bt294.2.2.2.2, 0, false)) else (if 1 ≤ (bt294.1.length : Int) then (if 0 < (l0_0.length : Int) then ((spec_l08With.f k bt294.2.2.2.2 (rd l0_0 0)).bind fun t312 => (some ((bt294.1.drop (1 : Int).toNat), bt294.2.1, bt294.2.2.1, bt294.2.2.2.1, t312, rd l0_0 0, true))) else (none)) else (none)))) else (some (([] : List Int), 0, ([] : List Int), ([] : List (S70)), ([] : List Int), 0, false)))) = some (r1, r2, r3, r4, r5, r6, r7) := h
 clear h
 replace H := Option.bind_eq_some_iff.mp H
 obtain ⟨t293, A20, H⟩ := H
 replace H : (if t293 = true then ((spec_l09Copy.f l0_0 a0_1 l0_2 l0_3 l0_4).bind fun bt294 => (if (l0_0.length : Int) = 0 then (some (bt294.1, bt294.2.1, bt294.2.2.1, bt294.2.2.2.1, bt294.2.2.2.2, 0, false)) else (if 1 ≤ (bt294.1.length : Int) then (if 0 < (l0_0.length : Int) then ((spec_l08With.f k bt294.2.2.2.2 (rd l0_0 0)).bind fun t312 => (some ((bt294.1.drop (1 : Int).toNat), bt294.2.1, bt294.2.2.1, bt294.2.2.2.1, t312, rd l0_0 0, true))) else (none)) else (none)))) else (some (([] : List Int), 0, ([] : List Int), ([] : List (S70)), ([] : List Int), 0, false))) = some (r1, r2, r3, r4, r5, r6, r7) := H
 have A2 := Aside0.mk A20
 clear A20
 by_cases c3 : t293 = true
 ·subst c3
  have H1 : ((spec_l09Copy.f l0_0 a0_1 l0_2 l0_3 l0_4).bind fun bt294 => (if (l0_0.length : Int) = 0 then (some (bt294.1, bt294.2.1, bt294.2.2.1, bt294.2.2.2.1, bt294.2.2.2.2, 0, false)) else (if 1 ≤ (bt294.1.length : Int) then (if 0 < (l0_0.length : Int) then ((spec_l08With.f k bt294.2.2.2.2 (rd l0_0 0)).bind fun t312 => (some ((bt294.1.drop (1 : Int).toNat), bt294.2.1, bt294.2.2.1, bt294.2.2.2.1, t312, rd l0_0 0, true))) else (none)) else (none)))) = some (r1, r2, r3, r4, r5, r6, r7) := by rw [if_pos rfl] at H; exact H
  clear H
  have H := H1
  clear H1
  replace H := Option.bind_eq_some_iff.mp H
  obtain ⟨⟨t294, t297, t298, t301, t304⟩, A40, H⟩ := H
  replace H : (if (l0_0.length : Int) = 0 then (some (t294, t297, t298, t301, t304, 0, false)) else (if 1 ≤ (t294.length : Int) then (if 0 < (l0_0.length : Int) then ((spec_l08With.f k t304 (rd l0_0 0)).bind fun t312 => (some ((t294.drop (1 : Int).toNat), t297, t298, t301, t312, rd l0_0 0, true))) else (none)) else (none))) = some (r1, r2, r3, r4, r5, r6, r7) := H
  have A4 := Aside0.mk A40
  clear A40
  by_cases c5 : (l0_0.length : Int) = 0
  ·rw [if_pos c5] at H
   have c5b0 : ((l0_0.length : Int) == 0) = true := beq_iff_eq.mpr c5
   have c5b1 : ((l0_0.length : Int) != 0) = false := bne_eq_false_iff_eq.mpr c5
   clear c5
   simp only [Option.some.injEq, Prod.mk.injEq] at H
   obtain ⟨rfl, rfl, rfl, rfl, rfl, rfl, rfl⟩ := H
   go_enter Try.func25, Try.ntmps25
   go_wp2_with (first | ((with_reducible refine gate_dst (N := 1) rfl ?_); refine bx 1 #[.slice A0_0 l0_0.length c0_0, .int .i64 a0_1, .slice A0_2 l0_2.length c0_2, .slice A0_3 l0_3.length c0_3, .slice A0_4 l0_4.length c0_4] 27 ?_; intro gb291 hg w6 hbox hb; have BK291 := am hbox; have GW291 := gs0 hg HB; have GE291 := gs0 hg HB; replace HB := s0 HB hb; clear hb hbox hg) | ((with_reducible refine gate_dst (N := 2) rfl ?_); refine bx 2 #[.slice none 0 0, .int .i64 0, .slice none 0 0, .slice none 0 0, .slice none 0 0] 27 ?_; intro gb292 hg w7 hbox hb; have BK292 := am hbox; have GW292 := gs1 hg HB GE291; have GE292 := gs1 hg HB GE291; replace HB := Aside0.mk (below_step (be1 HB GE291) hb); have NB291_292 := Aside0.mk ((by rw [hg]; exact Nat.ne_of_lt (bl BK291) : gb291 ≠ gb292)); have NB292_291 := Aside0.mk ((by rw [hg]; exact Nat.ne_of_gt (bl BK291) : gb292 ≠ gb291)); replace BK291 := bb BK291 hb; clear hb hbox hg; have hnb8 := NB291_292.out; have hnc8 := NB292_291.out; have hcz9_0 := bz5 BK291) | ((with_reducible refine gate_callee (f := 20) rfl ?_); refine gl 7 Try.func20 #[.agg #[.slice A0_0 l0_0.length c0_0, .int .i64 a0_1, .slice A0_2 l0_2.length c0_2, .slice A0_3 l0_3.length c0_3, .slice A0_4 l0_4.length c0_4]] ?_; (with_reducible refine (spec_PoolOk.calls k _ _ l0_0 a0_1 _ _ l0_2 _ _ l0_3 _ _ l0_4 true _ (cb HR0_0 HB) HC0_0.out (cb HR0_2 HB) HC0_2.out (cb HR0_3 HB) HC0_3.out (cb HR0_4 HB) HC0_4.out A2.out).mono ?_); rintro e w10 ⟨rfl, hb⟩; refine ⟨_, rfl, ?_⟩; replace BK291 := bb BK291 hb; replace BK292 := bb BK292 hb; replace HB := Aside0.mk (below_step (be2 HB GE291 GE292) hb); (try clear hb); have hcz11_0 := bz5 BK291) | ((with_reducible refine gate_callee (f := 64) rfl ?_); refine gl 11 Try.func64 #[.agg #[.slice A0_0 l0_0.length c0_0, .int .i64 a0_1, .slice A0_2 l0_2.length c0_2, .slice A0_3 l0_3.length c0_3, .slice A0_4 l0_4.length c0_4]] ?_; (with_reducible refine (spec_l09Copy.calls _ _ l0_0 a0_1 _ _ l0_2 _ _ l0_3 _ _ l0_4 t294 t297 t298 t301 t304 _ (cb HR0_0 HB) HC0_0.out (cb HR0_2 HB) HC0_2.out (cb HR0_3 HB) HC0_3.out (cb HR0_4 HB) HC0_4.out A4.out).mono ?_); rintro e w12 ⟨v295, v299, v302, v305, rfl, ho0, ho1, ho2, ho3, hb⟩; refine ⟨_, rfl, ?_⟩; have HO296 := Aside0.mk (Kd.R_lower ho0 (below_size (be2 HB GE291 GE292))); have HO300 := Aside0.mk (Kd.R_lower ho1 (below_size (be2 HB GE291 GE292))); have HO303 := Aside0.mk (Kd.R_lower ho2 (below_size (be2 HB GE291 GE292))); have HO306 := Aside0.mk (Kd.R_lower ho3 (below_size (be2 HB GE291 GE292))); replace BK291 := bb BK291 hb; replace BK292 := bb BK292 hb; replace HB := Aside0.mk (below_step (be2 HB GE291 GE292) hb); (try clear hb); (try clear ho0); (try clear ho1); (try clear ho2); (try clear ho3)) | ((with_reducible refine gate_dst (N := 5) rfl ?_); refine bx 5 #[.slice none 0 0, .int .i64 0, .slice none 0 0, .slice none 0 0, .slice none 0 0] 27 ?_; intro gb307 hg w13 hbox hb; replace HO296 := rb HO296 hb; replace HO300 := rb HO300 hb; replace HO303 := rb HO303 hb; replace HO306 := rb HO306 hb; have BK307 := am hbox; have GW307 := gs2 hg HB GE291 GE292; have GE307 := gs2 hg HB GE291 GE292; replace HB := Aside0.mk (below_step (be2 HB GE291 GE292) hb); have NB291_307 := Aside0.mk ((by rw [hg]; exact Nat.ne_of_lt (bl BK291) : gb291 ≠ gb307)); have NB307_291 := Aside0.mk ((by rw [hg]; exact Nat.ne_of_gt (bl BK291) : gb307 ≠ gb291)); replace BK291 := bb BK291 hb; have NB292_307 := Aside0.mk ((by rw [hg]; exact Nat.ne_of_lt (bl BK292) : gb292 ≠ gb307)); have NB307_292 := Aside0.mk ((by rw [hg]; exact Nat.ne_of_gt (bl BK292) : gb307 ≠ gb292)); replace BK292 := bb BK292 hb; clear hb hbox hg; obtain ⟨Ao14, co14, eo14⟩ := Kd.R_slice HO296.out; subst eo14; have hnb15 := NB307_291.out; have hnc15 := NB291_307.out; have hnb16 := NB307_292.out; have hnc16 := NB292_307.out; have hcz17_0 := bz5 BK307; obtain ⟨Ao18, co18, eo18⟩ := Kd.R_slice HO300.out; subst eo18; obtain ⟨Ao19, co19, eo19⟩ := Kd.R_slice HO303.out; subst eo19; obtain ⟨Ao20, co20, eo20⟩ := Kd.R_slice HO306.out; subst eo20; have hcz21_0 := bz5 BK291; have hcz22_0 := bz5 BK292))
   refine bodyPost_ret (results_ctt rfl _ _ gb292 27 #[.slice Ao14 t294.length co14, .int .i64 t297, .slice Ao18 t298.length co18, .slice Ao19 t301.length co19, .slice Ao20 t304.length co20] (0, 0) _ rfl (by (with_reducible repeat (first | refine blk_drewN ?_ _ | refine blk_drew ?_ | refine blk_alloc ?_ _)); refine blk_put (cs := #[.slice Ao14 t294.length co14, .int .i64 t297, .slice Ao18 t298.length co18, .slice Ao19 t301.length co19, .slice none 0 0]) ?_ 4 _ rfl; (with_reducible repeat (first | refine blk_drewN ?_ _ | refine blk_drew ?_ | refine blk_alloc ?_ _)); refine blk_put (cs := #[.slice Ao14 t294.length co14, .int .i64 t297, .slice Ao18 t298.length co18, .slice none 0 0, .slice none 0 0]) ?_ 3 _ rfl; (with_reducible repeat (first | refine blk_drewN ?_ _ | refine blk_drew ?_ | refine blk_alloc ?_ _)); refine blk_put (cs := #[.slice Ao14 t294.length co14, .int .i64 t297, .slice none 0 0, .slice none 0 0, .slice none 0 0]) ?_ 2 _ rfl; (with_reducible repeat (first | refine blk_drewN ?_ _ | refine blk_drew ?_ | refine blk_alloc ?_ _)); refine blk_put (cs := #[.slice Ao14 t294.length co14, .int .i64 0, .slice none 0 0, .slice none 0 0, .slice none 0 0]) ?_ 1 _ rfl; (with_reducible repeat (first | refine blk_drewN ?_ _ | refine blk_drew ?_ | refine blk_alloc ?_ _)); refine blk_put (cs := #[.slice none 0 0, .int .i64 0, .slice none 0 0, .slice none 0 0, .slice none 0 0]) ?_ 0 _ rfl; (with_reducible repeat (first | refine blk_drewN ?_ _ | refine blk_drew ?_ | refine blk_alloc ?_ _)); refine blk_far ?_ NB292_307.out _; (with_reducible repeat (first | refine blk_drewN ?_ _ | refine blk_drew ?_ | refine blk_alloc ?_ _)); refine blk_far ?_ NB292_307.out _; (with_reducible repeat (first | refine blk_drewN ?_ _ | refine blk_drew ?_ | refine blk_alloc ?_ _)); refine blk_far ?_ NB292_307.out _; (with_reducible repeat (first | refine blk_drewN ?_ _ | refine blk_drew ?_ | refine blk_alloc ?_ _)); refine blk_far ?_ NB292_307.out _; (with_reducible repeat (first | refine blk_drewN ?_ _ | refine blk_drew ?_ | refine blk_alloc ?_ _)); refine blk_far ?_ NB292_307.out _; (with_reducible repeat (first | refine blk_drewN ?_ _ | refine blk_drew ?_ | refine blk_alloc ?_ _)); exact BK292.out) Try.underlying27 rfl (by kernel_rfl)) rfl ?_
   exact ⟨_, _, _, _, er, Kd.Q_of_R (by (with_reducible repeat (first | apply Kd.R_alloc | apply Kd.R_drewN | apply Kd.R_drew)); exact Kd.R_mono (Kd.R_far (p := ⟨gb292, 4, none⟩) (Kd.R_far (p := ⟨gb292, 3, none⟩) (Kd.R_far (p := ⟨gb292, 2, none⟩) (Kd.R_far (p := ⟨gb292, 1, none⟩) (Kd.R_far (p := ⟨gb292, 0, none⟩) (Kd.R_far (p := ⟨gb307, 4, none⟩) (Kd.R_far (p := ⟨gb307, 3, none⟩) (Kd.R_far (p := ⟨gb307, 2, none⟩) (Kd.R_far (p := ⟨gb307, 1, none⟩) (Kd.R_far (p := ⟨gb307, 0, none⟩) (Kd.R_types (Kd.R_types HO296.out BK307.out (by decide)) BK292.out (by decide)) (fun _ hk => hk.1.2) (.slice Ao14 t294.length co14)) (fun _ hk => hk.1.2) (.int .i64 t297)) (fun _ hk => hk.1.2) (.slice Ao18 t298.length co18)) (fun _ hk => hk.1.2) (.slice Ao19 t301.length co19)) (fun _ hk => hk.1.2) (.slice Ao20 t304.length co20)) (fun _ hk => hk.2) (.slice Ao14 t294.length co14)) (fun _ hk => hk.2) (.int .i64 t297)) (fun _ hk => hk.2) (.slice Ao18 t298.length co18)) (fun _ hk => hk.2) (.slice Ao19 t301.length co19)) (fun _ hk => hk.2) (.slice Ao20 t304.length co20)) (fun _ hk => ⟨hk.1.1.1, hk.1.1.2⟩)), by (with_reducible repeat (first | apply Kd.R_alloc | apply Kd.R_drewN | apply Kd.R_drew)); exact Kd.R_mono (Kd.R_far (p := ⟨gb292, 4, none⟩) (Kd.R_far (p := ⟨gb292, 3, none⟩) (Kd.R_far (p := ⟨gb292, 2, none⟩) (Kd.R_far (p := ⟨gb292, 1, none⟩) (Kd.R_far (p := ⟨gb292, 0, none⟩) (Kd.R_far (p := ⟨gb307, 4, none⟩) (Kd.R_far (p := ⟨gb307, 3, none⟩) (Kd.R_far (p := ⟨gb307, 2, none⟩) (Kd.R_far (p := ⟨gb307, 1, none⟩) (Kd.R_far (p := ⟨gb307, 0, none⟩) (Kd.R_types (Kd.R_types HO300.out BK307.out (by decide)) BK292.out (by decide)) (fun _ hk => hk.1.2) (.slice Ao14 t294.length co14)) (fun _ hk => hk.1.2) (.int .i64 t297)) (fun _ hk => hk.1.2) (.slice Ao18 t298.length co18)) (fun _ hk => hk.1.2) (.slice Ao19 t301.length co19)) (fun _ hk => hk.1.2) (.slice Ao20 t304.length co20)) (fun _ hk => hk.2) (.slice Ao14 t294.length co14)) (fun _ hk => hk.2) (.int .i64 t297)) (fun _ hk => hk.2) (.slice Ao18 t298.length co18)) (fun _ hk => hk.2) (.slice Ao19 t301.length co19)) (fun _ hk => hk.2) (.slice Ao20 t304.length co20)) (fun _ hk => ⟨hk.1.1.1, hk.1.1.2⟩), by (with_reducible repeat (first | apply Kd.R_alloc | apply Kd.R_drewN | apply Kd.R_drew)); exact Kd.R_mono (Kd.R_far (p := ⟨gb292, 4, none⟩) (Kd.R_far (p := ⟨gb292, 3, none⟩) (Kd.R_far (p := ⟨gb292, 2, none⟩) (Kd.R_far (p := ⟨gb292, 1, none⟩) (Kd.R_far (p := ⟨gb292, 0, none⟩) (Kd.R_far (p := ⟨gb307, 4, none⟩) (Kd.R_far (p := ⟨gb307, 3, none⟩) (Kd.R_far (p := ⟨gb307, 2, none⟩) (Kd.R_far (p := ⟨gb307, 1, none⟩) (Kd.R_far (p := ⟨gb307, 0, none⟩) (Kd.R_types (Kd.R_types HO303.out BK307.out (by decide)) BK292.out (by decide)) (fun _ hk => hk.1.2) (.slice Ao14 t294.length co14)) (fun _ hk => hk.1.2) (.int .i64 t297)) (fun _ hk => hk.1.2) (.slice Ao18 t298.length co18)) (fun _ hk => hk.1.2) (.slice Ao19 t301.length co19)) (fun _ hk => hk.1.2) (.slice Ao20 t304.length co20)) (fun _ hk => hk.2) (.slice Ao14 t294.length co14)) (fun _ hk => hk.2) (.int .i64 t297)) (fun _ hk => hk.2) (.slice Ao18 t298.length co18)) (fun _ hk => hk.2) (.slice Ao19 t301.length co19)) (fun _ hk => hk.2) (.slice Ao20 t304.length co20)) (fun _ hk => trivial), by (with_reducible repeat (first | apply Kd.R_alloc | apply Kd.R_drewN | apply Kd.R_drew)); exact Kd.R_mono (Kd.R_far (p := ⟨gb292, 4, none⟩) (Kd.R_far (p := ⟨gb292, 3, none⟩) (Kd.R_far (p := ⟨gb292, 2, none⟩) (Kd.R_far (p := ⟨gb292, 1, none⟩) (Kd.R_far (p := ⟨gb292, 0, none⟩) (Kd.R_far (p := ⟨gb307, 4, none⟩) (Kd.R_far (p := ⟨gb307, 3, none⟩) (Kd.R_far (p := ⟨gb307, 2, none⟩) (Kd.R_far (p := ⟨gb307, 1, none⟩) (Kd.R_far (p := ⟨gb307, 0, none⟩) (Kd.R_types (Kd.R_types HO306.out BK307.out (by decide)) BK292.out (by decide)) (fun _ hk => hk.1.2) (.slice Ao14 t294.length co14)) (fun _ hk => hk.1.2) (.int .i64 t297)) (fun _ hk => hk.1.2) (.slice Ao18 t298.length co18)) (fun _ hk => hk.1.2) (.slice Ao19 t301.length co19)) (fun _ hk => hk.1.2) (.slice Ao20 t304.length co20)) (fun _ hk => hk.2) (.slice Ao14 t294.length co14)) (fun _ hk => hk.2) (.int .i64 t297)) (fun _ hk => hk.2) (.slice Ao18 t298.length co18)) (fun _ hk => hk.2) (.slice Ao19 t301.length co19)) (fun _ hk => hk.2) (.slice Ao20 t304.length co20)) (fun _ hk => ⟨hk.1.1.1, hk.1.1.2⟩), be3 HB GE291 GE292 GE307⟩
  rw [if_neg c5] at H
  have c5b0 : ((l0_0.length : Int) == 0) = false := beq_eq_false_iff_ne.mpr c5
  have c5b1 : ((l0_0.length : Int) != 0) = true := bne_iff_ne.mpr c5
  have c5b2 : ¬ (l0_0 = []) := fun h_ => c5 (by rw [h_]; rfl)
  by_cases c23 : 1 ≤ (t294.length : Int)
  ·rw [if_pos c23] at H
   have c23b0 := eq_true c23
   have c23b1 : decide (1 ≤ (t294.length : Int)) = true := decide_eq_true c23
   clear c23
   obtain ⟨y308, hy308⟩ : ∃ y_ : List Int, y_ = (t294.drop (1 : Int).toNat) := ⟨_, rfl⟩
   replace H : (if 0 < (l0_0.length : Int) then ((spec_l08With.f k t304 (rd l0_0 0)).bind fun t312 => (some (y308, t297, t298, t301, t312, rd l0_0 0, true))) else (none)) = some (r1, r2, r3, r4, r5, r6, r7) := by first | (rw [hy308]; with_reducible exact H) | (have H2_ := (Option.bind_some _ _).symm.trans H; rw [hy308]; with_reducible exact H2_) | (have H2_ := (Option.bind_some _ _).symm.trans H; with_reducible exact H2_) | with_reducible exact H | (rw [hy308]; exact H) | exact H
   have Ny308 := Aside0.mk hy308
   clear hy308
   by_cases c24 : 0 < (l0_0.length : Int)
   ·rw [if_pos c24] at H
    have c24b0 : decide (0 < (l0_0.length : Int)) = true := decide_eq_true c24
    have c24b1 : decide (0 < l0_0.length) = true := decide_eq_true (by omega)
    clear c24
    replace H := Option.bind_eq_some_iff.mp H
    obtain ⟨t312, A250, H⟩ := H
    replace H : (some (y308, t297, t298, t301, t312, rd l0_0 0, true)) = some (r1, r2, r3, r4, r5, r6, r7) := H
    have A25 := Aside0.mk A250
    clear A250
    simp only [Option.some.injEq, Prod.mk.injEq] at H
    obtain ⟨rfl, rfl, rfl, rfl, rfl, rfl, rfl⟩ := H
    go_enter Try.func25, Try.ntmps25
    try go_wp2_with (first | ((with_reducible refine gate_dst (N := 1) rfl ?_); refine bx 1 #[.slice A0_0 l0_0.length c0_0, .int .i64 a0_1, .slice A0_2 l0_2.length c0_2, .slice A0_3 l0_3.length c0_3, .slice A0_4 l0_4.length c0_4] 27 ?_; intro gb291 hg w26 hbox hb; have BK291 := am hbox; have GW291 := gs0 hg HB; have GE291 := gs0 hg HB; replace HB := s0 HB hb; clear hb hbox hg) | ((with_reducible refine gate_dst (N := 2) rfl ?_); refine bx 2 #[.slice none 0 0, .int .i64 0, .slice none 0 0, .slice none 0 0, .slice none 0 0] 27 ?_; intro gb292 hg w27 hbox hb; have BK292 := am hbox; have GW292 := gs1 hg HB GE291; have GE292 := gs1 hg HB GE291; replace HB := Aside0.mk (below_step (be1 HB GE291) hb); have NB291_292 := Aside0.mk ((by rw [hg]; exact Nat.ne_of_lt (bl BK291) : gb291 ≠ gb292)); have NB292_291 := Aside0.mk ((by rw [hg]; exact Nat.ne_of_gt (bl BK291) : gb292 ≠ gb291)); replace BK291 := bb BK291 hb; clear hb hbox hg; have hnb28 := NB291_292.out; have hnc28 := NB292_291.out; have hcz29_0 := bz5 BK291) | ((with_reducible refine gate_callee (f := 20) rfl ?_); refine gl 7 Try.func20 #[.agg #[.slice A0_0 l0_0.length c0_0, .int .i64 a0_1, .slice A0_2 l0_2.length c0_2, .slice A0_3 l0_3.length c0_3, .slice A0_4 l0_4.length c0_4]] ?_; (with_reducible refine (spec_PoolOk.calls k _ _ l0_0 a0_1 _ _ l0_2 _ _ l0_3 _ _ l0_4 true _ (cb HR0_0 HB) HC0_0.out (cb HR0_2 HB) HC0_2.out (cb HR0_3 HB) HC0_3.out (cb HR0_4 HB) HC0_4.out A2.out).mono ?_); rintro e w30 ⟨rfl, hb⟩; refine ⟨_, rfl, ?_⟩; replace BK291 := bb BK291 hb; replace BK292 := bb BK292 hb; replace HB := Aside0.mk (below_step (be2 HB GE291 GE292) hb); (try clear hb); have hcz31_0 := bz5 BK291) | ((with_reducible refine gate_callee (f := 64) rfl ?_); refine gl 11 Try.func64 #[.agg #[.slice A0_0 l0_0.length c0_0, .int .i64 a0_1, .slice A0_2 l0_2.length c0_2, .slice A0_3 l0_3.length c0_3, .slice A0_4 l0_4.length c0_4]] ?_; (with_reducible refine (spec_l09Copy.calls _ _ l0_0 a0_1 _ _ l0_2 _ _ l0_3 _ _ l0_4 t294 t297 t298 t301 t304 _ (cb HR0_0 HB) HC0_0.out (cb HR0_2 HB) HC0_2.out (cb HR0_3 HB) HC0_3.out (cb HR0_4 HB) HC0_4.out A4.out).mono ?_); rintro e w32 ⟨v295, v299, v302, v305, rfl, ho0, ho1, ho2, ho3, hb⟩; refine ⟨_, rfl, ?_⟩; have HO296 := Aside0.mk (Kd.R_lower ho0 (below_size (be2 HB GE291 GE292))); have HO300 := Aside0.mk (Kd.R_lower ho1 (below_size (be2 HB GE291 GE292))); have HO303 := Aside0.mk (Kd.R_lower ho2 (below_size (be2 HB GE291 GE292))); have HO306 := Aside0.mk (Kd.R_lower ho3 (below_size (be2 HB GE291 GE292))); replace BK291 := bb BK291 hb; replace BK292 := bb BK292 hb; replace HB := Aside0.mk (below_step (be2 HB GE291 GE292) hb); (try clear hb); (try clear ho0); (try clear ho1); (try clear ho2); (try clear ho3)) | ((with_reducible refine gate_dst (N := 5) rfl ?_); refine bx 5 #[.slice none 0 0, .int .i64 0, .slice none 0 0, .slice none 0 0, .slice none 0 0] 27 ?_; intro gb307 hg w33 hbox hb; replace HO296 := rb HO296 hb; replace HO300 := rb HO300 hb; replace HO303 := rb HO303 hb; replace HO306 := rb HO306 hb; have BK307 := am hbox; have GW307 := gs2 hg HB GE291 GE292; have GE307 := gs2 hg HB GE291 GE292; replace HB := Aside0.mk (below_step (be2 HB GE291 GE292) hb); have NB291_307 := Aside0.mk ((by rw [hg]; exact Nat.ne_of_lt (bl BK291) : gb291 ≠ gb307)); have NB307_291 := Aside0.mk ((by rw [hg]; exact Nat.ne_of_gt (bl BK291) : gb307 ≠ gb291)); replace BK291 := bb BK291 hb; have NB292_307 := Aside0.mk ((by rw [hg]; exact Nat.ne_of_lt (bl BK292) : gb292 ≠ gb307)); have NB307_292 := Aside0.mk ((by rw [hg]; exact Nat.ne_of_gt (bl BK292) : gb307 ≠ gb292)); replace BK292 := bb BK292 hb; clear hb hbox hg; obtain ⟨Ao34, co34, eo34⟩ := Kd.R_slice HO296.out; subst eo34; have hnb35 := NB307_291.out; have hnc35 := NB291_307.out; have hnb36 := NB307_292.out; have hnc36 := NB292_307.out; have hcz37_0 := bz5 BK307; obtain ⟨Ao38, co38, eo38⟩ := Kd.R_slice HO300.out; subst eo38; obtain ⟨Ao39, co39, eo39⟩ := Kd.R_slice HO303.out; subst eo39; obtain ⟨Ao40, co40, eo40⟩ := Kd.R_slice HO306.out; subst eo40) | ((with_reducible refine gate_store (t := 27) (p := 5) rfl ?_); refine store_event (t := 27) (p := 5) (v := ?vo_w41) (w1 := (((((w33.setCell ⟨gb307, 0, none⟩ (.slice Ao34 t294.length co34)).setCell ⟨gb307, 1, none⟩ (.int .i64 t297)).setCell ⟨gb307, 2, none⟩ (.slice Ao38 t298.length co38)).setCell ⟨gb307, 3, none⟩ (.slice Ao39 t301.length co39)).setCell ⟨gb307, 4, none⟩ (.slice Ao40 t304.length co40))) ?hg ?ho ?hn ?hr ?_; (case ho => rfl); (case hg => rfl); (case hn => rfl); (case hr => first | (go_simp; done) | (go_simp; rfl)); intro w41 hw; have n0_ : Aside0 (Kd.R (Kd.int .i64) 3 w41 w.heap.size (fun k_ => nb k_ Ao38 t298.length co38 ∧ nb k_ Ao40 t304.length co40) (.slice Ao34 t294.length co34) t294) := ⟨(by rw [hw]; exact (by (with_reducible repeat (first | apply Kd.R_alloc | apply Kd.R_drewN | apply Kd.R_drew)); exact Kd.R_mono (Kd.R_far (p := ⟨gb307, 4, none⟩) (Kd.R_far (p := ⟨gb307, 3, none⟩) (Kd.R_far (p := ⟨gb307, 2, none⟩) (Kd.R_far (p := ⟨gb307, 1, none⟩) (Kd.R_far (p := ⟨gb307, 0, none⟩) (Kd.R_types HO296.out BK307.out (by decide)) (fun _ hk => hk.2) (.slice Ao34 t294.length co34)) (fun _ hk => hk.2) (.int .i64 t297)) (fun _ hk => hk.2) (.slice Ao38 t298.length co38)) (fun _ hk => hk.2) (.slice Ao39 t301.length co39)) (fun _ hk => hk.2) (.slice Ao40 t304.length co40)) (fun _ hk => ⟨hk.1.1, hk.1.2⟩)))⟩; have n1_ : Aside0 (Kd.R (Kd.int .i64) 3 w41 w.heap.size (fun k_ => nb k_ Ao34 t294.length co34 ∧ nb k_ Ao40 t304.length co40) (.slice Ao38 t298.length co38) t298) := ⟨(by rw [hw]; exact (by (with_reducible repeat (first | apply Kd.R_alloc | apply Kd.R_drewN | apply Kd.R_drew)); exact Kd.R_mono (Kd.R_far (p := ⟨gb307, 4, none⟩) (Kd.R_far (p := ⟨gb307, 3, none⟩) (Kd.R_far (p := ⟨gb307, 2, none⟩) (Kd.R_far (p := ⟨gb307, 1, none⟩) (Kd.R_far (p := ⟨gb307, 0, none⟩) (Kd.R_types HO300.out BK307.out (by decide)) (fun _ hk => hk.2) (.slice Ao34 t294.length co34)) (fun _ hk => hk.2) (.int .i64 t297)) (fun _ hk => hk.2) (.slice Ao38 t298.length co38)) (fun _ hk => hk.2) (.slice Ao39 t301.length co39)) (fun _ hk => hk.2) (.slice Ao40 t304.length co40)) (fun _ hk => ⟨hk.1.1, hk.1.2⟩)))⟩; have n2_ : Aside0 (Kd.R k70 70 w41 w.heap.size (fun _ => True) (.slice Ao39 t301.length co39) t301) := ⟨(by rw [hw]; exact (by (with_reducible repeat (first | apply Kd.R_alloc | apply Kd.R_drewN | apply Kd.R_drew)); exact Kd.R_mono (Kd.R_far (p := ⟨gb307, 4, none⟩) (Kd.R_far (p := ⟨gb307, 3, none⟩) (Kd.R_far (p := ⟨gb307, 2, none⟩) (Kd.R_far (p := ⟨gb307, 1, none⟩) (Kd.R_far (p := ⟨gb307, 0, none⟩) (Kd.R_types HO303.out BK307.out (by decide)) (fun _ hk => hk.2) (.slice Ao34 t294.length co34)) (fun _ hk => hk.2) (.int .i64 t297)) (fun _ hk => hk.2) (.slice Ao38 t298.length co38)) (fun _ hk => hk.2) (.slice Ao39 t301.length co39)) (fun _ hk => hk.2) (.slice Ao40 t304.length co40)) (fun _ hk => trivial)))⟩; have n3_ : Aside0 (Kd.R (Kd.int .i64) 3 w41 w.heap.size (fun k_ => nb k_ Ao34 t294.length co34 ∧ nb k_ Ao38 t298.length co38) (.slice Ao40 t304.length co40) t304) := ⟨(by rw [hw]; exact (by (with_reducible repeat (first | apply Kd.R_alloc | apply Kd.R_drewN | apply Kd.R_drew)); exact Kd.R_mono (Kd.R_far (p := ⟨gb307, 4, none⟩) (Kd.R_far (p := ⟨gb307, 3, none⟩) (Kd.R_far (p := ⟨gb307, 2, none⟩) (Kd.R_far (p := ⟨gb307, 1, none⟩) (Kd.R_far (p := ⟨gb307, 0, none⟩) (Kd.R_types HO306.out BK307.out (by decide)) (fun _ hk => hk.2) (.slice Ao34 t294.length co34)) (fun _ hk => hk.2) (.int .i64 t297)) (fun _ hk => hk.2) (.slice Ao38 t298.length co38)) (fun _ hk => hk.2) (.slice Ao39 t301.length co39)) (fun _ hk => hk.2) (.slice Ao40 t304.length co40)) (fun _ hk => ⟨hk.1.1, hk.1.2⟩)))⟩; have n4_ : Aside0 (w41.heap[gb291]? = some (.cells #[.slice A0_0 l0_0.length c0_0, .int .i64 a0_1, .slice A0_2 l0_2.length c0_2, .slice A0_3 l0_3.length c0_3, .slice A0_4 l0_4.length c0_4] 27 (0, 0))) := ⟨(by rw [hw]; exact (bf1 BK291 NB291_307))⟩; have n5_ : Aside0 (w41.heap[gb292]? = some (.cells #[.slice none 0 0, .int .i64 0, .slice none 0 0, .slice none 0 0, .slice none 0 0] 27 (0, 0))) := ⟨(by rw [hw]; exact (bf1 BK292 NB292_307))⟩; have n6_ : Aside0 (w41.heap[gb307]? = some (.cells #[.slice Ao34 t294.length co34, .int .i64 t297, .slice Ao38 t298.length co38, .slice Ao39 t301.length co39, .slice Ao40 t304.length co40] 27 (0, 0))) := ⟨(by rw [hw]; exact (by (with_reducible repeat (first | refine blk_drewN ?_ _ | refine blk_drew ?_ | refine blk_alloc ?_ _)); refine blk_put (cs := #[.slice Ao34 t294.length co34, .int .i64 t297, .slice Ao38 t298.length co38, .slice Ao39 t301.length co39, .slice none 0 0]) ?_ 4 _ rfl; (with_reducible repeat (first | refine blk_drewN ?_ _ | refine blk_drew ?_ | refine blk_alloc ?_ _)); refine blk_put (cs := #[.slice Ao34 t294.length co34, .int .i64 t297, .slice Ao38 t298.length co38, .slice none 0 0, .slice none 0 0]) ?_ 3 _ rfl; (with_reducible repeat (first | refine blk_drewN ?_ _ | refine blk_drew ?_ | refine blk_alloc ?_ _)); refine blk_put (cs := #[.slice Ao34 t294.length co34, .int .i64 t297, .slice none 0 0, .slice none 0 0, .slice none 0 0]) ?_ 2 _ rfl; (with_reducible repeat (first | refine blk_drewN ?_ _ | refine blk_drew ?_ | refine blk_alloc ?_ _)); refine blk_put (cs := #[.slice Ao34 t294.length co34, .int .i64 0, .slice none 0 0, .slice none 0 0, .slice none 0 0]) ?_ 1 _ rfl; (with_reducible repeat (first | refine blk_drewN ?_ _ | refine blk_drew ?_ | refine blk_alloc ?_ _)); refine blk_put (cs := #[.slice none 0 0, .int .i64 0, .slice none 0 0, .slice none 0 0, .slice none 0 0]) ?_ 0 _ rfl; (with_reducible repeat (first | refine blk_drewN ?_ _ | refine blk_drew ?_ | refine blk_alloc ?_ _)); exact BK307.out))⟩; have n7_ : Aside0 (Below w.heap.size w w41) := ⟨(by rw [hw]; exact (be3 HB GE291 GE292 GE307))⟩; clear hw; clear HO296; clear HO300; clear HO303; clear HO306; clear BK291; clear BK292; clear BK307; clear HB; have HO296 := n0_; have HO300 := n1_; have HO303 := n2_; have HO306 := n3_; have BK291 := n4_; have BK292 := n5_; have BK307 := n6_; have HB := n7_; clear n0_ n1_ n2_ n3_ n4_ n5_ n6_ n7_; have hcz42_0 := bz5 BK291; have hcz43_0 := bz5 BK307; have q44 : (1 : Int) ≤ ((t294.length : Int) : Int) := od; obtain ⟨i044, hi044, _, hsz44, _⟩ := info_parts info3; have hcut44 := cut_from (P := Try.prog) 22 3 .i64 Try.underlying22 hi044 1 hsz44 Ao34 t294.length co34 1 (by omega) q44; have hr44 := Kd.Q_drop (k := (1 : Int).toNat) (Kd.Q_of_R HO296.out) (by omega); obtain ⟨A44, hA44⟩ : ∃ A1, A1 = (if co34 = (1 : Int).toNat then Ao34 else (Ao34 : Option Addr).map (·.add ((1 : Int).toNat * 1))) := ⟨_, rfl⟩; obtain ⟨c44, hc44⟩ : ∃ c1, c1 = co34 - (1 : Int).toNat := ⟨_, rfl⟩; have hy44 : y308.length = t294.length - (1 : Int).toNat := (by rw [Ny308.out, List.length_drop]); rw [← Ny308.out] at hr44; rw [← hy44, ← hA44, ← hc44] at hcut44; replace hr44 : Kd.Q (Kd.int .i64) 3 w41 w.heap.size (fun k_ => nb k_ Ao38 t298.length co38 ∧ nb k_ Ao40 t304.length co40) (.slice A44 y308.length c44) y308 := (by rw [hA44, hc44, hy44]; exact hr44); have HE44 : Aside0 ((Value.slice A44 y308.length c44).ownBlock = (.slice Ao34 t294.length co34 : Value).ownBlock) := ⟨by rw [hA44]; split <;> (cases (Ao34 : Option Addr) <;> rfl)⟩; clear hy44 hi044 hsz44 HO296 hA44 hc44; have HO310 := Aside0.mk hr44; clear hr44; replace q44 := eq_true q44; have n_ := Aside0.mk (Kd.R_mono (ok' := fun k_ => (nb k_ A44 y308.length c44 ∧ nb k_ Ao40 t304.length co40)) HO300.out (fun k_ hk => ⟨(fun e_ => hk.1 (e_.trans HE44.out)), hk.2⟩)); clear HO300; have HO300 := n_; clear n_; have n_ := Aside0.mk (Kd.R_mono (ok' := fun k_ => (nb k_ A44 y308.length c44 ∧ nb k_ Ao38 t298.length co38)) HO306.out (fun k_ hk => ⟨(fun e_ => hk.1 (e_.trans HE44.out)), hk.2⟩)); clear HO306; have HO306 := n_; clear n_))
    have n0_ : Aside0 (Kd.Q (Kd.int .i64) 3 (w41.setCell ⟨gb307, 0, none⟩ (.slice A44 y308.length c44)) w.heap.size (fun k_ => nb k_ Ao38 t298.length co38 ∧ nb k_ Ao40 t304.length co40) (.slice A44 y308.length c44) y308) := ⟨by (with_reducible repeat (first | apply Kd.Q_alloc | apply Kd.Q_drewN | apply Kd.Q_drew)); exact Kd.Q_mono (Kd.Q_far (p := ⟨gb307, 0, none⟩) (Kd.Q_types HO310.out BK307.out (by decide)) (fun _ hk => hk.2) (.slice A44 y308.length c44)) (fun _ hk => ⟨hk.1.1, hk.1.2⟩)⟩
    have n1_ : Aside0 (Kd.R (Kd.int .i64) 3 (w41.setCell ⟨gb307, 0, none⟩ (.slice A44 y308.length c44)) w.heap.size (fun k_ => nb k_ A44 y308.length c44 ∧ nb k_ Ao40 t304.length co40) (.slice Ao38 t298.length co38) t298) := ⟨by (with_reducible repeat (first | apply Kd.R_alloc | apply Kd.R_drewN | apply Kd.R_drew)); exact Kd.R_mono (Kd.R_far (p := ⟨gb307, 0, none⟩) (Kd.R_types HO300.out BK307.out (by decide)) (fun _ hk => hk.2) (.slice A44 y308.length c44)) (fun _ hk => ⟨hk.1.1, hk.1.2⟩)⟩
    have n2_ : Aside0 (Kd.R k70 70 (w41.setCell ⟨gb307, 0, none⟩ (.slice A44 y308.length c44)) w.heap.size (fun _ => True) (.slice Ao39 t301.length co39) t301) := ⟨by (with_reducible repeat (first | apply Kd.R_alloc | apply Kd.R_drewN | apply Kd.R_drew)); exact Kd.R_mono (Kd.R_far (p := ⟨gb307, 0, none⟩) (Kd.R_types HO303.out BK307.out (by decide)) (fun _ hk => hk.2) (.slice A44 y308.length c44)) (fun _ hk => trivial)⟩
    have n3_ : Aside0 (Kd.R (Kd.int .i64) 3 (w41.setCell ⟨gb307, 0, none⟩ (.slice A44 y308.length c44)) w.heap.size (fun k_ => nb k_ A44 y308.length c44 ∧ nb k_ Ao38 t298.length co38) (.slice Ao40 t304.length co40) t304) := ⟨by (with_reducible repeat (first | apply Kd.R_alloc | apply Kd.R_drewN | apply Kd.R_drew)); exact Kd.R_mono (Kd.R_far (p := ⟨gb307, 0, none⟩) (Kd.R_types HO306.out BK307.out (by decide)) (fun _ hk => hk.2) (.slice A44 y308.length c44)) (fun _ hk => ⟨hk.1.1, hk.1.2⟩)⟩
    have n4_ : Aside0 ((w41.setCell ⟨gb307, 0, none⟩ (.slice A44 y308.length c44)).heap[gb291]? = some (.cells #[.slice A0_0 l0_0.length c0_0, .int .i64 a0_1, .slice A0_2 l0_2.length c0_2, .slice A0_3 l0_3.length c0_3, .slice A0_4 l0_4.length c0_4] 27 (0, 0))) := ⟨by (with_reducible repeat (first | refine blk_drewN ?_ _ | refine blk_drew ?_ | refine blk_alloc ?_ _)); refine blk_far ?_ NB291_307.out _; (with_reducible repeat (first | refine blk_drewN ?_ _ | refine blk_drew ?_ | refine blk_alloc ?_ _)); exact BK291.out⟩
    have n5_ : Aside0 ((w41.setCell ⟨gb307, 0, none⟩ (.slice A44 y308.length c44)).heap[gb292]? = some (.cells #[.slice none 0 0, .int .i64 0, .slice none 0 0, .slice none 0 0, .slice none 0 0] 27 (0, 0))) := ⟨by (with_reducible repeat (first | refine blk_drewN ?_ _ | refine blk_drew ?_ | refine blk_alloc ?_ _)); refine blk_far ?_ NB292_307.out _; (with_reducible repeat (first | refine blk_drewN ?_ _ | refine blk_drew ?_ | refine blk_alloc ?_ _)); exact BK292.out⟩
    have n6_ : Aside0 ((w41.setCell ⟨gb307, 0, none⟩ (.slice A44 y308.length c44)).heap[gb307]? = some (.cells #[.slice A44 y308.length c44, .int .i64 t297, .slice Ao38 t298.length co38, .slice Ao39 t301.length co39, .slice Ao40 t304.length co40] 27 (0, 0))) := ⟨by (with_reducible repeat (first | refine blk_drewN ?_ _ | refine blk_drew ?_ | refine blk_alloc ?_ _)); refine blk_put (cs := #[.slice Ao34 t294.length co34, .int .i64 t297, .slice Ao38 t298.length co38, .slice Ao39 t301.length co39, .slice Ao40 t304.length co40]) ?_ 0 _ rfl; (with_reducible repeat (first | refine blk_drewN ?_ _ | refine blk_drew ?_ | refine blk_alloc ?_ _)); exact BK307.out⟩
    have n7_ : Aside0 (Below w.heap.size w (w41.setCell ⟨gb307, 0, none⟩ (.slice A44 y308.length c44))) := ⟨be3 HB GE291 GE292 GE307⟩
    (try clear HO310)
    (try clear HO300)
    (try clear HO303)
    (try clear HO306)
    (try clear BK291)
    (try clear BK292)
    (try clear BK307)
    (try clear HB)
    generalize (w41.setCell ⟨gb307, 0, none⟩ (.slice A44 y308.length c44)) = w45 at n0_ n1_ n2_ n3_ n4_ n5_ n6_ n7_ ⊢
    have HO310 := n0_
    have HO300 := n1_
    have HO303 := n2_
    have HO306 := n3_
    have BK291 := n4_
    have BK292 := n5_
    have BK307 := n6_
    have HB := n7_
    clear n0_ n1_ n2_ n3_ n4_ n5_ n6_ n7_
    have n0_ := Aside0.mk (Kd.Q_drew HO310.out)
    have n1_ := Aside0.mk (Kd.R_drew HO300.out)
    have n2_ := Aside0.mk (Kd.R_drew HO303.out)
    have n3_ := Aside0.mk (Kd.R_drew HO306.out)
    have n4_ := Aside0.mk (blk_drew BK291.out)
    have n5_ := Aside0.mk (blk_drew BK292.out)
    have n6_ := Aside0.mk (blk_drew BK307.out)
    have n7_ := Aside0.mk (below_drew1 HB.out)
    clear HO310
    clear HO300
    clear HO303
    clear HO306
    clear BK291
    clear BK292
    clear BK307
    clear HB
    have HO310 := n0_
    have HO300 := n1_
    have HO303 := n2_
    have HO306 := n3_
    have BK291 := n4_
    have BK292 := n5_
    have BK307 := n6_
    have HB := n7_
    clear n0_ n1_ n2_ n3_ n4_ n5_ n6_ n7_
    have p311 : 0 ≤ (0 : Int) := (by omega)
    have q311 : 0 < (l0_0.length : Int) := od
    obtain ⟨ad311, e311, hx311_0⟩ := Kd.at_int HR0_0.out 0 p311 q311
    have hw311_0 := hx311_0
    (try rw [show ((0 : Int)).toNat = 0 from rfl] at hw311_0)
    (try rw [show 0 * 1 = 0 from rfl] at hw311_0)
    (try rw [Addr.add_zero'] at hw311_0)
    cases e311
    have qi311 : (0 < l0_0.length) = True := eq_true (by omega)
    (try rw [show ((0 : Int)).toNat = 0 from rfl] at hx311_0)
    (try rw [Addr.add_zero'] at hx311_0)
    replace hx311_0 := hc HB hx311_0
    replace p311 := eq_true p311
    replace q311 := eq_true q311
    refine start_ (n := 9) (S := fun w' => w'.cell? ⟨gb307, 0, none⟩ = some (.slice A44 y308.length c44) ∧ w'.cell? ⟨gb307, 1, none⟩ = some (.int .i64 t297) ∧ w'.cell? ⟨gb307, 2, none⟩ = some (.slice Ao38 t298.length co38) ∧ w'.cell? ⟨gb307, 3, none⟩ = some (.slice Ao39 t301.length co39) ∧ w'.cell? ⟨gb307, 4, none⟩ = some (.slice Ao40 t304.length co40) ∧ w'.cell? ⟨gb291, 0, none⟩ = some (.slice (some ad311) l0_0.length c0_0) ∧ w'.cell? ⟨gb291, 1, none⟩ = some (.int .i64 a0_1) ∧ w'.cell? ⟨gb291, 2, none⟩ = some (.slice A0_2 l0_2.length c0_2) ∧ w'.cell? ⟨gb291, 3, none⟩ = some (.slice A0_3 l0_3.length c0_3) ∧ w'.cell? ⟨gb291, 4, none⟩ = some (.slice A0_4 l0_4.length c0_4) ∧ w'.cell? ad311 = some (.int .i64 (rd l0_0 0))) (ds := [8]) (bv 9 0x0) (by kernel_rfl) rfl rfl ⟨bc0 BK307, bc1 BK307, bc2 BK307, bc3 BK307, bc4 BK307, bc0 BK291, bc1 BK291, bc2 BK291, bc3 BK291, bc4 BK291, ((HB.out.cell (World.block_lt_of_cell? w _ hw311_0)).trans hw311_0)⟩ (fun hHeld => ?_); refine with_tabW spec_Alloc.tab7 spec_Alloc.bits7 (fun HT_ HW_ => ?_)
    generalize w45.drew = w46 at HO310 HO300 HO303 HO306 BK291 BK292 BK307 HB hx311_0 hHeld ⊢
    refine py HT_ 0 21 (bv 9 0x1) ?_
    refine py HT_ 2 23 (bv 9 0x5) ?_
    refine tk HT_ HW_ hHeld 1 22 (bv 9 0x7) ?_
    refine tk HT_ HW_ hHeld 3 24 (bv 9 0xf) ?_
    refine py HT_ 4 25 (bv 9 0x1f) ?_
    refine tk HT_ HW_ hHeld 5 26 (bv 9 0x3f) ?_
    refine one_ (i := 6) (N := some 27) (bv 9 0x7f) rfl rfl (one_of HT_.out (by kernel_rfl)) (by decide) (fun K hK => ?_)
    refine goes_ Try.func65 (by kernel_rfl) rfl #[.slice Ao40 t304.length co40, .int .i64 (rd l0_0 0)] (by rfl) rfl rfl ml ?_
    with_reducible refine (spec_l08With.calls k _ _ t304 (rd l0_0 0) t312 _ ?side1 ?side2 A25.out).mono ?_
    (case side1 => exact cr HO306)
    (case side2 => exact (Kd.R_reads' HO306.out).2.1)
    rintro e w47 ⟨v313, rfl, ho0, hb⟩
    refine ⟨_, rfl, ?_⟩
    have n0_ := Aside0.mk (Kd.Q_elder' (by (with_reducible repeat (first | apply Kd.Q_alloc | apply Kd.Q_drewN | apply Kd.Q_drew)); exact HO310.out) (Kd.R_base ho0) hb)
    have n1_ := Aside0.mk (Kd.R_elder' (ro HO300) (Kd.R_base ho0) hb)
    have n2_ := rb HO303 hb
    have n3_ := Aside0.mk (Kd.R_elder' (ro HO306) (Kd.R_base ho0) hb)
    have n4_ := Aside0.mk (Kd.R_lower (nw (nw (Kd.R_new' ho0 (Kd.Q_lt (by (with_reducible repeat (first | apply Kd.Q_alloc | apply Kd.Q_drewN | apply Kd.Q_drew)); exact HO310.out))) HO300) HO306) (below_size (be3 HB GE291 GE292 GE307)))
    have n5_ := bb BK291 hb
    have n6_ := bb BK292 hb
    have n7_ := bb BK307 hb
    have n8_ := Aside0.mk (below_step (be3 HB GE291 GE292 GE307) hb)
    clear HO310
    clear HO300
    clear HO303
    clear HO306
    clear BK291
    clear BK292
    clear BK307
    clear HB
    have HO310 := n0_
    have HO300 := n1_
    have HO303 := n2_
    have HO306 := n3_
    have HO314 := n4_
    have BK291 := n5_
    have BK292 := n6_
    have BK307 := n7_
    have HB := n8_
    clear n0_ n1_ n2_ n3_ n4_ n5_ n6_ n7_ n8_
    (try clear hb)
    (try clear hb2)
    (try clear hk)
    (try clear hi)
    (try clear ho0)
    obtain ⟨Ao48, co48, eo48⟩ := Kd.R_slice HO314.out
    (first | subst eo48 | (injection eo48 with f1_ f2_ f3_; have f4_ := f1_.symm; have f5_ := f3_.symm; clear f1_ f2_ f3_; subst f4_; subst f5_))
    refine hK.out _ _ ⟨bc0 BK307, bc1 BK307, bc2 BK307, bc3 BK307, bc4 BK307, bc0 BK291, bc1 BK291, bc2 BK291, bc3 BK291, bc4 BK291, ((HB.out.cell (World.block_lt_of_cell? w _ hw311_0)).trans hw311_0)⟩ (fun hHeld => ?_)
    clear hK K
    refine norm_ (a' := ?_) ?_ ?_
    rotate_left
    ·show Act.put _ (some 27) _ = _
     simp only [aP]
     rfl
    refine py HT_ 7 28 (bv 9 0xff) ?_
    refine last_ (i := 8) (N := none) (bv 9 0x1ff) rfl rfl (one_of HT_.out (by kernel_rfl)) (by decide) (fun K hK => ?_)
    have hs49 : w47.cell? ⟨gb307, 4, none⟩ = some (.slice Ao40 t304.length co40) := bc4 BK307
    have hfs49 := blk_frozen BK307.out 4
    have hns49_0 := NB291_307.out
    have hns49_1 := NB292_307.out
    have hms49_0 := NB307_291.out
    have hms49_1 := NB307_292.out
    refine skip_ (w1 := ?_) (by rfl) rfl ?_ ?_
    rotate_left
    ·go_simp
     rfl
    refine hK.out _ _ ?_
    clear hK K
    refine done_ (done_of HT_.out (by kernel_rfl)) ?_
    try go_wp2
    have n0_ : Aside0 (Kd.Q (Kd.int .i64) 3 (w47.setCell ⟨gb307, 4, none⟩ (.slice Ao48 t312.length co48)) w.heap.size (fun k_ => nb k_ Ao38 t298.length co38 ∧ nb k_ Ao40 t304.length co40 ∧ nb k_ Ao48 t312.length co48) (.slice A44 y308.length c44) y308) := ⟨by (with_reducible repeat (first | apply Kd.Q_alloc | apply Kd.Q_drewN | apply Kd.Q_drew)); exact Kd.Q_mono (Kd.Q_far (p := ⟨gb307, 4, none⟩) (Kd.Q_types HO310.out BK307.out (by decide)) (fun _ hk => hk.2) (.slice Ao48 t312.length co48)) (fun _ hk => ⟨hk.1.1.1, ⟨hk.1.1.2, hk.1.2⟩⟩)⟩
    have n1_ : Aside0 (Kd.R (Kd.int .i64) 3 (w47.setCell ⟨gb307, 4, none⟩ (.slice Ao48 t312.length co48)) w.heap.size (fun k_ => nb k_ A44 y308.length c44 ∧ nb k_ Ao40 t304.length co40 ∧ nb k_ Ao48 t312.length co48) (.slice Ao38 t298.length co38) t298) := ⟨by (with_reducible repeat (first | apply Kd.R_alloc | apply Kd.R_drewN | apply Kd.R_drew)); exact Kd.R_mono (Kd.R_far (p := ⟨gb307, 4, none⟩) (Kd.R_types HO300.out BK307.out (by decide)) (fun _ hk => hk.2) (.slice Ao48 t312.length co48)) (fun _ hk => ⟨hk.1.1.1, ⟨hk.1.1.2, hk.1.2⟩⟩)⟩
    have n2_ : Aside0 (Kd.R k70 70 (w47.setCell ⟨gb307, 4, none⟩ (.slice Ao48 t312.length co48)) w.heap.size (fun _ => True) (.slice Ao39 t301.length co39) t301) := ⟨by (with_reducible repeat (first | apply Kd.R_alloc | apply Kd.R_drewN | apply Kd.R_drew)); exact Kd.R_mono (Kd.R_far (p := ⟨gb307, 4, none⟩) (Kd.R_types HO303.out BK307.out (by decide)) (fun _ hk => hk.2) (.slice Ao48 t312.length co48)) (fun _ hk => trivial)⟩
    have n3_ : Aside0 (Kd.R (Kd.int .i64) 3 (w47.setCell ⟨gb307, 4, none⟩ (.slice Ao48 t312.length co48)) w.heap.size (fun k_ => nb k_ A44 y308.length c44 ∧ nb k_ Ao38 t298.length co38 ∧ nb k_ Ao48 t312.length co48) (.slice Ao40 t304.length co40) t304) := ⟨by (with_reducible repeat (first | apply Kd.R_alloc | apply Kd.R_drewN | apply Kd.R_drew)); exact Kd.R_mono (Kd.R_far (p := ⟨gb307, 4, none⟩) (Kd.R_types HO306.out BK307.out (by decide)) (fun _ hk => hk.2) (.slice Ao48 t312.length co48)) (fun _ hk => ⟨hk.1.1.1, ⟨hk.1.1.2, hk.1.2⟩⟩)⟩
    have n4_ : Aside0 (Kd.R (Kd.int .i64) 3 (w47.setCell ⟨gb307, 4, none⟩ (.slice Ao48 t312.length co48)) w.heap.size (fun k_ => nb k_ A44 y308.length c44 ∧ nb k_ Ao38 t298.length co38 ∧ nb k_ Ao40 t304.length co40) (.slice Ao48 t312.length co48) t312) := ⟨by (with_reducible repeat (first | apply Kd.R_alloc | apply Kd.R_drewN | apply Kd.R_drew)); exact Kd.R_mono (Kd.R_far (p := ⟨gb307, 4, none⟩) (Kd.R_types HO314.out BK307.out (by decide)) (fun _ hk => hk.2) (.slice Ao48 t312.length co48)) (fun _ hk => ⟨hk.1.1.1.2, ⟨hk.1.1.2, hk.1.2⟩⟩)⟩
    have n5_ : Aside0 ((w47.setCell ⟨gb307, 4, none⟩ (.slice Ao48 t312.length co48)).heap[gb291]? = some (.cells #[.slice (some ad311) l0_0.length c0_0, .int .i64 a0_1, .slice A0_2 l0_2.length c0_2, .slice A0_3 l0_3.length c0_3, .slice A0_4 l0_4.length c0_4] 27 (0, 0))) := ⟨by (with_reducible repeat (first | refine blk_drewN ?_ _ | refine blk_drew ?_ | refine blk_alloc ?_ _)); refine blk_far ?_ NB291_307.out _; (with_reducible repeat (first | refine blk_drewN ?_ _ | refine blk_drew ?_ | refine blk_alloc ?_ _)); exact BK291.out⟩
    have n6_ : Aside0 ((w47.setCell ⟨gb307, 4, none⟩ (.slice Ao48 t312.length co48)).heap[gb292]? = some (.cells #[.slice none 0 0, .int .i64 0, .slice none 0 0, .slice none 0 0, .slice none 0 0] 27 (0, 0))) := ⟨by (with_reducible repeat (first | refine blk_drewN ?_ _ | refine blk_drew ?_ | refine blk_alloc ?_ _)); refine blk_far ?_ NB292_307.out _; (with_reducible repeat (first | refine blk_drewN ?_ _ | refine blk_drew ?_ | refine blk_alloc ?_ _)); exact BK292.out⟩
    have n7_ : Aside0 ((w47.setCell ⟨gb307, 4, none⟩ (.slice Ao48 t312.length co48)).heap[gb307]? = some (.cells #[.slice A44 y308.length c44, .int .i64 t297, .slice Ao38 t298.length co38, .slice Ao39 t301.length co39, .slice Ao48 t312.length co48] 27 (0, 0))) := ⟨by (with_reducible repeat (first | refine blk_drewN ?_ _ | refine blk_drew ?_ | refine blk_alloc ?_ _)); refine blk_put (cs := #[.slice A44 y308.length c44, .int .i64 t297, .slice Ao38 t298.length co38, .slice Ao39 t301.length co39, .slice Ao40 t304.length co40]) ?_ 4 _ rfl; (with_reducible repeat (first | refine blk_drewN ?_ _ | refine blk_drew ?_ | refine blk_alloc ?_ _)); exact BK307.out⟩
    have n8_ : Aside0 (Below w.heap.size w (w47.setCell ⟨gb307, 4, none⟩ (.slice Ao48 t312.length co48))) := ⟨be3 HB GE291 GE292 GE307⟩
    (try clear HO310)
    (try clear HO300)
    (try clear HO303)
    (try clear HO306)
    (try clear HO314)
    (try clear BK291)
    (try clear BK292)
    (try clear BK307)
    (try clear HB)
    generalize (w47.setCell ⟨gb307, 4, none⟩ (.slice Ao48 t312.length co48)) = w50 at n0_ n1_ n2_ n3_ n4_ n5_ n6_ n7_ n8_ ⊢
    have HO310 := n0_
    have HO300 := n1_
    have HO303 := n2_
    have HO306 := n3_
    have HO314 := n4_
    have BK291 := n5_
    have BK292 := n6_
    have BK307 := n7_
    have HB := n8_
    clear n0_ n1_ n2_ n3_ n4_ n5_ n6_ n7_ n8_
    have n0_ := Aside0.mk (Kd.Q_drew HO310.out)
    have n1_ := Aside0.mk (Kd.R_drew HO300.out)
    have n2_ := Aside0.mk (Kd.R_drew HO303.out)
    have n3_ := Aside0.mk (Kd.R_drew HO306.out)
    have n4_ := Aside0.mk (Kd.R_drew HO314.out)
    have n5_ := Aside0.mk (blk_drew BK291.out)
    have n6_ := Aside0.mk (blk_drew BK292.out)
    have n7_ := Aside0.mk (blk_drew BK307.out)
    have n8_ := Aside0.mk (below_drew1 HB.out)
    clear HO310
    clear HO300
    clear HO303
    clear HO306
    clear HO314
    clear BK291
    clear BK292
    clear BK307
    clear HB
    have HO310 := n0_
    have HO300 := n1_
    have HO303 := n2_
    have HO306 := n3_
    have HO314 := n4_
    have BK291 := n5_
    have BK292 := n6_
    have BK307 := n7_
    have HB := n8_
    clear n0_ n1_ n2_ n3_ n4_ n5_ n6_ n7_ n8_
    have p315 : 0 ≤ (0 : Int) := (by omega)
    have q315 : 0 < (l0_0.length : Int) := od
    obtain ⟨ad315, e315, hx315_0⟩ := Kd.at_int HR0_0.out 0 p315 q315
    have hw315_0 := hx315_0
    (try rw [show ((0 : Int)).toNat = 0 from rfl] at hw315_0)
    (try rw [show 0 * 1 = 0 from rfl] at hw315_0)
    (try rw [Addr.add_zero'] at hw315_0)
    obtain rfl : ad311 = ad315 := (by injection e315)
    have qi315 : (0 < l0_0.length) = True := eq_true (by omega)
    (try rw [show ((0 : Int)).toNat = 0 from rfl] at hx315_0)
    (try rw [Addr.add_zero'] at hx315_0)
    replace hx315_0 := hc HB hx315_0
    replace p315 := eq_true p315
    replace q315 := eq_true q315
    refine start_ (n := 8) (S := fun w' => w'.cell? ⟨gb307, 0, none⟩ = some (.slice A44 y308.length c44) ∧ w'.cell? ⟨gb307, 1, none⟩ = some (.int .i64 t297) ∧ w'.cell? ⟨gb307, 2, none⟩ = some (.slice Ao38 t298.length co38) ∧ w'.cell? ⟨gb307, 3, none⟩ = some (.slice Ao39 t301.length co39) ∧ w'.cell? ⟨gb307, 4, none⟩ = some (.slice Ao48 t312.length co48) ∧ w'.cell? ⟨gb291, 0, none⟩ = some (.slice (some ad311) l0_0.length c0_0) ∧ w'.cell? ⟨gb291, 1, none⟩ = some (.int .i64 a0_1) ∧ w'.cell? ⟨gb291, 2, none⟩ = some (.slice A0_2 l0_2.length c0_2) ∧ w'.cell? ⟨gb291, 3, none⟩ = some (.slice A0_3 l0_3.length c0_3) ∧ w'.cell? ⟨gb291, 4, none⟩ = some (.slice A0_4 l0_4.length c0_4) ∧ w'.cell? ad311 = some (.int .i64 (rd l0_0 0))) (ds := []) (bv 8 0x0) (by kernel_rfl) rfl rfl ⟨bc0 BK307, bc1 BK307, bc2 BK307, bc3 BK307, bc4 BK307, bc0 BK291, bc1 BK291, bc2 BK291, bc3 BK291, bc4 BK291, ((HB.out.cell (World.block_lt_of_cell? w _ hw315_0)).trans hw315_0)⟩ (fun hHeld => ?_); refine with_tabW spec_Alloc.tab8 spec_Alloc.bits8 (fun HT_ HW_ => ?_)
    generalize w50.drew = w51 at HO310 HO300 HO303 HO306 HO314 BK291 BK292 BK307 HB hx315_0 hHeld ⊢
    refine py HT_ 1 30 (bv 8 0x2) ?_
    refine tk HT_ HW_ hHeld 0 29 (bv 8 0x3) ?_
    refine tk HT_ HW_ hHeld 2 31 (bv 8 0x7) ?_
    refine py HT_ 3 32 (bv 8 0xf) ?_
    refine tk HT_ HW_ hHeld 4 33 (bv 8 0x1f) ?_
    refine one_ (i := 5) (N := none) (bv 8 0x3f) rfl rfl (one_of HT_.out (by kernel_rfl)) (by decide) (fun K hK => ?_)
    have hs52 : w51.cell? ⟨gb292, 0, none⟩ = some (.slice none 0 0) := bc0 BK292
    have hfs52 := blk_frozen BK292.out 0
    have hns52_0 := NB291_292.out
    have hns52_2 := NB307_292.out
    have hms52_0 := NB292_291.out
    have hms52_2 := NB292_307.out
    have hs53 : w51.cell? ⟨gb292, 1, none⟩ = some (.int .i64 0) := bc1 BK292
    have hfs53 := blk_frozen BK292.out 1
    have hns53_0 := NB291_292.out
    have hns53_2 := NB307_292.out
    have hms53_0 := NB292_291.out
    have hms53_2 := NB292_307.out
    have hs54 : w51.cell? ⟨gb292, 2, none⟩ = some (.slice none 0 0) := bc2 BK292
    have hfs54 := blk_frozen BK292.out 2
    have hns54_0 := NB291_292.out
    have hns54_2 := NB307_292.out
    have hms54_0 := NB292_291.out
    have hms54_2 := NB292_307.out
    have hs55 : w51.cell? ⟨gb292, 3, none⟩ = some (.slice none 0 0) := bc3 BK292
    have hfs55 := blk_frozen BK292.out 3
    have hns55_0 := NB291_292.out
    have hns55_2 := NB307_292.out
    have hms55_0 := NB292_291.out
    have hms55_2 := NB292_307.out
    have hs56 : w51.cell? ⟨gb292, 4, none⟩ = some (.slice none 0 0) := bc4 BK292
    have hfs56 := blk_frozen BK292.out 4
    have hns56_0 := NB291_292.out
    have hns56_2 := NB307_292.out
    have hms56_0 := NB292_291.out
    have hms56_2 := NB292_307.out
    refine skip_ (w1 := ?_) (by rfl) rfl ?_ ?_
    rotate_left
    ·go_simp
     rfl
    refine hK.out _ _ ⟨((cell_far (p := ⟨gb292, _, none⟩) NB307_292.out _).trans (((cell_far (p := ⟨gb292, _, none⟩) NB307_292.out _).trans (((cell_far (p := ⟨gb292, _, none⟩) NB307_292.out _).trans (((cell_far (p := ⟨gb292, _, none⟩) NB307_292.out _).trans (((cell_far (p := ⟨gb292, _, none⟩) NB307_292.out _).trans (hHeld.1)))))))))), ((cell_far (p := ⟨gb292, _, none⟩) NB307_292.out _).trans (((cell_far (p := ⟨gb292, _, none⟩) NB307_292.out _).trans (((cell_far (p := ⟨gb292, _, none⟩) NB307_292.out _).trans (((cell_far (p := ⟨gb292, _, none⟩) NB307_292.out _).trans (((cell_far (p := ⟨gb292, _, none⟩) NB307_292.out _).trans (hHeld.2.1)))))))))), ((cell_far (p := ⟨gb292, _, none⟩) NB307_292.out _).trans (((cell_far (p := ⟨gb292, _, none⟩) NB307_292.out _).trans (((cell_far (p := ⟨gb292, _, none⟩) NB307_292.out _).trans (((cell_far (p := ⟨gb292, _, none⟩) NB307_292.out _).trans (((cell_far (p := ⟨gb292, _, none⟩) NB307_292.out _).trans (hHeld.2.2.1)))))))))), ((cell_far (p := ⟨gb292, _, none⟩) NB307_292.out _).trans (((cell_far (p := ⟨gb292, _, none⟩) NB307_292.out _).trans (((cell_far (p := ⟨gb292, _, none⟩) NB307_292.out _).trans (((cell_far (p := ⟨gb292, _, none⟩) NB307_292.out _).trans (((cell_far (p := ⟨gb292, _, none⟩) NB307_292.out _).trans (hHeld.2.2.2.1)))))))))), ((cell_far (p := ⟨gb292, _, none⟩) NB307_292.out _).trans (((cell_far (p := ⟨gb292, _, none⟩) NB307_292.out _).trans (((cell_far (p := ⟨gb292, _, none⟩) NB307_292.out _).trans (((cell_far (p := ⟨gb292, _, none⟩) NB307_292.out _).trans (((cell_far (p := ⟨gb292, _, none⟩) NB307_292.out _).trans (hHeld.2.2.2.2.1)))))))))), ((cell_far (p := ⟨gb292, _, none⟩) NB291_292.out _).trans (((cell_far (p := ⟨gb292, _, none⟩) NB291_292.out _).trans (((cell_far (p := ⟨gb292, _, none⟩) NB291_292.out _).trans (((cell_far (p := ⟨gb292, _, none⟩) NB291_292.out _).trans (((cell_far (p := ⟨gb292, _, none⟩) NB291_292.out _).trans (hHeld.2.2.2.2.2.1)))))))))), ((cell_far (p := ⟨gb292, _, none⟩) NB291_292.out _).trans (((cell_far (p := ⟨gb292, _, none⟩) NB291_292.out _).trans (((cell_far (p := ⟨gb292, _, none⟩) NB291_292.out _).trans (((cell_far (p := ⟨gb292, _, none⟩) NB291_292.out _).trans (((cell_far (p := ⟨gb292, _, none⟩) NB291_292.out _).trans (hHeld.2.2.2.2.2.2.1)))))))))), ((cell_far (p := ⟨gb292, _, none⟩) NB291_292.out _).trans (((cell_far (p := ⟨gb292, _, none⟩) NB291_292.out _).trans (((cell_far (p := ⟨gb292, _, none⟩) NB291_292.out _).trans (((cell_far (p := ⟨gb292, _, none⟩) NB291_292.out _).trans (((cell_far (p := ⟨gb292, _, none⟩) NB291_292.out _).trans (hHeld.2.2.2.2.2.2.2.1)))))))))), ((cell_far (p := ⟨gb292, _, none⟩) NB291_292.out _).trans (((cell_far (p := ⟨gb292, _, none⟩) NB291_292.out _).trans (((cell_far (p := ⟨gb292, _, none⟩) NB291_292.out _).trans (((cell_far (p := ⟨gb292, _, none⟩) NB291_292.out _).trans (((cell_far (p := ⟨gb292, _, none⟩) NB291_292.out _).trans (hHeld.2.2.2.2.2.2.2.2.1)))))))))), ((cell_far (p := ⟨gb292, _, none⟩) NB291_292.out _).trans (((cell_far (p := ⟨gb292, _, none⟩) NB291_292.out _).trans (((cell_far (p := ⟨gb292, _, none⟩) NB291_292.out _).trans (((cell_far (p := ⟨gb292, _, none⟩) NB291_292.out _).trans (((cell_far (p := ⟨gb292, _, none⟩) NB291_292.out _).trans (hHeld.2.2.2.2.2.2.2.2.2.1)))))))))), ((cell_far (p := ⟨gb292, _, none⟩) (by first | exact Nat.ne_of_lt (Nat.lt_of_lt_of_le (by have := World.block_lt_of_cell? _ _ hw315_0; first | rwa [add_block] at this | exact this) GW292.out) | (rw [add_block]; exact Nat.ne_of_lt (Nat.lt_of_lt_of_le (by have := World.block_lt_of_cell? _ _ hw315_0; first | rwa [add_block] at this | exact this) GW292.out)) | (show (Addr.add _ _).block ≠ _; rw [add_block]; exact Nat.ne_of_lt (Nat.lt_of_lt_of_le (by have := World.block_lt_of_cell? _ _ hw315_0; first | rwa [add_block] at this | exact this) GW292.out)) | (dsimp only; exact Nat.ne_of_lt (Nat.lt_of_lt_of_le (by have := World.block_lt_of_cell? _ _ hw315_0; first | rwa [add_block] at this | exact this) GW292.out))) _).trans (((cell_far (p := ⟨gb292, _, none⟩) (by first | exact Nat.ne_of_lt (Nat.lt_of_lt_of_le (by have := World.block_lt_of_cell? _ _ hw315_0; first | rwa [add_block] at this | exact this) GW292.out) | (rw [add_block]; exact Nat.ne_of_lt (Nat.lt_of_lt_of_le (by have := World.block_lt_of_cell? _ _ hw315_0; first | rwa [add_block] at this | exact this) GW292.out)) | (show (Addr.add _ _).block ≠ _; rw [add_block]; exact Nat.ne_of_lt (Nat.lt_of_lt_of_le (by have := World.block_lt_of_cell? _ _ hw315_0; first | rwa [add_block] at this | exact this) GW292.out)) | (dsimp only; exact Nat.ne_of_lt (Nat.lt_of_lt_of_le (by have := World.block_lt_of_cell? _ _ hw315_0; first | rwa [add_block] at this | exact this) GW292.out))) _).trans (((cell_far (p := ⟨gb292, _, none⟩) (by first | exact Nat.ne_of_lt (Nat.lt_of_lt_of_le (by have := World.block_lt_of_cell? _ _ hw315_0; first | rwa [add_block] at this | exact this) GW292.out) | (rw [add_block]; exact Nat.ne_of_lt (Nat.lt_of_lt_of_le (by have := World.block_lt_of_cell? _ _ hw315_0; first | rwa [add_block] at this | exact this) GW292.out)) | (show (Addr.add _ _).block ≠ _; rw [add_block]; exact Nat.ne_of_lt (Nat.lt_of_lt_of_le (by have := World.block_lt_of_cell? _ _ hw315_0; first | rwa [add_block] at this | exact this) GW292.out)) | (dsimp only; exact Nat.ne_of_lt (Nat.lt_of_lt_of_le (by have := World.block_lt_of_cell? _ _ hw315_0; first | rwa [add_block] at this | exact this) GW292.out))) _).trans (((cell_far (p := ⟨gb292, _, none⟩) (by first | exact Nat.ne_of_lt (Nat.lt_of_lt_of_le (by have := World.block_lt_of_cell? _ _ hw315_0; first | rwa [add_block] at this | exact this) GW292.out) | (rw [add_block]; exact Nat.ne_of_lt (Nat.lt_of_lt_of_le (by have := World.block_lt_of_cell? _ _ hw315_0; first | rwa [add_block] at this | exact this) GW292.out)) | (show (Addr.add _ _).block ≠ _; rw [add_block]; exact Nat.ne_of_lt (Nat.lt_of_lt_of_le (by have := World.block_lt_of_cell? _ _ hw315_0; first | rwa [add_block] at this | exact this) GW292.out)) | (dsimp only; exact Nat.ne_of_lt (Nat.lt_of_lt_of_le (by have := World.block_lt_of_cell? _ _ hw315_0; first | rwa [add_block] at this | exact this) GW292.out))) _).trans (((cell_far (p := ⟨gb292, _, none⟩) (by first | exact Nat.ne_of_lt (Nat.lt_of_lt_of_le (by have := World.block_lt_of_cell? _ _ hw315_0; first | rwa [add_block] at this | exact this) GW292.out) | (rw [add_block]; exact Nat.ne_of_lt (Nat.lt_of_lt_of_le (by have := World.block_lt_of_cell? _ _ hw315_0; first | rwa [add_block] at this | exact this) GW292.out)) | (show (Addr.add _ _).block ≠ _; rw [add_block]; exact Nat.ne_of_lt (Nat.lt_of_lt_of_le (by have := World.block_lt_of_cell? _ _ hw315_0; first | rwa [add_block] at this | exact this) GW292.out)) | (dsimp only; exact Nat.ne_of_lt (Nat.lt_of_lt_of_le (by have := World.block_lt_of_cell? _ _ hw315_0; first | rwa [add_block] at this | exact this) GW292.out))) _).trans (hHeld.2.2.2.2.2.2.2.2.2.2))))))))))⟩ (fun hHeld => ?_)
    clear hK K
    refine py HT_ 6 3 (bv 8 0x7f) ?_
    refine py HT_ 7 4 (bv 8 0xff) ?_
    refine done_ (done_of HT_.out (by kernel_rfl)) ?_
    try go_wp2
    refine bodyPost_ret (results_ctt rfl _ _ gb292 27 #[.slice A44 y308.length c44, .int .i64 t297, .slice Ao38 t298.length co38, .slice Ao39 t301.length co39, .slice Ao48 t312.length co48] (0, 0) _ rfl (by (with_reducible repeat (first | refine blk_drewN ?_ _ | refine blk_drew ?_ | refine blk_alloc ?_ _)); refine blk_put (cs := #[.slice A44 y308.length c44, .int .i64 t297, .slice Ao38 t298.length co38, .slice Ao39 t301.length co39, .slice none 0 0]) ?_ 4 _ rfl; (with_reducible repeat (first | refine blk_drewN ?_ _ | refine blk_drew ?_ | refine blk_alloc ?_ _)); refine blk_put (cs := #[.slice A44 y308.length c44, .int .i64 t297, .slice Ao38 t298.length co38, .slice none 0 0, .slice none 0 0]) ?_ 3 _ rfl; (with_reducible repeat (first | refine blk_drewN ?_ _ | refine blk_drew ?_ | refine blk_alloc ?_ _)); refine blk_put (cs := #[.slice A44 y308.length c44, .int .i64 t297, .slice none 0 0, .slice none 0 0, .slice none 0 0]) ?_ 2 _ rfl; (with_reducible repeat (first | refine blk_drewN ?_ _ | refine blk_drew ?_ | refine blk_alloc ?_ _)); refine blk_put (cs := #[.slice A44 y308.length c44, .int .i64 0, .slice none 0 0, .slice none 0 0, .slice none 0 0]) ?_ 1 _ rfl; (with_reducible repeat (first | refine blk_drewN ?_ _ | refine blk_drew ?_ | refine blk_alloc ?_ _)); refine blk_put (cs := #[.slice none 0 0, .int .i64 0, .slice none 0 0, .slice none 0 0, .slice none 0 0]) ?_ 0 _ rfl; (with_reducible repeat (first | refine blk_drewN ?_ _ | refine blk_drew ?_ | refine blk_alloc ?_ _)); exact BK292.out) Try.underlying27 rfl (by kernel_rfl)) rfl ?_
    exact ⟨_, _, _, _, er, by (with_reducible repeat (first | apply Kd.Q_alloc | apply Kd.Q_drewN | apply Kd.Q_drew)); exact Kd.Q_mono (Kd.Q_far (p := ⟨gb292, 4, none⟩) (Kd.Q_far (p := ⟨gb292, 3, none⟩) (Kd.Q_far (p := ⟨gb292, 2, none⟩) (Kd.Q_far (p := ⟨gb292, 1, none⟩) (Kd.Q_far (p := ⟨gb292, 0, none⟩) (Kd.Q_types HO310.out BK292.out (by decide)) (fun _ hk => hk.2) (.slice A44 y308.length c44)) (fun _ hk => hk.2) (.int .i64 t297)) (fun _ hk => hk.2) (.slice Ao38 t298.length co38)) (fun _ hk => hk.2) (.slice Ao39 t301.length co39)) (fun _ hk => hk.2) (.slice Ao48 t312.length co48)) (fun _ hk => ⟨hk.1.1, hk.1.2.2⟩), by (with_reducible repeat (first | apply Kd.R_alloc | apply Kd.R_drewN | apply Kd.R_drew)); exact Kd.R_mono (Kd.R_far (p := ⟨gb292, 4, none⟩) (Kd.R_far (p := ⟨gb292, 3, none⟩) (Kd.R_far (p := ⟨gb292, 2, none⟩) (Kd.R_far (p := ⟨gb292, 1, none⟩) (Kd.R_far (p := ⟨gb292, 0, none⟩) (Kd.R_types HO300.out BK292.out (by decide)) (fun _ hk => hk.2) (.slice A44 y308.length c44)) (fun _ hk => hk.2) (.int .i64 t297)) (fun _ hk => hk.2) (.slice Ao38 t298.length co38)) (fun _ hk => hk.2) (.slice Ao39 t301.length co39)) (fun _ hk => hk.2) (.slice Ao48 t312.length co48)) (fun _ hk => ⟨hk.1.1, hk.1.2.2⟩), by (with_reducible repeat (first | apply Kd.R_alloc | apply Kd.R_drewN | apply Kd.R_drew)); exact Kd.R_mono (Kd.R_far (p := ⟨gb292, 4, none⟩) (Kd.R_far (p := ⟨gb292, 3, none⟩) (Kd.R_far (p := ⟨gb292, 2, none⟩) (Kd.R_far (p := ⟨gb292, 1, none⟩) (Kd.R_far (p := ⟨gb292, 0, none⟩) (Kd.R_types HO303.out BK292.out (by decide)) (fun _ hk => hk.2) (.slice A44 y308.length c44)) (fun _ hk => hk.2) (.int .i64 t297)) (fun _ hk => hk.2) (.slice Ao38 t298.length co38)) (fun _ hk => hk.2) (.slice Ao39 t301.length co39)) (fun _ hk => hk.2) (.slice Ao48 t312.length co48)) (fun _ hk => trivial), by (with_reducible repeat (first | apply Kd.R_alloc | apply Kd.R_drewN | apply Kd.R_drew)); exact Kd.R_mono (Kd.R_far (p := ⟨gb292, 4, none⟩) (Kd.R_far (p := ⟨gb292, 3, none⟩) (Kd.R_far (p := ⟨gb292, 2, none⟩) (Kd.R_far (p := ⟨gb292, 1, none⟩) (Kd.R_far (p := ⟨gb292, 0, none⟩) (Kd.R_types HO314.out BK292.out (by decide)) (fun _ hk => hk.2) (.slice A44 y308.length c44)) (fun _ hk => hk.2) (.int .i64 t297)) (fun _ hk => hk.2) (.slice Ao38 t298.length co38)) (fun _ hk => hk.2) (.slice Ao39 t301.length co39)) (fun _ hk => hk.2) (.slice Ao48 t312.length co48)) (fun _ hk => ⟨hk.1.1, hk.1.2.1⟩), be3 HB GE291 GE292 GE307⟩
   rw [if_neg c24] at H
   exact absurd H (by simp)
  rw [if_neg c23] at H
  exact absurd H (by simp)
 replace c3 := Bool.eq_false_iff.mpr c3
 subst c3
 have H1 : (some (([] : List Int), 0, ([] : List Int), ([] : List (S70)), ([] : List Int), 0, false)) = some (r1, r2, r3, r4, r5, r6, r7) := by rw [if_neg (show ¬ (false = true) by decide)] at H; exact H
 clear H
 have H := H1
 clear H1
 simp only [Option.some.injEq, Prod.mk.injEq] at H
 obtain ⟨rfl, rfl, rfl, rfl, rfl, rfl, rfl⟩ := H
 go_enter Try.func25, Try.ntmps25
 go_wp2_with (first | ((with_reducible refine gate_dst (N := 1) rfl ?_); refine bx 1 #[.slice A0_0 l0_0.length c0_0, .int .i64 a0_1, .slice A0_2 l0_2.length c0_2, .slice A0_3 l0_3.length c0_3, .slice A0_4 l0_4.length c0_4] 27 ?_; intro gb291 hg w57 hbox hb; have BK291 := am hbox; have GW291 := gs0 hg HB; have GE291 := gs0 hg HB; replace HB := s0 HB hb; clear hb hbox hg) | ((with_reducible refine gate_dst (N := 2) rfl ?_); refine bx 2 #[.slice none 0 0, .int .i64 0, .slice none 0 0, .slice none 0 0, .slice none 0 0] 27 ?_; intro gb292 hg w58 hbox hb; have BK292 := am hbox; have GW292 := gs1 hg HB GE291; have GE292 := gs1 hg HB GE291; replace HB := Aside0.mk (below_step (be1 HB GE291) hb); have NB291_292 := Aside0.mk ((by rw [hg]; exact Nat.ne_of_lt (bl BK291) : gb291 ≠ gb292)); have NB292_291 := Aside0.mk ((by rw [hg]; exact Nat.ne_of_gt (bl BK291) : gb292 ≠ gb291)); replace BK291 := bb BK291 hb; clear hb hbox hg; have hnb59 := NB291_292.out; have hnc59 := NB292_291.out; have hcz60_0 := bz5 BK291) | ((with_reducible refine gate_callee (f := 20) rfl ?_); refine gl 7 Try.func20 #[.agg #[.slice A0_0 l0_0.length c0_0, .int .i64 a0_1, .slice A0_2 l0_2.length c0_2, .slice A0_3 l0_3.length c0_3, .slice A0_4 l0_4.length c0_4]] ?_; (with_reducible refine (spec_PoolOk.calls k _ _ l0_0 a0_1 _ _ l0_2 _ _ l0_3 _ _ l0_4 false _ (cb HR0_0 HB) HC0_0.out (cb HR0_2 HB) HC0_2.out (cb HR0_3 HB) HC0_3.out (cb HR0_4 HB) HC0_4.out A2.out).mono ?_); rintro e w61 ⟨rfl, hb⟩; refine ⟨_, rfl, ?_⟩; replace BK291 := bb BK291 hb; replace BK292 := bb BK292 hb; replace HB := Aside0.mk (below_step (be2 HB GE291 GE292) hb); (try clear hb); have hcz62_0 := bz5 BK292))
 refine bodyPost_ret (results_ctt rfl _ _ gb292 27 #[.slice none 0 0, .int .i64 0, .slice none 0 0, .slice none 0 0, .slice none 0 0] (0, 0) _ rfl (by (with_reducible repeat (first | refine blk_drewN ?_ _ | refine blk_drew ?_ | refine blk_alloc ?_ _)); refine blk_put (cs := #[.slice none 0 0, .int .i64 0, .slice none 0 0, .slice none 0 0, .slice none 0 0]) ?_ 4 _ rfl; (with_reducible repeat (first | refine blk_drewN ?_ _ | refine blk_drew ?_ | refine blk_alloc ?_ _)); refine blk_put (cs := #[.slice none 0 0, .int .i64 0, .slice none 0 0, .slice none 0 0, .slice none 0 0]) ?_ 3 _ rfl; (with_reducible repeat (first | refine blk_drewN ?_ _ | refine blk_drew ?_ | refine blk_alloc ?_ _)); refine blk_put (cs := #[.slice none 0 0, .int .i64 0, .slice none 0 0, .slice none 0 0, .slice none 0 0]) ?_ 2 _ rfl; (with_reducible repeat (first | refine blk_drewN ?_ _ | refine blk_drew ?_ | refine blk_alloc ?_ _)); refine blk_put (cs := #[.slice none 0 0, .int .i64 0, .slice none 0 0, .slice none 0 0, .slice none 0 0]) ?_ 1 _ rfl; (with_reducible repeat (first | refine blk_drewN ?_ _ | refine blk_drew ?_ | refine blk_alloc ?_ _)); refine blk_put (cs := #[.slice none 0 0, .int .i64 0, .slice none 0 0, .slice none 0 0, .slice none 0 0]) ?_ 0 _ rfl; (with_reducible repeat (first | refine blk_drewN ?_ _ | refine blk_drew ?_ | refine blk_alloc ?_ _)); exact BK292.out) Try.underlying27 rfl (by kernel_rfl)) rfl ?_
 exact ⟨_, _, _, _, er, Kd.Q_of_R (by first | exact Kd.R_nil _ _ _ _ _ | exact Kd.N_nil _ _ _ _ _ | exact Kd.V_nil _ _ _ _ _ | exact Kd.Q_nil _ _ _ _ _ | exact Kd.S_nil _ _ _ _ _), by first | exact Kd.R_nil _ _ _ _ _ | exact Kd.N_nil _ _ _ _ _ | exact Kd.V_nil _ _ _ _ _ | exact Kd.Q_nil _ _ _ _ _ | exact Kd.S_nil _ _ _ _ _, by first | exact Kd.R_nil _ _ _ _ _ | exact Kd.N_nil _ _ _ _ _ | exact Kd.V_nil _ _ _ _ _ | exact Kd.Q_nil _ _ _ _ _ | exact Kd.S_nil _ _ _ _ _, by first | exact Kd.R_nil _ _ _ _ _ | exact Kd.N_nil _ _ _ _ _ | exact Kd.V_nil _ _ _ _ _ | exact Kd.Q_nil _ _ _ _ _ | exact Kd.S_nil _ _ _ _ _, be2 HB GE291 GE292⟩

/-! ### impl_copyInts: function 57 -/
def impl_copyInts.f (l0 : List Int) : Option (List Int) := (some (([] : List Int) : List Int)).bind fun y316 => (if y316.length + l0.length < 17592186044416 then (some (y316 ++ l0)) else (none))
set_option maxHeartbeats 8000000 in
set_option maxRecDepth 100000 in
theorem impl_copyInts.calls (A0 : Option Addr) (c0 : Nat) (l0 : List Int) (r : List Int) (w : World) (hr0 : Kd.C (Kd.int .i64) w A0 l0.length l0) (hc0 : l0.length ≤ c0) (h : impl_copyInts.f l0 = some r) :
  Calls Try.prog 57 #[.slice A0 l0.length c0] w fun e w' => ∃ v0_ : Value, e = .returned (v0_) ∧ Kd.R (Kd.int .i64) 3 w' w.heap.size (fun _ => True) v0_ r ∧ Below w.heap.size w w' := by
 have HR0 := Aside0.mk hr0
 have HC0 := Aside0.mk hc0
 clear hr0 hc0
 have HB := Aside0.mk (Below.refl w.heap.size w)
 have H : ((some (([] : List Int) : List Int)).bind fun y316 => (if y316.length + l0.length < 17592186044416 then (some (y316 ++ l0)) else (none))) = some r := h
 clear h
 obtain ⟨y316, hy316⟩ : ∃ y_ : List Int, y_ = (([] : List Int)) := ⟨_, rfl⟩
 replace H : (if y316.length + l0.length < 17592186044416 then (some (y316 ++ l0)) else (none)) = some r := by first | (rw [hy316]; with_reducible exact H) | (have H2_ := (Option.bind_some _ _).symm.trans H; rw [hy316]; with_reducible exact H2_) | (have H2_ := (Option.bind_some _ _).symm.trans H; with_reducible exact H2_) | with_reducible exact H | (rw [hy316]; exact H) | exact H
 have Ny316 := Aside0.mk hy316
 clear hy316
 by_cases c2 : y316.length + l0.length < 17592186044416
 ·rw [if_pos c2] at H
  have LMc2 := Aside0.mk c2
  clear c2
  obtain ⟨y319, hy319⟩ : ∃ y_ : List Int, y_ = (y316 ++ l0) := ⟨_, rfl⟩
  replace H : (some y319) = some r := by first | (rw [hy319]; with_reducible exact H) | (have H2_ := (Option.bind_some _ _).symm.trans H; rw [hy319]; with_reducible exact H2_) | (have H2_ := (Option.bind_some _ _).symm.trans H; with_reducible exact H2_) | with_reducible exact H | (rw [hy319]; exact H) | exact H
  have Ny319 := Aside0.mk hy319
  clear hy319
  obtain rfl := Option.some.inj H
  go_enter Try.func57, Try.ntmps57
  have HO318 := Aside0.mk (show Kd.R (Kd.int .i64) 3 w w.heap.size (fun _ => True) (.slice none 0 0) y316 from by rw [Ny316.out]; exact Kd.R_nil _ _ _ _ _)
  go_wp2_with (first | ((with_reducible refine gate_builtin (b := .append) (xs := #[.const (.slice none 0 0), .tmp 3]) rfl ?_); at_builtin; refine Kd.R_append_rows (Kd.int .i64) (w0 := w) w.heap.size rfl (.const (.slice none 0 0)) (.tmp 3) 22 3 (.int .i64 0) 8 rfl Try.underlying22 info3 rfl (by decide) (by omega) (.slice none 0 0) y316 l0 _ _ _ (fun _ => True) (fun _ => False) rfl rfl ?aO ?aR (fun _ _ h => h) (fun _ h => h.elim) ?aF ?aB ?aS ?aL ?_; (case aR => repeat (first | exact (Kd.C_below HR0.out HB.out) | (with_reducible refine Kd.C_alloc ?_ _) | (with_reducible refine Kd.C_drewN ?_ _) | (with_reducible refine Kd.C_drew ?_))); (case aB => exact (be HB)); (case aF => exact (fun _ _ => trivial)); (case aO => exact (ro HO318)); (case aS => exact (below_size (be HB))); (case aL => have := LMc2.out; omega); intro v320 w5 ho hb hg hat; rw [← Ny319.out] at ho; replace HB := Aside0.mk (hb); have HO321 := Aside0.mk (ho); clear HO318; clear ho hb hg hat))
  go_ret
  exact ⟨_, er, by (with_reducible repeat (first | apply Kd.R_alloc | apply Kd.R_drewN | apply Kd.R_drew)); exact HO321.out, be HB⟩
 rw [if_neg c2] at H
 exact absurd H (by simp)

/-! ### slices_Sort_int_int: function 58 -/
def slices_Sort_int_int.f (k : Nat) (l0 : List Int) : Option (List Int) := match k with | 0 => none | _ + 1 => if l0.length < 4611686018427387904 then some (l0.mergeSort fun x y => decide (x ≤ y)) else none
theorem slices_Sort_int_int.mono : ∀ a0 k, LeO (slices_Sort_int_int.f k a0) (slices_Sort_int_int.f (k + 1) a0) := by
 intro a0 k
 cases k with
 | zero => exact LeO.none _
 | succ k => exact LeO.refl _
set_option maxHeartbeats 8000000 in
set_option maxRecDepth 100000 in
theorem slices_Sort_int_int.calls (k : Nat) (P0_ : Nat → Prop) (u9000_ : Value) (l0 : List Int) (r : List Int) (w0 w : World) (hB : Below w0.heap.size w0 w) (ho0 : Kd.R (Kd.int .i64) 3 w w0.heap.size P0_ u9000_ l0) (h : slices_Sort_int_int.f k l0 = some r) :
  Calls Try.prog 58 #[u9000_] w fun e w' => e = .returned (.tuple #[]) ∧ Kd.R (Kd.int .i64) 3 w' w0.heap.size (fun k_ => (P0_ k_ ∨ w.heap.size ≤ k_)) u9000_ r ∧ Below w0.heap.size w0 w' ∧ Kept w w' (fun k_ => P0_ k_) := by
 cases k with
 | zero => cases h
 | succ k =>
 have h' : (if l0.length < 4611686018427387904 then some (l0.mergeSort fun x y => decide (x ≤ y)) else none) = some r := h
 clear h
 by_cases hlen : l0.length < 4611686018427387904
 case neg => rw [if_neg hlen] at h'; cases h'
 rw [if_pos hlen] at h'
 obtain rfl := Option.some.inj h'
 clear h'
 rcases Nat.eq_zero_or_pos l0.length with hz | hn
 ·obtain rfl := List.length_eq_zero_iff.1 hz
  obtain ⟨A, c, rfl⟩ := Kd.R_slice ho0
  refine (Try.slices_Sort_int_none A c w).mono ?_
  rintro e w' ⟨rfl, rfl⟩
  refine ⟨rfl, ?_, hB, Kept.refl _ _⟩
  rw [List.mergeSort_nil]
  exact Kd.R_mono ho0 (fun k_ hk => (.inl hk))
 obtain ⟨g, cap, cur, rfl, hg, hh, hc1, hc2, hs, ht, hok⟩ := Ow.opened ho0 hn
 have hm : cap ≤ 9223372036854775807 := hc2
 refine (Try.slices_Sort_int g 0 cap l0 w (Go.holds_of_blockI hh ht) (blk_lt hh) hlen).mono ?_
 rintro e w' ⟨rfl, n, os, rfl⟩
 have hgr := Go.grownBy_sortedI (w := w) (g := g) (n := n) (os := os) (l0.mergeSort fun x y => decide (x ≤ y)).toArray
 have hl : (l0.mergeSort fun x y => decide (x ≤ y)).length = l0.length := List.length_mergeSort _
 refine ⟨rfl, ?_, ?_, ?_⟩
 ·have hm := Ow.made (α := Int) (enc := Value.int .i64) (h1 := fun _ => rfl) (base := w0.heap.size) (ok := fun k_ => (P0_ k_ ∨ w.heap.size ≤ k_)) (xs := l0.mergeSort fun x y => decide (x ≤ y)) (cap := cap) (.inl hok) hg (Go.heap_sortedI (n := n) (os := os) (l0.mergeSort fun x y => decide (x ≤ y)).toArray hh) (by rw [hl]; exact hc1) hc2 (by unfold Go.Sort.putCells; rw [Array.size_mapIdx]; exact hs) (Go.take_putCellsI _ _ (by rw [hl]; omega))
  rw [hl] at hm
  exact hm
 ·exact ⟨hgr.os.trans hB.os, hgr.tape.trans hB.tape, hgr.output.trans hB.output, Nat.le_trans hB.size hgr.size, fun i hi => (hgr.block i (Nat.lt_of_lt_of_le hi hB.size) (fun he => by have := Option.some.inj he; omega)).trans (hB.block i hi)⟩
 ·exact (Kept.refl w _).of_grown hgr (fun k hk => .inl (Option.some.inj hk ▸ hok))


/-! ### impl_within: function 46 -/
def impl_within.f (a0 : Int) (a1 : Int) (a2 : Int) : Option (Bool) := if a0 ≥ a1 then (some (decide (a0 ≤ a2))) else (some false)
set_option maxHeartbeats 8000000 in
set_option maxRecDepth 100000 in
theorem impl_within.calls (a0 : Int) (a1 : Int) (a2 : Int) (r : Bool) (w : World) (h : impl_within.f a0 a1 a2 = some r) :
  Calls Try.prog 46 #[.int .i64 a0, .int .i64 a1, .int .i64 a2] w fun e w' => e = .returned (.bool r) ∧ Drawn0 w w' := by
 have H : (if a0 ≥ a1 then (some (decide (a0 ≤ a2))) else (some false)) = some r := h
 clear h
 by_cases c4 : a0 ≥ a1
 ·rw [if_pos c4] at H
  have c4b0 : decide (a1 ≤ a0) = true := decide_eq_true c4
  clear c4
  obtain rfl := Option.some.inj H
  go_enter Try.func46, Try.ntmps46
  go_wp2
  go_ret
  exact ⟨by first | rfl | (simp; done) | (simp [*]; done), by repeat (first | exact Drawn0.refl _ | apply Drawn0.step)⟩
 rw [if_neg c4] at H
 have c4b0 : decide (a1 ≤ a0) = false := decide_eq_false c4
 clear c4
 obtain rfl := Option.some.inj H
 go_enter Try.func46, Try.ntmps46
 go_wp2
 go_ret
 exact ⟨by first | rfl | (simp; done) | (simp [*]; done), by repeat (first | exact Drawn0.refl _ | apply Drawn0.step)⟩

/-! ### impl_Ages_inLimbo: function 62 -/
def impl_Ages_inLimbo.l0 : Nat → Int → List (S70) → Int → Int → Option (Int)
 | 0, _, _, _, _ => none
 | k + 1, x1, x8, x9, x10 => if x10 < x9 then (if 0 ≤ x10 then (if x10 < (x8.length : Int) then (if ((rd_T70 x8 x10).f0) = x1 then (some x10) else (impl_Ages_inLimbo.l0 k x1 x8 x9 (wrap64 (x10 + 1)))) else (none)) else (none)) else (some (-1))
def impl_Ages_inLimbo.f (k : Nat) (a0_0 : Int) (l0_1 : List Int) (l0_2 : List (S70)) (a1 : Int) : Option (Int) := impl_Ages_inLimbo.l0 k a1 l0_2 (l0_2.length : Int) 0
theorem impl_Ages_inLimbo.mono_l : ∀ k, (∀ y0 y1 y2 y3, LeO (impl_Ages_inLimbo.l0 k y0 y1 y2 y3) (impl_Ages_inLimbo.l0 (k + 1) y0 y1 y2 y3))
 | 0 => fun _ _ _ _ r h => by simp [impl_Ages_inLimbo.l0] at h
 | k + 1 => by
  have ih0 := impl_Ages_inLimbo.mono_l k
  ·intro y0 y1 y2 y3
   unfold impl_Ages_inLimbo.l0
   repeat' first
   | (with_reducible exact ih0 _ _ _ _)
   | (with_reducible exact LeO.refl _)
   | (with_reducible exact LeO.none _)
   | (with_reducible refine LeO.ite ?_ ?_)
   | (with_reducible refine LeO.bind ?_ (fun _ => ?_))
   | exact ih0 _ _ _ _
   | exact LeO.none _
   | refine LeO.ite ?_ ?_
   | refine LeO.bind ?_ (fun _ => ?_)
theorem impl_Ages_inLimbo.mono : ∀ a0 a1 a2 a3 k, LeO (impl_Ages_inLimbo.f k a0 a1 a2 a3) (impl_Ages_inLimbo.f (k + 1) a0 a1 a2 a3) := by
 intro a0 a1 a2 a3 k
 have ih0 := impl_Ages_inLimbo.mono_l k
 unfold impl_Ages_inLimbo.f
 repeat' first
   | (with_reducible exact ih0 _ _ _ _)
   | (with_reducible exact LeO.refl _)
   | (with_reducible exact LeO.none _)
   | (with_reducible refine LeO.ite ?_ ?_)
   | (with_reducible refine LeO.bind ?_ (fun _ => ?_))
   | exact ih0 _ _ _ _
   | exact LeO.none _
   | refine LeO.ite ?_ ?_
   | refine LeO.bind ?_ (fun _ => ?_)
set_option maxHeartbeats 8000000 in
set_option maxRecDepth 100000 in
theorem impl_Ages_inLimbo.calls (k : Nat) (a0_0 : Int) (A0_1 : Option Addr) (c0_1 : Nat) (l0_1 : List Int) (A0_2 : Option Addr) (c0_2 : Nat) (l0_2 : List (S70)) (a1 : Int) (r : Int) (w : World) (hr0_1 : Kd.C (Kd.int .i64) w A0_1 l0_1.length l0_1) (hc0_1 : l0_1.length ≤ c0_1) (hr0_2 : Kd.C k70 w A0_2 l0_2.length l0_2) (hc0_2 : l0_2.length ≤ c0_2) (h : impl_Ages_inLimbo.f k a0_0 l0_1 l0_2 a1 = some r) :
  Calls Try.prog 62 #[.agg #[.int .i64 a0_0, .slice A0_1 l0_1.length c0_1, .slice A0_2 l0_2.length c0_2], .int .i64 a1] w fun e w' => e = .returned (.int .i64 r) ∧ Below w.heap.size w w' := by
 have hu25 := Try.underlying25
 have hu70 := Try.underlying70
 have HR0_1 := Aside0.mk hr0_1
 have HC0_1 := Aside0.mk hc0_1
 clear hr0_1 hc0_1
 have HR0_2 := Aside0.mk hr0_2
 have HC0_2 := Aside0.mk hc0_2
 clear hr0_2 hc0_2
 have HB := Aside0.mk (Below.refl w.heap.size w)
 have H : (impl_Ages_inLimbo.l0 k a1 l0_2 (l0_2.length : Int) 0) = some r := h
 clear h
 have H' := Aside0.mk H
 clear H
 go_enter Try.func62, Try.ntmps62
 go_wp2_with (first | ((with_reducible refine gate_dst (N := 2) rfl ?_); refine bx 2 #[.int .i64 a0_0, .slice A0_1 l0_1.length c0_1, .slice A0_2 l0_2.length c0_2] 25 ?_; intro gb323 hg w3 hbox hb; have BK323 := am hbox; have GW323 := gs0 hg HB; have GE323 := gs0 hg HB; replace HB := s0 HB hb; clear hb hbox hg; have hcz4_0 := bz3 BK323))
 go_loopg [10] k (fun kq v10 w' => ∃ (x10_1 : Int), v10 = .int .i64 x10_1 ∧ Aside0 (impl_Ages_inLimbo.l0 kq a1 l0_2 (l0_2.length : Int) x10_1 = some r) ∧ Aside0 (kq ≤ k) ∧ Aside0 (w'.heap[gb323]? = some (.cells #[.int .i64 a0_0, (.slice A0_1 l0_1.length c0_1), (.slice A0_2 l0_2.length c0_2)] 25 (0, 0))) ∧ Aside0 (Below w.heap.size w w'))
 case atStart => exact ⟨(0), rs, H', ⟨Nat.le_refl _⟩, ⟨bk BK323⟩, ⟨be1 HB GE323⟩⟩
 case round =>
  clear H'
  try clear p2; try clear hcz4_0
  obtain ⟨x10_1, rfl, HA, HK1, BK323, HB⟩ := hrel
  cases gk with
  | zero => exact absurd HA.out (by simp [impl_Ages_inLimbo.l0])
  | succ k1 =>
   have H := HA.out
   clear HA
   simp only [impl_Ages_inLimbo.l0] at H
   by_cases c5 : x10_1 < (l0_2.length : Int)
   ·rw [if_pos c5] at H
    have c5b0 : decide (x10_1 < (l0_2.length : Int)) = true := decide_eq_true c5
    clear c5
    by_cases c6 : 0 ≤ x10_1
    ·rw [if_pos c6] at H
     have c6b0 : decide (0 ≤ x10_1) = true := decide_eq_true c6
     clear c6
     by_cases c7 : x10_1 < (l0_2.length : Int)
     ·rw [if_pos c7] at H
      have c7b0 : decide (x10_1 < (l0_2.length : Int)) = true := decide_eq_true c7
      clear c7
      by_cases c8 : ((rd_T70 l0_2 x10_1).f0) = a1
      ·rw [if_pos c8] at H
       have c8b0 : (((rd_T70 l0_2 x10_1).f0) == a1) = true := beq_iff_eq.mpr c8
       have c8b1 : (((rd_T70 l0_2 x10_1).f0) != a1) = false := bne_eq_false_iff_eq.mpr c8
       clear c8
       obtain rfl := Option.some.inj H
       have p324 : 0 ≤ (x10_1 : Int) := od
       have q324 : x10_1 < (l0_2.length : Int) := od
       obtain ⟨ad324, e324, hx324_0, hx324_1⟩ := at_T70 HR0_2.out x10_1 p324 q324
       cases e324
       replace hx324_0 := hc HB hx324_0
       replace hx324_1 := hc HB hx324_1
       replace p324 := eq_true p324
       replace q324 := eq_true q324
       go_wp2_with (first | ((with_reducible refine gate_dst (N := 6) rfl ?_); refine bx 6 #[.int .i64 0, .int .i64 0] 70 ?_; intro gb325 hg w9 hbox hb; have BK325 := am hbox; have GW325 := gs1 hg HB GE323; have GE325 := gs1 hg HB GE323; replace HB := Aside0.mk (below_step (be1 HB GE323) hb); have NB323_325 := Aside0.mk ((by rw [hg]; exact Nat.ne_of_lt (bl BK323) : gb323 ≠ gb325)); have NB325_323 := Aside0.mk ((by rw [hg]; exact Nat.ne_of_gt (bl BK323) : gb325 ≠ gb323)); replace BK323 := bb BK323 hb; clear hb hbox hg; have hnb10 := NB325_323.out; have hnc10 := NB323_325.out; have hcz11_0 := bz2 BK325))
       go_ret
       exact ⟨er, be2 HB GE323 GE325⟩
      rw [if_neg c8] at H
      have c8b0 : (((rd_T70 l0_2 x10_1).f0) == a1) = false := beq_eq_false_iff_ne.mpr c8
      have c8b1 : (((rd_T70 l0_2 x10_1).f0) != a1) = true := bne_iff_ne.mpr c8
      have H' := Aside0.mk H
      clear H
      have p324 : 0 ≤ (x10_1 : Int) := od
      have q324 : x10_1 < (l0_2.length : Int) := od
      obtain ⟨ad324, e324, hx324_0, hx324_1⟩ := at_T70 HR0_2.out x10_1 p324 q324
      cases e324
      replace hx324_0 := hc HB hx324_0
      replace hx324_1 := hc HB hx324_1
      replace p324 := eq_true p324
      replace q324 := eq_true q324
      go_wp2_with (first | ((with_reducible refine gate_dst (N := 6) rfl ?_); refine bx 6 #[.int .i64 0, .int .i64 0] 70 ?_; intro gb325 hg w12 hbox hb; have BK325 := am hbox; have GW325 := gs1 hg HB GE323; have GE325 := gs1 hg HB GE323; replace HB := Aside0.mk (below_step (be1 HB GE323) hb); have NB323_325 := Aside0.mk ((by rw [hg]; exact Nat.ne_of_lt (bl BK323) : gb323 ≠ gb325)); have NB325_323 := Aside0.mk ((by rw [hg]; exact Nat.ne_of_gt (bl BK323) : gb325 ≠ gb323)); replace BK323 := bb BK323 hb; clear hb hbox hg; have hnb13 := NB325_323.out; have hnc13 := NB323_325.out; have hcz14_0 := bz2 BK325))
      go_roundg k1
      case measure => have := HK1.out; omega
      case rel => exact ⟨(wrap64 (x10_1 + 1)), rs, H', ⟨by have := HK1.out; omega⟩, ⟨by (with_reducible repeat (first | refine blk_drewN ?_ _ | refine blk_drew ?_ | refine blk_alloc ?_ _)); refine blk_far ?_ NB323_325.out _; (with_reducible repeat (first | refine blk_drewN ?_ _ | refine blk_drew ?_ | refine blk_alloc ?_ _)); refine blk_far ?_ NB323_325.out _; (with_reducible repeat (first | refine blk_drewN ?_ _ | refine blk_drew ?_ | refine blk_alloc ?_ _)); exact BK323.out⟩, ⟨be2 HB GE323 GE325⟩⟩
     rw [if_neg c7] at H
     exact absurd H (by simp)
    rw [if_neg c6] at H
    exact absurd H (by simp)
   rw [if_neg c5] at H
   have c5b0 : decide (x10_1 < (l0_2.length : Int)) = false := decide_eq_false c5
   clear c5
   obtain rfl := Option.some.inj H
   go_wp2
   go_ret
   exact ⟨er, be1 HB GE323⟩

/-! ### impl_isNum: function 93 -/
def impl_isNum.f (a0 : Int) : Option (Bool) := (impl_within.f a0 0 4294967295).bind fun t326 => (some t326)
set_option maxHeartbeats 8000000 in
set_option maxRecDepth 100000 in
theorem impl_isNum.calls (a0 : Int) (r : Bool) (w : World) (h : impl_isNum.f a0 = some r) :
  Calls Try.prog 93 #[.int .i64 a0] w fun e w' => e = .returned (.bool r) ∧ Drawn0 w w' := by
 have H : ((impl_within.f a0 0 4294967295).bind fun t326 => (some t326)) = some r := h
 clear h
 replace H := Option.bind_eq_some_iff.mp H
 obtain ⟨t326, A20, H⟩ := H
 replace H : (some t326) = some r := H
 have A2 := Aside0.mk A20
 clear A20
 obtain rfl := Option.some.inj H
 go_enter Try.func93, Try.ntmps93
 go_wp2_with (first | ((with_reducible refine gate_callee (f := 46) rfl ?_); refine gl 4 Try.func46 #[.int .i64 a0, .int .i64 0, .int .i64 4294967295] ?_; (with_reducible refine (impl_within.calls a0 0 4294967295 t326 _ A2.out).mono ?_); rintro e w' ⟨rfl, ⟨nd, rfl⟩⟩; refine ⟨_, rfl, ?_⟩))
 go_ret
 exact ⟨by first | rfl | (simp; done) | (simp [*]; done), by repeat (first | exact Drawn0.refl _ | apply Drawn0.step)⟩

end Go.Proofs.Ytdgpidhlbpaolaa.QFnExactAlloc
