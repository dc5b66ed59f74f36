-- made by a program of this session (myprint.py)
import Derived.Test.YtfjhkediaholmaaQFnExactEvictSmallx0
import Derived.Test.YtfjhkediaholmaaQFnExactEvictSmallx6
import Derived.Test.YtfjhkediaholmaaQFnExactEvictSmallx7
import Derived.Test.YtfjhkediaholmaaQFnExactEvictSmallx8
namespace Go.Proofs.Ytfjhkediaholmaa.QFnExactEvictSmall
open Go.RowKit Go.Proofs.YtfjhkediaholmaaW.PrintWords Go.Proofs.YtfjhkediaholmaaW.PrintLast Go.Proofs.YtfjhkediaholmaaW.PrintMore
attribute [local go_sem] max2_int min2_int max_two min_two max_three min_three max_four min_four   -- for this text's walks alone
set_option linter.unusedVariables false
set_option linter.unusedSimpArgs false

/-! ### spec_EvictSmall: function 37 -/
def spec_EvictSmall.l0 : Nat → Int → Int → List (S68) → List (S68) → List Int → Option (Int × Int × (List (S68)) × (List (S68)) × List Int × ByteArray × Bool)
 | 0, _, _, _, _, _ => none
 | k + 1, x257000, x257001, x257002, x257003, x257004 => if (x257002.length : Int) > 0 then (if 0 < (x257002.length : Int) then ((some (([] : List (S68)) : List (S68))).bind fun y259 => (if 1 ≤ (x257002.length : Int) then ((some (x257002.drop 1 : List (S68))).bind fun y262 => (if y259.length + y262.length < 3518437208883 then ((some (y259 ++ y262 : List (S68))).bind fun y266 => (if ((rd_T68 x257002 0).f2) ≤ 1 then ((spec_Hash.f k ((rd_T68 x257002 0).f0)).bind fun t269 => ((spec_l10Haunt.f k x257000 x257001 y266 x257003 x257004 t269).bind fun bt270 => (some (bt270.1, bt270.2.1, bt270.2.2.1, bt270.2.2.2.1, bt270.2.2.2.2, (rd_T68 x257002 0).f0, true)))) else (if x257003.length < 3518437208883 then (spec_EvictSmall.l0 k x257000 x257001 y266 (x257003 ++ [(⟨(rd_T68 x257002 0).f0, (rd_T68 x257002 0).f1, 0⟩ : S68)]) x257004) else (none)))) else (none))) else (none))) else (none)) else (some (x257000, x257001, x257002, x257003, x257004, (⟨#[]⟩ : ByteArray), false))
def spec_EvictSmall.f (k : Nat) (a0_0 : Int) (a0_1 : Int) (l0_2 : List (S68)) (l0_3 : List (S68)) (l0_4 : List Int) : Option (Int × Int × (List (S68)) × (List (S68)) × List Int × ByteArray × Bool) := (spec_ThreeOk.f k a0_0 a0_1 l0_2 l0_3 l0_4).bind fun t244 => (if t244 = true then ((spec_l10Copy.f a0_0 a0_1 l0_2 l0_3 l0_4).bind fun bt245 => (spec_EvictSmall.l0 k bt245.1 bt245.2.1 bt245.2.2.1 bt245.2.2.2.1 bt245.2.2.2.2)) else (some (0, 0, ([] : List (S68)), ([] : List (S68)), ([] : List Int), (⟨#[]⟩ : ByteArray), false)))
theorem spec_EvictSmall.mono_l : ∀ k, (∀ y0 y1 y2 y3 y4, LeO (spec_EvictSmall.l0 k y0 y1 y2 y3 y4) (spec_EvictSmall.l0 (k + 1) y0 y1 y2 y3 y4))
 | 0 => fun _ _ _ _ _ r h => by simp [spec_EvictSmall.l0] at h
 | k + 1 => by
  have ih0 := spec_EvictSmall.mono_l k
  ·intro y0 y1 y2 y3 y4
   unfold spec_EvictSmall.l0
   repeat' first
   | (with_reducible exact ih0 _ _ _ _ _)
   | (with_reducible exact spec_Hash.mono _ _)
   | (with_reducible exact spec_ThreeOk.mono _ _ _ _ _ _)
   | (with_reducible exact spec_l10Haunt.mono _ _ _ _ _ _ _)
   | (with_reducible exact LeO.refl _)
   | (with_reducible exact LeO.none _)
   | (with_reducible refine LeO.ite ?_ ?_)
   | (with_reducible refine LeO.bind ?_ (fun _ => ?_))
   | exact ih0 _ _ _ _ _
   | exact spec_Hash.mono _ _
   | exact spec_ThreeOk.mono _ _ _ _ _ _
   | exact spec_l10Haunt.mono _ _ _ _ _ _ _
   | exact LeO.none _
   | refine LeO.ite ?_ ?_
   | refine LeO.bind ?_ (fun _ => ?_)
theorem spec_EvictSmall.mono : ∀ a0 a1 a2 a3 a4 k, LeO (spec_EvictSmall.f k a0 a1 a2 a3 a4) (spec_EvictSmall.f (k + 1) a0 a1 a2 a3 a4) := by
 intro a0 a1 a2 a3 a4 k
 have ih0 := spec_EvictSmall.mono_l k
 unfold spec_EvictSmall.f
 repeat' first
   | (with_reducible exact ih0 _ _ _ _ _)
   | (with_reducible exact spec_Hash.mono _ _)
   | (with_reducible exact spec_ThreeOk.mono _ _ _ _ _ _)
   | (with_reducible exact spec_l10Haunt.mono _ _ _ _ _ _ _)
   | (with_reducible exact LeO.refl _)
   | (with_reducible exact LeO.none _)
   | (with_reducible refine LeO.ite ?_ ?_)
   | (with_reducible refine LeO.bind ?_ (fun _ => ?_))
   | exact ih0 _ _ _ _ _
   | exact spec_Hash.mono _ _
   | exact spec_ThreeOk.mono _ _ _ _ _ _
   | exact spec_l10Haunt.mono _ _ _ _ _ _ _
   | exact LeO.none _
   | refine LeO.ite ?_ ?_
   | refine LeO.bind ?_ (fun _ => ?_)
def spec_EvictSmall.T8 : Bool × List (List Nat × List Nat) := (true, [([], []), ([], []), ([1], [1]), ([2], [2]), ([0, 3, 3], [0, 3]), ([], []), ([5], [5]), ([4, 4, 0, 1, 2, 3, 4], [4]), ([6, 7, 0, 1, 2, 3, 4, 5, 6, 7], [6]), ([8, 0, 1, 2, 3, 4, 5, 6, 7, 8], [])])
def spec_EvictSmall.B8 : List Nat := [0, 0, 2, 6, 15, 0, 32, 31, 255, 511]
theorem spec_EvictSmall.tab8 : rtab .any (opsOf Try.f37 8) = spec_EvictSmall.T8 := by kernel_rfl
theorem spec_EvictSmall.bits8 : waitsOk spec_EvictSmall.T8.2 spec_EvictSmall.B8 = true := by kernel_rfl
set_option maxHeartbeats 8000000 in
set_option maxRecDepth 100000 in
theorem spec_EvictSmall.calls (k : Nat) (a0_0 : Int) (a0_1 : Int) (A0_2 : Option Addr) (c0_2 : Nat) (l0_2 : List (S68)) (A0_3 : Option Addr) (c0_3 : Nat) (l0_3 : List (S68)) (A0_4 : Option Addr) (c0_4 : Nat) (l0_4 : List Int) (r1 : Int) (r2 : Int) (r3 : List (S68)) (r4 : List (S68)) (r5 : List Int) (r6 : ByteArray) (r7 : Bool) (w : World) (hr0_2 : Kd.C k68 w A0_2 l0_2.length l0_2) (hc0_2 : l0_2.length ≤ c0_2) (hr0_3 : Kd.C k68 w A0_3 l0_3.length l0_3) (hc0_3 : l0_3.length ≤ c0_3) (hr0_4 : Kd.C (Kd.int .i64) w A0_4 l0_4.length l0_4) (hc0_4 : l0_4.length ≤ c0_4) (h : spec_EvictSmall.f k a0_0 a0_1 l0_2 l0_3 l0_4 = some (r1, r2, r3, r4, r5, r6, r7)) :
  Calls Try.prog 37 #[.agg #[.int .i64 a0_0, .int .i64 a0_1, .slice A0_2 l0_2.length c0_2, .slice A0_3 l0_3.length c0_3, .slice A0_4 l0_4.length c0_4]] w fun e w' => ∃ v2_ v3_ v4_ : Value, e = .returned (.tuple #[.agg #[.int .i64 r1, .int .i64 r2, v2_, v3_, v4_], .string r6, .bool r7]) ∧ Kd.R k68 68 w' w.heap.size (fun k_ => some k_ ≠ (v3_ : Value).ownBlock) v2_ r3 ∧ Kd.R k68 68 w' w.heap.size (fun k_ => some k_ ≠ (v2_ : Value).ownBlock) v3_ r4 ∧ Kd.Q (Kd.int .i64) 3 w' w.heap.size (fun _ => True) v4_ r5 ∧ Below w.heap.size w w' := by
 have hu30 := Try.underlying30
 have hu68 := Try.underlying68
 have HR0_2 := Aside0.mk hr0_2
 have HC0_2 := Aside0.mk hc0_2
 clear hr0_2 hc0_2
 have HR0_3 := Aside0.mk hr0_3
 have HC0_3 := Aside0.mk hc0_3
 clear hr0_3 hc0_3
 have HR0_4 := Aside0.mk hr0_4
 have HC0_4 := Aside0.mk hc0_4
 clear hr0_4 hc0_4
 have HB := Aside0.mk (Below.refl w.heap.size w)
 have H : ((spec_ThreeOk.f k a0_0 a0_1 l0_2 l0_3 l0_4).bind fun t244 => (if t244 = true then ((spec_l10Copy.f a0_0 a0_1 l0_2 l0_3 l0_4).bind fun bt245 => (spec_EvictSmall.l0 k bt245.1 bt245.2.1 bt245.2.2.1 bt245.2.2.2.1 bt245.2.2.2.2)) else (some (0, 0, ([] : List (S68)), ([] : List (S68)), ([] : List Int), (⟨#[]⟩ : ByteArray), false)))) = some (r1, r2, r3, r4, r5, r6, r7) := h
 clear h
 replace H := Option.bind_eq_some_iff.mp H
 obtain ⟨t244, A20, H⟩ := H
 replace H : (if t244 = true then ((spec_l10Copy.f a0_0 a0_1 l0_2 l0_3 l0_4).bind fun bt245 => (spec_EvictSmall.l0 k bt245.1 bt245.2.1 bt245.2.2.1 bt245.2.2.2.1 bt245.2.2.2.2)) else (some (0, 0, ([] : List (S68)), ([] : List (S68)), ([] : List Int), (⟨#[]⟩ : ByteArray), false))) = some (r1, r2, r3, r4, r5, r6, r7) := H
 have A2 := Aside0.mk A20
 clear A20
 by_cases c3 : t244 = true
 ·subst c3
  have H1 : ((spec_l10Copy.f a0_0 a0_1 l0_2 l0_3 l0_4).bind fun bt245 => (spec_EvictSmall.l0 k bt245.1 bt245.2.1 bt245.2.2.1 bt245.2.2.2.1 bt245.2.2.2.2)) = some (r1, r2, r3, r4, r5, r6, r7) := by rw [if_pos rfl] at H; exact H
  clear H
  have H := H1
  clear H1
  replace H := Option.bind_eq_some_iff.mp H
  obtain ⟨⟨t245, t246, t247, t250, t253⟩, A40, H⟩ := H
  replace H : (spec_EvictSmall.l0 k t245 t246 t247 t250 t253) = some (r1, r2, r3, r4, r5, r6, r7) := H
  have A4 := Aside0.mk A40
  clear A40
  have H' := Aside0.mk H
  clear H
  go_enter Try.func37, Try.ntmps37
  go_wp2_with (first | ((with_reducible refine gate_dst (N := 1) rfl ?_); refine bx 1 #[.int .i64 a0_0, .int .i64 a0_1, .slice A0_2 l0_2.length c0_2, .slice A0_3 l0_3.length c0_3, .slice A0_4 l0_4.length c0_4] 30 ?_; intro gb242 hg w5 hbox hb; have BK242 := am hbox; have GW242 := gs0 hg HB; have GE242 := gs0 hg HB; replace HB := s0 HB hb; clear hb hbox hg) | ((with_reducible refine gate_dst (N := 2) rfl ?_); refine bx 2 #[.int .i64 0, .int .i64 0, .slice none 0 0, .slice none 0 0, .slice none 0 0] 30 ?_; intro gb243 hg w6 hbox hb; have BK243 := am hbox; have GW243 := gs1 hg HB GE242; have GE243 := gs1 hg HB GE242; replace HB := Aside0.mk (below_step (be1 HB GE242) hb); have NB242_243 := Aside0.mk ((by rw [hg]; exact Nat.ne_of_lt (bl BK242) : gb242 ≠ gb243)); have NB243_242 := Aside0.mk ((by rw [hg]; exact Nat.ne_of_gt (bl BK242) : gb243 ≠ gb242)); replace BK242 := bb BK242 hb; clear hb hbox hg; have hnb7 := NB242_243.out; have hnc7 := NB243_242.out; have hcz8_0 := bz5 BK242) | ((with_reducible refine gate_callee (f := 17) rfl ?_); refine gl 8 Try.func17 #[.agg #[.int .i64 a0_0, .int .i64 a0_1, .slice A0_2 l0_2.length c0_2, .slice A0_3 l0_3.length c0_3, .slice A0_4 l0_4.length c0_4]] ?_; (with_reducible refine (spec_ThreeOk.calls k a0_0 a0_1 _ _ l0_2 _ _ l0_3 _ _ l0_4 true _ (cb HR0_2 HB) HC0_2.out (cb HR0_3 HB) HC0_3.out (cb HR0_4 HB) HC0_4.out A2.out).mono ?_); rintro e w9 ⟨rfl, hb⟩; refine ⟨_, rfl, ?_⟩; replace BK242 := bb BK242 hb; replace BK243 := bb BK243 hb; replace HB := Aside0.mk (below_step (be2 HB GE242 GE243) hb); (try clear hb); have hcz10_0 := bz5 BK242) | ((with_reducible refine gate_callee (f := 83) rfl ?_); refine gl 12 Try.func83 #[.agg #[.int .i64 a0_0, .int .i64 a0_1, .slice A0_2 l0_2.length c0_2, .slice A0_3 l0_3.length c0_3, .slice A0_4 l0_4.length c0_4]] ?_; (with_reducible refine (spec_l10Copy.calls a0_0 a0_1 _ _ l0_2 _ _ l0_3 _ _ l0_4 t245 t246 t247 t250 t253 _ (cb HR0_2 HB) HC0_2.out (cb HR0_3 HB) HC0_3.out (cb HR0_4 HB) HC0_4.out A4.out).mono ?_); rintro e w11 ⟨v248, v251, v254, rfl, ho0, ho1, ho2, hb⟩; refine ⟨_, rfl, ?_⟩; have HO249 := Aside0.mk (Kd.R_lower ho0 (below_size (be2 HB GE242 GE243))); have HO252 := Aside0.mk (Kd.R_lower ho1 (below_size (be2 HB GE242 GE243))); have HO255 := Aside0.mk (Kd.R_lower ho2 (below_size (be2 HB GE242 GE243))); replace BK242 := bb BK242 hb; replace BK243 := bb BK243 hb; replace HB := Aside0.mk (below_step (be2 HB GE242 GE243) hb); (try clear hb); (try clear ho0); (try clear ho1); (try clear ho2)) | ((with_reducible refine gate_dst (N := 5) rfl ?_); refine bx 5 #[.int .i64 0, .int .i64 0, .slice none 0 0, .slice none 0 0, .slice none 0 0] 30 ?_; intro gb256 hg w12 hbox hb; replace HO249 := rb HO249 hb; replace HO252 := rb HO252 hb; replace HO255 := rb HO255 hb; have BK256 := am hbox; have GW256 := gs2 hg HB GE242 GE243; have GE256 := gs2 hg HB GE242 GE243; replace HB := Aside0.mk (below_step (be2 HB GE242 GE243) hb); have NB242_256 := Aside0.mk ((by rw [hg]; exact Nat.ne_of_lt (bl BK242) : gb242 ≠ gb256)); have NB256_242 := Aside0.mk ((by rw [hg]; exact Nat.ne_of_gt (bl BK242) : gb256 ≠ gb242)); replace BK242 := bb BK242 hb; have NB243_256 := Aside0.mk ((by rw [hg]; exact Nat.ne_of_lt (bl BK243) : gb243 ≠ gb256)); have NB256_243 := Aside0.mk ((by rw [hg]; exact Nat.ne_of_gt (bl BK243) : gb256 ≠ gb243)); replace BK243 := bb BK243 hb; clear hb hbox hg; have hnb13 := NB256_242.out; have hnc13 := NB242_256.out; have hnb14 := NB256_243.out; have hnc14 := NB243_256.out; have hcz15_0 := bz5 BK256; obtain ⟨Ao16, co16, eo16⟩ := Kd.R_slice HO249.out; subst eo16; obtain ⟨Ao17, co17, eo17⟩ := Kd.R_slice HO252.out; subst eo17; obtain ⟨Ao18, co18, eo18⟩ := Kd.R_slice HO255.out; subst eo18))
  go_loopg [] k (fun kq w' => ∃ (x244000_1 : Int) (x244001_1 : Int) (x257002_1 : List (S68)) (x257003_1 : List (S68)) (u257002 : Value) (u257003 : Value), Aside0 (spec_EvictSmall.l0 kq t245 t246 x257002_1 x257003_1 t253 = some (r1, r2, r3, r4, r5, r6, r7)) ∧ Aside0 (kq ≤ k) ∧ Aside0 (Kd.R k68 68 w' w.heap.size (fun k_ => some k_ ≠ (u257003 : Value).ownBlock) u257002 x257002_1) ∧ Aside0 (Kd.R k68 68 w' w.heap.size (fun k_ => some k_ ≠ (u257002 : Value).ownBlock) u257003 x257003_1) ∧ Aside0 (Kd.Q (Kd.int .i64) 3 w' w.heap.size (fun _ => True) (.slice Ao18 t253.length co18) t253) ∧ Aside0 (w'.heap[gb242]? = some (.cells #[.int .i64 a0_0, .int .i64 a0_1, (.slice A0_2 l0_2.length c0_2), (.slice A0_3 l0_3.length c0_3), (.slice A0_4 l0_4.length c0_4)] 30 (0, 0))) ∧ Aside0 (w'.heap[gb243]? = some (.cells #[.int .i64 x244000_1, .int .i64 x244001_1, (.slice none 0 0), (.slice none 0 0), (.slice none 0 0)] 30 (0, 0))) ∧ Aside0 (w'.heap[gb256]? = some (.cells #[.int .i64 t245, .int .i64 t246, u257002, u257003, (.slice Ao18 t253.length co18)] 30 (0, 0))) ∧ Aside0 (Below w.heap.size w w'))
  case atStart => exact ⟨(0), (0), (t247), (t250), (.slice Ao16 t247.length co16), (.slice Ao17 t250.length co17), H', ⟨Nat.le_refl _⟩, ⟨by (with_reducible repeat (first | apply Kd.R_alloc | apply Kd.R_drewN | apply Kd.R_drew)); exact Kd.R_mono (Kd.R_far (p := ⟨gb256, 4, none⟩) (Kd.R_far (p := ⟨gb256, 3, none⟩) (Kd.R_far (p := ⟨gb256, 2, none⟩) (Kd.R_far (p := ⟨gb256, 1, none⟩) (Kd.R_far (p := ⟨gb256, 0, none⟩) (Kd.R_types HO249.out BK256.out (by decide)) (fun _ hk => hk.2) (.int .i64 t245)) (fun _ hk => hk.2) (.int .i64 t246)) (fun _ hk => hk.2) (.slice Ao16 t247.length co16)) (fun _ hk => hk.2) (.slice Ao17 t250.length co17)) (fun _ hk => hk.2) (.slice Ao18 t253.length co18)) (fun _ hk => hk.1)⟩, ⟨by (with_reducible repeat (first | apply Kd.R_alloc | apply Kd.R_drewN | apply Kd.R_drew)); exact Kd.R_mono (Kd.R_far (p := ⟨gb256, 4, none⟩) (Kd.R_far (p := ⟨gb256, 3, none⟩) (Kd.R_far (p := ⟨gb256, 2, none⟩) (Kd.R_far (p := ⟨gb256, 1, none⟩) (Kd.R_far (p := ⟨gb256, 0, none⟩) (Kd.R_types HO252.out BK256.out (by decide)) (fun _ hk => hk.2) (.int .i64 t245)) (fun _ hk => hk.2) (.int .i64 t246)) (fun _ hk => hk.2) (.slice Ao16 t247.length co16)) (fun _ hk => hk.2) (.slice Ao17 t250.length co17)) (fun _ hk => hk.2) (.slice Ao18 t253.length co18)) (fun _ hk => hk.1)⟩, ⟨Kd.Q_of_R (by (with_reducible repeat (first | apply Kd.R_alloc | apply Kd.R_drewN | apply Kd.R_drew)); exact Kd.R_mono (Kd.R_far (p := ⟨gb256, 4, none⟩) (Kd.R_far (p := ⟨gb256, 3, none⟩) (Kd.R_far (p := ⟨gb256, 2, none⟩) (Kd.R_far (p := ⟨gb256, 1, none⟩) (Kd.R_far (p := ⟨gb256, 0, none⟩) (Kd.R_types HO255.out BK256.out (by decide)) (fun _ hk => hk.2) (.int .i64 t245)) (fun _ hk => hk.2) (.int .i64 t246)) (fun _ hk => hk.2) (.slice Ao16 t247.length co16)) (fun _ hk => hk.2) (.slice Ao17 t250.length co17)) (fun _ hk => hk.2) (.slice Ao18 t253.length co18)) (fun _ hk => trivial))⟩, ⟨by (with_reducible repeat (first | refine blk_drewN ?_ _ | refine blk_drew ?_ | refine blk_alloc ?_ _)); refine blk_far ?_ NB242_256.out _; (with_reducible repeat (first | refine blk_drewN ?_ _ | refine blk_drew ?_ | refine blk_alloc ?_ _)); refine blk_far ?_ NB242_256.out _; (with_reducible repeat (first | refine blk_drewN ?_ _ | refine blk_drew ?_ | refine blk_alloc ?_ _)); refine blk_far ?_ NB242_256.out _; (with_reducible repeat (first | refine blk_drewN ?_ _ | refine blk_drew ?_ | refine blk_alloc ?_ _)); refine blk_far ?_ NB242_256.out _; (with_reducible repeat (first | refine blk_drewN ?_ _ | refine blk_drew ?_ | refine blk_alloc ?_ _)); refine blk_far ?_ NB242_256.out _; (with_reducible repeat (first | refine blk_drewN ?_ _ | refine blk_drew ?_ | refine blk_alloc ?_ _)); exact BK242.out⟩, ⟨by (with_reducible repeat (first | refine blk_drewN ?_ _ | refine blk_drew ?_ | refine blk_alloc ?_ _)); refine blk_far ?_ NB243_256.out _; (with_reducible repeat (first | refine blk_drewN ?_ _ | refine blk_drew ?_ | refine blk_alloc ?_ _)); refine blk_far ?_ NB243_256.out _; (with_reducible repeat (first | refine blk_drewN ?_ _ | refine blk_drew ?_ | refine blk_alloc ?_ _)); refine blk_far ?_ NB243_256.out _; (with_reducible repeat (first | refine blk_drewN ?_ _ | refine blk_drew ?_ | refine blk_alloc ?_ _)); refine blk_far ?_ NB243_256.out _; (with_reducible repeat (first | refine blk_drewN ?_ _ | refine blk_drew ?_ | refine blk_alloc ?_ _)); refine blk_far ?_ NB243_256.out _; (with_reducible repeat (first | refine blk_drewN ?_ _ | refine blk_drew ?_ | refine blk_alloc ?_ _)); exact BK243.out⟩, ⟨by (with_reducible repeat (first | refine blk_drewN ?_ _ | refine blk_drew ?_ | refine blk_alloc ?_ _)); refine blk_put (cs := #[.int .i64 t245, .int .i64 t246, .slice Ao16 t247.length co16, .slice Ao17 t250.length co17, .slice none 0 0]) ?_ 4 _ rfl; (with_reducible repeat (first | refine blk_drewN ?_ _ | refine blk_drew ?_ | refine blk_alloc ?_ _)); refine blk_put (cs := #[.int .i64 t245, .int .i64 t246, .slice Ao16 t247.length co16, .slice none 0 0, .slice none 0 0]) ?_ 3 _ rfl; (with_reducible repeat (first | refine blk_drewN ?_ _ | refine blk_drew ?_ | refine blk_alloc ?_ _)); refine blk_put (cs := #[.int .i64 t245, .int .i64 t246, .slice none 0 0, .slice none 0 0, .slice none 0 0]) ?_ 2 _ rfl; (with_reducible repeat (first | refine blk_drewN ?_ _ | refine blk_drew ?_ | refine blk_alloc ?_ _)); refine blk_put (cs := #[.int .i64 t245, .int .i64 0, .slice none 0 0, .slice none 0 0, .slice none 0 0]) ?_ 1 _ rfl; (with_reducible repeat (first | refine blk_drewN ?_ _ | refine blk_drew ?_ | refine blk_alloc ?_ _)); refine blk_put (cs := #[.int .i64 0, .int .i64 0, .slice none 0 0, .slice none 0 0, .slice none 0 0]) ?_ 0 _ rfl; (with_reducible repeat (first | refine blk_drewN ?_ _ | refine blk_drew ?_ | refine blk_alloc ?_ _)); exact BK256.out⟩, ⟨be3 HB GE242 GE243 GE256⟩⟩
  case round =>
   clear H'
   try clear c1; try clear p2; try clear c3; try clear c7; try clear c8; try clear c13; try clear c14; try clear c17; try clear hcz10_0; try clear hcz15_0; try clear hcz8_0
   obtain ⟨x244000_1, x244001_1, x257002_1, x257003_1, u257002, u257003, HA, HK1, HO_257002, HO_257003, HO_257004, BK242, BK243, BK256, HB⟩ := hrel
   cases gk with
   | zero => exact absurd HA.out (by simp [spec_EvictSmall.l0])
   | succ k1 =>
    have H := HA.out
    clear HA
    simp only [spec_EvictSmall.l0] at H
    by_cases c19 : (x257002_1.length : Int) > 0
    ·rw [if_pos c19] at H
     have c19b0 : decide (0 < (x257002_1.length : Int)) = true := decide_eq_true c19
     have c19b1 : decide (0 < x257002_1.length) = true := decide_eq_true (by omega)
     clear c19
     by_cases c20 : 0 < (x257002_1.length : Int)
     ·rw [if_pos c20] at H
      have c20b0 : decide (0 < (x257002_1.length : Int)) = true := decide_eq_true c20
      have c20b1 : decide (0 < x257002_1.length) = true := decide_eq_true (by omega)
      clear c20
      obtain ⟨y259, hy259⟩ : ∃ y_ : List (S68), y_ = (([] : List (S68))) := ⟨_, rfl⟩
      replace H : (if 1 ≤ (x257002_1.length : Int) then ((some (x257002_1.drop 1 : List (S68))).bind fun y262 => (if y259.length + y262.length < 3518437208883 then ((some (y259 ++ y262 : List (S68))).bind fun y266 => (if ((rd_T68 x257002_1 0).f2) ≤ 1 then ((spec_Hash.f k1 ((rd_T68 x257002_1 0).f0)).bind fun t269 => ((spec_l10Haunt.f k1 t245 t246 y266 x257003_1 t253 t269).bind fun bt270 => (some (bt270.1, bt270.2.1, bt270.2.2.1, bt270.2.2.2.1, bt270.2.2.2.2, (rd_T68 x257002_1 0).f0, true)))) else (if x257003_1.length < 3518437208883 then (spec_EvictSmall.l0 k1 t245 t246 y266 (x257003_1 ++ [(⟨(rd_T68 x257002_1 0).f0, (rd_T68 x257002_1 0).f1, 0⟩ : S68)]) t253) else (none)))) else (none))) else (none)) = some (r1, r2, r3, r4, r5, r6, r7) := by first | (rw [hy259]; with_reducible exact H) | (have H2_ := (Option.bind_some _ _).symm.trans H; rw [hy259]; with_reducible exact H2_) | (have H2_ := (Option.bind_some _ _).symm.trans H; with_reducible exact H2_) | with_reducible exact H | (rw [hy259]; exact H) | exact H
      have Ny259 := Aside0.mk hy259
      clear hy259
      by_cases c21 : 1 ≤ (x257002_1.length : Int)
      ·rw [if_pos c21] at H
       have c21b0 := eq_true c21
       have c21b1 : decide (1 ≤ (x257002_1.length : Int)) = true := decide_eq_true c21
       clear c21
       obtain ⟨y262, hy262⟩ : ∃ y_ : List (S68), y_ = (x257002_1.drop 1) := ⟨_, rfl⟩
       replace H : (if y259.length + y262.length < 3518437208883 then ((some (y259 ++ y262 : List (S68))).bind fun y266 => (if ((rd_T68 x257002_1 0).f2) ≤ 1 then ((spec_Hash.f k1 ((rd_T68 x257002_1 0).f0)).bind fun t269 => ((spec_l10Haunt.f k1 t245 t246 y266 x257003_1 t253 t269).bind fun bt270 => (some (bt270.1, bt270.2.1, bt270.2.2.1, bt270.2.2.2.1, bt270.2.2.2.2, (rd_T68 x257002_1 0).f0, true)))) else (if x257003_1.length < 3518437208883 then (spec_EvictSmall.l0 k1 t245 t246 y266 (x257003_1 ++ [(⟨(rd_T68 x257002_1 0).f0, (rd_T68 x257002_1 0).f1, 0⟩ : S68)]) t253) else (none)))) else (none)) = some (r1, r2, r3, r4, r5, r6, r7) := by first | (rw [hy262]; with_reducible exact H) | (have H2_ := (Option.bind_some _ _).symm.trans H; rw [hy262]; with_reducible exact H2_) | (have H2_ := (Option.bind_some _ _).symm.trans H; with_reducible exact H2_) | with_reducible exact H | (rw [hy262]; exact H) | exact H
       have Ny262 := Aside0.mk hy262
       clear hy262
       by_cases c22 : y259.length + y262.length < 3518437208883
       ·rw [if_pos c22] at H
        have LMc22 := Aside0.mk c22
        clear c22
        obtain ⟨y266, hy266⟩ : ∃ y_ : List (S68), y_ = (y259 ++ y262) := ⟨_, rfl⟩
        replace H : (if ((rd_T68 x257002_1 0).f2) ≤ 1 then ((spec_Hash.f k1 ((rd_T68 x257002_1 0).f0)).bind fun t269 => ((spec_l10Haunt.f k1 t245 t246 y266 x257003_1 t253 t269).bind fun bt270 => (some (bt270.1, bt270.2.1, bt270.2.2.1, bt270.2.2.2.1, bt270.2.2.2.2, (rd_T68 x257002_1 0).f0, true)))) else (if x257003_1.length < 3518437208883 then (spec_EvictSmall.l0 k1 t245 t246 y266 (x257003_1 ++ [(⟨(rd_T68 x257002_1 0).f0, (rd_T68 x257002_1 0).f1, 0⟩ : S68)]) t253) else (none))) = some (r1, r2, r3, r4, r5, r6, r7) := by first | (rw [hy266]; with_reducible exact H) | (have H2_ := (Option.bind_some _ _).symm.trans H; rw [hy266]; with_reducible exact H2_) | (have H2_ := (Option.bind_some _ _).symm.trans H; with_reducible exact H2_) | with_reducible exact H | (rw [hy266]; exact H) | exact H
        have Ny266 := Aside0.mk hy266
        clear hy266
        by_cases c23 : ((rd_T68 x257002_1 0).f2) ≤ 1
        ·rw [if_pos c23] at H
         have c23b0 : decide (((rd_T68 x257002_1 0).f2) ≤ 1) = true := decide_eq_true c23
         clear c23
         replace H := Option.bind_eq_some_iff.mp H
         obtain ⟨t269, A240, H⟩ := H
         replace H : ((spec_l10Haunt.f k1 t245 t246 y266 x257003_1 t253 t269).bind fun bt270 => (some (bt270.1, bt270.2.1, bt270.2.2.1, bt270.2.2.2.1, bt270.2.2.2.2, (rd_T68 x257002_1 0).f0, true))) = some (r1, r2, r3, r4, r5, r6, r7) := H
         have A24 := Aside0.mk A240
         clear A240
         replace H := Option.bind_eq_some_iff.mp H
         obtain ⟨⟨t270, t271, t272, t275, t278⟩, A250, H⟩ := H
         replace H : (some (t270, t271, t272, t275, t278, (rd_T68 x257002_1 0).f0, true)) = some (r1, r2, r3, r4, r5, r6, r7) := H
         have A25 := Aside0.mk A250
         clear A250
         simp only [Option.some.injEq, Prod.mk.injEq] at H
         obtain ⟨rfl, rfl, rfl, rfl, rfl, rfl, rfl⟩ := H
         have hnb26 := NB256_242.out
         have hnc26 := NB242_256.out
         have hnb27 := NB256_243.out
         have hnc27 := NB243_256.out
         have hcz28_0 := bz5 BK256
         obtain ⟨Ao29, co29, eo29⟩ := Kd.R_slice HO_257002.out
         subst eo29
         have p257 : 0 ≤ (0 : Int) := (by omega)
         have q257 : 0 < (x257002_1.length : Int) := od
         obtain ⟨ad257, e257, hx257_0, hx257_1, hx257_2⟩ := at_T68 (Kd.R_reads' HO_257002.out).2.2 0 p257 q257
         cases e257
         have qi257 : (0 < x257002_1.length) = True := eq_true (by omega)
         (try rw [show ((0 : Int)).toNat = 0 from rfl] at hx257_0)
         (try rw [show 0 * 3 = 0 from rfl] at hx257_0)
         (try rw [Addr.add_zero'] at hx257_0)
         (try rw [show ((0 : Int)).toNat = 0 from rfl] at hx257_1)
         (try rw [show 0 * 3 = 0 from rfl] at hx257_1)
         (try rw [Addr.add_zero'] at hx257_1)
         (try rw [show ((0 : Int)).toNat = 0 from rfl] at hx257_2)
         (try rw [show 0 * 3 = 0 from rfl] at hx257_2)
         (try rw [Addr.add_zero'] at hx257_2)
         replace p257 := eq_true p257
         replace q257 := eq_true q257
         try go_wp2_with (first | ((with_reducible refine gate_dst (N := 6) rfl ?_); refine bx 6 #[.string (⟨#[]⟩ : ByteArray), .string (⟨#[]⟩ : ByteArray), .int .i64 0] 68 ?_; intro gb258 hg w30 hbox hb; replace HO_257002 := Aside0.mk (Kd.R_below (Kd.R_elderB (ro HO_257002) gb258 (Nat.le_of_eq hg.symm)) hb); replace HO_257003 := Aside0.mk (Kd.R_below (Kd.R_elderB (ro HO_257003) gb258 (Nat.le_of_eq hg.symm)) hb); replace HO_257004 := Aside0.mk (Kd.Q_below (by (with_reducible repeat (first | apply Kd.Q_alloc | apply Kd.Q_drewN | apply Kd.Q_drew)); exact HO_257004.out) hb); have BK258 := am hbox; have GW258 := Aside0.mk ((by rw [hg]; exact (below_size (be3 HB GE242 GE243 GE256)) : w.heap.size ≤ gb258)); have GE258 := Aside0.mk ((by rw [hg]; exact (below_size (be3 HB GE242 GE243 GE256)) : w.heap.size ≤ gb258)); replace HB := Aside0.mk (below_step (be3 HB GE242 GE243 GE256) hb); have NB242_258 := Aside0.mk ((by rw [hg]; exact Nat.ne_of_lt (bl BK242) : gb242 ≠ gb258)); have NB258_242 := Aside0.mk ((by rw [hg]; exact Nat.ne_of_gt (bl BK242) : gb258 ≠ gb242)); replace BK242 := bb BK242 hb; have NB243_258 := Aside0.mk ((by rw [hg]; exact Nat.ne_of_lt (bl BK243) : gb243 ≠ gb258)); have NB258_243 := Aside0.mk ((by rw [hg]; exact Nat.ne_of_gt (bl BK243) : gb258 ≠ gb243)); replace BK243 := bb BK243 hb; have NB256_258 := Aside0.mk ((by rw [hg]; exact Nat.ne_of_lt (bl BK256) : gb256 ≠ gb258)); have NB258_256 := Aside0.mk ((by rw [hg]; exact Nat.ne_of_gt (bl BK256) : gb258 ≠ gb256)); replace BK256 := bb BK256 hb; clear hb hbox hg; have hnb31 := NB258_242.out; have hnc31 := NB242_258.out; have hnb32 := NB258_243.out; have hnc32 := NB243_258.out; have hnb33 := NB258_256.out; have hnc33 := NB256_258.out; have hcz34_0 := bz3 BK258) | ((with_reducible refine gate_dst (N := 21) rfl ?_); refine Kd.R_lit k68 _ 68 ?hg (N := 21) ?hd (xs := ([] : List (S68))) (inner := []) (ok := fun _ => True) (okp := fun _ => True) ?hr ?hp (fun _ hk => hk) trivial (Below.refl _ _) (Nat.le_refl _) (by simp) ?_; (case hd => rfl); (case hg => rfl); (case hr => first | (go_simp; done) | (go_simp; rfl)); (case hp => exact (Reps.none _ _)); intro v260 w35 ho36 hb hg_ hnew_; clear hg_ hnew_; (first | rw [← Ny259.out] at ho36 | (simp only [Int.reduceToNat] at ho36; rw [← Ny259.out] at ho36)); replace HO_257004 := Aside0.mk (Kd.Q_below (by (with_reducible repeat (first | apply Kd.Q_alloc | apply Kd.Q_drewN | apply Kd.Q_drew)); exact (Kd.Q_mono (Kd.Q_far (p := ⟨gb258, 2, none⟩) (Kd.Q_far (p := ⟨gb258, 1, none⟩) (Kd.Q_far (p := ⟨gb258, 0, none⟩) (Kd.Q_types HO_257004.out BK258.out (by decide)) (fun _ hk => hk.2) (.string ((rd_T68 x257002_1 0).f0))) (fun _ hk => hk.2) (.string ((rd_T68 x257002_1 0).f1))) (fun _ hk => hk.2) (.int .i64 ((rd_T68 x257002_1 0).f2))) (fun _ h_ => h_.1))) hb); have HO261 := Aside0.mk (Kd.R_lower (Kd.R_newB (Kd.R_new' (Kd.R_new' ho36 (Kd.R_lt (by (with_reducible repeat (first | apply Kd.R_alloc | apply Kd.R_drewN | apply Kd.R_drew)); exact (Kd.R_mono (Kd.R_far (p := ⟨gb258, 2, none⟩) (Kd.R_far (p := ⟨gb258, 1, none⟩) (Kd.R_far (p := ⟨gb258, 0, none⟩) (Kd.R_mono HO_257002.out (fun k_ hk => (⟨hk, hk.2⟩ : _ ∧ k_ ≠ gb258))) (fun _ hk => hk.2) (.string ((rd_T68 x257002_1 0).f0))) (fun _ hk => hk.2) (.string ((rd_T68 x257002_1 0).f1))) (fun _ hk => hk.2) (.int .i64 ((rd_T68 x257002_1 0).f2))) (fun _ h_ => h_.1))))) (Kd.R_lt (by (with_reducible repeat (first | apply Kd.R_alloc | apply Kd.R_drewN | apply Kd.R_drew)); exact (Kd.R_mono (Kd.R_far (p := ⟨gb258, 2, none⟩) (Kd.R_far (p := ⟨gb258, 1, none⟩) (Kd.R_far (p := ⟨gb258, 0, none⟩) (Kd.R_mono HO_257003.out (fun k_ hk => (⟨hk, hk.2⟩ : _ ∧ k_ ≠ gb258))) (fun _ hk => hk.2) (.string ((rd_T68 x257002_1 0).f0))) (fun _ hk => hk.2) (.string ((rd_T68 x257002_1 0).f1))) (fun _ hk => hk.2) (.int .i64 ((rd_T68 x257002_1 0).f2))) (fun _ h_ => h_.1))))) (g := gb258) (o := .cells #[.string ((rd_T68 x257002_1 0).f0), .string ((rd_T68 x257002_1 0).f1), .int .i64 ((rd_T68 x257002_1 0).f2)] 68 (0, 0)) (by (with_reducible repeat (first | refine blk_drewN ?_ _ | refine blk_drew ?_ | refine blk_alloc ?_ _)); refine blk_put (cs := #[.string ((rd_T68 x257002_1 0).f0), .string ((rd_T68 x257002_1 0).f1), .int .i64 0]) ?_ 2 _ rfl; (with_reducible repeat (first | refine blk_drewN ?_ _ | refine blk_drew ?_ | refine blk_alloc ?_ _)); refine blk_put (cs := #[.string ((rd_T68 x257002_1 0).f0), .string (⟨#[]⟩ : ByteArray), .int .i64 0]) ?_ 1 _ rfl; (with_reducible repeat (first | refine blk_drewN ?_ _ | refine blk_drew ?_ | refine blk_alloc ?_ _)); refine blk_put (cs := #[.string (⟨#[]⟩ : ByteArray), .string (⟨#[]⟩ : ByteArray), .int .i64 0]) ?_ 0 _ rfl; (with_reducible repeat (first | refine blk_drewN ?_ _ | refine blk_drew ?_ | refine blk_alloc ?_ _)); exact BK258.out)) (below_size (be4 HB GE242 GE243 GE256 GE258))); replace HO_257002 := Aside0.mk (Kd.R_elder' (by (with_reducible repeat (first | apply Kd.R_alloc | apply Kd.R_drewN | apply Kd.R_drew)); exact (Kd.R_mono (Kd.R_far (p := ⟨gb258, 2, none⟩) (Kd.R_far (p := ⟨gb258, 1, none⟩) (Kd.R_far (p := ⟨gb258, 0, none⟩) (Kd.R_mono HO_257002.out (fun k_ hk => (⟨hk, hk.2⟩ : _ ∧ k_ ≠ gb258))) (fun _ hk => hk.2) (.string ((rd_T68 x257002_1 0).f0))) (fun _ hk => hk.2) (.string ((rd_T68 x257002_1 0).f1))) (fun _ hk => hk.2) (.int .i64 ((rd_T68 x257002_1 0).f2))) (fun _ h_ => h_.1))) (Kd.R_base ho36) hb); replace HO_257003 := Aside0.mk (Kd.R_elder' (by (with_reducible repeat (first | apply Kd.R_alloc | apply Kd.R_drewN | apply Kd.R_drew)); exact (Kd.R_mono (Kd.R_far (p := ⟨gb258, 2, none⟩) (Kd.R_far (p := ⟨gb258, 1, none⟩) (Kd.R_far (p := ⟨gb258, 0, none⟩) (Kd.R_mono HO_257003.out (fun k_ hk => (⟨hk, hk.2⟩ : _ ∧ k_ ≠ gb258))) (fun _ hk => hk.2) (.string ((rd_T68 x257002_1 0).f0))) (fun _ hk => hk.2) (.string ((rd_T68 x257002_1 0).f1))) (fun _ hk => hk.2) (.int .i64 ((rd_T68 x257002_1 0).f2))) (fun _ h_ => h_.1))) (Kd.R_base ho36) hb); replace BK242 := Aside0.mk (blk_below (g := gb242) (o := .cells #[.int .i64 a0_0, .int .i64 a0_1, .slice A0_2 l0_2.length c0_2, .slice A0_3 l0_3.length c0_3, .slice A0_4 l0_4.length c0_4] 30 (0, 0)) (bf1 BK242 NB242_258) hb); replace BK243 := Aside0.mk (blk_below (g := gb243) (o := .cells #[.int .i64 x244000_1, .int .i64 x244001_1, .slice none 0 0, .slice none 0 0, .slice none 0 0] 30 (0, 0)) (bf1 BK243 NB243_258) hb); replace BK256 := Aside0.mk (blk_below (g := gb256) (o := .cells #[.int .i64 t245, .int .i64 t246, .slice (some ad257) x257002_1.length co29, u257003, .slice Ao18 t253.length co18] 30 (0, 0)) (bf1 BK256 NB256_258) hb); replace BK258 := Aside0.mk (blk_below (g := gb258) (o := .cells #[.string ((rd_T68 x257002_1 0).f0), .string ((rd_T68 x257002_1 0).f1), .int .i64 ((rd_T68 x257002_1 0).f2)] 68 (0, 0)) (by (with_reducible repeat (first | refine blk_drewN ?_ _ | refine blk_drew ?_ | refine blk_alloc ?_ _)); refine blk_put (cs := #[.string ((rd_T68 x257002_1 0).f0), .string ((rd_T68 x257002_1 0).f1), .int .i64 0]) ?_ 2 _ rfl; (with_reducible repeat (first | refine blk_drewN ?_ _ | refine blk_drew ?_ | refine blk_alloc ?_ _)); refine blk_put (cs := #[.string ((rd_T68 x257002_1 0).f0), .string (⟨#[]⟩ : ByteArray), .int .i64 0]) ?_ 1 _ rfl; (with_reducible repeat (first | refine blk_drewN ?_ _ | refine blk_drew ?_ | refine blk_alloc ?_ _)); refine blk_put (cs := #[.string (⟨#[]⟩ : ByteArray), .string (⟨#[]⟩ : ByteArray), .int .i64 0]) ?_ 0 _ rfl; (with_reducible repeat (first | refine blk_drewN ?_ _ | refine blk_drew ?_ | refine blk_alloc ?_ _)); exact BK258.out) hb); replace HB := Aside0.mk (below_step (be4 HB GE242 GE243 GE256 GE258) hb); clear hb ho36; have hcz37_0 := bz5 BK256; have q38 : (1 : Int) ≤ ((x257002_1.length : Int) : Int) := od; obtain ⟨i038, hi038, _, hsz38, _⟩ := info_parts info68; have hroom38 : x257002_1.length ≤ co29 := (Kd.R_reads' HO_257002.out).2.1; have hC38 : Kd.C k68 _ (some ad257) x257002_1.length x257002_1 := (Kd.R_reads' HO_257002.out).2.2; have hcut38 := cut_from (P := Try.prog) 28 68 .i64 Try.underlying28 hi038 3 hsz38 (some ad257) x257002_1.length co29 1 (by omega) q38; have hr38 := Kd.C_drop (m := (1 : Int).toNat) (c := co29) hC38 (by omega) hroom38; obtain ⟨A38, hA38⟩ : ∃ A1, A1 = (if co29 = (1 : Int).toNat then (some ad257) else ((some ad257) : Option Addr).map (·.add ((1 : Int).toNat * 3))) := ⟨_, rfl⟩; obtain ⟨c38, hc38⟩ : ∃ c1, c1 = co29 - (1 : Int).toNat := ⟨_, rfl⟩; have hy38 : y262.length = x257002_1.length - (1 : Int).toNat := (by rw [Ny262.out, List.length_drop] <;> omega); rw [show (x257002_1).drop (1 : Int).toNat = y262 from Ny262.out.symm] at hr38; replace hr38 : Kd.C k68 _ A38 y262.length y262 := (by rw [hA38]; exact hr38); rw [← hy38, ← hA38, ← hc38] at hcut38; have HR265 := Aside0.mk hr38; have HC265 := Aside0.mk (show y262.length ≤ c38 from by rw [hy38, hc38]; exact Nat.sub_le_sub_right hroom38 _); clear hr38 hC38 hroom38 hi038 hsz38 hc38; have KY38 := Aside0.mk hy38; have KA38 := Aside0.mk hA38; clear hy38 hA38; have KL38 := Aside0.mk (show 1 ≤ x257002_1.length from by omega); replace q38 := eq_true q38) | ((with_reducible refine gate_builtin (b := .append) (xs := #[.tmp 21, .tmp 24]) rfl ?_); at_builtin; refine Kd.R_append_rows k68 (w0 := w) w.heap.size rfl (.tmp 21) (.tmp 24) 28 68 (.agg #[(.string ⟨#[]⟩), (.string ⟨#[]⟩), (.int .i64 0)]) 40 rfl Try.underlying28 info68 rfl (by decide) (by omega) v260 y259 y262 _ _ _ (fun k_ => some k_ ≠ (.slice (some ad257) x257002_1.length co29 : Value).ownBlock ∧ some k_ ≠ (u257003 : Value).ownBlock ∧ k_ ≠ gb258) (fun _ => False) rfl rfl ?aO ?aR (fun _ _ h => h) (fun _ h => h.elim) ?aF ?aB ?aS ?aL ?_; (case aR => repeat (first | exact (by repeat (first | (with_reducible exact HR265.out) | (with_reducible refine Kd.C_alloc ?_ _) | (with_reducible refine Kd.C_drewN ?_ _) | (with_reducible refine Kd.C_drew ?_) | exact HR265.out)) | (with_reducible refine Kd.C_alloc ?_ _) | (with_reducible refine Kd.C_drewN ?_ _) | (with_reducible refine Kd.C_drew ?_))); (case aB => exact (be4 HB GE242 GE243 GE256 GE258)); (case aF => exact (fun k_ hk => ⟨Kd.fresh' (Kd.R_lt (ro HO_257002)) k_ hk, Kd.fresh' (Kd.R_lt (ro HO_257003)) k_ hk, Kd.freshB (g := gb258) (o := .cells #[.string ((rd_T68 x257002_1 0).f0), .string ((rd_T68 x257002_1 0).f1), .int .i64 ((rd_T68 x257002_1 0).f2)] 68 (0, 0)) (bk BK258) k_ hk⟩)); (case aO => exact (by (with_reducible repeat (first | apply Kd.R_alloc | apply Kd.R_drewN | apply Kd.R_drew)); exact rm HO261)); (case aS => exact (below_size (be4 HB GE242 GE243 GE256 GE258))); (case aL => have := LMc22.out; omega); intro v267 w39 ho hb hg hat; rw [← Ny266.out] at ho; replace HO_257003 := Aside0.mk (Kd.R_after (ok := (fun k_ => some k_ ≠ (.slice (some ad257) x257002_1.length co29 : Value).ownBlock ∧ k_ ≠ gb258)) (ro HO_257003) hg hat); replace HO_257004 := Aside0.mk (Kd.Q_over' (by (with_reducible repeat (first | apply Kd.Q_alloc | apply Kd.Q_drewN | apply Kd.Q_drew)); exact HO_257004.out) (Kd.R_typed (ro HO261)) (by decide) hg); replace BK242 := Aside0.mk (blk_grown (g := gb242) (o := .cells #[.int .i64 a0_0, .int .i64 a0_1, .slice A0_2 l0_2.length c0_2, .slice A0_3 l0_3.length c0_3, .slice A0_4 l0_4.length c0_4] 30 (0, 0)) (bk BK242) hg (Kd.R_ne HO261.out BK242.out (by decide))); replace BK243 := Aside0.mk (blk_grown (g := gb243) (o := .cells #[.int .i64 x244000_1, .int .i64 x244001_1, .slice none 0 0, .slice none 0 0, .slice none 0 0] 30 (0, 0)) (bk BK243) hg (Kd.R_ne HO261.out BK243.out (by decide))); replace BK256 := Aside0.mk (blk_grown (g := gb256) (o := .cells #[.int .i64 t245, .int .i64 t246, .slice (some ad257) x257002_1.length co29, u257003, .slice Ao18 t253.length co18] 30 (0, 0)) (bk BK256) hg (Kd.R_ne HO261.out BK256.out (by decide))); replace BK258 := Aside0.mk (blk_grown (g := gb258) (o := .cells #[.string ((rd_T68 x257002_1 0).f0), .string ((rd_T68 x257002_1 0).f1), .int .i64 ((rd_T68 x257002_1 0).f2)] 68 (0, 0)) (bk BK258) hg (Kd.R_away HO261.out (fun _ hk => hk.2))); replace HB := Aside0.mk (hb); replace HR265 := Aside0.mk ((show Kd.C k68 w39 A38 y262.length y262 from by rw [Ny262.out, KA38.out]; exact Kd.C_drop (m := 1) (c := co29) ((Kd.R_reads' (Kd.R_after (ok := (fun k_ => some k_ ≠ (u257003 : Value).ownBlock ∧ k_ ≠ gb258)) (ro HO_257002) hg hat)).2.2) KL38.out ((Kd.R_reads' (Kd.R_after (ok := (fun k_ => some k_ ≠ (u257003 : Value).ownBlock ∧ k_ ≠ gb258)) (ro HO_257002) hg hat)).2.1))); replace HO_257002 := Aside0.mk (Kd.R_after (ok := (fun k_ => some k_ ≠ (u257003 : Value).ownBlock ∧ k_ ≠ gb258)) (ro HO_257002) hg hat); have HO268 := Aside0.mk (ho); clear HO261; clear ho hb hg hat; obtain ⟨Ao40, co40, eo40⟩ := Kd.R_slice HO268.out; subst eo40; have hcz41_0 := bz5 BK256; have hcz42_0 := bz3 BK258))
         have n0_ : Aside0 (Kd.R k68 68 (w39.setCell ⟨gb256, 2, none⟩ (.slice Ao40 y266.length co40)) w.heap.size (fun k_ => some k_ ≠ (u257003 : Value).ownBlock ∧ nb k_ Ao40 y266.length co40 ∧ k_ ≠ gb258) (.slice (some ad257) x257002_1.length co29) x257002_1) := ⟨by (with_reducible repeat (first | apply Kd.R_alloc | apply Kd.R_drewN | apply Kd.R_drew)); exact Kd.R_mono (Kd.R_far (p := ⟨gb256, 2, none⟩) (Kd.R_types HO_257002.out BK256.out (by decide)) (fun _ hk => hk.2) (.slice Ao40 y266.length co40)) (fun _ hk => ⟨hk.1.1.1, ⟨hk.1.2, hk.1.1.2⟩⟩)⟩
         have n1_ : Aside0 (Kd.R k68 68 (w39.setCell ⟨gb256, 2, none⟩ (.slice Ao40 y266.length co40)) w.heap.size (fun k_ => some k_ ≠ (.slice (some ad257) x257002_1.length co29 : Value).ownBlock ∧ nb k_ Ao40 y266.length co40 ∧ k_ ≠ gb258) u257003 x257003_1) := ⟨by (with_reducible repeat (first | apply Kd.R_alloc | apply Kd.R_drewN | apply Kd.R_drew)); exact Kd.R_mono (Kd.R_far (p := ⟨gb256, 2, none⟩) (Kd.R_types HO_257003.out BK256.out (by decide)) (fun _ hk => hk.2) (.slice Ao40 y266.length co40)) (fun _ hk => ⟨hk.1.1.1, ⟨hk.1.2, hk.1.1.2⟩⟩)⟩
         have n2_ : Aside0 (Kd.Q (Kd.int .i64) 3 (w39.setCell ⟨gb256, 2, none⟩ (.slice Ao40 y266.length co40)) w.heap.size (fun _ => True) (.slice Ao18 t253.length co18) t253) := ⟨by (with_reducible repeat (first | apply Kd.Q_alloc | apply Kd.Q_drewN | apply Kd.Q_drew)); exact Kd.Q_mono (Kd.Q_far (p := ⟨gb256, 2, none⟩) (Kd.Q_types HO_257004.out BK256.out (by decide)) (fun _ hk => hk.2) (.slice Ao40 y266.length co40)) (fun _ hk => trivial)⟩
         have n3_ : Aside0 (Kd.R k68 68 (w39.setCell ⟨gb256, 2, none⟩ (.slice Ao40 y266.length co40)) w.heap.size (fun k_ => some k_ ≠ (.slice (some ad257) x257002_1.length co29 : Value).ownBlock ∧ some k_ ≠ (u257003 : Value).ownBlock ∧ k_ ≠ gb258) (.slice Ao40 y266.length co40) y266) := ⟨by (with_reducible repeat (first | apply Kd.R_alloc | apply Kd.R_drewN | apply Kd.R_drew)); exact Kd.R_mono (Kd.R_far (p := ⟨gb256, 2, none⟩) (Kd.R_types HO268.out BK256.out (by decide)) (fun _ hk => hk.2) (.slice Ao40 y266.length co40)) (fun _ hk => ⟨hk.1.1, ⟨hk.1.2.1, hk.1.2.2⟩⟩)⟩
         have n4_ : Aside0 ((w39.setCell ⟨gb256, 2, none⟩ (.slice Ao40 y266.length co40)).heap[gb242]? = some (.cells #[.int .i64 a0_0, .int .i64 a0_1, .slice A0_2 l0_2.length c0_2, .slice A0_3 l0_3.length c0_3, .slice A0_4 l0_4.length c0_4] 30 (0, 0))) := ⟨by (with_reducible repeat (first | refine blk_drewN ?_ _ | refine blk_drew ?_ | refine blk_alloc ?_ _)); refine blk_far ?_ NB242_256.out _; (with_reducible repeat (first | refine blk_drewN ?_ _ | refine blk_drew ?_ | refine blk_alloc ?_ _)); exact BK242.out⟩
         have n5_ : Aside0 ((w39.setCell ⟨gb256, 2, none⟩ (.slice Ao40 y266.length co40)).heap[gb243]? = some (.cells #[.int .i64 x244000_1, .int .i64 x244001_1, .slice none 0 0, .slice none 0 0, .slice none 0 0] 30 (0, 0))) := ⟨by (with_reducible repeat (first | refine blk_drewN ?_ _ | refine blk_drew ?_ | refine blk_alloc ?_ _)); refine blk_far ?_ NB243_256.out _; (with_reducible repeat (first | refine blk_drewN ?_ _ | refine blk_drew ?_ | refine blk_alloc ?_ _)); exact BK243.out⟩
         have n6_ : Aside0 ((w39.setCell ⟨gb256, 2, none⟩ (.slice Ao40 y266.length co40)).heap[gb256]? = some (.cells #[.int .i64 t245, .int .i64 t246, .slice Ao40 y266.length co40, u257003, .slice Ao18 t253.length co18] 30 (0, 0))) := ⟨by (with_reducible repeat (first | refine blk_drewN ?_ _ | refine blk_drew ?_ | refine blk_alloc ?_ _)); refine blk_put (cs := #[.int .i64 t245, .int .i64 t246, .slice (some ad257) x257002_1.length co29, u257003, .slice Ao18 t253.length co18]) ?_ 2 _ rfl; (with_reducible repeat (first | refine blk_drewN ?_ _ | refine blk_drew ?_ | refine blk_alloc ?_ _)); exact BK256.out⟩
         have n7_ : Aside0 ((w39.setCell ⟨gb256, 2, none⟩ (.slice Ao40 y266.length co40)).heap[gb258]? = some (.cells #[.string ((rd_T68 x257002_1 0).f0), .string ((rd_T68 x257002_1 0).f1), .int .i64 ((rd_T68 x257002_1 0).f2)] 68 (0, 0))) := ⟨by (with_reducible repeat (first | refine blk_drewN ?_ _ | refine blk_drew ?_ | refine blk_alloc ?_ _)); refine blk_far ?_ NB258_256.out _; (with_reducible repeat (first | refine blk_drewN ?_ _ | refine blk_drew ?_ | refine blk_alloc ?_ _)); exact BK258.out⟩
         have n8_ : Aside0 (Below w.heap.size w (w39.setCell ⟨gb256, 2, none⟩ (.slice Ao40 y266.length co40))) := ⟨be4 HB GE242 GE243 GE256 GE258⟩
         (try clear HO_257002)
         (try clear HO_257003)
         (try clear HO_257004)
         (try clear HO268)
         (try clear BK242)
         (try clear BK243)
         (try clear BK256)
         (try clear BK258)
         (try clear HB)
         generalize (w39.setCell ⟨gb256, 2, none⟩ (.slice Ao40 y266.length co40)) = w43 at n0_ n1_ n2_ n3_ n4_ n5_ n6_ n7_ n8_ ⊢
         have HO_257002 := n0_
         have HO_257003 := n1_
         have HO_257004 := n2_
         have HO268 := n3_
         have BK242 := n4_
         have BK243 := n5_
         have BK256 := n6_
         have BK258 := n7_
         have HB := n8_
         clear n0_ n1_ n2_ n3_ n4_ n5_ n6_ n7_ n8_
         have n0_ := Aside0.mk (Kd.R_drew HO_257002.out)
         have n1_ := Aside0.mk (Kd.R_drew HO_257003.out)
         have n2_ := Aside0.mk (Kd.Q_drew HO_257004.out)
         have n3_ := Aside0.mk (Kd.R_drew HO268.out)
         have n4_ := Aside0.mk (blk_drew BK242.out)
         have n5_ := Aside0.mk (blk_drew BK243.out)
         have n6_ := Aside0.mk (blk_drew BK256.out)
         have n7_ := Aside0.mk (blk_drew BK258.out)
         have n8_ := Aside0.mk (below_drew1 HB.out)
         clear HO_257002
         clear HO_257003
         clear HO_257004
         clear HO268
         clear BK242
         clear BK243
         clear BK256
         clear BK258
         clear HB
         have HO_257002 := n0_
         have HO_257003 := n1_
         have HO_257004 := n2_
         have HO268 := n3_
         have BK242 := n4_
         have BK243 := n5_
         have BK256 := n6_
         have BK258 := n7_
         have HB := n8_
         clear n0_ n1_ n2_ n3_ n4_ n5_ n6_ n7_ n8_
         refine start_ (n := 10) (S := fun w' => w'.cell? ⟨gb256, 0, none⟩ = some (.int .i64 t245) ∧ w'.cell? ⟨gb256, 1, none⟩ = some (.int .i64 t246) ∧ w'.cell? ⟨gb256, 2, none⟩ = some (.slice Ao40 y266.length co40) ∧ w'.cell? ⟨gb256, 3, none⟩ = some (u257003) ∧ w'.cell? ⟨gb256, 4, none⟩ = some (.slice Ao18 t253.length co18) ∧ w'.cell? ⟨gb258, 0, none⟩ = some (.string ((rd_T68 x257002_1 0).f0)) ∧ w'.cell? ⟨gb258, 1, none⟩ = some (.string ((rd_T68 x257002_1 0).f1)) ∧ w'.cell? ⟨gb258, 2, none⟩ = some (.int .i64 ((rd_T68 x257002_1 0).f2))) (ds := []) (bv 10 0x0) (by kernel_rfl) rfl rfl ⟨bc0 BK256, bc1 BK256, bc2 BK256, bc3 BK256, bc4 BK256, bc0 BK258, bc1 BK258, bc2 BK258⟩ (fun hHeld => ?_); refine with_tabW spec_EvictSmall.tab8 spec_EvictSmall.bits8 (fun HT_ HW_ => ?_)
         generalize w43.drew = w44 at HO_257002 HO_257003 HO_257004 HO268 BK242 BK243 BK256 BK258 HB hHeld ⊢
         refine py HT_ 1 31 (bv 10 0x2) ?_
         refine py HT_ 5 35 (bv 10 0x22) ?_
         refine tk HT_ HW_ hHeld 0 30 (bv 10 0x23) ?_
         refine tk HT_ HW_ hHeld 2 32 (bv 10 0x27) ?_
         refine tk HT_ HW_ hHeld 6 36 (bv 10 0x67) ?_
         refine one_ (i := 3) (N := some 33) (bv 10 0x6f) rfl rfl (one_of HT_.out (by kernel_rfl)) (by decide) (fun K hK => ?_)
         refine goes_ Try.func93 (by kernel_rfl) rfl #[.string ((rd_T68 x257002_1 0).f0)] (by rfl) rfl rfl ml ?_
         with_reducible refine (spec_Hash.calls k1 ((rd_T68 x257002_1 0).f0) t269 _ A24.out).mono ?_
         rintro e w' ⟨rfl, ⟨nd, rfl⟩⟩
         refine ⟨_, rfl, ?_⟩
         obtain ⟨Ao45, co45, eo45⟩ := Kd.R_slice HO_257003.out
         (first | subst eo45 | (injection eo45 with f1_ f2_ f3_; have f4_ := f1_.symm; have f5_ := f3_.symm; clear f1_ f2_ f3_; subst f4_; subst f5_))
         refine hK.out _ _ ⟨bc0 BK256, bc1 BK256, bc2 BK256, bc3 BK256, bc4 BK256, bc0 BK258, bc1 BK258, bc2 BK258⟩ (fun hHeld => ?_)
         clear hK K
         refine norm_ (a' := ?_) ?_ ?_
         rotate_left
         ·show Act.put _ (some 33) _ = _
          simp only [aP]
          rfl
         refine one_ (i := 4) (N := some 34) (bv 10 0x7f) rfl rfl (one_of HT_.out (by kernel_rfl)) (by decide) (fun K hK => ?_)
         refine goes_ Try.func92 (by kernel_rfl) rfl #[.agg #[.int .i64 t245, .int .i64 t246, .slice Ao40 y266.length co40, .slice Ao45 x257003_1.length co45, .slice Ao18 t253.length co18], .int .i64 t269] (by rfl) rfl rfl ml ?_
         with_reducible refine (spec_l10Haunt.calls k1 t245 t246 (fun k_ => some k_ = (.slice Ao40 y266.length co40 : Value).ownBlock) (.slice Ao40 y266.length co40) y266 (fun k_ => some k_ = (.slice Ao45 x257003_1.length co45 : Value).ownBlock) (.slice Ao45 x257003_1.length co45) x257003_1 _ _ t253 t269 t270 t271 t272 t275 t278 w _ ?side1 ?side2 ?side3 ?side4 ?side5 ?side6 ?side7 A25.out).mono ?_
         (case side1 => repeat (first | (with_reducible first | exact HB.out | apply below_alloc | apply pw_below_drewN | apply below_drew1 | refine below_set ?_ GE242.out | refine below_set ?_ GE243.out | refine below_set ?_ GE256.out | refine below_set ?_ GE258.out) | exact HB.out))
         (case side2 => exact Kd.R_tight rfl HO268.out)
         (case side3 => exact fun k_ e_ => (HO268.out.1 k_ e_.symm).2.1)
         (case side4 => exact Kd.R_tight rfl HO_257003.out)
         (case side5 => exact fun k_ e_ => (HO_257003.out.1 k_ e_.symm).2.1)
         (case side6 => exact Kd.C_kept_ownQ ((Kd.Q_apart' (Kd.Q_apart' HO_257004.out (Kd.R_typed HO268.out) (by decide)) (Kd.R_typed HO_257003.out) (by decide))) (fun k_ hk_ hs_ => Or.elim hs_ (fun e_ => (hk_.1.2) e_) (fun e_ => (hk_.2) e_)))
         (case side7 => exact (Kd.Q_reads' HO_257004.out).2.1)
         rintro e w46 ⟨v273, v276, v279, rfl, ho0, ho1, ho2, hb, hkp⟩
         refine ⟨_, rfl, ?_⟩
         have n0_ := Aside0.mk (Kd.R_mono (ok' := fun k_ => k_ ≠ gb258 ∧ some k_ ≠ (v273 : Value).ownBlock ∧ some k_ ≠ (v276 : Value).ownBlock) (Kd.R_keptB (HO_257002.out) hkp (fun k_ hk_ hs_ => Or.elim hs_ (fun e_ => (hk_.2.1) e_) (fun e_ => (hk_.1) e_))) (fun k_ hk_ => ⟨hk_.1.2.2, fun e_ => Or.elim (ho0.1 k_ e_.symm).1 (fun hs_ => hk_.2.1 hs_) (fun hn_ => Nat.not_le.2 hk_.2.2 hn_), fun e_ => Or.elim (ho1.1 k_ e_.symm).1 (fun hs_ => hk_.2.1 hs_) (fun hn_ => Nat.not_le.2 hk_.2.2 hn_)⟩))
         have n1_ := Aside0.mk (Kd.Q_mono (ok' := fun k_ => some k_ ≠ (v279 : Value).ownBlock) (Kd.Q_keptB ((Kd.Q_apart' (Kd.Q_apart' HO_257004.out (Kd.R_typed HO268.out) (by decide)) (Kd.R_typed HO_257003.out) (by decide))) hkp (fun k_ hk_ hs_ => Or.elim hs_ (fun e_ => (hk_.1.2) e_) (fun e_ => (hk_.2) e_))) (fun k_ hk_ => fun e_ => Or.elim (ho2.1 k_ e_.symm) (fun hs_ => hk_.2.1 hs_) (fun hn_ => Nat.not_le.2 hk_.2.2 hn_)))
         have n2_ := Aside0.mk (blk_kept (bk BK242) hkp (fun hs_ => Or.elim hs_ (fun e_ => (fun e_ => (Kd.R_ne HO268.out BK242.out (by decide)) e_) e_) (fun e_ => (fun e_ => (Kd.R_ne HO_257003.out BK242.out (by decide)) e_) e_)))
         have n3_ := Aside0.mk (blk_kept (bk BK243) hkp (fun hs_ => Or.elim hs_ (fun e_ => (fun e_ => (Kd.R_ne HO268.out BK243.out (by decide)) e_) e_) (fun e_ => (fun e_ => (Kd.R_ne HO_257003.out BK243.out (by decide)) e_) e_)))
         have n4_ := Aside0.mk (blk_kept (bk BK256) hkp (fun hs_ => Or.elim hs_ (fun e_ => (fun e_ => (Kd.R_ne HO268.out BK256.out (by decide)) e_) e_) (fun e_ => (fun e_ => (Kd.R_ne HO_257003.out BK256.out (by decide)) e_) e_)))
         have n5_ := Aside0.mk (blk_kept (bk BK258) hkp (fun hs_ => Or.elim hs_ (fun e_ => (fun e_ => (Kd.R_away HO268.out (fun _ hk => hk.2.2)) e_) e_) (fun e_ => (fun e_ => (Kd.R_away HO_257003.out (fun _ hk => hk.2.2)) e_) e_)))
         have n6_ := Aside0.mk (Kd.R_mono (ok' := fun k_ => some k_ ≠ (v276 : Value).ownBlock ∧ some k_ ≠ (.slice (some ad257) x257002_1.length co29 : Value).ownBlock ∧ k_ ≠ gb258) ho0 (fun k_ hk_ => ⟨hk_.2, Or.elim hk_.1 (fun hs_ => Or.elim hs_ (fun hs_ => fun e_ => (((HO_257002.out).1 k_ e_.symm).2.1) hs_) (fun hs_ => fun e_ => (((HO_257002.out).1 k_ e_.symm).1) hs_)) (fun hn_ => (Kd.fresh' (Kd.R_lt (ro HO_257002)) k_ hn_)), Or.elim hk_.1 (fun hs_ => Or.elim hs_ (fun hs_ => fun e_ => (Kd.R_away HO268.out (fun _ hk => hk.2.2)) (by rw [← e_]; exact hs_)) (fun hs_ => fun e_ => (Kd.R_away HO_257003.out (fun _ hk => hk.2.2)) (by rw [← e_]; exact hs_))) (fun hn_ => (Kd.freshB (g := gb258) (o := .cells #[.string ((rd_T68 x257002_1 0).f0), .string ((rd_T68 x257002_1 0).f1), .int .i64 ((rd_T68 x257002_1 0).f2)] 68 (0, 0)) (bk BK258) k_ hn_))⟩))
         have n7_ := Aside0.mk (Kd.R_mono (ok' := fun k_ => some k_ ≠ (v273 : Value).ownBlock ∧ some k_ ≠ (.slice (some ad257) x257002_1.length co29 : Value).ownBlock ∧ k_ ≠ gb258) ho1 (fun k_ hk_ => ⟨hk_.2, Or.elim hk_.1 (fun hs_ => Or.elim hs_ (fun hs_ => fun e_ => (((HO_257002.out).1 k_ e_.symm).2.1) hs_) (fun hs_ => fun e_ => (((HO_257002.out).1 k_ e_.symm).1) hs_)) (fun hn_ => (Kd.fresh' (Kd.R_lt (ro HO_257002)) k_ hn_)), Or.elim hk_.1 (fun hs_ => Or.elim hs_ (fun hs_ => fun e_ => (Kd.R_away HO268.out (fun _ hk => hk.2.2)) (by rw [← e_]; exact hs_)) (fun hs_ => fun e_ => (Kd.R_away HO_257003.out (fun _ hk => hk.2.2)) (by rw [← e_]; exact hs_))) (fun hn_ => (Kd.freshB (g := gb258) (o := .cells #[.string ((rd_T68 x257002_1 0).f0), .string ((rd_T68 x257002_1 0).f1), .int .i64 ((rd_T68 x257002_1 0).f2)] 68 (0, 0)) (bk BK258) k_ hn_))⟩))
         have n8_ := Aside0.mk (Kd.Q_mono (ok' := fun k_ => nb k_ Ao18 t253.length co18) ho2 (fun k_ hk_ => Or.elim hk_ (fun hs_ => Or.elim hs_ (fun hs_ => fun e_ => ((((Kd.Q_apart' (Kd.Q_apart' HO_257004.out (Kd.R_typed HO268.out) (by decide)) (Kd.R_typed HO_257003.out) (by decide))).1 k_ e_.symm).1.2) hs_) (fun hs_ => fun e_ => ((((Kd.Q_apart' (Kd.Q_apart' HO_257004.out (Kd.R_typed HO268.out) (by decide)) (Kd.R_typed HO_257003.out) (by decide))).1 k_ e_.symm).2) hs_)) (fun hn_ => (Kd.fresh' (Kd.Q_lt (by (with_reducible repeat (first | apply Kd.Q_alloc | apply Kd.Q_drewN | apply Kd.Q_drew)); exact HO_257004.out)) k_ hn_))))
         have n9_ := Aside0.mk (hb)
         clear HO_257002
         clear HO_257004
         clear BK242
         clear BK243
         clear BK256
         clear BK258
         clear HB
         clear HO268
         clear HO_257003
         have HO_257002 := n0_
         have HO_257004 := n1_
         have BK242 := n2_
         have BK243 := n3_
         have BK256 := n4_
         have BK258 := n5_
         have HO274 := n6_
         have HO277 := n7_
         have HO280 := n8_
         have HB := n9_
         clear n0_ n1_ n2_ n3_ n4_ n5_ n6_ n7_ n8_ n9_
         (try clear hb)
         (try clear hkp)
         (try clear ho0)
         (try clear ho1)
         (try clear ho2)
         obtain ⟨Ao49, co49, eo49⟩ := Kd.R_slice HO274.out
         (first | subst eo49 | (injection eo49 with f1_ f2_ f3_; have f4_ := f1_.symm; have f5_ := f3_.symm; clear f1_ f2_ f3_; subst f4_; subst f5_))
         obtain ⟨Ao51, co51, eo51⟩ := Kd.R_slice HO277.out
         (first | subst eo51 | (injection eo51 with f1_ f2_ f3_; have f4_ := f1_.symm; have f5_ := f3_.symm; clear f1_ f2_ f3_; subst f4_; subst f5_))
         obtain ⟨Ao53, co53, eo53, _⟩ := Kd.Q_slice HO280.out
         (first | subst eo53 | (injection eo53 with f1_ f2_ f3_; have f4_ := f1_.symm; have f5_ := f3_.symm; clear f1_ f2_ f3_; subst f4_; subst f5_))
         refine hK.out _ _ ⟨bc0 BK256, bc1 BK256, bc2 BK256, bc3 BK256, bc4 BK256, bc0 BK258, bc1 BK258, bc2 BK258⟩ (fun hHeld => ?_)
         clear hK K
         refine norm_ (a' := ?_) ?_ ?_
         rotate_left
         ·show Act.put _ (some 34) _ = _
          simp only [aP]
          rfl
         refine one_ (i := 7) (N := none) (bv 10 0xff) rfl rfl (one_of HT_.out (by kernel_rfl)) (by decide) (fun K hK => ?_)
         have hs47 : w46.cell? ⟨gb243, 0, none⟩ = some (.int .i64 x244000_1) := bc0 BK243
         have hfs47 := blk_frozen BK243.out 0
         have hns47_0 := NB242_243.out
         have hns47_2 := NB256_243.out
         have hns47_3 := NB258_243.out
         have hms47_0 := NB243_242.out
         have hms47_2 := NB243_256.out
         have hms47_3 := NB243_258.out
         have hs48 : w46.cell? ⟨gb243, 1, none⟩ = some (.int .i64 x244001_1) := bc1 BK243
         have hfs48 := blk_frozen BK243.out 1
         have hns48_0 := NB242_243.out
         have hns48_2 := NB256_243.out
         have hns48_3 := NB258_243.out
         have hms48_0 := NB243_242.out
         have hms48_2 := NB243_256.out
         have hms48_3 := NB243_258.out
         have hs50 : w46.cell? ⟨gb243, 2, none⟩ = some (.slice none 0 0) := bc2 BK243
         have hfs50 := blk_frozen BK243.out 2
         have hns50_0 := NB242_243.out
         have hns50_2 := NB256_243.out
         have hns50_3 := NB258_243.out
         have hms50_0 := NB243_242.out
         have hms50_2 := NB243_256.out
         have hms50_3 := NB243_258.out
         have hs52 : w46.cell? ⟨gb243, 3, none⟩ = some (.slice none 0 0) := bc3 BK243
         have hfs52 := blk_frozen BK243.out 3
         have hns52_0 := NB242_243.out
         have hns52_2 := NB256_243.out
         have hns52_3 := NB258_243.out
         have hms52_0 := NB243_242.out
         have hms52_2 := NB243_256.out
         have hms52_3 := NB243_258.out
         have hs54 : w46.cell? ⟨gb243, 4, none⟩ = some (.slice none 0 0) := bc4 BK243
         have hfs54 := blk_frozen BK243.out 4
         have hns54_0 := NB242_243.out
         have hns54_2 := NB256_243.out
         have hns54_3 := NB258_243.out
         have hms54_0 := NB243_242.out
         have hms54_2 := NB243_256.out
         have hms54_3 := NB243_258.out
         refine skip_ (w1 := ?_) (by rfl) rfl ?_ ?_
         rotate_left
         ·go_simp
          rfl
         refine hK.out _ _ ⟨((cell_far (p := ⟨gb243, _, none⟩) NB256_243.out _).trans (((cell_far (p := ⟨gb243, _, none⟩) NB256_243.out _).trans (((cell_far (p := ⟨gb243, _, none⟩) NB256_243.out _).trans (((cell_far (p := ⟨gb243, _, none⟩) NB256_243.out _).trans (((cell_far (p := ⟨gb243, _, none⟩) NB256_243.out _).trans (hHeld.1)))))))))), ((cell_far (p := ⟨gb243, _, none⟩) NB256_243.out _).trans (((cell_far (p := ⟨gb243, _, none⟩) NB256_243.out _).trans (((cell_far (p := ⟨gb243, _, none⟩) NB256_243.out _).trans (((cell_far (p := ⟨gb243, _, none⟩) NB256_243.out _).trans (((cell_far (p := ⟨gb243, _, none⟩) NB256_243.out _).trans (hHeld.2.1)))))))))), ((cell_far (p := ⟨gb243, _, none⟩) NB256_243.out _).trans (((cell_far (p := ⟨gb243, _, none⟩) NB256_243.out _).trans (((cell_far (p := ⟨gb243, _, none⟩) NB256_243.out _).trans (((cell_far (p := ⟨gb243, _, none⟩) NB256_243.out _).trans (((cell_far (p := ⟨gb243, _, none⟩) NB256_243.out _).trans (hHeld.2.2.1)))))))))), ((cell_far (p := ⟨gb243, _, none⟩) NB256_243.out _).trans (((cell_far (p := ⟨gb243, _, none⟩) NB256_243.out _).trans (((cell_far (p := ⟨gb243, _, none⟩) NB256_243.out _).trans (((cell_far (p := ⟨gb243, _, none⟩) NB256_243.out _).trans (((cell_far (p := ⟨gb243, _, none⟩) NB256_243.out _).trans (hHeld.2.2.2.1)))))))))), ((cell_far (p := ⟨gb243, _, none⟩) NB256_243.out _).trans (((cell_far (p := ⟨gb243, _, none⟩) NB256_243.out _).trans (((cell_far (p := ⟨gb243, _, none⟩) NB256_243.out _).trans (((cell_far (p := ⟨gb243, _, none⟩) NB256_243.out _).trans (((cell_far (p := ⟨gb243, _, none⟩) NB256_243.out _).trans (hHeld.2.2.2.2.1)))))))))), ((cell_far (p := ⟨gb243, _, none⟩) NB258_243.out _).trans (((cell_far (p := ⟨gb243, _, none⟩) NB258_243.out _).trans (((cell_far (p := ⟨gb243, _, none⟩) NB258_243.out _).trans (((cell_far (p := ⟨gb243, _, none⟩) NB258_243.out _).trans (((cell_far (p := ⟨gb243, _, none⟩) NB258_243.out _).trans (hHeld.2.2.2.2.2.1)))))))))), ((cell_far (p := ⟨gb243, _, none⟩) NB258_243.out _).trans (((cell_far (p := ⟨gb243, _, none⟩) NB258_243.out _).trans (((cell_far (p := ⟨gb243, _, none⟩) NB258_243.out _).trans (((cell_far (p := ⟨gb243, _, none⟩) NB258_243.out _).trans (((cell_far (p := ⟨gb243, _, none⟩) NB258_243.out _).trans (hHeld.2.2.2.2.2.2.1)))))))))), ((cell_far (p := ⟨gb243, _, none⟩) NB258_243.out _).trans (((cell_far (p := ⟨gb243, _, none⟩) NB258_243.out _).trans (((cell_far (p := ⟨gb243, _, none⟩) NB258_243.out _).trans (((cell_far (p := ⟨gb243, _, none⟩) NB258_243.out _).trans (((cell_far (p := ⟨gb243, _, none⟩) NB258_243.out _).trans (hHeld.2.2.2.2.2.2.2))))))))))⟩ (fun hHeld => ?_)
         clear hK K
         refine py HT_ 8 3 (bv 10 0x1ff) ?_
         refine py HT_ 9 4 (bv 10 0x3ff) ?_
         refine done_ (done_of HT_.out (by kernel_rfl)) ?_
         try go_wp2
         refine bodyPost_ret (results_ctt rfl _ _ gb243 30 #[.int .i64 t270, .int .i64 t271, .slice Ao49 t272.length co49, .slice Ao51 t275.length co51, .slice Ao53 t278.length co53] (0, 0) _ rfl (by (with_reducible repeat (first | refine blk_drewN ?_ _ | refine blk_drew ?_ | refine blk_alloc ?_ _)); refine blk_put (cs := #[.int .i64 t270, .int .i64 t271, .slice Ao49 t272.length co49, .slice Ao51 t275.length co51, .slice none 0 0]) ?_ 4 _ rfl; (with_reducible repeat (first | refine blk_drewN ?_ _ | refine blk_drew ?_ | refine blk_alloc ?_ _)); refine blk_put (cs := #[.int .i64 t270, .int .i64 t271, .slice Ao49 t272.length co49, .slice none 0 0, .slice none 0 0]) ?_ 3 _ rfl; (with_reducible repeat (first | refine blk_drewN ?_ _ | refine blk_drew ?_ | refine blk_alloc ?_ _)); refine blk_put (cs := #[.int .i64 t270, .int .i64 t271, .slice none 0 0, .slice none 0 0, .slice none 0 0]) ?_ 2 _ rfl; (with_reducible repeat (first | refine blk_drewN ?_ _ | refine blk_drew ?_ | refine blk_alloc ?_ _)); refine blk_put (cs := #[.int .i64 t270, .int .i64 x244001_1, .slice none 0 0, .slice none 0 0, .slice none 0 0]) ?_ 1 _ rfl; (with_reducible repeat (first | refine blk_drewN ?_ _ | refine blk_drew ?_ | refine blk_alloc ?_ _)); refine blk_put (cs := #[.int .i64 x244000_1, .int .i64 x244001_1, .slice none 0 0, .slice none 0 0, .slice none 0 0]) ?_ 0 _ rfl; (with_reducible repeat (first | refine blk_drewN ?_ _ | refine blk_drew ?_ | refine blk_alloc ?_ _)); exact BK243.out) Try.underlying30 rfl (by kernel_rfl)) rfl ?_
         exact ⟨_, _, _, er, by (with_reducible repeat (first | apply Kd.R_alloc | apply Kd.R_drewN | apply Kd.R_drew)); exact Kd.R_mono (Kd.R_far (p := ⟨gb243, 4, none⟩) (Kd.R_far (p := ⟨gb243, 3, none⟩) (Kd.R_far (p := ⟨gb243, 2, none⟩) (Kd.R_far (p := ⟨gb243, 1, none⟩) (Kd.R_far (p := ⟨gb243, 0, none⟩) (Kd.R_types HO274.out BK243.out (by decide)) (fun _ hk => hk.2) (.int .i64 t270)) (fun _ hk => hk.2) (.int .i64 t271)) (fun _ hk => hk.2) (.slice Ao49 t272.length co49)) (fun _ hk => hk.2) (.slice Ao51 t275.length co51)) (fun _ hk => hk.2) (.slice Ao53 t278.length co53)) (fun _ hk => hk.1.1), by (with_reducible repeat (first | apply Kd.R_alloc | apply Kd.R_drewN | apply Kd.R_drew)); exact Kd.R_mono (Kd.R_far (p := ⟨gb243, 4, none⟩) (Kd.R_far (p := ⟨gb243, 3, none⟩) (Kd.R_far (p := ⟨gb243, 2, none⟩) (Kd.R_far (p := ⟨gb243, 1, none⟩) (Kd.R_far (p := ⟨gb243, 0, none⟩) (Kd.R_types HO277.out BK243.out (by decide)) (fun _ hk => hk.2) (.int .i64 t270)) (fun _ hk => hk.2) (.int .i64 t271)) (fun _ hk => hk.2) (.slice Ao49 t272.length co49)) (fun _ hk => hk.2) (.slice Ao51 t275.length co51)) (fun _ hk => hk.2) (.slice Ao53 t278.length co53)) (fun _ hk => hk.1.1), by (with_reducible repeat (first | apply Kd.Q_alloc | apply Kd.Q_drewN | apply Kd.Q_drew)); exact Kd.Q_mono (Kd.Q_far (p := ⟨gb243, 4, none⟩) (Kd.Q_far (p := ⟨gb243, 3, none⟩) (Kd.Q_far (p := ⟨gb243, 2, none⟩) (Kd.Q_far (p := ⟨gb243, 1, none⟩) (Kd.Q_far (p := ⟨gb243, 0, none⟩) (Kd.Q_types HO280.out BK243.out (by decide)) (fun _ hk => hk.2) (.int .i64 t270)) (fun _ hk => hk.2) (.int .i64 t271)) (fun _ hk => hk.2) (.slice Ao49 t272.length co49)) (fun _ hk => hk.2) (.slice Ao51 t275.length co51)) (fun _ hk => hk.2) (.slice Ao53 t278.length co53)) (fun _ hk => trivial), be4 HB GE242 GE243 GE256 GE258⟩
        rw [if_neg c23] at H
        have c23b0 : decide (((rd_T68 x257002_1 0).f2) ≤ 1) = false := decide_eq_false c23
        clear c23
        by_cases c55 : x257003_1.length < 3518437208883
        ·rw [if_pos c55] at H
         have LMc55 := Aside0.mk c55
         clear c55
         obtain ⟨y281, hy281⟩ : ∃ y_ : List (S68), y_ = (x257003_1 ++ [(⟨(rd_T68 x257002_1 0).f0, (rd_T68 x257002_1 0).f1, 0⟩ : S68)]) := ⟨_, rfl⟩
         replace H : (spec_EvictSmall.l0 k1 t245 t246 y266 y281 t253) = some (r1, r2, r3, r4, r5, r6, r7) := by first | (rw [hy281]; with_reducible exact H) | (have H2_ := (Option.bind_some _ _).symm.trans H; rw [hy281]; with_reducible exact H2_) | (have H2_ := (Option.bind_some _ _).symm.trans H; with_reducible exact H2_) | with_reducible exact H | (rw [hy281]; exact H) | exact H
         have Ny281 := Aside0.mk hy281
         clear hy281
         have H' := Aside0.mk H
         clear H
         have hnb56 := NB256_242.out
         have hnc56 := NB242_256.out
         have hnb57 := NB256_243.out
         have hnc57 := NB243_256.out
         have hcz58_0 := bz5 BK256
         obtain ⟨Ao59, co59, eo59⟩ := Kd.R_slice HO_257002.out
         subst eo59
         have p257 : 0 ≤ (0 : Int) := (by omega)
         have q257 : 0 < (x257002_1.length : Int) := od
         obtain ⟨ad257, e257, hx257_0, hx257_1, hx257_2⟩ := at_T68 (Kd.R_reads' HO_257002.out).2.2 0 p257 q257
         cases e257
         have qi257 : (0 < x257002_1.length) = True := eq_true (by omega)
         (try rw [show ((0 : Int)).toNat = 0 from rfl] at hx257_0)
         (try rw [show 0 * 3 = 0 from rfl] at hx257_0)
         (try rw [Addr.add_zero'] at hx257_0)
         (try rw [show ((0 : Int)).toNat = 0 from rfl] at hx257_1)
         (try rw [show 0 * 3 = 0 from rfl] at hx257_1)
         (try rw [Addr.add_zero'] at hx257_1)
         (try rw [show ((0 : Int)).toNat = 0 from rfl] at hx257_2)
         (try rw [show 0 * 3 = 0 from rfl] at hx257_2)
         (try rw [Addr.add_zero'] at hx257_2)
         replace p257 := eq_true p257
         replace q257 := eq_true q257
         go_wp2_with (first | ((with_reducible refine gate_dst (N := 6) rfl ?_); refine bx 6 #[.string (⟨#[]⟩ : ByteArray), .string (⟨#[]⟩ : ByteArray), .int .i64 0] 68 ?_; intro gb258 hg w60 hbox hb; replace HO_257002 := Aside0.mk (Kd.R_below (Kd.R_elderB (ro HO_257002) gb258 (Nat.le_of_eq hg.symm)) hb); replace HO_257003 := Aside0.mk (Kd.R_below (Kd.R_elderB (ro HO_257003) gb258 (Nat.le_of_eq hg.symm)) hb); replace HO_257004 := Aside0.mk (Kd.Q_below (by (with_reducible repeat (first | apply Kd.Q_alloc | apply Kd.Q_drewN | apply Kd.Q_drew)); exact HO_257004.out) hb); have BK258 := am hbox; have GW258 := Aside0.mk ((by rw [hg]; exact (below_size (be3 HB GE242 GE243 GE256)) : w.heap.size ≤ gb258)); have GE258 := Aside0.mk ((by rw [hg]; exact (below_size (be3 HB GE242 GE243 GE256)) : w.heap.size ≤ gb258)); replace HB := Aside0.mk (below_step (be3 HB GE242 GE243 GE256) hb); have NB242_258 := Aside0.mk ((by rw [hg]; exact Nat.ne_of_lt (bl BK242) : gb242 ≠ gb258)); have NB258_242 := Aside0.mk ((by rw [hg]; exact Nat.ne_of_gt (bl BK242) : gb258 ≠ gb242)); replace BK242 := bb BK242 hb; have NB243_258 := Aside0.mk ((by rw [hg]; exact Nat.ne_of_lt (bl BK243) : gb243 ≠ gb258)); have NB258_243 := Aside0.mk ((by rw [hg]; exact Nat.ne_of_gt (bl BK243) : gb258 ≠ gb243)); replace BK243 := bb BK243 hb; have NB256_258 := Aside0.mk ((by rw [hg]; exact Nat.ne_of_lt (bl BK256) : gb256 ≠ gb258)); have NB258_256 := Aside0.mk ((by rw [hg]; exact Nat.ne_of_gt (bl BK256) : gb258 ≠ gb256)); replace BK256 := bb BK256 hb; clear hb hbox hg; have hnb61 := NB258_242.out; have hnc61 := NB242_258.out; have hnb62 := NB258_243.out; have hnc62 := NB243_258.out; have hnb63 := NB258_256.out; have hnc63 := NB256_258.out; have hcz64_0 := bz3 BK258) | ((with_reducible refine gate_dst (N := 21) rfl ?_); refine Kd.R_lit k68 _ 68 ?hg (N := 21) ?hd (xs := ([] : List (S68))) (inner := []) (ok := fun _ => True) (okp := fun _ => True) ?hr ?hp (fun _ hk => hk) trivial (Below.refl _ _) (Nat.le_refl _) (by simp) ?_; (case hd => rfl); (case hg => rfl); (case hr => first | (go_simp; done) | (go_simp; rfl)); (case hp => exact (Reps.none _ _)); intro v260 w65 ho66 hb hg_ hnew_; clear hg_ hnew_; (first | rw [← Ny259.out] at ho66 | (simp only [Int.reduceToNat] at ho66; rw [← Ny259.out] at ho66)); replace HO_257004 := Aside0.mk (Kd.Q_below (by (with_reducible repeat (first | apply Kd.Q_alloc | apply Kd.Q_drewN | apply Kd.Q_drew)); exact (Kd.Q_mono (Kd.Q_far (p := ⟨gb258, 2, none⟩) (Kd.Q_far (p := ⟨gb258, 1, none⟩) (Kd.Q_far (p := ⟨gb258, 0, none⟩) (Kd.Q_types HO_257004.out BK258.out (by decide)) (fun _ hk => hk.2) (.string ((rd_T68 x257002_1 0).f0))) (fun _ hk => hk.2) (.string ((rd_T68 x257002_1 0).f1))) (fun _ hk => hk.2) (.int .i64 ((rd_T68 x257002_1 0).f2))) (fun _ h_ => h_.1))) hb); have HO261 := Aside0.mk (Kd.R_lower (Kd.R_newB (Kd.R_new' (Kd.R_new' ho66 (Kd.R_lt (by (with_reducible repeat (first | apply Kd.R_alloc | apply Kd.R_drewN | apply Kd.R_drew)); exact (Kd.R_mono (Kd.R_far (p := ⟨gb258, 2, none⟩) (Kd.R_far (p := ⟨gb258, 1, none⟩) (Kd.R_far (p := ⟨gb258, 0, none⟩) (Kd.R_mono HO_257002.out (fun k_ hk => (⟨hk, hk.2⟩ : _ ∧ k_ ≠ gb258))) (fun _ hk => hk.2) (.string ((rd_T68 x257002_1 0).f0))) (fun _ hk => hk.2) (.string ((rd_T68 x257002_1 0).f1))) (fun _ hk => hk.2) (.int .i64 ((rd_T68 x257002_1 0).f2))) (fun _ h_ => h_.1))))) (Kd.R_lt (by (with_reducible repeat (first | apply Kd.R_alloc | apply Kd.R_drewN | apply Kd.R_drew)); exact (Kd.R_mono (Kd.R_far (p := ⟨gb258, 2, none⟩) (Kd.R_far (p := ⟨gb258, 1, none⟩) (Kd.R_far (p := ⟨gb258, 0, none⟩) (Kd.R_mono HO_257003.out (fun k_ hk => (⟨hk, hk.2⟩ : _ ∧ k_ ≠ gb258))) (fun _ hk => hk.2) (.string ((rd_T68 x257002_1 0).f0))) (fun _ hk => hk.2) (.string ((rd_T68 x257002_1 0).f1))) (fun _ hk => hk.2) (.int .i64 ((rd_T68 x257002_1 0).f2))) (fun _ h_ => h_.1))))) (g := gb258) (o := .cells #[.string ((rd_T68 x257002_1 0).f0), .string ((rd_T68 x257002_1 0).f1), .int .i64 ((rd_T68 x257002_1 0).f2)] 68 (0, 0)) (by (with_reducible repeat (first | refine blk_drewN ?_ _ | refine blk_drew ?_ | refine blk_alloc ?_ _)); refine blk_put (cs := #[.string ((rd_T68 x257002_1 0).f0), .string ((rd_T68 x257002_1 0).f1), .int .i64 0]) ?_ 2 _ rfl; (with_reducible repeat (first | refine blk_drewN ?_ _ | refine blk_drew ?_ | refine blk_alloc ?_ _)); refine blk_put (cs := #[.string ((rd_T68 x257002_1 0).f0), .string (⟨#[]⟩ : ByteArray), .int .i64 0]) ?_ 1 _ rfl; (with_reducible repeat (first | refine blk_drewN ?_ _ | refine blk_drew ?_ | refine blk_alloc ?_ _)); refine blk_put (cs := #[.string (⟨#[]⟩ : ByteArray), .string (⟨#[]⟩ : ByteArray), .int .i64 0]) ?_ 0 _ rfl; (with_reducible repeat (first | refine blk_drewN ?_ _ | refine blk_drew ?_ | refine blk_alloc ?_ _)); exact BK258.out)) (below_size (be4 HB GE242 GE243 GE256 GE258))); replace HO_257002 := Aside0.mk (Kd.R_elder' (by (with_reducible repeat (first | apply Kd.R_alloc | apply Kd.R_drewN | apply Kd.R_drew)); exact (Kd.R_mono (Kd.R_far (p := ⟨gb258, 2, none⟩) (Kd.R_far (p := ⟨gb258, 1, none⟩) (Kd.R_far (p := ⟨gb258, 0, none⟩) (Kd.R_mono HO_257002.out (fun k_ hk => (⟨hk, hk.2⟩ : _ ∧ k_ ≠ gb258))) (fun _ hk => hk.2) (.string ((rd_T68 x257002_1 0).f0))) (fun _ hk => hk.2) (.string ((rd_T68 x257002_1 0).f1))) (fun _ hk => hk.2) (.int .i64 ((rd_T68 x257002_1 0).f2))) (fun _ h_ => h_.1))) (Kd.R_base ho66) hb); replace HO_257003 := Aside0.mk (Kd.R_elder' (by (with_reducible repeat (first | apply Kd.R_alloc | apply Kd.R_drewN | apply Kd.R_drew)); exact (Kd.R_mono (Kd.R_far (p := ⟨gb258, 2, none⟩) (Kd.R_far (p := ⟨gb258, 1, none⟩) (Kd.R_far (p := ⟨gb258, 0, none⟩) (Kd.R_mono HO_257003.out (fun k_ hk => (⟨hk, hk.2⟩ : _ ∧ k_ ≠ gb258))) (fun _ hk => hk.2) (.string ((rd_T68 x257002_1 0).f0))) (fun _ hk => hk.2) (.string ((rd_T68 x257002_1 0).f1))) (fun _ hk => hk.2) (.int .i64 ((rd_T68 x257002_1 0).f2))) (fun _ h_ => h_.1))) (Kd.R_base ho66) hb); replace BK242 := Aside0.mk (blk_below (g := gb242) (o := .cells #[.int .i64 a0_0, .int .i64 a0_1, .slice A0_2 l0_2.length c0_2, .slice A0_3 l0_3.length c0_3, .slice A0_4 l0_4.length c0_4] 30 (0, 0)) (bf1 BK242 NB242_258) hb); replace BK243 := Aside0.mk (blk_below (g := gb243) (o := .cells #[.int .i64 x244000_1, .int .i64 x244001_1, .slice none 0 0, .slice none 0 0, .slice none 0 0] 30 (0, 0)) (bf1 BK243 NB243_258) hb); replace BK256 := Aside0.mk (blk_below (g := gb256) (o := .cells #[.int .i64 t245, .int .i64 t246, .slice (some ad257) x257002_1.length co59, u257003, .slice Ao18 t253.length co18] 30 (0, 0)) (bf1 BK256 NB256_258) hb); replace BK258 := Aside0.mk (blk_below (g := gb258) (o := .cells #[.string ((rd_T68 x257002_1 0).f0), .string ((rd_T68 x257002_1 0).f1), .int .i64 ((rd_T68 x257002_1 0).f2)] 68 (0, 0)) (by (with_reducible repeat (first | refine blk_drewN ?_ _ | refine blk_drew ?_ | refine blk_alloc ?_ _)); refine blk_put (cs := #[.string ((rd_T68 x257002_1 0).f0), .string ((rd_T68 x257002_1 0).f1), .int .i64 0]) ?_ 2 _ rfl; (with_reducible repeat (first | refine blk_drewN ?_ _ | refine blk_drew ?_ | refine blk_alloc ?_ _)); refine blk_put (cs := #[.string ((rd_T68 x257002_1 0).f0), .string (⟨#[]⟩ : ByteArray), .int .i64 0]) ?_ 1 _ rfl; (with_reducible repeat (first | refine blk_drewN ?_ _ | refine blk_drew ?_ | refine blk_alloc ?_ _)); refine blk_put (cs := #[.string (⟨#[]⟩ : ByteArray), .string (⟨#[]⟩ : ByteArray), .int .i64 0]) ?_ 0 _ rfl; (with_reducible repeat (first | refine blk_drewN ?_ _ | refine blk_drew ?_ | refine blk_alloc ?_ _)); exact BK258.out) hb); replace HB := Aside0.mk (below_step (be4 HB GE242 GE243 GE256 GE258) hb); clear hb ho66; have hcz67_0 := bz5 BK256; have q68 : (1 : Int) ≤ ((x257002_1.length : Int) : Int) := od; obtain ⟨i068, hi068, _, hsz68, _⟩ := info_parts info68; have hroom68 : x257002_1.length ≤ co59 := (Kd.R_reads' HO_257002.out).2.1; have hC68 : Kd.C k68 _ (some ad257) x257002_1.length x257002_1 := (Kd.R_reads' HO_257002.out).2.2; have hcut68 := cut_from (P := Try.prog) 28 68 .i64 Try.underlying28 hi068 3 hsz68 (some ad257) x257002_1.length co59 1 (by omega) q68; have hr68 := Kd.C_drop (m := (1 : Int).toNat) (c := co59) hC68 (by omega) hroom68; obtain ⟨A68, hA68⟩ : ∃ A1, A1 = (if co59 = (1 : Int).toNat then (some ad257) else ((some ad257) : Option Addr).map (·.add ((1 : Int).toNat * 3))) := ⟨_, rfl⟩; obtain ⟨c68, hc68⟩ : ∃ c1, c1 = co59 - (1 : Int).toNat := ⟨_, rfl⟩; have hy68 : y262.length = x257002_1.length - (1 : Int).toNat := (by rw [Ny262.out, List.length_drop] <;> omega); rw [show (x257002_1).drop (1 : Int).toNat = y262 from Ny262.out.symm] at hr68; replace hr68 : Kd.C k68 _ A68 y262.length y262 := (by rw [hA68]; exact hr68); rw [← hy68, ← hA68, ← hc68] at hcut68; have HR265 := Aside0.mk hr68; have HC265 := Aside0.mk (show y262.length ≤ c68 from by rw [hy68, hc68]; exact Nat.sub_le_sub_right hroom68 _); clear hr68 hC68 hroom68 hi068 hsz68 hc68; have KY68 := Aside0.mk hy68; have KA68 := Aside0.mk hA68; clear hy68 hA68; have KL68 := Aside0.mk (show 1 ≤ x257002_1.length from by omega); replace q68 := eq_true q68) | ((with_reducible refine gate_builtin (b := .append) (xs := #[.tmp 21, .tmp 24]) rfl ?_); at_builtin; refine Kd.R_append_rows k68 (w0 := w) w.heap.size rfl (.tmp 21) (.tmp 24) 28 68 (.agg #[(.string ⟨#[]⟩), (.string ⟨#[]⟩), (.int .i64 0)]) 40 rfl Try.underlying28 info68 rfl (by decide) (by omega) v260 y259 y262 _ _ _ (fun k_ => some k_ ≠ (.slice (some ad257) x257002_1.length co59 : Value).ownBlock ∧ some k_ ≠ (u257003 : Value).ownBlock ∧ k_ ≠ gb258) (fun _ => False) rfl rfl ?aO ?aR (fun _ _ h => h) (fun _ h => h.elim) ?aF ?aB ?aS ?aL ?_; (case aR => repeat (first | exact (by repeat (first | (with_reducible exact HR265.out) | (with_reducible refine Kd.C_alloc ?_ _) | (with_reducible refine Kd.C_drewN ?_ _) | (with_reducible refine Kd.C_drew ?_) | exact HR265.out)) | (with_reducible refine Kd.C_alloc ?_ _) | (with_reducible refine Kd.C_drewN ?_ _) | (with_reducible refine Kd.C_drew ?_))); (case aB => exact (be4 HB GE242 GE243 GE256 GE258)); (case aF => exact (fun k_ hk => ⟨Kd.fresh' (Kd.R_lt (ro HO_257002)) k_ hk, Kd.fresh' (Kd.R_lt (ro HO_257003)) k_ hk, Kd.freshB (g := gb258) (o := .cells #[.string ((rd_T68 x257002_1 0).f0), .string ((rd_T68 x257002_1 0).f1), .int .i64 ((rd_T68 x257002_1 0).f2)] 68 (0, 0)) (bk BK258) k_ hk⟩)); (case aO => exact (by (with_reducible repeat (first | apply Kd.R_alloc | apply Kd.R_drewN | apply Kd.R_drew)); exact rm HO261)); (case aS => exact (below_size (be4 HB GE242 GE243 GE256 GE258))); (case aL => have := LMc22.out; omega); intro v267 w69 ho hb hg hat; rw [← Ny266.out] at ho; replace HO_257003 := Aside0.mk (Kd.R_after (ok := (fun k_ => some k_ ≠ (.slice (some ad257) x257002_1.length co59 : Value).ownBlock ∧ k_ ≠ gb258)) (ro HO_257003) hg hat); replace HO_257004 := Aside0.mk (Kd.Q_over' (by (with_reducible repeat (first | apply Kd.Q_alloc | apply Kd.Q_drewN | apply Kd.Q_drew)); exact HO_257004.out) (Kd.R_typed (ro HO261)) (by decide) hg); replace BK242 := Aside0.mk (blk_grown (g := gb242) (o := .cells #[.int .i64 a0_0, .int .i64 a0_1, .slice A0_2 l0_2.length c0_2, .slice A0_3 l0_3.length c0_3, .slice A0_4 l0_4.length c0_4] 30 (0, 0)) (bk BK242) hg (Kd.R_ne HO261.out BK242.out (by decide))); replace BK243 := Aside0.mk (blk_grown (g := gb243) (o := .cells #[.int .i64 x244000_1, .int .i64 x244001_1, .slice none 0 0, .slice none 0 0, .slice none 0 0] 30 (0, 0)) (bk BK243) hg (Kd.R_ne HO261.out BK243.out (by decide))); replace BK256 := Aside0.mk (blk_grown (g := gb256) (o := .cells #[.int .i64 t245, .int .i64 t246, .slice (some ad257) x257002_1.length co59, u257003, .slice Ao18 t253.length co18] 30 (0, 0)) (bk BK256) hg (Kd.R_ne HO261.out BK256.out (by decide))); replace BK258 := Aside0.mk (blk_grown (g := gb258) (o := .cells #[.string ((rd_T68 x257002_1 0).f0), .string ((rd_T68 x257002_1 0).f1), .int .i64 ((rd_T68 x257002_1 0).f2)] 68 (0, 0)) (bk BK258) hg (Kd.R_away HO261.out (fun _ hk => hk.2))); replace HB := Aside0.mk (hb); replace HR265 := Aside0.mk ((show Kd.C k68 w69 A68 y262.length y262 from by rw [Ny262.out, KA68.out]; exact Kd.C_drop (m := 1) (c := co59) ((Kd.R_reads' (Kd.R_after (ok := (fun k_ => some k_ ≠ (u257003 : Value).ownBlock ∧ k_ ≠ gb258)) (ro HO_257002) hg hat)).2.2) KL68.out ((Kd.R_reads' (Kd.R_after (ok := (fun k_ => some k_ ≠ (u257003 : Value).ownBlock ∧ k_ ≠ gb258)) (ro HO_257002) hg hat)).2.1))); replace HO_257002 := Aside0.mk (Kd.R_after (ok := (fun k_ => some k_ ≠ (u257003 : Value).ownBlock ∧ k_ ≠ gb258)) (ro HO_257002) hg hat); have HO268 := Aside0.mk (ho); clear HO261; clear ho hb hg hat; obtain ⟨Ao70, co70, eo70⟩ := Kd.R_slice HO268.out; subst eo70; have hcz71_0 := bz5 BK256; have hcz72_0 := bz3 BK258) | ((with_reducible refine gate_builtin (b := .append) (xs := #[.tmp 39, .tmp 41]) rfl ?_); at_builtin; refine Kd.R_append k68 (w0 := w) w.heap.size rfl (.tmp 39) (.tmp 41) 28 68 (.agg #[(.string ⟨#[]⟩), (.string ⟨#[]⟩), (.int .i64 0)]) 40 rfl Try.underlying28 info68 rfl (by decide) (by omega) u257003 x257003_1 (⟨(rd_T68 x257002_1 0).f0, (rd_T68 x257002_1 0).f1, 0⟩ : S68) [.string ((rd_T68 x257002_1 0).f0), .string ((rd_T68 x257002_1 0).f1), .int .i64 0] (fun k_ => some k_ ≠ (.slice (some ad257) x257002_1.length co59 : Value).ownBlock ∧ nb k_ Ao70 y266.length co70 ∧ k_ ≠ gb258) (fun _ => False) rfl (by first | (go_simp; done) | (go_simp; rfl)) ?aP (fun _ hk => hk.elim) ?aF ?aO ?aB ?aS ?aL ?_; (case aP => exact k68_mkM _ _ _ (⟨(rd_T68 x257002_1 0).f0, (rd_T68 x257002_1 0).f1, 0⟩ : S68)); (case aB => exact (be4 HB GE242 GE243 GE256 GE258)); (case aF => exact (fun k_ hk => ⟨Kd.fresh' (Kd.R_lt (by (with_reducible repeat (first | apply Kd.R_alloc | apply Kd.R_drewN | apply Kd.R_drew)); exact (Kd.R_mono (Kd.R_mono (Kd.R_far (p := ⟨gb258, 2, none⟩) (Kd.R_far (p := ⟨gb256, 2, none⟩) (Kd.R_mono (Kd.R_types HO_257002.out BK256.out (by decide)) (fun k_ hk => (⟨hk, hk.1.1.2⟩ : _ ∧ k_ ≠ gb258))) (fun _ hk => hk.1.2) (.slice Ao70 y266.length co70)) (fun _ hk => hk.2) (.int .i64 0)) (fun _ h_ => h_.1)) (fun _ h_ => h_.1)))) k_ hk, Kd.fresh' (Kd.R_lt (by (with_reducible repeat (first | apply Kd.R_alloc | apply Kd.R_drewN | apply Kd.R_drew)); exact (Kd.R_mono (Kd.R_mono (Kd.R_far (p := ⟨gb258, 2, none⟩) (Kd.R_far (p := ⟨gb256, 2, none⟩) (Kd.R_mono (Kd.R_types HO268.out BK256.out (by decide)) (fun k_ hk => (⟨hk, hk.1.2.2⟩ : _ ∧ k_ ≠ gb258))) (fun _ hk => hk.1.2) (.slice Ao70 y266.length co70)) (fun _ hk => hk.2) (.int .i64 0)) (fun _ h_ => h_.1)) (fun _ h_ => h_.1)))) k_ hk, Kd.freshB (g := gb258) (o := .cells #[.string ((rd_T68 x257002_1 0).f0), .string ((rd_T68 x257002_1 0).f1), .int .i64 0] 68 (0, 0)) (by (with_reducible repeat (first | refine blk_drewN ?_ _ | refine blk_drew ?_ | refine blk_alloc ?_ _)); refine blk_put (cs := #[.string ((rd_T68 x257002_1 0).f0), .string ((rd_T68 x257002_1 0).f1), .int .i64 ((rd_T68 x257002_1 0).f2)]) ?_ 2 _ rfl; (with_reducible repeat (first | refine blk_drewN ?_ _ | refine blk_drew ?_ | refine blk_alloc ?_ _)); refine blk_far ?_ NB258_256.out _; (with_reducible repeat (first | refine blk_drewN ?_ _ | refine blk_drew ?_ | refine blk_alloc ?_ _)); exact BK258.out) k_ hk⟩)); (case aO => exact (by (with_reducible repeat (first | apply Kd.R_alloc | apply Kd.R_drewN | apply Kd.R_drew)); exact Kd.R_mono (Kd.R_far (p := ⟨gb258, 2, none⟩) (Kd.R_far (p := ⟨gb256, 2, none⟩) (Kd.R_mono (Kd.R_types HO_257003.out BK256.out (by decide)) (fun k_ hk => (⟨hk, hk.1.1.2⟩ : _ ∧ k_ ≠ gb258))) (fun _ hk => hk.1.2) (.slice Ao70 y266.length co70)) (fun _ hk => hk.2) (.int .i64 0)) (fun _ hk => ⟨hk.1.1.1.1, ⟨hk.1.1.2, hk.1.1.1.2⟩⟩))); (case aS => exact (below_size (be4 HB GE242 GE243 GE256 GE258))); (case aL => have := LMc55.out; omega); intro v282 w73 ho hb hg hat; rw [← Ny281.out] at ho; replace HO_257004 := Aside0.mk (Kd.Q_over' (by (with_reducible repeat (first | apply Kd.Q_alloc | apply Kd.Q_drewN | apply Kd.Q_drew)); exact (Kd.Q_mono (Kd.Q_mono (Kd.Q_far (p := ⟨gb258, 2, none⟩) (Kd.Q_far (p := ⟨gb256, 2, none⟩) (Kd.Q_types (Kd.Q_types HO_257004.out BK256.out (by decide)) BK258.out (by decide)) (fun _ hk => hk.1.2) (.slice Ao70 y266.length co70)) (fun _ hk => hk.2) (.int .i64 0)) (fun _ h_ => h_.1)) (fun _ h_ => h_.1))) (Kd.R_typed (by (with_reducible repeat (first | apply Kd.R_alloc | apply Kd.R_drewN | apply Kd.R_drew)); exact (Kd.R_mono (Kd.R_mono (Kd.R_far (p := ⟨gb258, 2, none⟩) (Kd.R_far (p := ⟨gb256, 2, none⟩) (Kd.R_mono (Kd.R_types HO_257003.out BK256.out (by decide)) (fun k_ hk => (⟨hk, hk.1.1.2⟩ : _ ∧ k_ ≠ gb258))) (fun _ hk => hk.1.2) (.slice Ao70 y266.length co70)) (fun _ hk => hk.2) (.int .i64 0)) (fun _ h_ => h_.1)) (fun _ h_ => h_.1)))) (by decide) hg); replace BK242 := Aside0.mk (blk_grown (g := gb242) (o := .cells #[.int .i64 a0_0, .int .i64 a0_1, .slice A0_2 l0_2.length c0_2, .slice A0_3 l0_3.length c0_3, .slice A0_4 l0_4.length c0_4] 30 (0, 0)) (bf2 BK242 NB242_258 NB242_256) hg (Kd.R_ne HO_257003.out BK242.out (by decide))); replace BK243 := Aside0.mk (blk_grown (g := gb243) (o := .cells #[.int .i64 x244000_1, .int .i64 x244001_1, .slice none 0 0, .slice none 0 0, .slice none 0 0] 30 (0, 0)) (bf2 BK243 NB243_258 NB243_256) hg (Kd.R_ne HO_257003.out BK243.out (by decide))); replace BK258 := Aside0.mk (blk_grown (g := gb258) (o := .cells #[.string ((rd_T68 x257002_1 0).f0), .string ((rd_T68 x257002_1 0).f1), .int .i64 0] 68 (0, 0)) (by (with_reducible repeat (first | refine blk_drewN ?_ _ | refine blk_drew ?_ | refine blk_alloc ?_ _)); refine blk_put (cs := #[.string ((rd_T68 x257002_1 0).f0), .string ((rd_T68 x257002_1 0).f1), .int .i64 ((rd_T68 x257002_1 0).f2)]) ?_ 2 _ rfl; (with_reducible repeat (first | refine blk_drewN ?_ _ | refine blk_drew ?_ | refine blk_alloc ?_ _)); refine blk_far ?_ NB258_256.out _; (with_reducible repeat (first | refine blk_drewN ?_ _ | refine blk_drew ?_ | refine blk_alloc ?_ _)); exact BK258.out) hg (Kd.R_away HO_257003.out (fun _ hk => hk.1.2))); replace HO268 := Aside0.mk (Kd.R_after (ok := (fun k_ => some k_ ≠ (.slice (some ad257) x257002_1.length co59 : Value).ownBlock ∧ k_ ≠ gb258)) (by (with_reducible repeat (first | apply Kd.R_alloc | apply Kd.R_drewN | apply Kd.R_drew)); exact Kd.R_mono (Kd.R_far (p := ⟨gb258, 2, none⟩) (Kd.R_far (p := ⟨gb256, 2, none⟩) (Kd.R_mono (Kd.R_types HO268.out BK256.out (by decide)) (fun k_ hk => (⟨hk, hk.1.2.2⟩ : _ ∧ k_ ≠ gb258))) (fun _ hk => hk.1.2) (.slice Ao70 y266.length co70)) (fun _ hk => hk.2) (.int .i64 0)) (fun _ hk => ⟨⟨hk.1.1.1, hk.1.1.2.2⟩, hk.1.1.2.1⟩)) hg hat); replace HB := Aside0.mk (hb); replace HR265 := Aside0.mk ((show Kd.C k68 w73 A68 y262.length y262 from by rw [Ny262.out, KA68.out]; exact Kd.C_drop (m := 1) (c := co59) ((Kd.R_reads' (Kd.R_after (ok := (fun k_ => nb k_ Ao70 y266.length co70 ∧ k_ ≠ gb258)) (by (with_reducible repeat (first | apply Kd.R_alloc | apply Kd.R_drewN | apply Kd.R_drew)); exact Kd.R_mono (Kd.R_far (p := ⟨gb258, 2, none⟩) (Kd.R_far (p := ⟨gb256, 2, none⟩) (Kd.R_mono (Kd.R_types HO_257002.out BK256.out (by decide)) (fun k_ hk => (⟨hk, hk.1.1.2⟩ : _ ∧ k_ ≠ gb258))) (fun _ hk => hk.1.2) (.slice Ao70 y266.length co70)) (fun _ hk => hk.2) (.int .i64 0)) (fun _ hk => ⟨⟨hk.1.1.2, hk.1.1.1.2⟩, hk.1.1.1.1⟩)) hg hat)).2.2) KL68.out ((Kd.R_reads' (Kd.R_after (ok := (fun k_ => nb k_ Ao70 y266.length co70 ∧ k_ ≠ gb258)) (by (with_reducible repeat (first | apply Kd.R_alloc | apply Kd.R_drewN | apply Kd.R_drew)); exact Kd.R_mono (Kd.R_far (p := ⟨gb258, 2, none⟩) (Kd.R_far (p := ⟨gb256, 2, none⟩) (Kd.R_mono (Kd.R_types HO_257002.out BK256.out (by decide)) (fun k_ hk => (⟨hk, hk.1.1.2⟩ : _ ∧ k_ ≠ gb258))) (fun _ hk => hk.1.2) (.slice Ao70 y266.length co70)) (fun _ hk => hk.2) (.int .i64 0)) (fun _ hk => ⟨⟨hk.1.1.2, hk.1.1.1.2⟩, hk.1.1.1.1⟩)) hg hat)).2.1))); replace HO_257002 := Aside0.mk (Kd.R_after (ok := (fun k_ => nb k_ Ao70 y266.length co70 ∧ k_ ≠ gb258)) (by (with_reducible repeat (first | apply Kd.R_alloc | apply Kd.R_drewN | apply Kd.R_drew)); exact Kd.R_mono (Kd.R_far (p := ⟨gb258, 2, none⟩) (Kd.R_far (p := ⟨gb256, 2, none⟩) (Kd.R_mono (Kd.R_types HO_257002.out BK256.out (by decide)) (fun k_ hk => (⟨hk, hk.1.1.2⟩ : _ ∧ k_ ≠ gb258))) (fun _ hk => hk.1.2) (.slice Ao70 y266.length co70)) (fun _ hk => hk.2) (.int .i64 0)) (fun _ hk => ⟨⟨hk.1.1.2, hk.1.1.1.2⟩, hk.1.1.1.1⟩)) hg hat); replace BK256 := Aside0.mk (blk_grown (g := gb256) (o := .cells #[.int .i64 t245, .int .i64 t246, .slice Ao70 y266.length co70, u257003, .slice Ao18 t253.length co18] 30 (0, 0)) (by (with_reducible repeat (first | refine blk_drewN ?_ _ | refine blk_drew ?_ | refine blk_alloc ?_ _)); refine blk_far ?_ NB256_258.out _; (with_reducible repeat (first | refine blk_drewN ?_ _ | refine blk_drew ?_ | refine blk_alloc ?_ _)); refine blk_put (cs := #[.int .i64 t245, .int .i64 t246, .slice (some ad257) x257002_1.length co59, u257003, .slice Ao18 t253.length co18]) ?_ 2 _ rfl; (with_reducible repeat (first | refine blk_drewN ?_ _ | refine blk_drew ?_ | refine blk_alloc ?_ _)); exact BK256.out) hg (Kd.R_ne HO_257003.out BK256.out (by decide))); have HO283 := Aside0.mk (ho); clear HO_257003; clear ho hb hg hat; obtain ⟨Ao74, co74, eo74⟩ := Kd.R_slice HO283.out; subst eo74; have hcz75_0 := bz5 BK256))
         go_roundg k1
         case measure => have := HK1.out; omega
         case rel => exact ⟨(x244000_1), (x244001_1), (y266), (y281), (.slice Ao70 y266.length co70), (.slice Ao74 y281.length co74), H', ⟨by have := HK1.out; omega⟩, ⟨by (with_reducible repeat (first | apply Kd.R_alloc | apply Kd.R_drewN | apply Kd.R_drew)); exact Kd.R_mono (Kd.R_far (p := ⟨gb256, 3, none⟩) (Kd.R_types HO268.out BK256.out (by decide)) (fun _ hk => hk.2) (.slice Ao74 y281.length co74)) (fun _ hk => hk.1.2)⟩, ⟨by (with_reducible repeat (first | apply Kd.R_alloc | apply Kd.R_drewN | apply Kd.R_drew)); exact Kd.R_mono (Kd.R_far (p := ⟨gb256, 3, none⟩) (Kd.R_types HO283.out BK256.out (by decide)) (fun _ hk => hk.2) (.slice Ao74 y281.length co74)) (fun _ hk => hk.1.2.1)⟩, ⟨by (with_reducible repeat (first | apply Kd.Q_alloc | apply Kd.Q_drewN | apply Kd.Q_drew)); exact Kd.Q_mono (Kd.Q_far (p := ⟨gb256, 3, none⟩) (Kd.Q_types HO_257004.out BK256.out (by decide)) (fun _ hk => hk.2) (.slice Ao74 y281.length co74)) (fun _ hk => trivial)⟩, ⟨by (with_reducible repeat (first | refine blk_drewN ?_ _ | refine blk_drew ?_ | refine blk_alloc ?_ _)); refine blk_far ?_ NB242_256.out _; (with_reducible repeat (first | refine blk_drewN ?_ _ | refine blk_drew ?_ | refine blk_alloc ?_ _)); exact BK242.out⟩, ⟨by (with_reducible repeat (first | refine blk_drewN ?_ _ | refine blk_drew ?_ | refine blk_alloc ?_ _)); refine blk_far ?_ NB243_256.out _; (with_reducible repeat (first | refine blk_drewN ?_ _ | refine blk_drew ?_ | refine blk_alloc ?_ _)); exact BK243.out⟩, ⟨by (with_reducible repeat (first | refine blk_drewN ?_ _ | refine blk_drew ?_ | refine blk_alloc ?_ _)); refine blk_put (cs := #[.int .i64 t245, .int .i64 t246, .slice Ao70 y266.length co70, u257003, .slice Ao18 t253.length co18]) ?_ 3 _ rfl; (with_reducible repeat (first | refine blk_drewN ?_ _ | refine blk_drew ?_ | refine blk_alloc ?_ _)); exact BK256.out⟩, ⟨be4 HB GE242 GE243 GE256 GE258⟩⟩
        rw [if_neg c55] at H
        exact absurd H (by simp)
       rw [if_neg c22] at H
       exact absurd H (by simp)
      rw [if_neg c21] at H
      exact absurd H (by simp)
     rw [if_neg c20] at H
     exact absurd H (by simp)
    rw [if_neg c19] at H
    have c19b0 : decide (0 < (x257002_1.length : Int)) = false := decide_eq_false c19
    have c19b1 : decide (0 < x257002_1.length) = false := decide_eq_false (by omega)
    clear c19
    simp only [Option.some.injEq, Prod.mk.injEq] at H
    obtain ⟨rfl, rfl, rfl, rfl, rfl, rfl, rfl⟩ := H
    have hnb76 := NB256_242.out
    have hnc76 := NB242_256.out
    have hnb77 := NB256_243.out
    have hnc77 := NB243_256.out
    have hcz78_0 := bz5 BK256
    obtain ⟨Ao79, co79, eo79⟩ := Kd.R_slice HO_257002.out
    subst eo79
    have hnb80 := NB243_242.out
    have hnc80 := NB242_243.out
    have hcz81_0 := bz5 BK243
    obtain ⟨Ao82, co82, eo82⟩ := Kd.R_slice HO_257003.out
    subst eo82
    go_wp2
    refine bodyPost_ret (results_ctt rfl _ _ gb243 30 #[.int .i64 t245, .int .i64 t246, .slice Ao79 x257002_1.length co79, .slice Ao82 x257003_1.length co82, .slice Ao18 t253.length co18] (0, 0) _ rfl (by (with_reducible repeat (first | refine blk_drewN ?_ _ | refine blk_drew ?_ | refine blk_alloc ?_ _)); refine blk_put (cs := #[.int .i64 t245, .int .i64 t246, .slice Ao79 x257002_1.length co79, .slice Ao82 x257003_1.length co82, .slice none 0 0]) ?_ 4 _ rfl; (with_reducible repeat (first | refine blk_drewN ?_ _ | refine blk_drew ?_ | refine blk_alloc ?_ _)); refine blk_put (cs := #[.int .i64 t245, .int .i64 t246, .slice Ao79 x257002_1.length co79, .slice none 0 0, .slice none 0 0]) ?_ 3 _ rfl; (with_reducible repeat (first | refine blk_drewN ?_ _ | refine blk_drew ?_ | refine blk_alloc ?_ _)); refine blk_put (cs := #[.int .i64 t245, .int .i64 t246, .slice none 0 0, .slice none 0 0, .slice none 0 0]) ?_ 2 _ rfl; (with_reducible repeat (first | refine blk_drewN ?_ _ | refine blk_drew ?_ | refine blk_alloc ?_ _)); refine blk_put (cs := #[.int .i64 t245, .int .i64 x244001_1, .slice none 0 0, .slice none 0 0, .slice none 0 0]) ?_ 1 _ rfl; (with_reducible repeat (first | refine blk_drewN ?_ _ | refine blk_drew ?_ | refine blk_alloc ?_ _)); refine blk_put (cs := #[.int .i64 x244000_1, .int .i64 x244001_1, .slice none 0 0, .slice none 0 0, .slice none 0 0]) ?_ 0 _ rfl; (with_reducible repeat (first | refine blk_drewN ?_ _ | refine blk_drew ?_ | refine blk_alloc ?_ _)); exact BK243.out) Try.underlying30 rfl (by kernel_rfl)) rfl ?_
    exact ⟨_, _, _, er, by (with_reducible repeat (first | apply Kd.R_alloc | apply Kd.R_drewN | apply Kd.R_drew)); exact Kd.R_mono (Kd.R_far (p := ⟨gb243, 4, none⟩) (Kd.R_far (p := ⟨gb243, 3, none⟩) (Kd.R_far (p := ⟨gb243, 2, none⟩) (Kd.R_far (p := ⟨gb243, 1, none⟩) (Kd.R_far (p := ⟨gb243, 0, none⟩) (Kd.R_types HO_257002.out BK243.out (by decide)) (fun _ hk => hk.2) (.int .i64 t245)) (fun _ hk => hk.2) (.int .i64 t246)) (fun _ hk => hk.2) (.slice Ao79 x257002_1.length co79)) (fun _ hk => hk.2) (.slice Ao82 x257003_1.length co82)) (fun _ hk => hk.2) (.slice Ao18 t253.length co18)) (fun _ hk => hk.1), by (with_reducible repeat (first | apply Kd.R_alloc | apply Kd.R_drewN | apply Kd.R_drew)); exact Kd.R_mono (Kd.R_far (p := ⟨gb243, 4, none⟩) (Kd.R_far (p := ⟨gb243, 3, none⟩) (Kd.R_far (p := ⟨gb243, 2, none⟩) (Kd.R_far (p := ⟨gb243, 1, none⟩) (Kd.R_far (p := ⟨gb243, 0, none⟩) (Kd.R_types HO_257003.out BK243.out (by decide)) (fun _ hk => hk.2) (.int .i64 t245)) (fun _ hk => hk.2) (.int .i64 t246)) (fun _ hk => hk.2) (.slice Ao79 x257002_1.length co79)) (fun _ hk => hk.2) (.slice Ao82 x257003_1.length co82)) (fun _ hk => hk.2) (.slice Ao18 t253.length co18)) (fun _ hk => hk.1), by (with_reducible repeat (first | apply Kd.Q_alloc | apply Kd.Q_drewN | apply Kd.Q_drew)); exact Kd.Q_mono (Kd.Q_far (p := ⟨gb243, 4, none⟩) (Kd.Q_far (p := ⟨gb243, 3, none⟩) (Kd.Q_far (p := ⟨gb243, 2, none⟩) (Kd.Q_far (p := ⟨gb243, 1, none⟩) (Kd.Q_far (p := ⟨gb243, 0, none⟩) (Kd.Q_types HO_257004.out BK243.out (by decide)) (fun _ hk => hk.2) (.int .i64 t245)) (fun _ hk => hk.2) (.int .i64 t246)) (fun _ hk => hk.2) (.slice Ao79 x257002_1.length co79)) (fun _ hk => hk.2) (.slice Ao82 x257003_1.length co82)) (fun _ hk => hk.2) (.slice Ao18 t253.length co18)) (fun _ hk => trivial), be3 HB GE242 GE243 GE256⟩
 replace c3 := Bool.eq_false_iff.mpr c3
 subst c3
 have H1 : (some (0, 0, ([] : List (S68)), ([] : List (S68)), ([] : List Int), (⟨#[]⟩ : ByteArray), false)) = some (r1, r2, r3, r4, r5, r6, r7) := by rw [if_neg (show ¬ (false = true) by decide)] at H; exact H
 clear H
 have H := H1
 clear H1
 simp only [Option.some.injEq, Prod.mk.injEq] at H
 obtain ⟨rfl, rfl, rfl, rfl, rfl, rfl, rfl⟩ := H
 go_enter Try.func37, Try.ntmps37
 go_wp2_with (first | ((with_reducible refine gate_dst (N := 1) rfl ?_); refine bx 1 #[.int .i64 a0_0, .int .i64 a0_1, .slice A0_2 l0_2.length c0_2, .slice A0_3 l0_3.length c0_3, .slice A0_4 l0_4.length c0_4] 30 ?_; intro gb242 hg w83 hbox hb; have BK242 := am hbox; have GW242 := gs0 hg HB; have GE242 := gs0 hg HB; replace HB := s0 HB hb; clear hb hbox hg) | ((with_reducible refine gate_dst (N := 2) rfl ?_); refine bx 2 #[.int .i64 0, .int .i64 0, .slice none 0 0, .slice none 0 0, .slice none 0 0] 30 ?_; intro gb243 hg w84 hbox hb; have BK243 := am hbox; have GW243 := gs1 hg HB GE242; have GE243 := gs1 hg HB GE242; replace HB := Aside0.mk (below_step (be1 HB GE242) hb); have NB242_243 := Aside0.mk ((by rw [hg]; exact Nat.ne_of_lt (bl BK242) : gb242 ≠ gb243)); have NB243_242 := Aside0.mk ((by rw [hg]; exact Nat.ne_of_gt (bl BK242) : gb243 ≠ gb242)); replace BK242 := bb BK242 hb; clear hb hbox hg; have hnb85 := NB242_243.out; have hnc85 := NB243_242.out; have hcz86_0 := bz5 BK242) | ((with_reducible refine gate_callee (f := 17) rfl ?_); refine gl 8 Try.func17 #[.agg #[.int .i64 a0_0, .int .i64 a0_1, .slice A0_2 l0_2.length c0_2, .slice A0_3 l0_3.length c0_3, .slice A0_4 l0_4.length c0_4]] ?_; (with_reducible refine (spec_ThreeOk.calls k a0_0 a0_1 _ _ l0_2 _ _ l0_3 _ _ l0_4 false _ (cb HR0_2 HB) HC0_2.out (cb HR0_3 HB) HC0_3.out (cb HR0_4 HB) HC0_4.out A2.out).mono ?_); rintro e w87 ⟨rfl, hb⟩; refine ⟨_, rfl, ?_⟩; replace BK242 := bb BK242 hb; replace BK243 := bb BK243 hb; replace HB := Aside0.mk (below_step (be2 HB GE242 GE243) hb); (try clear hb); have hcz88_0 := bz5 BK243))
 refine bodyPost_ret (results_ctt rfl _ _ gb243 30 #[.int .i64 0, .int .i64 0, .slice none 0 0, .slice none 0 0, .slice none 0 0] (0, 0) _ rfl (by (with_reducible repeat (first | refine blk_drewN ?_ _ | refine blk_drew ?_ | refine blk_alloc ?_ _)); refine blk_put (cs := #[.int .i64 0, .int .i64 0, .slice none 0 0, .slice none 0 0, .slice none 0 0]) ?_ 4 _ rfl; (with_reducible repeat (first | refine blk_drewN ?_ _ | refine blk_drew ?_ | refine blk_alloc ?_ _)); refine blk_put (cs := #[.int .i64 0, .int .i64 0, .slice none 0 0, .slice none 0 0, .slice none 0 0]) ?_ 3 _ rfl; (with_reducible repeat (first | refine blk_drewN ?_ _ | refine blk_drew ?_ | refine blk_alloc ?_ _)); refine blk_put (cs := #[.int .i64 0, .int .i64 0, .slice none 0 0, .slice none 0 0, .slice none 0 0]) ?_ 2 _ rfl; (with_reducible repeat (first | refine blk_drewN ?_ _ | refine blk_drew ?_ | refine blk_alloc ?_ _)); refine blk_put (cs := #[.int .i64 0, .int .i64 0, .slice none 0 0, .slice none 0 0, .slice none 0 0]) ?_ 1 _ rfl; (with_reducible repeat (first | refine blk_drewN ?_ _ | refine blk_drew ?_ | refine blk_alloc ?_ _)); refine blk_put (cs := #[.int .i64 0, .int .i64 0, .slice none 0 0, .slice none 0 0, .slice none 0 0]) ?_ 0 _ rfl; (with_reducible repeat (first | refine blk_drewN ?_ _ | refine blk_drew ?_ | refine blk_alloc ?_ _)); exact BK243.out) Try.underlying30 rfl (by kernel_rfl)) rfl ?_
 exact ⟨_, _, _, er, by first | exact Kd.R_nil _ _ _ _ _ | exact Kd.N_nil _ _ _ _ _ | exact Kd.V_nil _ _ _ _ _ | exact Kd.Q_nil _ _ _ _ _ | exact Kd.S_nil _ _ _ _ _, by first | exact Kd.R_nil _ _ _ _ _ | exact Kd.N_nil _ _ _ _ _ | exact Kd.V_nil _ _ _ _ _ | exact Kd.Q_nil _ _ _ _ _ | exact Kd.S_nil _ _ _ _ _, Kd.Q_of_R (by first | exact Kd.R_nil _ _ _ _ _ | exact Kd.N_nil _ _ _ _ _ | exact Kd.V_nil _ _ _ _ _ | exact Kd.Q_nil _ _ _ _ _ | exact Kd.S_nil _ _ _ _ _), be2 HB GE242 GE243⟩

/-! ### impl_within: function 64 -/
def impl_within.f (a0 : Int) (a1 : Int) (a2 : Int) : Option (Bool) := if a0 ≥ a1 then (some (decide (a0 ≤ a2))) else (some false)
set_option maxHeartbeats 8000000 in
set_option maxRecDepth 100000 in
theorem impl_within.calls (a0 : Int) (a1 : Int) (a2 : Int) (r : Bool) (w : World) (h : impl_within.f a0 a1 a2 = some r) :
  Calls Try.prog 64 #[.int .i64 a0, .int .i64 a1, .int .i64 a2] w fun e w' => e = .returned (.bool r) ∧ Drawn0 w w' := by
 have H : (if a0 ≥ a1 then (some (decide (a0 ≤ a2))) else (some false)) = some r := h
 clear h
 by_cases c4 : a0 ≥ a1
 ·rw [if_pos c4] at H
  have c4b0 : decide (a1 ≤ a0) = true := decide_eq_true c4
  clear c4
  obtain rfl := Option.some.inj H
  go_enter Try.func64, Try.ntmps64
  go_wp2
  go_ret
  exact ⟨by first | rfl | (simp; done) | (simp [*]; done), by repeat (first | exact Drawn0.refl _ | apply Drawn0.step)⟩
 rw [if_neg c4] at H
 have c4b0 : decide (a1 ≤ a0) = false := decide_eq_false c4
 clear c4
 obtain rfl := Option.some.inj H
 go_enter Try.func64, Try.ntmps64
 go_wp2
 go_ret
 exact ⟨by first | rfl | (simp; done) | (simp [*]; done), by repeat (first | exact Drawn0.refl _ | apply Drawn0.step)⟩

/-! ### impl_Three_ghosts: function 65 -/
def impl_Three_ghosts.f (a0_0 : Int) (a0_1 : Int) (l0_2 : List (S68)) (l0_3 : List (S68)) (l0_4 : List Int) : Option (Int) := some (mx 1 (wrap64 (a0_0 - a0_1)))
theorem impl_Three_ghosts_in (B : Nat) (W : World) (a b j : Int) (h0 : W.cell? ⟨B, 0, none⟩ = some (.int .i64 a)) (h1 : W.cell? ⟨B, 1, none⟩ = some (.int .i64 b)) (hj : (if 1 < wrap64 (a - b) then wrap64 (a - b) else 1) = j) :
    Calls Try.prog 65 #[.pointer (some ⟨B, 0, none⟩)] W fun e w' => e = .returned (.int .i64 j) ∧ ∃ nd, w' = W.drewN nd := by
  have HJ := Aside0.mk hj
  clear hj
  go_enter Try.func65, Try.ntmps65
  go_wp2
  repeat (go_quiet (fail); try go_wp2)
  all_goals
    go_ret
    refine ⟨?_, ?_⟩
    · rw [← HJ.out]
      first | (rw [if_pos (by omega)]; rfl) | (rw [if_neg (by omega)]; rfl)
    · first | exact ⟨_, rfl⟩ | exact ⟨0, rfl⟩ | exact ⟨1, rfl⟩
set_option maxHeartbeats 8000000 in
set_option maxRecDepth 100000 in
theorem impl_Three_ghosts.calls (a0_0 : Int) (a0_1 : Int) (A0_2 : Option Addr) (c0_2 : Nat) (l0_2 : List (S68)) (A0_3 : Option Addr) (c0_3 : Nat) (l0_3 : List (S68)) (A0_4 : Option Addr) (c0_4 : Nat) (l0_4 : List Int) (gbX : Nat) (r : Int) (w : World) (hr0_2 : Kd.C k68 w A0_2 l0_2.length l0_2) (hc0_2 : l0_2.length ≤ c0_2) (hr0_3 : Kd.C k68 w A0_3 l0_3.length l0_3) (hc0_3 : l0_3.length ≤ c0_3) (hr0_4 : Kd.C (Kd.int .i64) w A0_4 l0_4.length l0_4) (hc0_4 : l0_4.length ≤ c0_4) (hP : w.heap[gbX]? = some (.cells #[.int .i64 a0_0, .int .i64 a0_1, .slice A0_2 l0_2.length c0_2, .slice A0_3 l0_3.length c0_3, .slice A0_4 l0_4.length c0_4] 30 (0, 0))) (h : impl_Three_ghosts.f a0_0 a0_1 l0_2 l0_3 l0_4 = some r) :
  Calls Try.prog 65 #[.pointer (some ⟨gbX, 0, none⟩)] w fun e w' => e = .returned (.int .i64 r) ∧ Below w.heap.size w w' := by
  have hj : (if 1 < wrap64 (a0_0 - a0_1) then wrap64 (a0_0 - a0_1) else 1) = r := Option.some.inj h
  refine (impl_Three_ghosts_in gbX w a0_0 a0_1 r ((blk_cell hP 0).trans rfl) ((blk_cell hP 1).trans rfl) hj).mono ?_
  rintro e w' ⟨rfl, nd, rfl⟩
  exact ⟨rfl, pw_below_drewN (Below.refl _ _) nd⟩

/-! ### impl_isNum: function 66 -/
def impl_isNum.f (a0 : Int) : Option (Bool) := (impl_within.f a0 0 4294967295).bind fun t285 => (some t285)
set_option maxHeartbeats 8000000 in
set_option maxRecDepth 100000 in
theorem impl_isNum.calls (a0 : Int) (r : Bool) (w : World) (h : impl_isNum.f a0 = some r) :
  Calls Try.prog 66 #[.int .i64 a0] w fun e w' => e = .returned (.bool r) ∧ Drawn0 w w' := by
 have H : ((impl_within.f a0 0 4294967295).bind fun t285 => (some t285)) = some r := h
 clear h
 replace H := Option.bind_eq_some_iff.mp H
 obtain ⟨t285, A20, H⟩ := H
 replace H : (some t285) = some r := H
 have A2 := Aside0.mk A20
 clear A20
 obtain rfl := Option.some.inj H
 go_enter Try.func66, Try.ntmps66
 go_wp2_with (first | ((with_reducible refine gate_callee (f := 64) rfl ?_); refine gl 4 Try.func64 #[.int .i64 a0, .int .i64 0, .int .i64 4294967295] ?_; (with_reducible refine (impl_within.calls a0 0 4294967295 t285 _ A2.out).mono ?_); rintro e w' ⟨rfl, ⟨nd, rfl⟩⟩; refine ⟨_, rfl, ?_⟩))
 go_ret
 exact ⟨by first | rfl | (simp; done) | (simp [*]; done), by repeat (first | exact Drawn0.refl _ | apply Drawn0.step)⟩

/-! ### slices_Index_int_int: function 110 -/
def slices_Index_int_int.l0 : Nat → List Int → Int → Int → Int → Option (Int)
 | 0, _, _, _, _ => none
 | k + 1, x0, x1, x7, x8 => if x8 < x7 then (if 0 ≤ x8 then (if x8 < (x0.length : Int) then (if x1 = (rd x0 x8) then (some x8) else (slices_Index_int_int.l0 k x0 x1 x7 (wrap64 (x8 + 1)))) else (none)) else (none)) else (some (-1))
def slices_Index_int_int.f (k : Nat) (l0 : List Int) (a1 : Int) : Option (Int) := slices_Index_int_int.l0 k l0 a1 (l0.length : Int) 0
theorem slices_Index_int_int.mono_l : ∀ k, (∀ y0 y1 y2 y3, LeO (slices_Index_int_int.l0 k y0 y1 y2 y3) (slices_Index_int_int.l0 (k + 1) y0 y1 y2 y3))
 | 0 => fun _ _ _ _ r h => by simp [slices_Index_int_int.l0] at h
 | k + 1 => by
  have ih0 := slices_Index_int_int.mono_l k
  ·intro y0 y1 y2 y3
   unfold slices_Index_int_int.l0
   repeat' first
   | (with_reducible exact ih0 _ _ _ _)
   | (with_reducible exact LeO.refl _)
   | (with_reducible exact LeO.none _)
   | (with_reducible refine LeO.ite ?_ ?_)
   | (with_reducible refine LeO.bind ?_ (fun _ => ?_))
   | exact ih0 _ _ _ _
   | exact LeO.none _
   | refine LeO.ite ?_ ?_
   | refine LeO.bind ?_ (fun _ => ?_)
theorem slices_Index_int_int.mono : ∀ a0 a1 k, LeO (slices_Index_int_int.f k a0 a1) (slices_Index_int_int.f (k + 1) a0 a1) := by
 intro a0 a1 k
 have ih0 := slices_Index_int_int.mono_l k
 unfold slices_Index_int_int.f
 repeat' first
   | (with_reducible exact ih0 _ _ _ _)
   | (with_reducible exact LeO.refl _)
   | (with_reducible exact LeO.none _)
   | (with_reducible refine LeO.ite ?_ ?_)
   | (with_reducible refine LeO.bind ?_ (fun _ => ?_))
   | exact ih0 _ _ _ _
   | exact LeO.none _
   | refine LeO.ite ?_ ?_
   | refine LeO.bind ?_ (fun _ => ?_)
set_option maxHeartbeats 8000000 in
set_option maxRecDepth 100000 in
theorem slices_Index_int_int.calls (k : Nat) (A0 : Option Addr) (c0 : Nat) (l0 : List Int) (a1 : Int) (r : Int) (w : World) (hr0 : Kd.C (Kd.int .i64) w A0 l0.length l0) (hc0 : l0.length ≤ c0) (h : slices_Index_int_int.f k l0 a1 = some r) :
  Calls Try.prog 110 #[.slice A0 l0.length c0, .int .i64 a1] w fun e w' => e = .returned (.int .i64 r) ∧ Drawn0 w w' := by
 have HR0 := Aside0.mk hr0
 have HC0 := Aside0.mk hc0
 clear hr0 hc0
 have H : (slices_Index_int_int.l0 k l0 a1 (l0.length : Int) 0) = some r := h
 clear h
 have H' := Aside0.mk H
 clear H
 go_enter Try.func110, Try.ntmps110
 go_wp2
 go_loopg [8] k (fun kq v8 w' => ∃ (x8_1 : Int), v8 = .int .i64 x8_1 ∧ Aside0 (slices_Index_int_int.l0 kq l0 a1 (l0.length : Int) x8_1 = some r) ∧ Aside0 (kq ≤ k) ∧ Drawn0 w w')
 case atStart => exact ⟨(0), rs, H', ⟨Nat.le_refl _⟩, by repeat (first | exact Drawn0.refl _ | apply Drawn0.step)⟩
 case round =>
  clear H'
  try clear c1; try clear p2
  obtain ⟨x8_1, rfl, HA, HK1, ⟨m1, rfl⟩⟩ := hrel
  cases gk with
  | zero => exact absurd HA.out (by simp [slices_Index_int_int.l0])
  | succ k1 =>
   have H := HA.out
   clear HA
   simp only [slices_Index_int_int.l0] at H
   by_cases c3 : x8_1 < (l0.length : Int)
   ·rw [if_pos c3] at H
    have c3b0 : decide (x8_1 < (l0.length : Int)) = true := decide_eq_true c3
    clear c3
    by_cases c4 : 0 ≤ x8_1
    ·rw [if_pos c4] at H
     have c4b0 : decide (0 ≤ x8_1) = true := decide_eq_true c4
     clear c4
     by_cases c5 : x8_1 < (l0.length : Int)
     ·rw [if_pos c5] at H
      have c5b0 : decide (x8_1 < (l0.length : Int)) = true := decide_eq_true c5
      clear c5
      by_cases c6 : a1 = (rd l0 x8_1)
      ·rw [if_pos c6] at H
       have c6b0 : (a1 == (rd l0 x8_1)) = true := beq_iff_eq.mpr c6
       have c6b1 : (a1 != (rd l0 x8_1)) = false := bne_eq_false_iff_eq.mpr c6
       clear c6
       obtain rfl := Option.some.inj H
       have p286 : 0 ≤ (x8_1 : Int) := od
       have q286 : x8_1 < (l0.length : Int) := od
       obtain ⟨ad286, e286, hx286_0⟩ := Kd.at_int HR0.out x8_1 p286 q286
       cases e286
       replace p286 := eq_true p286
       replace q286 := eq_true q286
       go_wp2
       go_ret
       exact ⟨by first | rfl | (simp; done) | (simp [*]; done), by repeat (first | exact Drawn0.refl _ | apply Drawn0.step)⟩
      rw [if_neg c6] at H
      have c6b0 : (a1 == (rd l0 x8_1)) = false := beq_eq_false_iff_ne.mpr c6
      have c6b1 : (a1 != (rd l0 x8_1)) = true := bne_iff_ne.mpr c6
      have H' := Aside0.mk H
      clear H
      have p286 : 0 ≤ (x8_1 : Int) := od
      have q286 : x8_1 < (l0.length : Int) := od
      obtain ⟨ad286, e286, hx286_0⟩ := Kd.at_int HR0.out x8_1 p286 q286
      cases e286
      replace p286 := eq_true p286
      replace q286 := eq_true q286
      go_wp2
      go_roundg k1
      case measure => have := HK1.out; omega
      case rel => exact ⟨(wrap64 (x8_1 + 1)), rs, H', ⟨by have := HK1.out; omega⟩, by repeat (first | exact Drawn0.refl _ | apply Drawn0.step)⟩
     rw [if_neg c5] at H
     exact absurd H (by simp)
    rw [if_neg c4] at H
    exact absurd H (by simp)
   rw [if_neg c3] at H
   have c3b0 : decide (x8_1 < (l0.length : Int)) = false := decide_eq_false c3
   clear c3
   obtain rfl := Option.some.inj H
   go_wp2
   go_ret
   exact ⟨by first | rfl | (simp; done) | (simp [*]; done), by repeat (first | exact Drawn0.refl _ | apply Drawn0.step)⟩

/-! ### slices_Contains_int_int: function 67 -/
def slices_Contains_int_int.f (k : Nat) (l0 : List Int) (a1 : Int) : Option (Bool) := (slices_Index_int_int.f k l0 a1).bind fun t287 => (some (decide (t287 ≥ 0)))
theorem slices_Contains_int_int.mono : ∀ a0 a1 k, LeO (slices_Contains_int_int.f k a0 a1) (slices_Contains_int_int.f (k + 1) a0 a1) := by
 intro a0 a1 k
 unfold slices_Contains_int_int.f
 repeat' first
   | (with_reducible exact slices_Index_int_int.mono _ _ _)
   | (with_reducible exact LeO.refl _)
   | (with_reducible exact LeO.none _)
   | (with_reducible refine LeO.ite ?_ ?_)
   | (with_reducible refine LeO.bind ?_ (fun _ => ?_))
   | exact slices_Index_int_int.mono _ _ _
   | exact LeO.none _
   | refine LeO.ite ?_ ?_
   | refine LeO.bind ?_ (fun _ => ?_)
set_option maxHeartbeats 8000000 in
set_option maxRecDepth 100000 in
theorem slices_Contains_int_int.calls (k : Nat) (A0 : Option Addr) (c0 : Nat) (l0 : List Int) (a1 : Int) (r : Bool) (w : World) (hr0 : Kd.C (Kd.int .i64) w A0 l0.length l0) (hc0 : l0.length ≤ c0) (h : slices_Contains_int_int.f k l0 a1 = some r) :
  Calls Try.prog 67 #[.slice A0 l0.length c0, .int .i64 a1] w fun e w' => e = .returned (.bool r) ∧ Drawn0 w w' := by
 have HR0 := Aside0.mk hr0
 have HC0 := Aside0.mk hc0
 clear hr0 hc0
 have H : ((slices_Index_int_int.f k l0 a1).bind fun t287 => (some (decide (t287 ≥ 0)))) = some r := h
 clear h
 replace H := Option.bind_eq_some_iff.mp H
 obtain ⟨t287, A30, H⟩ := H
 replace H : (some (decide (t287 ≥ 0))) = some r := H
 have A3 := Aside0.mk A30
 clear A30
 obtain rfl := Option.some.inj H
 go_enter Try.func67, Try.ntmps67
 go_wp2_with (first | ((with_reducible refine gate_callee (f := 110) rfl ?_); refine gl 7 Try.func110 #[.slice A0 l0.length c0, .int .i64 a1] ?_; (with_reducible refine (slices_Index_int_int.calls k _ _ l0 a1 t287 _ ?side1 ?side2 A3.out).mono ?_); (case side1 => repeat (first | exact HR0.out | (with_reducible refine Kd.C_alloc ?_ _) | (with_reducible refine Kd.C_drewN ?_ _) | (with_reducible refine Kd.C_drew ?_))); (case side2 => exact HC0.out); rintro e w' ⟨rfl, ⟨nd, rfl⟩⟩; refine ⟨_, rfl, ?_⟩))
 go_ret
 exact ⟨by first | rfl | (simp; done) | (simp [*]; done), by repeat (first | exact Drawn0.refl _ | apply Drawn0.step)⟩

/-! ### impl_copyItems: function 68 -/
def impl_copyItems.f (l0 : List (S68)) : Option ((List (S68))) := (some (([] : List (S68)) : List (S68))).bind fun y288 => (if y288.length + l0.length < 3518437208883 then (some (y288 ++ l0)) else (none))
set_option maxHeartbeats 8000000 in
set_option maxRecDepth 100000 in
theorem impl_copyItems.calls (A0 : Option Addr) (c0 : Nat) (l0 : List (S68)) (r : List (S68)) (w : World) (hr0 : Kd.C k68 w A0 l0.length l0) (hc0 : l0.length ≤ c0) (h : impl_copyItems.f l0 = some r) :
  Calls Try.prog 68 #[.slice A0 l0.length c0] w fun e w' => ∃ v0_ : Value, e = .returned (v0_) ∧ Kd.R k68 68 w' w.heap.size (fun _ => True) v0_ r ∧ Below w.heap.size w w' := by
 have HR0 := Aside0.mk hr0
 have HC0 := Aside0.mk hc0
 clear hr0 hc0
 have HB := Aside0.mk (Below.refl w.heap.size w)
 have H : ((some (([] : List (S68)) : List (S68))).bind fun y288 => (if y288.length + l0.length < 3518437208883 then (some (y288 ++ l0)) else (none))) = some r := h
 clear h
 obtain ⟨y288, hy288⟩ : ∃ y_ : List (S68), y_ = (([] : List (S68))) := ⟨_, rfl⟩
 replace H : (if y288.length + l0.length < 3518437208883 then (some (y288 ++ l0)) else (none)) = some r := by first | (rw [hy288]; with_reducible exact H) | (have H2_ := (Option.bind_some _ _).symm.trans H; rw [hy288]; with_reducible exact H2_) | (have H2_ := (Option.bind_some _ _).symm.trans H; with_reducible exact H2_) | with_reducible exact H | (rw [hy288]; exact H) | exact H
 have Ny288 := Aside0.mk hy288
 clear hy288
 by_cases c2 : y288.length + l0.length < 3518437208883
 ·rw [if_pos c2] at H
  have LMc2 := Aside0.mk c2
  clear c2
  obtain ⟨y291, hy291⟩ : ∃ y_ : List (S68), y_ = (y288 ++ l0) := ⟨_, rfl⟩
  replace H : (some y291) = some r := by first | (rw [hy291]; with_reducible exact H) | (have H2_ := (Option.bind_some _ _).symm.trans H; rw [hy291]; with_reducible exact H2_) | (have H2_ := (Option.bind_some _ _).symm.trans H; with_reducible exact H2_) | with_reducible exact H | (rw [hy291]; exact H) | exact H
  have Ny291 := Aside0.mk hy291
  clear hy291
  obtain rfl := Option.some.inj H
  go_enter Try.func68, Try.ntmps68
  have HO290 := Aside0.mk (show Kd.R k68 68 w w.heap.size (fun _ => True) (.slice none 0 0) y288 from by rw [Ny288.out]; exact Kd.R_nil _ _ _ _ _)
  go_wp2_with (first | ((with_reducible refine gate_builtin (b := .append) (xs := #[.const (.slice none 0 0), .tmp 3]) rfl ?_); at_builtin; refine Kd.R_append_rows k68 (w0 := w) w.heap.size rfl (.const (.slice none 0 0)) (.tmp 3) 28 68 (.agg #[(.string ⟨#[]⟩), (.string ⟨#[]⟩), (.int .i64 0)]) 40 rfl Try.underlying28 info68 rfl (by decide) (by omega) (.slice none 0 0) y288 l0 _ _ _ (fun _ => True) (fun _ => False) rfl rfl ?aO ?aR (fun _ _ h => h) (fun _ h => h.elim) ?aF ?aB ?aS ?aL ?_; (case aR => repeat (first | exact (Kd.C_below HR0.out HB.out) | (with_reducible refine Kd.C_alloc ?_ _) | (with_reducible refine Kd.C_drewN ?_ _) | (with_reducible refine Kd.C_drew ?_))); (case aB => exact (be HB)); (case aF => exact (fun _ _ => trivial)); (case aO => exact (ro HO290)); (case aS => exact (below_size (be HB))); (case aL => have := LMc2.out; omega); intro v292 w5 ho hb hg hat; rw [← Ny291.out] at ho; replace HB := Aside0.mk (hb); have HO293 := Aside0.mk (ho); clear HO290; clear ho hb hg hat))
  go_ret
  exact ⟨_, er, by (with_reducible repeat (first | apply Kd.R_alloc | apply Kd.R_drewN | apply Kd.R_drew)); exact HO293.out, be HB⟩
 rw [if_neg c2] at H
 exact absurd H (by simp)

end Go.Proofs.Ytfjhkediaholmaa.QFnExactEvictSmall
