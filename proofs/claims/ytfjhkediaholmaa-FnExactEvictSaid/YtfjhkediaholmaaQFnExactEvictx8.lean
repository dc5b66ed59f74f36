-- made by a program of this session (myprint.py)
import Derived.Test.YtfjhkediaholmaaQFnExactEvictx0
import Derived.Test.YtfjhkediaholmaaQFnExactEvictx6
import Derived.Test.YtfjhkediaholmaaQFnExactEvictx7
namespace Go.Proofs.Ytfjhkediaholmaa.QFnExactEvict
open Go.RowKit Go.Proofs.YtfjhkediaholmaaW.PrintWords Go.Proofs.YtfjhkediaholmaaW.PrintLast Go.Proofs.YtfjhkediaholmaaW.PrintMore
attribute [local go_sem] max2_int min2_int max_two min_two max_three min_three max_four min_four   -- for this text's walks alone
set_option linter.unusedVariables false
set_option linter.unusedSimpArgs false

/-! ### spec_EvictMain: function 31 -/
def spec_EvictMain.l0 : Nat → Int → Int → List (S68) → List (S68) → List Int → Option (Int × Int × (List (S68)) × (List (S68)) × List Int × ByteArray × Bool)
 | 0, _, _, _, _, _ => none
 | k + 1, x238000, x238001, x238002, x238003, x238004 => if (x238003.length : Int) > 0 then (if 0 < (x238003.length : Int) then ((some (([] : List (S68)) : List (S68))).bind fun y240 => (if 1 ≤ (x238003.length : Int) then ((some (x238003.drop 1 : List (S68))).bind fun y243 => (if y240.length + y243.length < 3518437208883 then ((some (y240 ++ y243 : List (S68))).bind fun y247 => (if ((rd_T68 x238003 0).f2) = 0 then (some (x238000, x238001, x238002, y247, x238004, (rd_T68 x238003 0).f0, true)) else (if y247.length < 3518437208883 then (spec_EvictMain.l0 k x238000 x238001 x238002 (y247 ++ [(⟨(rd_T68 x238003 0).f0, (rd_T68 x238003 0).f1, wrap64 (((rd_T68 x238003 0).f2) - 1)⟩ : S68)]) x238004) else (none)))) else (none))) else (none))) else (none)) else (some (x238000, x238001, x238002, x238003, x238004, (⟨#[]⟩ : ByteArray), false))
def spec_EvictMain.f (k : Nat) (a0_0 : Int) (a0_1 : Int) (l0_2 : List (S68)) (l0_3 : List (S68)) (l0_4 : List Int) : Option (Int × Int × (List (S68)) × (List (S68)) × List Int × ByteArray × Bool) := (spec_ThreeOk.f k a0_0 a0_1 l0_2 l0_3 l0_4).bind fun t225 => (if t225 = true then ((spec_l10Copy.f a0_0 a0_1 l0_2 l0_3 l0_4).bind fun bt226 => (spec_EvictMain.l0 k bt226.1 bt226.2.1 bt226.2.2.1 bt226.2.2.2.1 bt226.2.2.2.2)) else (some (0, 0, ([] : List (S68)), ([] : List (S68)), ([] : List Int), (⟨#[]⟩ : ByteArray), false)))
theorem spec_EvictMain.mono_l : ∀ k, (∀ y0 y1 y2 y3 y4, LeO (spec_EvictMain.l0 k y0 y1 y2 y3 y4) (spec_EvictMain.l0 (k + 1) y0 y1 y2 y3 y4))
 | 0 => fun _ _ _ _ _ r h => by simp [spec_EvictMain.l0] at h
 | k + 1 => by
  have ih0 := spec_EvictMain.mono_l k
  ·intro y0 y1 y2 y3 y4
   unfold spec_EvictMain.l0
   repeat' first
   | (with_reducible exact ih0 _ _ _ _ _)
   | (with_reducible exact spec_ThreeOk.mono _ _ _ _ _ _)
   | (with_reducible exact LeO.refl _)
   | (with_reducible exact LeO.none _)
   | (with_reducible refine LeO.ite ?_ ?_)
   | (with_reducible refine LeO.bind ?_ (fun _ => ?_))
   | exact ih0 _ _ _ _ _
   | exact spec_ThreeOk.mono _ _ _ _ _ _
   | exact LeO.none _
   | refine LeO.ite ?_ ?_
   | refine LeO.bind ?_ (fun _ => ?_)
theorem spec_EvictMain.mono : ∀ a0 a1 a2 a3 a4 k, LeO (spec_EvictMain.f k a0 a1 a2 a3 a4) (spec_EvictMain.f (k + 1) a0 a1 a2 a3 a4) := by
 intro a0 a1 a2 a3 a4 k
 have ih0 := spec_EvictMain.mono_l k
 unfold spec_EvictMain.f
 repeat' first
   | (with_reducible exact ih0 _ _ _ _ _)
   | (with_reducible exact spec_ThreeOk.mono _ _ _ _ _ _)
   | (with_reducible exact LeO.refl _)
   | (with_reducible exact LeO.none _)
   | (with_reducible refine LeO.ite ?_ ?_)
   | (with_reducible refine LeO.bind ?_ (fun _ => ?_))
   | exact ih0 _ _ _ _ _
   | exact spec_ThreeOk.mono _ _ _ _ _ _
   | exact LeO.none _
   | refine LeO.ite ?_ ?_
   | refine LeO.bind ?_ (fun _ => ?_)
set_option maxHeartbeats 8000000 in
set_option maxRecDepth 100000 in
theorem spec_EvictMain.calls (k : Nat) (a0_0 : Int) (a0_1 : Int) (A0_2 : Option Addr) (c0_2 : Nat) (l0_2 : List (S68)) (A0_3 : Option Addr) (c0_3 : Nat) (l0_3 : List (S68)) (A0_4 : Option Addr) (c0_4 : Nat) (l0_4 : List Int) (r1 : Int) (r2 : Int) (r3 : List (S68)) (r4 : List (S68)) (r5 : List Int) (r6 : ByteArray) (r7 : Bool) (w : World) (hr0_2 : Kd.C k68 w A0_2 l0_2.length l0_2) (hc0_2 : l0_2.length ≤ c0_2) (hr0_3 : Kd.C k68 w A0_3 l0_3.length l0_3) (hc0_3 : l0_3.length ≤ c0_3) (hr0_4 : Kd.C (Kd.int .i64) w A0_4 l0_4.length l0_4) (hc0_4 : l0_4.length ≤ c0_4) (h : spec_EvictMain.f k a0_0 a0_1 l0_2 l0_3 l0_4 = some (r1, r2, r3, r4, r5, r6, r7)) :
  Calls Try.prog 31 #[.agg #[.int .i64 a0_0, .int .i64 a0_1, .slice A0_2 l0_2.length c0_2, .slice A0_3 l0_3.length c0_3, .slice A0_4 l0_4.length c0_4]] w fun e w' => ∃ v2_ v3_ v4_ : Value, e = .returned (.tuple #[.agg #[.int .i64 r1, .int .i64 r2, v2_, v3_, v4_], .string r6, .bool r7]) ∧ Kd.R k68 68 w' w.heap.size (fun k_ => some k_ ≠ (v3_ : Value).ownBlock) v2_ r3 ∧ Kd.R k68 68 w' w.heap.size (fun k_ => some k_ ≠ (v2_ : Value).ownBlock) v3_ r4 ∧ Kd.R (Kd.int .i64) 3 w' w.heap.size (fun _ => True) v4_ r5 ∧ Below w.heap.size w w' := by
 have hu30 := Try.underlying30
 have hu68 := Try.underlying68
 have HR0_2 := Aside0.mk hr0_2
 have HC0_2 := Aside0.mk hc0_2
 clear hr0_2 hc0_2
 have HR0_3 := Aside0.mk hr0_3
 have HC0_3 := Aside0.mk hc0_3
 clear hr0_3 hc0_3
 have HR0_4 := Aside0.mk hr0_4
 have HC0_4 := Aside0.mk hc0_4
 clear hr0_4 hc0_4
 have HB := Aside0.mk (Below.refl w.heap.size w)
 have H : ((spec_ThreeOk.f k a0_0 a0_1 l0_2 l0_3 l0_4).bind fun t225 => (if t225 = true then ((spec_l10Copy.f a0_0 a0_1 l0_2 l0_3 l0_4).bind fun bt226 => (spec_EvictMain.l0 k bt226.1 bt226.2.1 bt226.2.2.1 bt226.2.2.2.1 bt226.2.2.2.2)) else (some (0, 0, ([] : List (S68)), ([] : List (S68)), ([] : List Int), (⟨#[]⟩ : ByteArray), false)))) = some (r1, r2, r3, r4, r5, r6, r7) := h
 clear h
 replace H := Option.bind_eq_some_iff.mp H
 obtain ⟨t225, A20, H⟩ := H
 replace H : (if t225 = true then ((spec_l10Copy.f a0_0 a0_1 l0_2 l0_3 l0_4).bind fun bt226 => (spec_EvictMain.l0 k bt226.1 bt226.2.1 bt226.2.2.1 bt226.2.2.2.1 bt226.2.2.2.2)) else (some (0, 0, ([] : List (S68)), ([] : List (S68)), ([] : List Int), (⟨#[]⟩ : ByteArray), false))) = some (r1, r2, r3, r4, r5, r6, r7) := H
 have A2 := Aside0.mk A20
 clear A20
 by_cases c3 : t225 = true
 ·subst c3
  have H1 : ((spec_l10Copy.f a0_0 a0_1 l0_2 l0_3 l0_4).bind fun bt226 => (spec_EvictMain.l0 k bt226.1 bt226.2.1 bt226.2.2.1 bt226.2.2.2.1 bt226.2.2.2.2)) = some (r1, r2, r3, r4, r5, r6, r7) := by rw [if_pos rfl] at H; exact H
  clear H
  have H := H1
  clear H1
  replace H := Option.bind_eq_some_iff.mp H
  obtain ⟨⟨t226, t227, t228, t231, t234⟩, A40, H⟩ := H
  replace H : (spec_EvictMain.l0 k t226 t227 t228 t231 t234) = some (r1, r2, r3, r4, r5, r6, r7) := H
  have A4 := Aside0.mk A40
  clear A40
  have H' := Aside0.mk H
  clear H
  go_enter Try.func31, Try.ntmps31
  go_wp2_with (first | ((with_reducible refine gate_dst (N := 1) rfl ?_); refine bx 1 #[.int .i64 a0_0, .int .i64 a0_1, .slice A0_2 l0_2.length c0_2, .slice A0_3 l0_3.length c0_3, .slice A0_4 l0_4.length c0_4] 30 ?_; intro gb223 hg w5 hbox hb; have BK223 := am hbox; have GW223 := gs0 hg HB; have GE223 := gs0 hg HB; replace HB := s0 HB hb; clear hb hbox hg) | ((with_reducible refine gate_dst (N := 2) rfl ?_); refine bx 2 #[.int .i64 0, .int .i64 0, .slice none 0 0, .slice none 0 0, .slice none 0 0] 30 ?_; intro gb224 hg w6 hbox hb; have BK224 := am hbox; have GW224 := gs1 hg HB GE223; have GE224 := gs1 hg HB GE223; replace HB := Aside0.mk (below_step (be1 HB GE223) hb); have NB223_224 := nl hg BK223; have NB224_223 := ng hg BK223; replace BK223 := bb BK223 hb; clear hb hbox hg; have hnb7 := NB223_224.out; have hnc7 := NB224_223.out; have hcz8_0 := bz5 BK223) | ((with_reducible refine gate_callee (f := 17) rfl ?_); refine gl 8 Try.func17 #[.agg #[.int .i64 a0_0, .int .i64 a0_1, .slice A0_2 l0_2.length c0_2, .slice A0_3 l0_3.length c0_3, .slice A0_4 l0_4.length c0_4]] ?_; (with_reducible refine (spec_ThreeOk.calls k a0_0 a0_1 _ _ l0_2 _ _ l0_3 _ _ l0_4 true _ (cb HR0_2 HB) HC0_2.out (cb HR0_3 HB) HC0_3.out (cb HR0_4 HB) HC0_4.out A2.out).mono ?_); rintro e w9 ⟨rfl, hb⟩; refine ⟨_, rfl, ?_⟩; replace BK223 := bb BK223 hb; replace BK224 := bb BK224 hb; replace HB := Aside0.mk (below_step (be2 HB GE223 GE224) hb); (try clear hb); have hcz10_0 := bz5 BK223) | ((with_reducible refine gate_callee (f := 83) rfl ?_); refine gl 12 Try.func83 #[.agg #[.int .i64 a0_0, .int .i64 a0_1, .slice A0_2 l0_2.length c0_2, .slice A0_3 l0_3.length c0_3, .slice A0_4 l0_4.length c0_4]] ?_; (with_reducible refine (spec_l10Copy.calls a0_0 a0_1 _ _ l0_2 _ _ l0_3 _ _ l0_4 t226 t227 t228 t231 t234 _ (cb HR0_2 HB) HC0_2.out (cb HR0_3 HB) HC0_3.out (cb HR0_4 HB) HC0_4.out A4.out).mono ?_); rintro e w11 ⟨v229, v232, v235, rfl, ho0, ho1, ho2, hb⟩; refine ⟨_, rfl, ?_⟩; have HO230 := Aside0.mk (Kd.R_lower ho0 (below_size (be2 HB GE223 GE224))); have HO233 := Aside0.mk (Kd.R_lower ho1 (below_size (be2 HB GE223 GE224))); have HO236 := Aside0.mk (Kd.R_lower ho2 (below_size (be2 HB GE223 GE224))); replace BK223 := bb BK223 hb; replace BK224 := bb BK224 hb; replace HB := Aside0.mk (below_step (be2 HB GE223 GE224) hb); (try clear hb); (try clear ho0); (try clear ho1); (try clear ho2)) | ((with_reducible refine gate_dst (N := 5) rfl ?_); refine bx 5 #[.int .i64 0, .int .i64 0, .slice none 0 0, .slice none 0 0, .slice none 0 0] 30 ?_; intro gb237 hg w12 hbox hb; replace HO230 := rb HO230 hb; replace HO233 := rb HO233 hb; replace HO236 := rb HO236 hb; have BK237 := am hbox; have GW237 := gs2 hg HB GE223 GE224; have GE237 := gs2 hg HB GE223 GE224; replace HB := Aside0.mk (below_step (be2 HB GE223 GE224) hb); have NB223_237 := nl hg BK223; have NB237_223 := ng hg BK223; replace BK223 := bb BK223 hb; have NB224_237 := nl hg BK224; have NB237_224 := ng hg BK224; replace BK224 := bb BK224 hb; clear hb hbox hg; have hnb13 := NB237_223.out; have hnc13 := NB223_237.out; have hnb14 := NB237_224.out; have hnc14 := NB224_237.out; have hcz15_0 := bz5 BK237; obtain ⟨Ao16, co16, eo16⟩ := Kd.R_slice HO230.out; subst eo16; obtain ⟨Ao17, co17, eo17⟩ := Kd.R_slice HO233.out; subst eo17; obtain ⟨Ao18, co18, eo18⟩ := Kd.R_slice HO236.out; subst eo18))
  go_loopg [] k (fun kq w' => ∃ (x225000_1 : Int) (x225001_1 : Int) (x238003_1 : List (S68)) (u238003 : Value), Aside0 (spec_EvictMain.l0 kq t226 t227 t228 x238003_1 t234 = some (r1, r2, r3, r4, r5, r6, r7)) ∧ Aside0 (kq ≤ k) ∧ Aside0 (Kd.R k68 68 w' w.heap.size (fun k_ => some k_ ≠ (u238003 : Value).ownBlock) (.slice Ao16 t228.length co16) t228) ∧ Aside0 (Kd.R k68 68 w' w.heap.size (fun k_ => nb k_ Ao16 t228.length co16) u238003 x238003_1) ∧ Aside0 (Kd.R (Kd.int .i64) 3 w' w.heap.size (fun _ => True) (.slice Ao18 t234.length co18) t234) ∧ Aside0 (w'.heap[gb223]? = some (.cells #[.int .i64 a0_0, .int .i64 a0_1, (.slice A0_2 l0_2.length c0_2), (.slice A0_3 l0_3.length c0_3), (.slice A0_4 l0_4.length c0_4)] 30 (0, 0))) ∧ Aside0 (w'.heap[gb224]? = some (.cells #[.int .i64 x225000_1, .int .i64 x225001_1, (.slice none 0 0), (.slice none 0 0), (.slice none 0 0)] 30 (0, 0))) ∧ Aside0 (w'.heap[gb237]? = some (.cells #[.int .i64 t226, .int .i64 t227, (.slice Ao16 t228.length co16), u238003, (.slice Ao18 t234.length co18)] 30 (0, 0))) ∧ Aside0 (Below w.heap.size w w'))
  case atStart => exact ⟨(0), (0), (t231), (.slice Ao17 t231.length co17), H', ⟨Nat.le_refl _⟩, ⟨(rf HO230 BK237)⟩, ⟨(rf HO233 BK237)⟩, ⟨(rfn HO236 BK237)⟩, ⟨(bp1 BK223 NB223_237)⟩, ⟨(bp1 BK224 NB224_237)⟩, ⟨(bp BK237)⟩, ⟨be3 HB GE223 GE224 GE237⟩⟩
  case round =>
   clear H'
   try clear c1; try clear p2; try clear c3; try clear c7; try clear c8; try clear c13; try clear c14; try clear c17; try clear hcz10_0; try clear hcz15_0; try clear hcz8_0
   obtain ⟨x225000_1, x225001_1, x238003_1, u238003, HA, HK1, HO_238002, HO_238003, HO_238004, BK223, BK224, BK237, HB⟩ := hrel
   cases gk with
   | zero => exact absurd HA.out (by simp [spec_EvictMain.l0])
   | succ k1 =>
    have H := HA.out
    clear HA
    simp only [spec_EvictMain.l0] at H
    by_cases c19 : (x238003_1.length : Int) > 0
    ·rw [if_pos c19] at H
     have c19b0 : decide (0 < (x238003_1.length : Int)) = true := decide_eq_true c19
     have c19b1 : decide (0 < x238003_1.length) = true := decide_eq_true (by omega)
     clear c19
     by_cases c20 : 0 < (x238003_1.length : Int)
     ·rw [if_pos c20] at H
      have c20b0 : decide (0 < (x238003_1.length : Int)) = true := decide_eq_true c20
      have c20b1 : decide (0 < x238003_1.length) = true := decide_eq_true (by omega)
      clear c20
      obtain ⟨y240, hy240⟩ : ∃ y_ : List (S68), y_ = (([] : List (S68))) := ⟨_, rfl⟩
      replace H : (if 1 ≤ (x238003_1.length : Int) then ((some (x238003_1.drop 1 : List (S68))).bind fun y243 => (if y240.length + y243.length < 3518437208883 then ((some (y240 ++ y243 : List (S68))).bind fun y247 => (if ((rd_T68 x238003_1 0).f2) = 0 then (some (t226, t227, t228, y247, t234, (rd_T68 x238003_1 0).f0, true)) else (if y247.length < 3518437208883 then (spec_EvictMain.l0 k1 t226 t227 t228 (y247 ++ [(⟨(rd_T68 x238003_1 0).f0, (rd_T68 x238003_1 0).f1, wrap64 (((rd_T68 x238003_1 0).f2) - 1)⟩ : S68)]) t234) else (none)))) else (none))) else (none)) = some (r1, r2, r3, r4, r5, r6, r7) := by first | (rw [hy240]; with_reducible exact H) | (have H2_ := (Option.bind_some _ _).symm.trans H; rw [hy240]; with_reducible exact H2_) | (have H2_ := (Option.bind_some _ _).symm.trans H; with_reducible exact H2_) | with_reducible exact H | (rw [hy240]; exact H) | exact H
      have Ny240 := Aside0.mk hy240
      clear hy240
      by_cases c21 : 1 ≤ (x238003_1.length : Int)
      ·rw [if_pos c21] at H
       have c21b0 := eq_true c21
       have c21b1 : decide (1 ≤ (x238003_1.length : Int)) = true := decide_eq_true c21
       clear c21
       obtain ⟨y243, hy243⟩ : ∃ y_ : List (S68), y_ = (x238003_1.drop 1) := ⟨_, rfl⟩
       replace H : (if y240.length + y243.length < 3518437208883 then ((some (y240 ++ y243 : List (S68))).bind fun y247 => (if ((rd_T68 x238003_1 0).f2) = 0 then (some (t226, t227, t228, y247, t234, (rd_T68 x238003_1 0).f0, true)) else (if y247.length < 3518437208883 then (spec_EvictMain.l0 k1 t226 t227 t228 (y247 ++ [(⟨(rd_T68 x238003_1 0).f0, (rd_T68 x238003_1 0).f1, wrap64 (((rd_T68 x238003_1 0).f2) - 1)⟩ : S68)]) t234) else (none)))) else (none)) = some (r1, r2, r3, r4, r5, r6, r7) := by first | (rw [hy243]; with_reducible exact H) | (have H2_ := (Option.bind_some _ _).symm.trans H; rw [hy243]; with_reducible exact H2_) | (have H2_ := (Option.bind_some _ _).symm.trans H; with_reducible exact H2_) | with_reducible exact H | (rw [hy243]; exact H) | exact H
       have Ny243 := Aside0.mk hy243
       clear hy243
       by_cases c22 : y240.length + y243.length < 3518437208883
       ·rw [if_pos c22] at H
        have LMc22 := Aside0.mk c22
        clear c22
        obtain ⟨y247, hy247⟩ : ∃ y_ : List (S68), y_ = (y240 ++ y243) := ⟨_, rfl⟩
        replace H : (if ((rd_T68 x238003_1 0).f2) = 0 then (some (t226, t227, t228, y247, t234, (rd_T68 x238003_1 0).f0, true)) else (if y247.length < 3518437208883 then (spec_EvictMain.l0 k1 t226 t227 t228 (y247 ++ [(⟨(rd_T68 x238003_1 0).f0, (rd_T68 x238003_1 0).f1, wrap64 (((rd_T68 x238003_1 0).f2) - 1)⟩ : S68)]) t234) else (none))) = some (r1, r2, r3, r4, r5, r6, r7) := by first | (rw [hy247]; with_reducible exact H) | (have H2_ := (Option.bind_some _ _).symm.trans H; rw [hy247]; with_reducible exact H2_) | (have H2_ := (Option.bind_some _ _).symm.trans H; with_reducible exact H2_) | with_reducible exact H | (rw [hy247]; exact H) | exact H
        have Ny247 := Aside0.mk hy247
        clear hy247
        by_cases c23 : ((rd_T68 x238003_1 0).f2) = 0
        ·rw [if_pos c23] at H
         have c23b0 : (((rd_T68 x238003_1 0).f2) == 0) = true := beq_iff_eq.mpr c23
         have c23b1 : (((rd_T68 x238003_1 0).f2) != 0) = false := bne_eq_false_iff_eq.mpr c23
         clear c23
         simp only [Option.some.injEq, Prod.mk.injEq] at H
         obtain ⟨rfl, rfl, rfl, rfl, rfl, rfl, rfl⟩ := H
         have hnb24 := NB237_223.out
         have hnc24 := NB223_237.out
         have hnb25 := NB237_224.out
         have hnc25 := NB224_237.out
         have hcz26_0 := bz5 BK237
         obtain ⟨Ao27, co27, eo27⟩ := Kd.R_slice HO_238003.out
         subst eo27
         have p238 : 0 ≤ (0 : Int) := (by omega)
         have q238 : 0 < (x238003_1.length : Int) := od
         obtain ⟨ad238, e238, hx238_0, hx238_1, hx238_2⟩ := at_T68 (Kd.R_reads' HO_238003.out).2.2 0 p238 q238
         cases e238
         have qi238 : (0 < x238003_1.length) = True := eq_true (by omega)
         (try rw [show ((0 : Int)).toNat = 0 from rfl] at hx238_0)
         (try rw [show 0 * 3 = 0 from rfl] at hx238_0)
         (try rw [Addr.add_zero'] at hx238_0)
         (try rw [show ((0 : Int)).toNat = 0 from rfl] at hx238_1)
         (try rw [show 0 * 3 = 0 from rfl] at hx238_1)
         (try rw [Addr.add_zero'] at hx238_1)
         (try rw [show ((0 : Int)).toNat = 0 from rfl] at hx238_2)
         (try rw [show 0 * 3 = 0 from rfl] at hx238_2)
         (try rw [Addr.add_zero'] at hx238_2)
         replace p238 := eq_true p238
         replace q238 := eq_true q238
         try go_wp2_with (first | ((with_reducible refine gate_dst (N := 6) rfl ?_); refine bx 6 #[.string (⟨#[]⟩ : ByteArray), .string (⟨#[]⟩ : ByteArray), .int .i64 0] 68 ?_; intro gb239 hg w28 hbox hb; replace HO_238002 := Aside0.mk (Kd.R_below (Kd.R_elderB (ro HO_238002) gb239 (Nat.le_of_eq hg.symm)) hb); replace HO_238003 := Aside0.mk (Kd.R_below (Kd.R_elderB (ro HO_238003) gb239 (Nat.le_of_eq hg.symm)) hb); replace HO_238004 := rb HO_238004 hb; have BK239 := am hbox; have GW239 := Aside0.mk ((by rw [hg]; exact (below_size (be3 HB GE223 GE224 GE237)) : w.heap.size ≤ gb239)); have GE239 := Aside0.mk ((by rw [hg]; exact (below_size (be3 HB GE223 GE224 GE237)) : w.heap.size ≤ gb239)); replace HB := Aside0.mk (below_step (be3 HB GE223 GE224 GE237) hb); have NB223_239 := nl hg BK223; have NB239_223 := ng hg BK223; replace BK223 := bb BK223 hb; have NB224_239 := nl hg BK224; have NB239_224 := ng hg BK224; replace BK224 := bb BK224 hb; have NB237_239 := nl hg BK237; have NB239_237 := ng hg BK237; replace BK237 := bb BK237 hb; clear hb hbox hg; have hnb29 := NB239_223.out; have hnc29 := NB223_239.out; have hnb30 := NB239_224.out; have hnc30 := NB224_239.out; have hnb31 := NB239_237.out; have hnc31 := NB237_239.out; have hcz32_0 := bz3 BK239) | ((with_reducible refine gate_dst (N := 21) rfl ?_); refine Kd.R_lit k68 _ 68 ?hg (N := 21) ?hd (xs := ([] : List (S68))) (inner := []) (ok := fun _ => True) (okp := fun _ => True) ?hr ?hp (fun _ hk => hk) trivial (Below.refl _ _) (Nat.le_refl _) (by simp) ?_; (case hd => rfl); (case hg => rfl); (case hr => first | (go_simp; done) | (go_simp; rfl)); (case hp => exact (Reps.none _ _)); intro v241 w33 ho34 hb hg_ hnew_; clear hg_ hnew_; (first | rw [← Ny240.out] at ho34 | (simp only [Int.reduceToNat] at ho34; rw [← Ny240.out] at ho34)); replace HO_238004 := Aside0.mk (Kd.R_below (rf HO_238004 BK239) hb); have HO242 := Aside0.mk (Kd.R_lower (Kd.R_newB (Kd.R_new' (Kd.R_new' ho34 (Kd.R_lt (rgs gb239 HO_238002))) (Kd.R_lt (rgs gb239 HO_238003))) (g := gb239) (o := .cells #[.string ((rd_T68 x238003_1 0).f0), .string ((rd_T68 x238003_1 0).f1), .int .i64 ((rd_T68 x238003_1 0).f2)] 68 (0, 0)) (bp BK239)) (below_size (be4 HB GE223 GE224 GE237 GE239))); replace HO_238002 := Aside0.mk (Kd.R_elder' (rgs gb239 HO_238002) (Kd.R_base ho34) hb); replace HO_238003 := Aside0.mk (Kd.R_elder' (rgs gb239 HO_238003) (Kd.R_base ho34) hb); replace BK223 := Aside0.mk (blk_below (g := gb223) (o := .cells #[.int .i64 a0_0, .int .i64 a0_1, .slice A0_2 l0_2.length c0_2, .slice A0_3 l0_3.length c0_3, .slice A0_4 l0_4.length c0_4] 30 (0, 0)) (bf1 BK223 NB223_239) hb); replace BK224 := Aside0.mk (blk_below (g := gb224) (o := .cells #[.int .i64 x225000_1, .int .i64 x225001_1, .slice none 0 0, .slice none 0 0, .slice none 0 0] 30 (0, 0)) (bf1 BK224 NB224_239) hb); replace BK237 := Aside0.mk (blk_below (g := gb237) (o := .cells #[.int .i64 t226, .int .i64 t227, .slice Ao16 t228.length co16, .slice (some ad238) x238003_1.length co27, .slice Ao18 t234.length co18] 30 (0, 0)) (bf1 BK237 NB237_239) hb); replace BK239 := Aside0.mk (blk_below (g := gb239) (o := .cells #[.string ((rd_T68 x238003_1 0).f0), .string ((rd_T68 x238003_1 0).f1), .int .i64 ((rd_T68 x238003_1 0).f2)] 68 (0, 0)) (bp BK239) hb); replace HB := Aside0.mk (below_step (be4 HB GE223 GE224 GE237 GE239) hb); clear hb ho34; have hcz35_0 := bz5 BK237; have q36 : (1 : Int) ≤ ((x238003_1.length : Int) : Int) := od; obtain ⟨i036, hi036, _, hsz36, _⟩ := info_parts info68; have hroom36 : x238003_1.length ≤ co27 := (Kd.R_reads' HO_238003.out).2.1; have hC36 : Kd.C k68 _ (some ad238) x238003_1.length x238003_1 := (Kd.R_reads' HO_238003.out).2.2; have hcut36 := cut_from (P := Try.prog) 28 68 .i64 Try.underlying28 hi036 3 hsz36 (some ad238) x238003_1.length co27 1 (by omega) q36; have hr36 := Kd.C_drop (m := (1 : Int).toNat) (c := co27) hC36 (by omega) hroom36; obtain ⟨A36, hA36⟩ : ∃ A1, A1 = (if co27 = (1 : Int).toNat then (some ad238) else ((some ad238) : Option Addr).map (·.add ((1 : Int).toNat * 3))) := ⟨_, rfl⟩; obtain ⟨c36, hc36⟩ : ∃ c1, c1 = co27 - (1 : Int).toNat := ⟨_, rfl⟩; have hy36 : y243.length = x238003_1.length - (1 : Int).toNat := (by rw [Ny243.out, List.length_drop] <;> omega); rw [show (x238003_1).drop (1 : Int).toNat = y243 from Ny243.out.symm] at hr36; replace hr36 : Kd.C k68 _ A36 y243.length y243 := (by rw [hA36]; exact hr36); rw [← hy36, ← hA36, ← hc36] at hcut36; have HR246 := Aside0.mk hr36; have HC246 := Aside0.mk (show y243.length ≤ c36 from by rw [hy36, hc36]; exact Nat.sub_le_sub_right hroom36 _); clear hr36 hC36 hroom36 hi036 hsz36 hc36; have KY36 := Aside0.mk hy36; have KA36 := Aside0.mk hA36; clear hy36 hA36; have KL36 := Aside0.mk (show 1 ≤ x238003_1.length from by omega); replace q36 := eq_true q36) | ((with_reducible refine gate_builtin (b := .append) (xs := #[.tmp 21, .tmp 24]) rfl ?_); at_builtin; refine Kd.R_append_rows k68 (w0 := w) w.heap.size rfl (.tmp 21) (.tmp 24) 28 68 (.agg #[(.string ⟨#[]⟩), (.string ⟨#[]⟩), (.int .i64 0)]) 40 rfl Try.underlying28 info68 rfl (by decide) (by omega) v241 y240 y243 _ _ _ (fun k_ => nb k_ Ao16 t228.length co16 ∧ some k_ ≠ (.slice (some ad238) x238003_1.length co27 : Value).ownBlock ∧ k_ ≠ gb239) (fun _ => False) rfl rfl ?aO ?aR (fun _ _ h => h) (fun _ h => h.elim) ?aF ?aB ?aS ?aL ?_; (case aR => repeat (first | exact (by repeat (first | (with_reducible exact HR246.out) | (with_reducible refine Kd.C_alloc ?_ _) | (with_reducible refine Kd.C_drewN ?_ _) | (with_reducible refine Kd.C_drew ?_) | exact HR246.out)) | (with_reducible refine Kd.C_alloc ?_ _) | (with_reducible refine Kd.C_drewN ?_ _) | (with_reducible refine Kd.C_drew ?_))); (case aB => exact (be4 HB GE223 GE224 GE237 GE239)); (case aF => exact (fun k_ hk => ⟨Kd.fresh' (Kd.R_lt (ro HO_238002)) k_ hk, Kd.fresh' (Kd.R_lt (ro HO_238003)) k_ hk, Kd.freshB (g := gb239) (o := .cells #[.string ((rd_T68 x238003_1 0).f0), .string ((rd_T68 x238003_1 0).f1), .int .i64 ((rd_T68 x238003_1 0).f2)] 68 (0, 0)) (bk BK239) k_ hk⟩)); (case aO => exact (by (with_reducible repeat (first | apply Kd.R_alloc | apply Kd.R_drewN | apply Kd.R_drew)); exact rm HO242)); (case aS => exact (below_size (be4 HB GE223 GE224 GE237 GE239))); (case aL => have := LMc22.out; omega); intro v248 w37 ho hb hg hat; rw [← Ny247.out] at ho; replace HO_238002 := Aside0.mk (Kd.R_after (ok := (fun k_ => some k_ ≠ (.slice (some ad238) x238003_1.length co27 : Value).ownBlock ∧ k_ ≠ gb239)) (ro HO_238002) hg hat); replace HO_238004 := Aside0.mk (Kd.R_over' (ro HO_238004) (Kd.R_typed (ro HO242)) (by decide) hg); replace BK223 := Aside0.mk (blk_grown (g := gb223) (o := .cells #[.int .i64 a0_0, .int .i64 a0_1, .slice A0_2 l0_2.length c0_2, .slice A0_3 l0_3.length c0_3, .slice A0_4 l0_4.length c0_4] 30 (0, 0)) (bk BK223) hg (Kd.R_ne HO242.out BK223.out (by decide))); replace BK224 := Aside0.mk (blk_grown (g := gb224) (o := .cells #[.int .i64 x225000_1, .int .i64 x225001_1, .slice none 0 0, .slice none 0 0, .slice none 0 0] 30 (0, 0)) (bk BK224) hg (Kd.R_ne HO242.out BK224.out (by decide))); replace BK237 := Aside0.mk (blk_grown (g := gb237) (o := .cells #[.int .i64 t226, .int .i64 t227, .slice Ao16 t228.length co16, .slice (some ad238) x238003_1.length co27, .slice Ao18 t234.length co18] 30 (0, 0)) (bk BK237) hg (Kd.R_ne HO242.out BK237.out (by decide))); replace BK239 := Aside0.mk (blk_grown (g := gb239) (o := .cells #[.string ((rd_T68 x238003_1 0).f0), .string ((rd_T68 x238003_1 0).f1), .int .i64 ((rd_T68 x238003_1 0).f2)] 68 (0, 0)) (bk BK239) hg (Kd.R_away HO242.out (fun _ hk => hk.2))); replace HB := Aside0.mk (hb); replace HR246 := Aside0.mk ((show Kd.C k68 w37 A36 y243.length y243 from by rw [Ny243.out, KA36.out]; exact Kd.C_drop (m := 1) (c := co27) ((Kd.R_reads' (Kd.R_after (ok := (fun k_ => nb k_ Ao16 t228.length co16 ∧ k_ ≠ gb239)) (ro HO_238003) hg hat)).2.2) KL36.out ((Kd.R_reads' (Kd.R_after (ok := (fun k_ => nb k_ Ao16 t228.length co16 ∧ k_ ≠ gb239)) (ro HO_238003) hg hat)).2.1))); replace HO_238003 := Aside0.mk (Kd.R_after (ok := (fun k_ => nb k_ Ao16 t228.length co16 ∧ k_ ≠ gb239)) (ro HO_238003) hg hat); have HO249 := Aside0.mk (ho); clear HO242; clear ho hb hg hat; obtain ⟨Ao38, co38, eo38⟩ := Kd.R_slice HO249.out; subst eo38; have hcz39_0 := bz5 BK237; have hcz40_0 := bz3 BK239))
         have n0_ : Aside0 (Kd.R k68 68 (w37.setCell ⟨gb237, 3, none⟩ (.slice Ao38 y247.length co38)) w.heap.size (fun k_ => some k_ ≠ (.slice (some ad238) x238003_1.length co27 : Value).ownBlock ∧ nb k_ Ao38 y247.length co38 ∧ k_ ≠ gb239) (.slice Ao16 t228.length co16) t228) := ⟨(rfn HO_238002 BK237)⟩
         have n1_ : Aside0 (Kd.R k68 68 (w37.setCell ⟨gb237, 3, none⟩ (.slice Ao38 y247.length co38)) w.heap.size (fun k_ => nb k_ Ao16 t228.length co16 ∧ nb k_ Ao38 y247.length co38 ∧ k_ ≠ gb239) (.slice (some ad238) x238003_1.length co27) x238003_1) := ⟨(rfn HO_238003 BK237)⟩
         have n2_ : Aside0 (Kd.R (Kd.int .i64) 3 (w37.setCell ⟨gb237, 3, none⟩ (.slice Ao38 y247.length co38)) w.heap.size (fun _ => True) (.slice Ao18 t234.length co18) t234) := ⟨(rfn HO_238004 BK237)⟩
         have n3_ : Aside0 (Kd.R k68 68 (w37.setCell ⟨gb237, 3, none⟩ (.slice Ao38 y247.length co38)) w.heap.size (fun k_ => nb k_ Ao16 t228.length co16 ∧ some k_ ≠ (.slice (some ad238) x238003_1.length co27 : Value).ownBlock ∧ k_ ≠ gb239) (.slice Ao38 y247.length co38) y247) := ⟨(rf HO249 BK237)⟩
         have n4_ : Aside0 ((w37.setCell ⟨gb237, 3, none⟩ (.slice Ao38 y247.length co38)).heap[gb223]? = some (.cells #[.int .i64 a0_0, .int .i64 a0_1, .slice A0_2 l0_2.length c0_2, .slice A0_3 l0_3.length c0_3, .slice A0_4 l0_4.length c0_4] 30 (0, 0))) := ⟨(bp1 BK223 NB223_237)⟩
         have n5_ : Aside0 ((w37.setCell ⟨gb237, 3, none⟩ (.slice Ao38 y247.length co38)).heap[gb224]? = some (.cells #[.int .i64 x225000_1, .int .i64 x225001_1, .slice none 0 0, .slice none 0 0, .slice none 0 0] 30 (0, 0))) := ⟨(bp1 BK224 NB224_237)⟩
         have n6_ : Aside0 ((w37.setCell ⟨gb237, 3, none⟩ (.slice Ao38 y247.length co38)).heap[gb237]? = some (.cells #[.int .i64 t226, .int .i64 t227, .slice Ao16 t228.length co16, .slice Ao38 y247.length co38, .slice Ao18 t234.length co18] 30 (0, 0))) := ⟨(bp BK237)⟩
         have n7_ : Aside0 ((w37.setCell ⟨gb237, 3, none⟩ (.slice Ao38 y247.length co38)).heap[gb239]? = some (.cells #[.string ((rd_T68 x238003_1 0).f0), .string ((rd_T68 x238003_1 0).f1), .int .i64 ((rd_T68 x238003_1 0).f2)] 68 (0, 0))) := ⟨(bp1 BK239 NB239_237)⟩
         have n8_ : Aside0 (Below w.heap.size w (w37.setCell ⟨gb237, 3, none⟩ (.slice Ao38 y247.length co38))) := ⟨be4 HB GE223 GE224 GE237 GE239⟩
         (try clear HO_238002)
         (try clear HO_238003)
         (try clear HO_238004)
         (try clear HO249)
         (try clear BK223)
         (try clear BK224)
         (try clear BK237)
         (try clear BK239)
         (try clear HB)
         generalize (w37.setCell ⟨gb237, 3, none⟩ (.slice Ao38 y247.length co38)) = w41 at n0_ n1_ n2_ n3_ n4_ n5_ n6_ n7_ n8_ ⊢
         have HO_238002 := n0_
         have HO_238003 := n1_
         have HO_238004 := n2_
         have HO249 := n3_
         have BK223 := n4_
         have BK224 := n5_
         have BK237 := n6_
         have BK239 := n7_
         have HB := n8_
         clear n0_ n1_ n2_ n3_ n4_ n5_ n6_ n7_ n8_
         have n0_ := Aside0.mk (Kd.R_drew HO_238002.out)
         have n1_ := Aside0.mk (Kd.R_drew HO_238003.out)
         have n2_ := Aside0.mk (Kd.R_drew HO_238004.out)
         have n3_ := Aside0.mk (Kd.R_drew HO249.out)
         have n4_ := Aside0.mk (blk_drew BK223.out)
         have n5_ := Aside0.mk (blk_drew BK224.out)
         have n6_ := Aside0.mk (blk_drew BK237.out)
         have n7_ := Aside0.mk (blk_drew BK239.out)
         have n8_ := Aside0.mk (below_drew1 HB.out)
         clear HO_238002
         clear HO_238003
         clear HO_238004
         clear HO249
         clear BK223
         clear BK224
         clear BK237
         clear BK239
         clear HB
         have HO_238002 := n0_
         have HO_238003 := n1_
         have HO_238004 := n2_
         have HO249 := n3_
         have BK223 := n4_
         have BK224 := n5_
         have BK237 := n6_
         have BK239 := n7_
         have HB := n8_
         clear n0_ n1_ n2_ n3_ n4_ n5_ n6_ n7_ n8_
         refine start_ (n := 6) (S := fun w' => w'.cell? ⟨gb237, 0, none⟩ = some (.int .i64 t226) ∧ w'.cell? ⟨gb237, 1, none⟩ = some (.int .i64 t227) ∧ w'.cell? ⟨gb237, 2, none⟩ = some (.slice Ao16 t228.length co16) ∧ w'.cell? ⟨gb237, 3, none⟩ = some (.slice Ao38 y247.length co38) ∧ w'.cell? ⟨gb237, 4, none⟩ = some (.slice Ao18 t234.length co18) ∧ w'.cell? ⟨gb239, 0, none⟩ = some (.string ((rd_T68 x238003_1 0).f0)) ∧ w'.cell? ⟨gb239, 1, none⟩ = some (.string ((rd_T68 x238003_1 0).f1)) ∧ w'.cell? ⟨gb239, 2, none⟩ = some (.int .i64 ((rd_T68 x238003_1 0).f2))) (ds := []) (bv 6 0x0) (by kernel_rfl) rfl rfl ⟨bc0 BK237, bc1 BK237, bc2 BK237, bc3 BK237, bc4 BK237, bc0 BK239, bc1 BK239, bc2 BK239⟩ (fun hHeld => ?_)
         generalize w41.drew = w42 at HO_238002 HO_238003 HO_238004 HO249 BK223 BK224 BK237 BK239 HB hHeld ⊢
         refine pure_ (i := 1) (N := some 31) (v := ?_) (a' := ?_) (bv 6 0x2) rfl rfl (by kernel_rfl) (fun _ _ _ h => h) (Or.inl ⟨by rfl, ?_⟩) ?_ ?_
         rotate_left
         ·intro w'
          go_simp
          with_reducible rfl
         rotate_left
         ·simp only [aP]
          rfl
         refine take_ (i := 0) (N := some 30) (v := ?_) (a' := ?_) (bv 6 0x3) rfl rfl (by kernel_rfl) (fun _ _ _ h => h) (Or.inl ⟨by rfl, ?_⟩) hHeld ?_ ?_
         rotate_left
         ·rintro w' ⟨s0, s1, s2, s3, s4, s5, s6, s7⟩
          go_simp
          with_reducible rfl
         rotate_left
         ·simp only [aP]
          rfl
         refine take_ (i := 2) (N := some 32) (v := ?_) (a' := ?_) (bv 6 0x7) rfl rfl (by kernel_rfl) (fun _ _ _ h => h) (Or.inl ⟨by rfl, ?_⟩) hHeld ?_ ?_
         rotate_left
         ·rintro w' ⟨s0, s1, s2, s3, s4, s5, s6, s7⟩
          go_simp
          with_reducible rfl
         rotate_left
         ·simp only [aP]
          rfl
         refine one_ (i := 3) (N := none) (bv 6 0xf) rfl rfl (by kernel_rfl) (by decide) (fun K hK => ?_)
         have hs43 : w42.cell? ⟨gb224, 0, none⟩ = some (.int .i64 x225000_1) := bc0 BK224
         have hfs43 := blk_frozen BK224.out 0
         have hns43_0 := NB223_224.out
         have hns43_2 := NB237_224.out
         have hns43_3 := NB239_224.out
         have hms43_0 := NB224_223.out
         have hms43_2 := NB224_237.out
         have hms43_3 := NB224_239.out
         have hs44 : w42.cell? ⟨gb224, 1, none⟩ = some (.int .i64 x225001_1) := bc1 BK224
         have hfs44 := blk_frozen BK224.out 1
         have hns44_0 := NB223_224.out
         have hns44_2 := NB237_224.out
         have hns44_3 := NB239_224.out
         have hms44_0 := NB224_223.out
         have hms44_2 := NB224_237.out
         have hms44_3 := NB224_239.out
         have hs45 : w42.cell? ⟨gb224, 2, none⟩ = some (.slice none 0 0) := bc2 BK224
         have hfs45 := blk_frozen BK224.out 2
         have hns45_0 := NB223_224.out
         have hns45_2 := NB237_224.out
         have hns45_3 := NB239_224.out
         have hms45_0 := NB224_223.out
         have hms45_2 := NB224_237.out
         have hms45_3 := NB224_239.out
         have hs46 : w42.cell? ⟨gb224, 3, none⟩ = some (.slice none 0 0) := bc3 BK224
         have hfs46 := blk_frozen BK224.out 3
         have hns46_0 := NB223_224.out
         have hns46_2 := NB237_224.out
         have hns46_3 := NB239_224.out
         have hms46_0 := NB224_223.out
         have hms46_2 := NB224_237.out
         have hms46_3 := NB224_239.out
         have hs47 : w42.cell? ⟨gb224, 4, none⟩ = some (.slice none 0 0) := bc4 BK224
         have hfs47 := blk_frozen BK224.out 4
         have hns47_0 := NB223_224.out
         have hns47_2 := NB237_224.out
         have hns47_3 := NB239_224.out
         have hms47_0 := NB224_223.out
         have hms47_2 := NB224_237.out
         have hms47_3 := NB224_239.out
         refine skip_ (w1 := ?_) (by rfl) rfl ?_ ?_
         rotate_left
         ·go_simp
          rfl
         refine hK.out _ _ ⟨((cell_far (p := ⟨gb224, _, none⟩) NB237_224.out _).trans (((cell_far (p := ⟨gb224, _, none⟩) NB237_224.out _).trans (((cell_far (p := ⟨gb224, _, none⟩) NB237_224.out _).trans (((cell_far (p := ⟨gb224, _, none⟩) NB237_224.out _).trans (((cell_far (p := ⟨gb224, _, none⟩) NB237_224.out _).trans (hHeld.1)))))))))), ((cell_far (p := ⟨gb224, _, none⟩) NB237_224.out _).trans (((cell_far (p := ⟨gb224, _, none⟩) NB237_224.out _).trans (((cell_far (p := ⟨gb224, _, none⟩) NB237_224.out _).trans (((cell_far (p := ⟨gb224, _, none⟩) NB237_224.out _).trans (((cell_far (p := ⟨gb224, _, none⟩) NB237_224.out _).trans (hHeld.2.1)))))))))), ((cell_far (p := ⟨gb224, _, none⟩) NB237_224.out _).trans (((cell_far (p := ⟨gb224, _, none⟩) NB237_224.out _).trans (((cell_far (p := ⟨gb224, _, none⟩) NB237_224.out _).trans (((cell_far (p := ⟨gb224, _, none⟩) NB237_224.out _).trans (((cell_far (p := ⟨gb224, _, none⟩) NB237_224.out _).trans (hHeld.2.2.1)))))))))), ((cell_far (p := ⟨gb224, _, none⟩) NB237_224.out _).trans (((cell_far (p := ⟨gb224, _, none⟩) NB237_224.out _).trans (((cell_far (p := ⟨gb224, _, none⟩) NB237_224.out _).trans (((cell_far (p := ⟨gb224, _, none⟩) NB237_224.out _).trans (((cell_far (p := ⟨gb224, _, none⟩) NB237_224.out _).trans (hHeld.2.2.2.1)))))))))), ((cell_far (p := ⟨gb224, _, none⟩) NB237_224.out _).trans (((cell_far (p := ⟨gb224, _, none⟩) NB237_224.out _).trans (((cell_far (p := ⟨gb224, _, none⟩) NB237_224.out _).trans (((cell_far (p := ⟨gb224, _, none⟩) NB237_224.out _).trans (((cell_far (p := ⟨gb224, _, none⟩) NB237_224.out _).trans (hHeld.2.2.2.2.1)))))))))), ((cell_far (p := ⟨gb224, _, none⟩) NB239_224.out _).trans (((cell_far (p := ⟨gb224, _, none⟩) NB239_224.out _).trans (((cell_far (p := ⟨gb224, _, none⟩) NB239_224.out _).trans (((cell_far (p := ⟨gb224, _, none⟩) NB239_224.out _).trans (((cell_far (p := ⟨gb224, _, none⟩) NB239_224.out _).trans (hHeld.2.2.2.2.2.1)))))))))), ((cell_far (p := ⟨gb224, _, none⟩) NB239_224.out _).trans (((cell_far (p := ⟨gb224, _, none⟩) NB239_224.out _).trans (((cell_far (p := ⟨gb224, _, none⟩) NB239_224.out _).trans (((cell_far (p := ⟨gb224, _, none⟩) NB239_224.out _).trans (((cell_far (p := ⟨gb224, _, none⟩) NB239_224.out _).trans (hHeld.2.2.2.2.2.2.1)))))))))), ((cell_far (p := ⟨gb224, _, none⟩) NB239_224.out _).trans (((cell_far (p := ⟨gb224, _, none⟩) NB239_224.out _).trans (((cell_far (p := ⟨gb224, _, none⟩) NB239_224.out _).trans (((cell_far (p := ⟨gb224, _, none⟩) NB239_224.out _).trans (((cell_far (p := ⟨gb224, _, none⟩) NB239_224.out _).trans (hHeld.2.2.2.2.2.2.2))))))))))⟩ (fun hHeld => ?_)
         clear hK K
         refine pure_ (i := 4) (N := some 3) (v := ?_) (a' := ?_) (bv 6 0x1f) rfl rfl (by kernel_rfl) (fun _ _ _ h => h) (Or.inl ⟨by rfl, ?_⟩) ?_ ?_
         rotate_left
         ·intro w'
          go_simp
          with_reducible rfl
         rotate_left
         ·simp only [aP]
          rfl
         refine pure_ (i := 5) (N := some 4) (v := ?_) (a' := ?_) (bv 6 0x3f) rfl rfl (by kernel_rfl) (fun _ _ _ h => h) (Or.inl ⟨by rfl, ?_⟩) ?_ ?_
         rotate_left
         ·intro w'
          go_simp
          with_reducible rfl
         rotate_left
         ·simp only [aP]
          rfl
         refine done_ (by kernel_rfl) ?_
         try go_wp2
         refine bodyPost_ret (results_ctt rfl _ _ gb224 30 #[.int .i64 t226, .int .i64 t227, .slice Ao16 t228.length co16, .slice Ao38 y247.length co38, .slice Ao18 t234.length co18] (0, 0) _ rfl (bp BK224) Try.underlying30 rfl (by kernel_rfl)) rfl ?_
         exact ⟨_, _, _, er, by (with_reducible repeat (first | apply Kd.R_alloc | apply Kd.R_drewN | apply Kd.R_drew)); exact Kd.R_mono (Kd.R_far (p := ⟨gb224, 4, none⟩) (Kd.R_far (p := ⟨gb224, 3, none⟩) (Kd.R_far (p := ⟨gb224, 2, none⟩) (Kd.R_far (p := ⟨gb224, 1, none⟩) (Kd.R_far (p := ⟨gb224, 0, none⟩) (Kd.R_types HO_238002.out BK224.out (by decide)) (fun _ hk => hk.2) (.int .i64 t226)) (fun _ hk => hk.2) (.int .i64 t227)) (fun _ hk => hk.2) (.slice Ao16 t228.length co16)) (fun _ hk => hk.2) (.slice Ao38 y247.length co38)) (fun _ hk => hk.2) (.slice Ao18 t234.length co18)) (fun _ hk => hk.1.2.1), by (with_reducible repeat (first | apply Kd.R_alloc | apply Kd.R_drewN | apply Kd.R_drew)); exact Kd.R_mono (Kd.R_far (p := ⟨gb224, 4, none⟩) (Kd.R_far (p := ⟨gb224, 3, none⟩) (Kd.R_far (p := ⟨gb224, 2, none⟩) (Kd.R_far (p := ⟨gb224, 1, none⟩) (Kd.R_far (p := ⟨gb224, 0, none⟩) (Kd.R_types HO249.out BK224.out (by decide)) (fun _ hk => hk.2) (.int .i64 t226)) (fun _ hk => hk.2) (.int .i64 t227)) (fun _ hk => hk.2) (.slice Ao16 t228.length co16)) (fun _ hk => hk.2) (.slice Ao38 y247.length co38)) (fun _ hk => hk.2) (.slice Ao18 t234.length co18)) (fun _ hk => hk.1.1), by (with_reducible repeat (first | apply Kd.R_alloc | apply Kd.R_drewN | apply Kd.R_drew)); exact Kd.R_mono (Kd.R_far (p := ⟨gb224, 4, none⟩) (Kd.R_far (p := ⟨gb224, 3, none⟩) (Kd.R_far (p := ⟨gb224, 2, none⟩) (Kd.R_far (p := ⟨gb224, 1, none⟩) (Kd.R_far (p := ⟨gb224, 0, none⟩) (Kd.R_types HO_238004.out BK224.out (by decide)) (fun _ hk => hk.2) (.int .i64 t226)) (fun _ hk => hk.2) (.int .i64 t227)) (fun _ hk => hk.2) (.slice Ao16 t228.length co16)) (fun _ hk => hk.2) (.slice Ao38 y247.length co38)) (fun _ hk => hk.2) (.slice Ao18 t234.length co18)) (fun _ hk => trivial), be4 HB GE223 GE224 GE237 GE239⟩
        rw [if_neg c23] at H
        have c23b0 : (((rd_T68 x238003_1 0).f2) == 0) = false := beq_eq_false_iff_ne.mpr c23
        have c23b1 : (((rd_T68 x238003_1 0).f2) != 0) = true := bne_iff_ne.mpr c23
        by_cases c48 : y247.length < 3518437208883
        ·rw [if_pos c48] at H
         have LMc48 := Aside0.mk c48
         clear c48
         obtain ⟨y250, hy250⟩ : ∃ y_ : List (S68), y_ = (y247 ++ [(⟨(rd_T68 x238003_1 0).f0, (rd_T68 x238003_1 0).f1, wrap64 (((rd_T68 x238003_1 0).f2) - 1)⟩ : S68)]) := ⟨_, rfl⟩
         replace H : (spec_EvictMain.l0 k1 t226 t227 t228 y250 t234) = some (r1, r2, r3, r4, r5, r6, r7) := by first | (rw [hy250]; with_reducible exact H) | (have H2_ := (Option.bind_some _ _).symm.trans H; rw [hy250]; with_reducible exact H2_) | (have H2_ := (Option.bind_some _ _).symm.trans H; with_reducible exact H2_) | with_reducible exact H | (rw [hy250]; exact H) | exact H
         have Ny250 := Aside0.mk hy250
         clear hy250
         have H' := Aside0.mk H
         clear H
         have hnb49 := NB237_223.out
         have hnc49 := NB223_237.out
         have hnb50 := NB237_224.out
         have hnc50 := NB224_237.out
         have hcz51_0 := bz5 BK237
         obtain ⟨Ao52, co52, eo52⟩ := Kd.R_slice HO_238003.out
         subst eo52
         have p238 : 0 ≤ (0 : Int) := (by omega)
         have q238 : 0 < (x238003_1.length : Int) := od
         obtain ⟨ad238, e238, hx238_0, hx238_1, hx238_2⟩ := at_T68 (Kd.R_reads' HO_238003.out).2.2 0 p238 q238
         cases e238
         have qi238 : (0 < x238003_1.length) = True := eq_true (by omega)
         (try rw [show ((0 : Int)).toNat = 0 from rfl] at hx238_0)
         (try rw [show 0 * 3 = 0 from rfl] at hx238_0)
         (try rw [Addr.add_zero'] at hx238_0)
         (try rw [show ((0 : Int)).toNat = 0 from rfl] at hx238_1)
         (try rw [show 0 * 3 = 0 from rfl] at hx238_1)
         (try rw [Addr.add_zero'] at hx238_1)
         (try rw [show ((0 : Int)).toNat = 0 from rfl] at hx238_2)
         (try rw [show 0 * 3 = 0 from rfl] at hx238_2)
         (try rw [Addr.add_zero'] at hx238_2)
         replace p238 := eq_true p238
         replace q238 := eq_true q238
         go_wp2_with (first | ((with_reducible refine gate_dst (N := 6) rfl ?_); refine bx 6 #[.string (⟨#[]⟩ : ByteArray), .string (⟨#[]⟩ : ByteArray), .int .i64 0] 68 ?_; intro gb239 hg w53 hbox hb; replace HO_238002 := Aside0.mk (Kd.R_below (Kd.R_elderB (ro HO_238002) gb239 (Nat.le_of_eq hg.symm)) hb); replace HO_238003 := Aside0.mk (Kd.R_below (Kd.R_elderB (ro HO_238003) gb239 (Nat.le_of_eq hg.symm)) hb); replace HO_238004 := rb HO_238004 hb; have BK239 := am hbox; have GW239 := Aside0.mk ((by rw [hg]; exact (below_size (be3 HB GE223 GE224 GE237)) : w.heap.size ≤ gb239)); have GE239 := Aside0.mk ((by rw [hg]; exact (below_size (be3 HB GE223 GE224 GE237)) : w.heap.size ≤ gb239)); replace HB := Aside0.mk (below_step (be3 HB GE223 GE224 GE237) hb); have NB223_239 := nl hg BK223; have NB239_223 := ng hg BK223; replace BK223 := bb BK223 hb; have NB224_239 := nl hg BK224; have NB239_224 := ng hg BK224; replace BK224 := bb BK224 hb; have NB237_239 := nl hg BK237; have NB239_237 := ng hg BK237; replace BK237 := bb BK237 hb; clear hb hbox hg; have hnb54 := NB239_223.out; have hnc54 := NB223_239.out; have hnb55 := NB239_224.out; have hnc55 := NB224_239.out; have hnb56 := NB239_237.out; have hnc56 := NB237_239.out; have hcz57_0 := bz3 BK239) | ((with_reducible refine gate_dst (N := 21) rfl ?_); refine Kd.R_lit k68 _ 68 ?hg (N := 21) ?hd (xs := ([] : List (S68))) (inner := []) (ok := fun _ => True) (okp := fun _ => True) ?hr ?hp (fun _ hk => hk) trivial (Below.refl _ _) (Nat.le_refl _) (by simp) ?_; (case hd => rfl); (case hg => rfl); (case hr => first | (go_simp; done) | (go_simp; rfl)); (case hp => exact (Reps.none _ _)); intro v241 w58 ho59 hb hg_ hnew_; clear hg_ hnew_; (first | rw [← Ny240.out] at ho59 | (simp only [Int.reduceToNat] at ho59; rw [← Ny240.out] at ho59)); replace HO_238004 := Aside0.mk (Kd.R_below (rf HO_238004 BK239) hb); have HO242 := Aside0.mk (Kd.R_lower (Kd.R_newB (Kd.R_new' (Kd.R_new' ho59 (Kd.R_lt (rgs gb239 HO_238002))) (Kd.R_lt (rgs gb239 HO_238003))) (g := gb239) (o := .cells #[.string ((rd_T68 x238003_1 0).f0), .string ((rd_T68 x238003_1 0).f1), .int .i64 ((rd_T68 x238003_1 0).f2)] 68 (0, 0)) (bp BK239)) (below_size (be4 HB GE223 GE224 GE237 GE239))); replace HO_238002 := Aside0.mk (Kd.R_elder' (rgs gb239 HO_238002) (Kd.R_base ho59) hb); replace HO_238003 := Aside0.mk (Kd.R_elder' (rgs gb239 HO_238003) (Kd.R_base ho59) hb); replace BK223 := Aside0.mk (blk_below (g := gb223) (o := .cells #[.int .i64 a0_0, .int .i64 a0_1, .slice A0_2 l0_2.length c0_2, .slice A0_3 l0_3.length c0_3, .slice A0_4 l0_4.length c0_4] 30 (0, 0)) (bf1 BK223 NB223_239) hb); replace BK224 := Aside0.mk (blk_below (g := gb224) (o := .cells #[.int .i64 x225000_1, .int .i64 x225001_1, .slice none 0 0, .slice none 0 0, .slice none 0 0] 30 (0, 0)) (bf1 BK224 NB224_239) hb); replace BK237 := Aside0.mk (blk_below (g := gb237) (o := .cells #[.int .i64 t226, .int .i64 t227, .slice Ao16 t228.length co16, .slice (some ad238) x238003_1.length co52, .slice Ao18 t234.length co18] 30 (0, 0)) (bf1 BK237 NB237_239) hb); replace BK239 := Aside0.mk (blk_below (g := gb239) (o := .cells #[.string ((rd_T68 x238003_1 0).f0), .string ((rd_T68 x238003_1 0).f1), .int .i64 ((rd_T68 x238003_1 0).f2)] 68 (0, 0)) (bp BK239) hb); replace HB := Aside0.mk (below_step (be4 HB GE223 GE224 GE237 GE239) hb); clear hb ho59; have hcz60_0 := bz5 BK237; have q61 : (1 : Int) ≤ ((x238003_1.length : Int) : Int) := od; obtain ⟨i061, hi061, _, hsz61, _⟩ := info_parts info68; have hroom61 : x238003_1.length ≤ co52 := (Kd.R_reads' HO_238003.out).2.1; have hC61 : Kd.C k68 _ (some ad238) x238003_1.length x238003_1 := (Kd.R_reads' HO_238003.out).2.2; have hcut61 := cut_from (P := Try.prog) 28 68 .i64 Try.underlying28 hi061 3 hsz61 (some ad238) x238003_1.length co52 1 (by omega) q61; have hr61 := Kd.C_drop (m := (1 : Int).toNat) (c := co52) hC61 (by omega) hroom61; obtain ⟨A61, hA61⟩ : ∃ A1, A1 = (if co52 = (1 : Int).toNat then (some ad238) else ((some ad238) : Option Addr).map (·.add ((1 : Int).toNat * 3))) := ⟨_, rfl⟩; obtain ⟨c61, hc61⟩ : ∃ c1, c1 = co52 - (1 : Int).toNat := ⟨_, rfl⟩; have hy61 : y243.length = x238003_1.length - (1 : Int).toNat := (by rw [Ny243.out, List.length_drop] <;> omega); rw [show (x238003_1).drop (1 : Int).toNat = y243 from Ny243.out.symm] at hr61; replace hr61 : Kd.C k68 _ A61 y243.length y243 := (by rw [hA61]; exact hr61); rw [← hy61, ← hA61, ← hc61] at hcut61; have HR246 := Aside0.mk hr61; have HC246 := Aside0.mk (show y243.length ≤ c61 from by rw [hy61, hc61]; exact Nat.sub_le_sub_right hroom61 _); clear hr61 hC61 hroom61 hi061 hsz61 hc61; have KY61 := Aside0.mk hy61; have KA61 := Aside0.mk hA61; clear hy61 hA61; have KL61 := Aside0.mk (show 1 ≤ x238003_1.length from by omega); replace q61 := eq_true q61) | ((with_reducible refine gate_builtin (b := .append) (xs := #[.tmp 21, .tmp 24]) rfl ?_); at_builtin; refine Kd.R_append_rows k68 (w0 := w) w.heap.size rfl (.tmp 21) (.tmp 24) 28 68 (.agg #[(.string ⟨#[]⟩), (.string ⟨#[]⟩), (.int .i64 0)]) 40 rfl Try.underlying28 info68 rfl (by decide) (by omega) v241 y240 y243 _ _ _ (fun k_ => nb k_ Ao16 t228.length co16 ∧ some k_ ≠ (.slice (some ad238) x238003_1.length co52 : Value).ownBlock ∧ k_ ≠ gb239) (fun _ => False) rfl rfl ?aO ?aR (fun _ _ h => h) (fun _ h => h.elim) ?aF ?aB ?aS ?aL ?_; (case aR => repeat (first | exact (by repeat (first | (with_reducible exact HR246.out) | (with_reducible refine Kd.C_alloc ?_ _) | (with_reducible refine Kd.C_drewN ?_ _) | (with_reducible refine Kd.C_drew ?_) | exact HR246.out)) | (with_reducible refine Kd.C_alloc ?_ _) | (with_reducible refine Kd.C_drewN ?_ _) | (with_reducible refine Kd.C_drew ?_))); (case aB => exact (be4 HB GE223 GE224 GE237 GE239)); (case aF => exact (fun k_ hk => ⟨Kd.fresh' (Kd.R_lt (ro HO_238002)) k_ hk, Kd.fresh' (Kd.R_lt (ro HO_238003)) k_ hk, Kd.freshB (g := gb239) (o := .cells #[.string ((rd_T68 x238003_1 0).f0), .string ((rd_T68 x238003_1 0).f1), .int .i64 ((rd_T68 x238003_1 0).f2)] 68 (0, 0)) (bk BK239) k_ hk⟩)); (case aO => exact (by (with_reducible repeat (first | apply Kd.R_alloc | apply Kd.R_drewN | apply Kd.R_drew)); exact rm HO242)); (case aS => exact (below_size (be4 HB GE223 GE224 GE237 GE239))); (case aL => have := LMc22.out; omega); intro v248 w62 ho hb hg hat; rw [← Ny247.out] at ho; replace HO_238002 := Aside0.mk (Kd.R_after (ok := (fun k_ => some k_ ≠ (.slice (some ad238) x238003_1.length co52 : Value).ownBlock ∧ k_ ≠ gb239)) (ro HO_238002) hg hat); replace HO_238004 := Aside0.mk (Kd.R_over' (ro HO_238004) (Kd.R_typed (ro HO242)) (by decide) hg); replace BK223 := Aside0.mk (blk_grown (g := gb223) (o := .cells #[.int .i64 a0_0, .int .i64 a0_1, .slice A0_2 l0_2.length c0_2, .slice A0_3 l0_3.length c0_3, .slice A0_4 l0_4.length c0_4] 30 (0, 0)) (bk BK223) hg (Kd.R_ne HO242.out BK223.out (by decide))); replace BK224 := Aside0.mk (blk_grown (g := gb224) (o := .cells #[.int .i64 x225000_1, .int .i64 x225001_1, .slice none 0 0, .slice none 0 0, .slice none 0 0] 30 (0, 0)) (bk BK224) hg (Kd.R_ne HO242.out BK224.out (by decide))); replace BK237 := Aside0.mk (blk_grown (g := gb237) (o := .cells #[.int .i64 t226, .int .i64 t227, .slice Ao16 t228.length co16, .slice (some ad238) x238003_1.length co52, .slice Ao18 t234.length co18] 30 (0, 0)) (bk BK237) hg (Kd.R_ne HO242.out BK237.out (by decide))); replace BK239 := Aside0.mk (blk_grown (g := gb239) (o := .cells #[.string ((rd_T68 x238003_1 0).f0), .string ((rd_T68 x238003_1 0).f1), .int .i64 ((rd_T68 x238003_1 0).f2)] 68 (0, 0)) (bk BK239) hg (Kd.R_away HO242.out (fun _ hk => hk.2))); replace HB := Aside0.mk (hb); replace HR246 := Aside0.mk ((show Kd.C k68 w62 A61 y243.length y243 from by rw [Ny243.out, KA61.out]; exact Kd.C_drop (m := 1) (c := co52) ((Kd.R_reads' (Kd.R_after (ok := (fun k_ => nb k_ Ao16 t228.length co16 ∧ k_ ≠ gb239)) (ro HO_238003) hg hat)).2.2) KL61.out ((Kd.R_reads' (Kd.R_after (ok := (fun k_ => nb k_ Ao16 t228.length co16 ∧ k_ ≠ gb239)) (ro HO_238003) hg hat)).2.1))); replace HO_238003 := Aside0.mk (Kd.R_after (ok := (fun k_ => nb k_ Ao16 t228.length co16 ∧ k_ ≠ gb239)) (ro HO_238003) hg hat); have HO249 := Aside0.mk (ho); clear HO242; clear ho hb hg hat; obtain ⟨Ao63, co63, eo63⟩ := Kd.R_slice HO249.out; subst eo63; have hcz64_0 := bz5 BK237; have hcz65_0 := bz3 BK239) | ((with_reducible refine gate_builtin (b := .append) (xs := #[.tmp 38, .tmp 40]) rfl ?_); at_builtin; refine Kd.R_append k68 (w0 := w) w.heap.size rfl (.tmp 38) (.tmp 40) 28 68 (.agg #[(.string ⟨#[]⟩), (.string ⟨#[]⟩), (.int .i64 0)]) 40 rfl Try.underlying28 info68 rfl (by decide) (by omega) (.slice Ao63 y247.length co63) y247 (⟨(rd_T68 x238003_1 0).f0, (rd_T68 x238003_1 0).f1, wrap64 (((rd_T68 x238003_1 0).f2) - 1)⟩ : S68) [.string ((rd_T68 x238003_1 0).f0), .string ((rd_T68 x238003_1 0).f1), .int .i64 (wrap64 (((rd_T68 x238003_1 0).f2) - 1))] (fun k_ => nb k_ Ao16 t228.length co16 ∧ some k_ ≠ (.slice (some ad238) x238003_1.length co52 : Value).ownBlock ∧ k_ ≠ gb239) (fun _ => False) rfl (by first | (go_simp; done) | (go_simp; rfl)) ?aP (fun _ hk => hk.elim) ?aF ?aO ?aB ?aS ?aL ?_; (case aP => exact k68_mkM _ _ _ (⟨(rd_T68 x238003_1 0).f0, (rd_T68 x238003_1 0).f1, wrap64 (((rd_T68 x238003_1 0).f2) - 1)⟩ : S68)); (case aB => exact (be4 HB GE223 GE224 GE237 GE239)); (case aF => exact (fun k_ hk => ⟨Kd.fresh' (Kd.R_lt (by (with_reducible repeat (first | apply Kd.R_alloc | apply Kd.R_drewN | apply Kd.R_drew)); exact (Kd.R_mono (Kd.R_mono (Kd.R_far (p := ⟨gb239, 2, none⟩) (Kd.R_far (p := ⟨gb237, 3, none⟩) (Kd.R_mono (Kd.R_types HO_238002.out BK237.out (by decide)) (fun k_ hk => (⟨hk, hk.1.1.2⟩ : _ ∧ k_ ≠ gb239))) (fun _ hk => hk.1.2) (.slice Ao63 y247.length co63)) (fun _ hk => hk.2) (.int .i64 (wrap64 (((rd_T68 x238003_1 0).f2) - 1)))) (fun _ h_ => h_.1)) (fun _ h_ => h_.1)))) k_ hk, Kd.fresh' (Kd.R_lt (by (with_reducible repeat (first | apply Kd.R_alloc | apply Kd.R_drewN | apply Kd.R_drew)); exact (Kd.R_mono (Kd.R_mono (Kd.R_far (p := ⟨gb239, 2, none⟩) (Kd.R_far (p := ⟨gb237, 3, none⟩) (Kd.R_mono (Kd.R_types HO_238003.out BK237.out (by decide)) (fun k_ hk => (⟨hk, hk.1.1.2⟩ : _ ∧ k_ ≠ gb239))) (fun _ hk => hk.1.2) (.slice Ao63 y247.length co63)) (fun _ hk => hk.2) (.int .i64 (wrap64 (((rd_T68 x238003_1 0).f2) - 1)))) (fun _ h_ => h_.1)) (fun _ h_ => h_.1)))) k_ hk, Kd.freshB (g := gb239) (o := .cells #[.string ((rd_T68 x238003_1 0).f0), .string ((rd_T68 x238003_1 0).f1), .int .i64 (wrap64 (((rd_T68 x238003_1 0).f2) - 1))] 68 (0, 0)) (bp1 BK239 NB239_237) k_ hk⟩)); (case aO => exact (by (with_reducible repeat (first | apply Kd.R_alloc | apply Kd.R_drewN | apply Kd.R_drew)); exact Kd.R_mono (Kd.R_far (p := ⟨gb239, 2, none⟩) (Kd.R_far (p := ⟨gb237, 3, none⟩) (Kd.R_mono (Kd.R_types HO249.out BK237.out (by decide)) (fun k_ hk => (⟨hk, hk.1.2.2⟩ : _ ∧ k_ ≠ gb239))) (fun _ hk => hk.1.2) (.slice Ao63 y247.length co63)) (fun _ hk => hk.2) (.int .i64 (wrap64 (((rd_T68 x238003_1 0).f2) - 1)))) (fun _ hk => ⟨hk.1.1.1, ⟨hk.1.1.2.1, hk.1.1.2.2⟩⟩))); (case aS => exact (below_size (be4 HB GE223 GE224 GE237 GE239))); (case aL => have := LMc48.out; omega); intro v251 w66 ho hb hg hat; rw [← Ny250.out] at ho; replace HO_238002 := Aside0.mk (Kd.R_after (ok := (fun k_ => some k_ ≠ (.slice (some ad238) x238003_1.length co52 : Value).ownBlock ∧ k_ ≠ gb239)) (by (with_reducible repeat (first | apply Kd.R_alloc | apply Kd.R_drewN | apply Kd.R_drew)); exact Kd.R_mono (Kd.R_far (p := ⟨gb239, 2, none⟩) (Kd.R_far (p := ⟨gb237, 3, none⟩) (Kd.R_mono (Kd.R_types HO_238002.out BK237.out (by decide)) (fun k_ hk => (⟨hk, hk.1.1.2⟩ : _ ∧ k_ ≠ gb239))) (fun _ hk => hk.1.2) (.slice Ao63 y247.length co63)) (fun _ hk => hk.2) (.int .i64 (wrap64 (((rd_T68 x238003_1 0).f2) - 1)))) (fun _ hk => ⟨⟨hk.1.1.1.1, hk.1.1.1.2⟩, hk.1.1.2⟩)) hg hat); replace HO_238004 := Aside0.mk (Kd.R_over' (by (with_reducible repeat (first | apply Kd.R_alloc | apply Kd.R_drewN | apply Kd.R_drew)); exact (Kd.R_mono (Kd.R_mono (Kd.R_far (p := ⟨gb239, 2, none⟩) (Kd.R_far (p := ⟨gb237, 3, none⟩) (Kd.R_types (Kd.R_types HO_238004.out BK237.out (by decide)) BK239.out (by decide)) (fun _ hk => hk.1.2) (.slice Ao63 y247.length co63)) (fun _ hk => hk.2) (.int .i64 (wrap64 (((rd_T68 x238003_1 0).f2) - 1)))) (fun _ h_ => h_.1)) (fun _ h_ => h_.1))) (Kd.R_typed (by (with_reducible repeat (first | apply Kd.R_alloc | apply Kd.R_drewN | apply Kd.R_drew)); exact (Kd.R_mono (Kd.R_mono (Kd.R_far (p := ⟨gb239, 2, none⟩) (Kd.R_far (p := ⟨gb237, 3, none⟩) (Kd.R_mono (Kd.R_types HO249.out BK237.out (by decide)) (fun k_ hk => (⟨hk, hk.1.2.2⟩ : _ ∧ k_ ≠ gb239))) (fun _ hk => hk.1.2) (.slice Ao63 y247.length co63)) (fun _ hk => hk.2) (.int .i64 (wrap64 (((rd_T68 x238003_1 0).f2) - 1)))) (fun _ h_ => h_.1)) (fun _ h_ => h_.1)))) (by decide) hg); replace BK223 := Aside0.mk (blk_grown (g := gb223) (o := .cells #[.int .i64 a0_0, .int .i64 a0_1, .slice A0_2 l0_2.length c0_2, .slice A0_3 l0_3.length c0_3, .slice A0_4 l0_4.length c0_4] 30 (0, 0)) (bf2 BK223 NB223_239 NB223_237) hg (Kd.R_ne HO249.out BK223.out (by decide))); replace BK224 := Aside0.mk (blk_grown (g := gb224) (o := .cells #[.int .i64 x225000_1, .int .i64 x225001_1, .slice none 0 0, .slice none 0 0, .slice none 0 0] 30 (0, 0)) (bf2 BK224 NB224_239 NB224_237) hg (Kd.R_ne HO249.out BK224.out (by decide))); replace BK239 := Aside0.mk (blk_grown (g := gb239) (o := .cells #[.string ((rd_T68 x238003_1 0).f0), .string ((rd_T68 x238003_1 0).f1), .int .i64 (wrap64 (((rd_T68 x238003_1 0).f2) - 1))] 68 (0, 0)) (bp1 BK239 NB239_237) hg (Kd.R_away HO249.out (fun _ hk => hk.2.2))); replace HB := Aside0.mk (hb); replace HR246 := Aside0.mk ((show Kd.C k68 w66 A61 y243.length y243 from by rw [Ny243.out, KA61.out]; exact Kd.C_drop (m := 1) (c := co52) ((Kd.R_reads' (Kd.R_after (ok := (fun k_ => nb k_ Ao16 t228.length co16 ∧ k_ ≠ gb239)) (by (with_reducible repeat (first | apply Kd.R_alloc | apply Kd.R_drewN | apply Kd.R_drew)); exact Kd.R_mono (Kd.R_far (p := ⟨gb239, 2, none⟩) (Kd.R_far (p := ⟨gb237, 3, none⟩) (Kd.R_mono (Kd.R_types HO_238003.out BK237.out (by decide)) (fun k_ hk => (⟨hk, hk.1.1.2⟩ : _ ∧ k_ ≠ gb239))) (fun _ hk => hk.1.2) (.slice Ao63 y247.length co63)) (fun _ hk => hk.2) (.int .i64 (wrap64 (((rd_T68 x238003_1 0).f2) - 1)))) (fun _ hk => ⟨⟨hk.1.1.1.1, hk.1.1.1.2⟩, hk.1.1.2⟩)) hg hat)).2.2) KL61.out ((Kd.R_reads' (Kd.R_after (ok := (fun k_ => nb k_ Ao16 t228.length co16 ∧ k_ ≠ gb239)) (by (with_reducible repeat (first | apply Kd.R_alloc | apply Kd.R_drewN | apply Kd.R_drew)); exact Kd.R_mono (Kd.R_far (p := ⟨gb239, 2, none⟩) (Kd.R_far (p := ⟨gb237, 3, none⟩) (Kd.R_mono (Kd.R_types HO_238003.out BK237.out (by decide)) (fun k_ hk => (⟨hk, hk.1.1.2⟩ : _ ∧ k_ ≠ gb239))) (fun _ hk => hk.1.2) (.slice Ao63 y247.length co63)) (fun _ hk => hk.2) (.int .i64 (wrap64 (((rd_T68 x238003_1 0).f2) - 1)))) (fun _ hk => ⟨⟨hk.1.1.1.1, hk.1.1.1.2⟩, hk.1.1.2⟩)) hg hat)).2.1))); replace HO_238003 := Aside0.mk (Kd.R_after (ok := (fun k_ => nb k_ Ao16 t228.length co16 ∧ k_ ≠ gb239)) (by (with_reducible repeat (first | apply Kd.R_alloc | apply Kd.R_drewN | apply Kd.R_drew)); exact Kd.R_mono (Kd.R_far (p := ⟨gb239, 2, none⟩) (Kd.R_far (p := ⟨gb237, 3, none⟩) (Kd.R_mono (Kd.R_types HO_238003.out BK237.out (by decide)) (fun k_ hk => (⟨hk, hk.1.1.2⟩ : _ ∧ k_ ≠ gb239))) (fun _ hk => hk.1.2) (.slice Ao63 y247.length co63)) (fun _ hk => hk.2) (.int .i64 (wrap64 (((rd_T68 x238003_1 0).f2) - 1)))) (fun _ hk => ⟨⟨hk.1.1.1.1, hk.1.1.1.2⟩, hk.1.1.2⟩)) hg hat); replace BK237 := Aside0.mk (blk_grown (g := gb237) (o := .cells #[.int .i64 t226, .int .i64 t227, .slice Ao16 t228.length co16, .slice Ao63 y247.length co63, .slice Ao18 t234.length co18] 30 (0, 0)) (bp1 BK237 NB237_239) hg (Kd.R_ne HO249.out BK237.out (by decide))); have HO252 := Aside0.mk (ho); clear HO249; clear ho hb hg hat; obtain ⟨Ao67, co67, eo67⟩ := Kd.R_slice HO252.out; subst eo67; have hcz68_0 := bz5 BK237))
         go_roundg k1
         case measure => have := HK1.out; omega
         case rel => exact ⟨(x225000_1), (x225001_1), (y250), (.slice Ao67 y250.length co67), H', ⟨by have := HK1.out; omega⟩, ⟨(rfn HO_238002 BK237)⟩, ⟨(rfn HO252 BK237)⟩, ⟨(rfn HO_238004 BK237)⟩, ⟨(bp1 BK223 NB223_237)⟩, ⟨(bp1 BK224 NB224_237)⟩, ⟨(bp BK237)⟩, ⟨be4 HB GE223 GE224 GE237 GE239⟩⟩
        rw [if_neg c48] at H
        exact absurd H (by simp)
       rw [if_neg c22] at H
       exact absurd H (by simp)
      rw [if_neg c21] at H
      exact absurd H (by simp)
     rw [if_neg c20] at H
     exact absurd H (by simp)
    rw [if_neg c19] at H
    have c19b0 : decide (0 < (x238003_1.length : Int)) = false := decide_eq_false c19
    have c19b1 : decide (0 < x238003_1.length) = false := decide_eq_false (by omega)
    clear c19
    simp only [Option.some.injEq, Prod.mk.injEq] at H
    obtain ⟨rfl, rfl, rfl, rfl, rfl, rfl, rfl⟩ := H
    have hnb69 := NB237_223.out
    have hnc69 := NB223_237.out
    have hnb70 := NB237_224.out
    have hnc70 := NB224_237.out
    have hcz71_0 := bz5 BK237
    obtain ⟨Ao72, co72, eo72⟩ := Kd.R_slice HO_238003.out
    subst eo72
    have hnb73 := NB224_223.out
    have hnc73 := NB223_224.out
    have hcz74_0 := bz5 BK224
    go_wp2
    refine bodyPost_ret (results_ctt rfl _ _ gb224 30 #[.int .i64 t226, .int .i64 t227, .slice Ao16 t228.length co16, .slice Ao72 x238003_1.length co72, .slice Ao18 t234.length co18] (0, 0) _ rfl (bp BK224) Try.underlying30 rfl (by kernel_rfl)) rfl ?_
    exact ⟨_, _, _, er, (rf HO_238002 BK224), (rf HO_238003 BK224), by (with_reducible repeat (first | apply Kd.R_alloc | apply Kd.R_drewN | apply Kd.R_drew)); exact Kd.R_mono (Kd.R_far (p := ⟨gb224, 4, none⟩) (Kd.R_far (p := ⟨gb224, 3, none⟩) (Kd.R_far (p := ⟨gb224, 2, none⟩) (Kd.R_far (p := ⟨gb224, 1, none⟩) (Kd.R_far (p := ⟨gb224, 0, none⟩) (Kd.R_types HO_238004.out BK224.out (by decide)) (fun _ hk => hk.2) (.int .i64 t226)) (fun _ hk => hk.2) (.int .i64 t227)) (fun _ hk => hk.2) (.slice Ao16 t228.length co16)) (fun _ hk => hk.2) (.slice Ao72 x238003_1.length co72)) (fun _ hk => hk.2) (.slice Ao18 t234.length co18)) (fun _ hk => trivial), be3 HB GE223 GE224 GE237⟩
 replace c3 := Bool.eq_false_iff.mpr c3
 subst c3
 have H1 : (some (0, 0, ([] : List (S68)), ([] : List (S68)), ([] : List Int), (⟨#[]⟩ : ByteArray), false)) = some (r1, r2, r3, r4, r5, r6, r7) := by rw [if_neg (show ¬ (false = true) by decide)] at H; exact H
 clear H
 have H := H1
 clear H1
 simp only [Option.some.injEq, Prod.mk.injEq] at H
 obtain ⟨rfl, rfl, rfl, rfl, rfl, rfl, rfl⟩ := H
 go_enter Try.func31, Try.ntmps31
 go_wp2_with (first | ((with_reducible refine gate_dst (N := 1) rfl ?_); refine bx 1 #[.int .i64 a0_0, .int .i64 a0_1, .slice A0_2 l0_2.length c0_2, .slice A0_3 l0_3.length c0_3, .slice A0_4 l0_4.length c0_4] 30 ?_; intro gb223 hg w75 hbox hb; have BK223 := am hbox; have GW223 := gs0 hg HB; have GE223 := gs0 hg HB; replace HB := s0 HB hb; clear hb hbox hg) | ((with_reducible refine gate_dst (N := 2) rfl ?_); refine bx 2 #[.int .i64 0, .int .i64 0, .slice none 0 0, .slice none 0 0, .slice none 0 0] 30 ?_; intro gb224 hg w76 hbox hb; have BK224 := am hbox; have GW224 := gs1 hg HB GE223; have GE224 := gs1 hg HB GE223; replace HB := Aside0.mk (below_step (be1 HB GE223) hb); have NB223_224 := nl hg BK223; have NB224_223 := ng hg BK223; replace BK223 := bb BK223 hb; clear hb hbox hg; have hnb77 := NB223_224.out; have hnc77 := NB224_223.out; have hcz78_0 := bz5 BK223) | ((with_reducible refine gate_callee (f := 17) rfl ?_); refine gl 8 Try.func17 #[.agg #[.int .i64 a0_0, .int .i64 a0_1, .slice A0_2 l0_2.length c0_2, .slice A0_3 l0_3.length c0_3, .slice A0_4 l0_4.length c0_4]] ?_; (with_reducible refine (spec_ThreeOk.calls k a0_0 a0_1 _ _ l0_2 _ _ l0_3 _ _ l0_4 false _ (cb HR0_2 HB) HC0_2.out (cb HR0_3 HB) HC0_3.out (cb HR0_4 HB) HC0_4.out A2.out).mono ?_); rintro e w79 ⟨rfl, hb⟩; refine ⟨_, rfl, ?_⟩; replace BK223 := bb BK223 hb; replace BK224 := bb BK224 hb; replace HB := Aside0.mk (below_step (be2 HB GE223 GE224) hb); (try clear hb); have hcz80_0 := bz5 BK224))
 refine bodyPost_ret (results_ctt rfl _ _ gb224 30 #[.int .i64 0, .int .i64 0, .slice none 0 0, .slice none 0 0, .slice none 0 0] (0, 0) _ rfl (bp BK224) Try.underlying30 rfl (by kernel_rfl)) rfl ?_
 exact ⟨_, _, _, er, by first | exact Kd.R_nil _ _ _ _ _ | exact Kd.N_nil _ _ _ _ _ | exact Kd.V_nil _ _ _ _ _ | exact Kd.Q_nil _ _ _ _ _ | exact Kd.S_nil _ _ _ _ _, by first | exact Kd.R_nil _ _ _ _ _ | exact Kd.N_nil _ _ _ _ _ | exact Kd.V_nil _ _ _ _ _ | exact Kd.Q_nil _ _ _ _ _ | exact Kd.S_nil _ _ _ _ _, by first | exact Kd.R_nil _ _ _ _ _ | exact Kd.N_nil _ _ _ _ _ | exact Kd.V_nil _ _ _ _ _ | exact Kd.Q_nil _ _ _ _ _ | exact Kd.S_nil _ _ _ _ _, be2 HB GE223 GE224⟩

/-! ### spec_l08But: function 96 -/
def spec_l08But.l0 : Nat → Int → List Int → List Int → Int → Int → Option (List Int)
 | 0, _, _, _, _, _ => none
 | k + 1, x1, x5, x9, x10, x11 => if x11 < x10 then (if 0 ≤ x11 then (if x11 < (x9.length : Int) then (if (rd x9 x11) = x1 then (spec_l08But.l0 k x1 x5 x9 x10 (wrap64 (x11 + 1))) else (if x5.length < 17592186044416 then (spec_l08But.l0 k x1 (x5 ++ [rd x9 x11]) x9 x10 (wrap64 (x11 + 1))) else (none))) else (none)) else (none)) else (some x5)
def spec_l08But.f (k : Nat) (l0 : List Int) (a1 : Int) : Option (List Int) := spec_l08But.l0 k a1 (([] : List Int)) l0 (l0.length : Int) 0
theorem spec_l08But.mono_l : ∀ k, (∀ y0 y1 y2 y3 y4, LeO (spec_l08But.l0 k y0 y1 y2 y3 y4) (spec_l08But.l0 (k + 1) y0 y1 y2 y3 y4))
 | 0 => fun _ _ _ _ _ r h => by simp [spec_l08But.l0] at h
 | k + 1 => by
  have ih0 := spec_l08But.mono_l k
  ·intro y0 y1 y2 y3 y4
   unfold spec_l08But.l0
   repeat' first
   | (with_reducible exact ih0 _ _ _ _ _)
   | (with_reducible exact LeO.refl _)
   | (with_reducible exact LeO.none _)
   | (with_reducible refine LeO.ite ?_ ?_)
   | (with_reducible refine LeO.bind ?_ (fun _ => ?_))
   | exact ih0 _ _ _ _ _
   | exact LeO.none _
   | refine LeO.ite ?_ ?_
   | refine LeO.bind ?_ (fun _ => ?_)
theorem spec_l08But.mono : ∀ a0 a1 k, LeO (spec_l08But.f k a0 a1) (spec_l08But.f (k + 1) a0 a1) := by
 intro a0 a1 k
 have ih0 := spec_l08But.mono_l k
 unfold spec_l08But.f
 repeat' first
   | (with_reducible exact ih0 _ _ _ _ _)
   | (with_reducible exact LeO.refl _)
   | (with_reducible exact LeO.none _)
   | (with_reducible refine LeO.ite ?_ ?_)
   | (with_reducible refine LeO.bind ?_ (fun _ => ?_))
   | exact ih0 _ _ _ _ _
   | exact LeO.none _
   | refine LeO.ite ?_ ?_
   | refine LeO.bind ?_ (fun _ => ?_)
set_option maxHeartbeats 8000000 in
set_option maxRecDepth 100000 in
theorem spec_l08But.calls (k : Nat) (A0 : Option Addr) (c0 : Nat) (l0 : List Int) (a1 : Int) (r : List Int) (w : World) (hr0 : Kd.C (Kd.int .i64) w A0 l0.length l0) (hc0 : l0.length ≤ c0) (h : spec_l08But.f k l0 a1 = some r) :
  Calls Try.prog 96 #[.slice A0 l0.length c0, .int .i64 a1] w fun e w' => ∃ v0_ : Value, e = .returned (v0_) ∧ Kd.R (Kd.int .i64) 3 w' w.heap.size (fun _ => True) v0_ r ∧ Below w.heap.size w w' := by
 have HR0 := Aside0.mk hr0
 have HC0 := Aside0.mk hc0
 clear hr0 hc0
 have HB := Aside0.mk (Below.refl w.heap.size w)
 have H : (spec_l08But.l0 k a1 (([] : List Int)) l0 (l0.length : Int) 0) = some r := h
 clear h
 obtain ⟨y253, hy253⟩ : ∃ y_ : List Int, y_ = (([] : List Int)) := ⟨_, rfl⟩
 replace H : (spec_l08But.l0 k a1 y253 l0 (l0.length : Int) 0) = some r := by first | (rw [hy253]; with_reducible exact H) | (have H2_ := (Option.bind_some _ _).symm.trans H; rw [hy253]; with_reducible exact H2_) | (have H2_ := (Option.bind_some _ _).symm.trans H; with_reducible exact H2_) | with_reducible exact H | (rw [hy253]; exact H) | exact H
 have Ny253 := Aside0.mk hy253
 clear hy253
 have H' := Aside0.mk H
 clear H
 go_enter Try.func96, Try.ntmps96
 go_wp2_with (first | ((with_reducible refine gate_dst (N := 8) rfl ?_); refine Kd.R_lit (Kd.int .i64) _ 3 ?hg (N := 8) ?hd (xs := ([] : List Int)) (inner := []) (ok := fun _ => True) (okp := fun _ => True) ?hr ?hp (fun _ hk => hk) trivial (Below.refl _ _) (Nat.le_refl _) (by simp) ?_; (case hd => rfl); (case hg => rfl); (case hr => first | (go_simp; done) | (go_simp; rfl)); (case hp => exact (Reps.none _ _)); intro v254 w3 ho4 hb hg_ hnew_; clear hg_ hnew_; (first | rw [← Ny253.out] at ho4 | (simp only [Int.reduceToNat] at ho4; rw [← Ny253.out] at ho4)); have HO255 := Aside0.mk (Kd.R_lower ho4 (below_size (be HB))); replace HB := s0 HB hb; clear hb ho4))
 go_loopg [5, 11] k (fun kq v5 v11 w' => ∃ (x5_1 : List Int) (x11_1 : Int), v11 = .int .i64 x11_1 ∧ Aside0 (spec_l08But.l0 kq a1 x5_1 l0 (l0.length : Int) x11_1 = some r) ∧ Aside0 (kq ≤ k) ∧ Aside0 (Kd.R (Kd.int .i64) 3 w' w.heap.size (fun _ => True) v5 x5_1) ∧ Aside0 (Below w.heap.size w w'))
 case atStart => exact ⟨(y253), (0), rs, H', ⟨Nat.le_refl _⟩, ⟨ro HO255⟩, ⟨be HB⟩⟩
 case round =>
  clear H'
  try clear p2
  obtain ⟨x5_1, x11_1, rfl, HA, HK1, HO_5, HB⟩ := hrel
  cases gk with
  | zero => exact absurd HA.out (by simp [spec_l08But.l0])
  | succ k1 =>
   have H := HA.out
   clear HA
   simp only [spec_l08But.l0] at H
   by_cases c5 : x11_1 < (l0.length : Int)
   ·rw [if_pos c5] at H
    have c5b0 : decide (x11_1 < (l0.length : Int)) = true := decide_eq_true c5
    clear c5
    by_cases c6 : 0 ≤ x11_1
    ·rw [if_pos c6] at H
     have c6b0 : decide (0 ≤ x11_1) = true := decide_eq_true c6
     clear c6
     by_cases c7 : x11_1 < (l0.length : Int)
     ·rw [if_pos c7] at H
      have c7b0 : decide (x11_1 < (l0.length : Int)) = true := decide_eq_true c7
      clear c7
      by_cases c8 : (rd l0 x11_1) = a1
      ·rw [if_pos c8] at H
       have c8b0 : ((rd l0 x11_1) == a1) = true := beq_iff_eq.mpr c8
       have c8b1 : ((rd l0 x11_1) != a1) = false := bne_eq_false_iff_eq.mpr c8
       clear c8
       have H' := Aside0.mk H
       clear H
       have p256 : 0 ≤ (x11_1 : Int) := od
       have q256 : x11_1 < (l0.length : Int) := od
       obtain ⟨ad256, e256, hx256_0⟩ := Kd.at_int HR0.out x11_1 p256 q256
       cases e256
       replace hx256_0 := hc HB hx256_0
       replace p256 := eq_true p256
       replace q256 := eq_true q256
       go_wp2
       go_roundg k1
       case measure => have := HK1.out; omega
       case rel => exact ⟨(x5_1), (wrap64 (x11_1 + 1)), rs, H', ⟨by have := HK1.out; omega⟩, ⟨ro HO_5⟩, ⟨be HB⟩⟩
      rw [if_neg c8] at H
      have c8b0 : ((rd l0 x11_1) == a1) = false := beq_eq_false_iff_ne.mpr c8
      have c8b1 : ((rd l0 x11_1) != a1) = true := bne_iff_ne.mpr c8
      by_cases c9 : x5_1.length < 17592186044416
      ·rw [if_pos c9] at H
       have LMc9 := Aside0.mk c9
       clear c9
       obtain ⟨y257, hy257⟩ : ∃ y_ : List Int, y_ = (x5_1 ++ [rd l0 x11_1]) := ⟨_, rfl⟩
       replace H : (spec_l08But.l0 k1 a1 y257 l0 (l0.length : Int) (wrap64 (x11_1 + 1))) = some r := by first | (rw [hy257]; with_reducible exact H) | (have H2_ := (Option.bind_some _ _).symm.trans H; rw [hy257]; with_reducible exact H2_) | (have H2_ := (Option.bind_some _ _).symm.trans H; with_reducible exact H2_) | with_reducible exact H | (rw [hy257]; exact H) | exact H
       have Ny257 := Aside0.mk hy257
       clear hy257
       have H' := Aside0.mk H
       clear H
       have p256 : 0 ≤ (x11_1 : Int) := od
       have q256 : x11_1 < (l0.length : Int) := od
       obtain ⟨ad256, e256, hx256_0⟩ := Kd.at_int HR0.out x11_1 p256 q256
       cases e256
       replace hx256_0 := hc HB hx256_0
       replace p256 := eq_true p256
       replace q256 := eq_true q256
       go_wp2_with (first | ((with_reducible refine gate_builtin (b := .append) (xs := #[.tmp 18, .tmp 20]) rfl ?_); at_builtin; refine Kd.R_append (Kd.int .i64) (w0 := w) w.heap.size rfl (.tmp 18) (.tmp 20) 23 3 (.int .i64 0) 8 rfl Try.underlying23 info3 rfl (by decide) (by omega) u5 x5_1 (rd l0 x11_1) [.int .i64 (rd l0 x11_1)] (fun _ => True) (fun _ => False) rfl rfl ?aP (fun _ hk => hk.elim) ?aF ?aO ?aB ?aS ?aL ?_; (case aP => exact rfl); (case aB => exact (be HB)); (case aF => exact (fun _ _ => trivial)); (case aO => exact (ro HO_5)); (case aS => exact (below_size (be HB))); (case aL => have := LMc9.out; omega); intro v258 w10 ho hb hg hat; rw [← Ny257.out] at ho; replace HB := Aside0.mk (hb); have HO259 := Aside0.mk (ho); clear HO_5; clear ho hb hg hat))
       go_roundg k1
       case measure => have := HK1.out; omega
       case rel => exact ⟨(y257), (wrap64 (x11_1 + 1)), rs, H', ⟨by have := HK1.out; omega⟩, ⟨ro HO259⟩, ⟨be HB⟩⟩
      rw [if_neg c9] at H
      exact absurd H (by simp)
     rw [if_neg c7] at H
     exact absurd H (by simp)
    rw [if_neg c6] at H
    exact absurd H (by simp)
   rw [if_neg c5] at H
   have c5b0 : decide (x11_1 < (l0.length : Int)) = false := decide_eq_false c5
   clear c5
   obtain rfl := Option.some.inj H
   go_wp2
   go_ret
   exact ⟨_, er, (ro HO_5), be HB⟩

end Go.Proofs.Ytfjhkediaholmaa.QFnExactEvict
