-- made by a program of this session (myprint.py)
import Derived.Test.YtfjhkediaholmaaQFnExactEvictx0
import Derived.Test.YtfjhkediaholmaaQFnExactEvictx6
import Derived.Test.YtfjhkediaholmaaQFnExactEvictx7
import Derived.Test.YtfjhkediaholmaaQFnExactEvictx8
import Derived.Test.YtfjhkediaholmaaQFnExactEvictx9
namespace Go.Proofs.Ytfjhkediaholmaa.QFnExactEvict
open Go.RowKit Go.Proofs.YtfjhkediaholmaaW.PrintWords Go.Proofs.YtfjhkediaholmaaW.PrintLast Go.Proofs.YtfjhkediaholmaaW.PrintMore
attribute [local go_sem] max2_int min2_int max_two min_two max_three min_three max_four min_four   -- for this text's walks alone
set_option linter.unusedVariables false
set_option linter.unusedSimpArgs false

/-! ### spec_EvictSmall: function 37 -/
def spec_EvictSmall.l0 : Nat → Int → Int → List (S68) → List (S68) → List Int → Option (Int × Int × (List (S68)) × (List (S68)) × List Int × ByteArray × Bool)
 | 0, _, _, _, _, _ => none
 | k + 1, x287000, x287001, x287002, x287003, x287004 => if (x287002.length : Int) > 0 then (if 0 < (x287002.length : Int) then ((some (([] : List (S68)) : List (S68))).bind fun y289 => (if 1 ≤ (x287002.length : Int) then ((some (x287002.drop 1 : List (S68))).bind fun y292 => (if y289.length + y292.length < 3518437208883 then ((some (y289 ++ y292 : List (S68))).bind fun y296 => (if ((rd_T68 x287002 0).f2) ≤ 1 then ((spec_Hash.f k ((rd_T68 x287002 0).f0)).bind fun t299 => ((spec_l10Haunt.f k x287000 x287001 y296 x287003 x287004 t299).bind fun bt300 => (some (bt300.1, bt300.2.1, bt300.2.2.1, bt300.2.2.2.1, bt300.2.2.2.2, (rd_T68 x287002 0).f0, true)))) else (if x287003.length < 3518437208883 then (spec_EvictSmall.l0 k x287000 x287001 y296 (x287003 ++ [(⟨(rd_T68 x287002 0).f0, (rd_T68 x287002 0).f1, 0⟩ : S68)]) x287004) else (none)))) else (none))) else (none))) else (none)) else (some (x287000, x287001, x287002, x287003, x287004, (⟨#[]⟩ : ByteArray), false))
def spec_EvictSmall.f (k : Nat) (a0_0 : Int) (a0_1 : Int) (l0_2 : List (S68)) (l0_3 : List (S68)) (l0_4 : List Int) : Option (Int × Int × (List (S68)) × (List (S68)) × List Int × ByteArray × Bool) := (spec_ThreeOk.f k a0_0 a0_1 l0_2 l0_3 l0_4).bind fun t274 => (if t274 = true then ((spec_l10Copy.f a0_0 a0_1 l0_2 l0_3 l0_4).bind fun bt275 => (spec_EvictSmall.l0 k bt275.1 bt275.2.1 bt275.2.2.1 bt275.2.2.2.1 bt275.2.2.2.2)) else (some (0, 0, ([] : List (S68)), ([] : List (S68)), ([] : List Int), (⟨#[]⟩ : ByteArray), false)))
theorem spec_EvictSmall.mono_l : ∀ k, (∀ y0 y1 y2 y3 y4, LeO (spec_EvictSmall.l0 k y0 y1 y2 y3 y4) (spec_EvictSmall.l0 (k + 1) y0 y1 y2 y3 y4))
 | 0 => fun _ _ _ _ _ r h => by simp [spec_EvictSmall.l0] at h
 | k + 1 => by
  have ih0 := spec_EvictSmall.mono_l k
  ·intro y0 y1 y2 y3 y4
   unfold spec_EvictSmall.l0
   repeat' first
   | (with_reducible exact ih0 _ _ _ _ _)
   | (with_reducible exact spec_Hash.mono _ _)
   | (with_reducible exact spec_ThreeOk.mono _ _ _ _ _ _)
   | (with_reducible exact spec_l10Haunt.mono _ _ _ _ _ _ _)
   | (with_reducible exact LeO.refl _)
   | (with_reducible exact LeO.none _)
   | (with_reducible refine LeO.ite ?_ ?_)
   | (with_reducible refine LeO.bind ?_ (fun _ => ?_))
   | exact ih0 _ _ _ _ _
   | exact spec_Hash.mono _ _
   | exact spec_ThreeOk.mono _ _ _ _ _ _
   | exact spec_l10Haunt.mono _ _ _ _ _ _ _
   | exact LeO.none _
   | refine LeO.ite ?_ ?_
   | refine LeO.bind ?_ (fun _ => ?_)
theorem spec_EvictSmall.mono : ∀ a0 a1 a2 a3 a4 k, LeO (spec_EvictSmall.f k a0 a1 a2 a3 a4) (spec_EvictSmall.f (k + 1) a0 a1 a2 a3 a4) := by
 intro a0 a1 a2 a3 a4 k
 have ih0 := spec_EvictSmall.mono_l k
 unfold spec_EvictSmall.f
 repeat' first
   | (with_reducible exact ih0 _ _ _ _ _)
   | (with_reducible exact spec_Hash.mono _ _)
   | (with_reducible exact spec_ThreeOk.mono _ _ _ _ _ _)
   | (with_reducible exact spec_l10Haunt.mono _ _ _ _ _ _ _)
   | (with_reducible exact LeO.refl _)
   | (with_reducible exact LeO.none _)
   | (with_reducible refine LeO.ite ?_ ?_)
   | (with_reducible refine LeO.bind ?_ (fun _ => ?_))
   | exact ih0 _ _ _ _ _
   | exact spec_Hash.mono _ _
   | exact spec_ThreeOk.mono _ _ _ _ _ _
   | exact spec_l10Haunt.mono _ _ _ _ _ _ _
   | exact LeO.none _
   | refine LeO.ite ?_ ?_
   | refine LeO.bind ?_ (fun _ => ?_)
def spec_EvictSmall.T8 : Bool × List (List Nat × List Nat) := (true, [([], []), ([], []), ([1], [1]), ([2], [2]), ([0, 3, 3], [0, 3]), ([], []), ([5], [5]), ([4, 4, 0, 1, 2, 3, 4], [4]), ([6, 7, 0, 1, 2, 3, 4, 5, 6, 7], [6]), ([8, 0, 1, 2, 3, 4, 5, 6, 7, 8], [])])
def spec_EvictSmall.B8 : List Nat := [0, 0, 2, 6, 15, 0, 32, 31, 255, 511]
theorem spec_EvictSmall.tab8 : rtab .any (opsOf Try.f37 8) = spec_EvictSmall.T8 := by kernel_rfl
theorem spec_EvictSmall.bits8 : waitsOk spec_EvictSmall.T8.2 spec_EvictSmall.B8 = true := by kernel_rfl
set_option maxHeartbeats 8000000 in
set_option maxRecDepth 100000 in
theorem spec_EvictSmall.calls (k : Nat) (a0_0 : Int) (a0_1 : Int) (A0_2 : Option Addr) (c0_2 : Nat) (l0_2 : List (S68)) (A0_3 : Option Addr) (c0_3 : Nat) (l0_3 : List (S68)) (A0_4 : Option Addr) (c0_4 : Nat) (l0_4 : List Int) (r1 : Int) (r2 : Int) (r3 : List (S68)) (r4 : List (S68)) (r5 : List Int) (r6 : ByteArray) (r7 : Bool) (w : World) (hr0_2 : Kd.C k68 w A0_2 l0_2.length l0_2) (hc0_2 : l0_2.length ≤ c0_2) (hr0_3 : Kd.C k68 w A0_3 l0_3.length l0_3) (hc0_3 : l0_3.length ≤ c0_3) (hr0_4 : Kd.C (Kd.int .i64) w A0_4 l0_4.length l0_4) (hc0_4 : l0_4.length ≤ c0_4) (h : spec_EvictSmall.f k a0_0 a0_1 l0_2 l0_3 l0_4 = some (r1, r2, r3, r4, r5, r6, r7)) :
  Calls Try.prog 37 #[.agg #[.int .i64 a0_0, .int .i64 a0_1, .slice A0_2 l0_2.length c0_2, .slice A0_3 l0_3.length c0_3, .slice A0_4 l0_4.length c0_4]] w fun e w' => ∃ v2_ v3_ v4_ : Value, e = .returned (.tuple #[.agg #[.int .i64 r1, .int .i64 r2, v2_, v3_, v4_], .string r6, .bool r7]) ∧ Kd.R k68 68 w' w.heap.size (fun k_ => some k_ ≠ (v3_ : Value).ownBlock) v2_ r3 ∧ Kd.R k68 68 w' w.heap.size (fun k_ => some k_ ≠ (v2_ : Value).ownBlock) v3_ r4 ∧ Kd.Q (Kd.int .i64) 3 w' w.heap.size (fun _ => True) v4_ r5 ∧ Below w.heap.size w w' := by
 have hu30 := Try.underlying30
 have hu68 := Try.underlying68
 have HR0_2 := Aside0.mk hr0_2
 have HC0_2 := Aside0.mk hc0_2
 clear hr0_2 hc0_2
 have HR0_3 := Aside0.mk hr0_3
 have HC0_3 := Aside0.mk hc0_3
 clear hr0_3 hc0_3
 have HR0_4 := Aside0.mk hr0_4
 have HC0_4 := Aside0.mk hc0_4
 clear hr0_4 hc0_4
 have HB := Aside0.mk (Below.refl w.heap.size w)
 have H : ((spec_ThreeOk.f k a0_0 a0_1 l0_2 l0_3 l0_4).bind fun t274 => (if t274 = true then ((spec_l10Copy.f a0_0 a0_1 l0_2 l0_3 l0_4).bind fun bt275 => (spec_EvictSmall.l0 k bt275.1 bt275.2.1 bt275.2.2.1 bt275.2.2.2.1 bt275.2.2.2.2)) else (some (0, 0, ([] : List (S68)), ([] : List (S68)), ([] : List Int), (⟨#[]⟩ : ByteArray), false)))) = some (r1, r2, r3, r4, r5, r6, r7) := h
 clear h
 replace H := Option.bind_eq_some_iff.mp H
 obtain ⟨t274, A20, H⟩ := H
 replace H : (if t274 = true then ((spec_l10Copy.f a0_0 a0_1 l0_2 l0_3 l0_4).bind fun bt275 => (spec_EvictSmall.l0 k bt275.1 bt275.2.1 bt275.2.2.1 bt275.2.2.2.1 bt275.2.2.2.2)) else (some (0, 0, ([] : List (S68)), ([] : List (S68)), ([] : List Int), (⟨#[]⟩ : ByteArray), false))) = some (r1, r2, r3, r4, r5, r6, r7) := H
 have A2 := Aside0.mk A20
 clear A20
 by_cases c3 : t274 = true
 ·subst c3
  have H1 : ((spec_l10Copy.f a0_0 a0_1 l0_2 l0_3 l0_4).bind fun bt275 => (spec_EvictSmall.l0 k bt275.1 bt275.2.1 bt275.2.2.1 bt275.2.2.2.1 bt275.2.2.2.2)) = some (r1, r2, r3, r4, r5, r6, r7) := by rw [if_pos rfl] at H; exact H
  clear H
  have H := H1
  clear H1
  replace H := Option.bind_eq_some_iff.mp H
  obtain ⟨⟨t275, t276, t277, t280, t283⟩, A40, H⟩ := H
  replace H : (spec_EvictSmall.l0 k t275 t276 t277 t280 t283) = some (r1, r2, r3, r4, r5, r6, r7) := H
  have A4 := Aside0.mk A40
  clear A40
  have H' := Aside0.mk H
  clear H
  go_enter Try.func37, Try.ntmps37
  go_wp2_with (first | ((with_reducible refine gate_dst (N := 1) rfl ?_); refine bx 1 #[.int .i64 a0_0, .int .i64 a0_1, .slice A0_2 l0_2.length c0_2, .slice A0_3 l0_3.length c0_3, .slice A0_4 l0_4.length c0_4] 30 ?_; intro gb272 hg w5 hbox hb; have BK272 := am hbox; have GW272 := gs0 hg HB; have GE272 := gs0 hg HB; replace HB := s0 HB hb; clear hb hbox hg) | ((with_reducible refine gate_dst (N := 2) rfl ?_); refine bx 2 #[.int .i64 0, .int .i64 0, .slice none 0 0, .slice none 0 0, .slice none 0 0] 30 ?_; intro gb273 hg w6 hbox hb; have BK273 := am hbox; have GW273 := gs1 hg HB GE272; have GE273 := gs1 hg HB GE272; replace HB := Aside0.mk (below_step (be1 HB GE272) hb); have NB272_273 := nl hg BK272; have NB273_272 := ng hg BK272; replace BK272 := bb BK272 hb; clear hb hbox hg; have hnb7 := NB272_273.out; have hnc7 := NB273_272.out; have hcz8_0 := bz5 BK272) | ((with_reducible refine gate_callee (f := 17) rfl ?_); refine gl 8 Try.func17 #[.agg #[.int .i64 a0_0, .int .i64 a0_1, .slice A0_2 l0_2.length c0_2, .slice A0_3 l0_3.length c0_3, .slice A0_4 l0_4.length c0_4]] ?_; (with_reducible refine (spec_ThreeOk.calls k a0_0 a0_1 _ _ l0_2 _ _ l0_3 _ _ l0_4 true _ (cb HR0_2 HB) HC0_2.out (cb HR0_3 HB) HC0_3.out (cb HR0_4 HB) HC0_4.out A2.out).mono ?_); rintro e w9 ⟨rfl, hb⟩; refine ⟨_, rfl, ?_⟩; replace BK272 := bb BK272 hb; replace BK273 := bb BK273 hb; replace HB := Aside0.mk (below_step (be2 HB GE272 GE273) hb); (try clear hb); have hcz10_0 := bz5 BK272) | ((with_reducible refine gate_callee (f := 83) rfl ?_); refine gl 12 Try.func83 #[.agg #[.int .i64 a0_0, .int .i64 a0_1, .slice A0_2 l0_2.length c0_2, .slice A0_3 l0_3.length c0_3, .slice A0_4 l0_4.length c0_4]] ?_; (with_reducible refine (spec_l10Copy.calls a0_0 a0_1 _ _ l0_2 _ _ l0_3 _ _ l0_4 t275 t276 t277 t280 t283 _ (cb HR0_2 HB) HC0_2.out (cb HR0_3 HB) HC0_3.out (cb HR0_4 HB) HC0_4.out A4.out).mono ?_); rintro e w11 ⟨v278, v281, v284, rfl, ho0, ho1, ho2, hb⟩; refine ⟨_, rfl, ?_⟩; have HO279 := Aside0.mk (Kd.R_lower ho0 (below_size (be2 HB GE272 GE273))); have HO282 := Aside0.mk (Kd.R_lower ho1 (below_size (be2 HB GE272 GE273))); have HO285 := Aside0.mk (Kd.R_lower ho2 (below_size (be2 HB GE272 GE273))); replace BK272 := bb BK272 hb; replace BK273 := bb BK273 hb; replace HB := Aside0.mk (below_step (be2 HB GE272 GE273) hb); (try clear hb); (try clear ho0); (try clear ho1); (try clear ho2)) | ((with_reducible refine gate_dst (N := 5) rfl ?_); refine bx 5 #[.int .i64 0, .int .i64 0, .slice none 0 0, .slice none 0 0, .slice none 0 0] 30 ?_; intro gb286 hg w12 hbox hb; replace HO279 := rb HO279 hb; replace HO282 := rb HO282 hb; replace HO285 := rb HO285 hb; have BK286 := am hbox; have GW286 := gs2 hg HB GE272 GE273; have GE286 := gs2 hg HB GE272 GE273; replace HB := Aside0.mk (below_step (be2 HB GE272 GE273) hb); have NB272_286 := nl hg BK272; have NB286_272 := ng hg BK272; replace BK272 := bb BK272 hb; have NB273_286 := nl hg BK273; have NB286_273 := ng hg BK273; replace BK273 := bb BK273 hb; clear hb hbox hg; have hnb13 := NB286_272.out; have hnc13 := NB272_286.out; have hnb14 := NB286_273.out; have hnc14 := NB273_286.out; have hcz15_0 := bz5 BK286; obtain ⟨Ao16, co16, eo16⟩ := Kd.R_slice HO279.out; subst eo16; obtain ⟨Ao17, co17, eo17⟩ := Kd.R_slice HO282.out; subst eo17; obtain ⟨Ao18, co18, eo18⟩ := Kd.R_slice HO285.out; subst eo18))
  go_loopg [] k (fun kq w' => ∃ (x274000_1 : Int) (x274001_1 : Int) (x287002_1 : List (S68)) (x287003_1 : List (S68)) (u287002 : Value) (u287003 : Value), Aside0 (spec_EvictSmall.l0 kq t275 t276 x287002_1 x287003_1 t283 = some (r1, r2, r3, r4, r5, r6, r7)) ∧ Aside0 (kq ≤ k) ∧ Aside0 (Kd.R k68 68 w' w.heap.size (fun k_ => some k_ ≠ (u287003 : Value).ownBlock) u287002 x287002_1) ∧ Aside0 (Kd.R k68 68 w' w.heap.size (fun k_ => some k_ ≠ (u287002 : Value).ownBlock) u287003 x287003_1) ∧ Aside0 (Kd.Q (Kd.int .i64) 3 w' w.heap.size (fun _ => True) (.slice Ao18 t283.length co18) t283) ∧ Aside0 (w'.heap[gb272]? = some (.cells #[.int .i64 a0_0, .int .i64 a0_1, (.slice A0_2 l0_2.length c0_2), (.slice A0_3 l0_3.length c0_3), (.slice A0_4 l0_4.length c0_4)] 30 (0, 0))) ∧ Aside0 (w'.heap[gb273]? = some (.cells #[.int .i64 x274000_1, .int .i64 x274001_1, (.slice none 0 0), (.slice none 0 0), (.slice none 0 0)] 30 (0, 0))) ∧ Aside0 (w'.heap[gb286]? = some (.cells #[.int .i64 t275, .int .i64 t276, u287002, u287003, (.slice Ao18 t283.length co18)] 30 (0, 0))) ∧ Aside0 (Below w.heap.size w w'))
  case atStart => exact ⟨(0), (0), (t277), (t280), (.slice Ao16 t277.length co16), (.slice Ao17 t280.length co17), H', ⟨Nat.le_refl _⟩, ⟨(rf HO279 BK286)⟩, ⟨(rf HO282 BK286)⟩, ⟨Kd.Q_of_R (by (with_reducible repeat (first | apply Kd.R_alloc | apply Kd.R_drewN | apply Kd.R_drew)); exact Kd.R_mono (Kd.R_far (p := ⟨gb286, 4, none⟩) (Kd.R_far (p := ⟨gb286, 3, none⟩) (Kd.R_far (p := ⟨gb286, 2, none⟩) (Kd.R_far (p := ⟨gb286, 1, none⟩) (Kd.R_far (p := ⟨gb286, 0, none⟩) (Kd.R_types HO285.out BK286.out (by decide)) (fun _ hk => hk.2) (.int .i64 t275)) (fun _ hk => hk.2) (.int .i64 t276)) (fun _ hk => hk.2) (.slice Ao16 t277.length co16)) (fun _ hk => hk.2) (.slice Ao17 t280.length co17)) (fun _ hk => hk.2) (.slice Ao18 t283.length co18)) (fun _ hk => trivial))⟩, ⟨(bp1 BK272 NB272_286)⟩, ⟨(bp1 BK273 NB273_286)⟩, ⟨(bp BK286)⟩, ⟨be3 HB GE272 GE273 GE286⟩⟩
  case round =>
   clear H'
   try clear c1; try clear p2; try clear c3; try clear c7; try clear c8; try clear c13; try clear c14; try clear c17; try clear hcz10_0; try clear hcz15_0; try clear hcz8_0
   obtain ⟨x274000_1, x274001_1, x287002_1, x287003_1, u287002, u287003, HA, HK1, HO_287002, HO_287003, HO_287004, BK272, BK273, BK286, HB⟩ := hrel
   cases gk with
   | zero => exact absurd HA.out (by simp [spec_EvictSmall.l0])
   | succ k1 =>
    have H := HA.out
    clear HA
    simp only [spec_EvictSmall.l0] at H
    by_cases c19 : (x287002_1.length : Int) > 0
    ·rw [if_pos c19] at H
     have c19b0 : decide (0 < (x287002_1.length : Int)) = true := decide_eq_true c19
     have c19b1 : decide (0 < x287002_1.length) = true := decide_eq_true (by omega)
     clear c19
     by_cases c20 : 0 < (x287002_1.length : Int)
     ·rw [if_pos c20] at H
      have c20b0 : decide (0 < (x287002_1.length : Int)) = true := decide_eq_true c20
      have c20b1 : decide (0 < x287002_1.length) = true := decide_eq_true (by omega)
      clear c20
      obtain ⟨y289, hy289⟩ : ∃ y_ : List (S68), y_ = (([] : List (S68))) := ⟨_, rfl⟩
      replace H : (if 1 ≤ (x287002_1.length : Int) then ((some (x287002_1.drop 1 : List (S68))).bind fun y292 => (if y289.length + y292.length < 3518437208883 then ((some (y289 ++ y292 : List (S68))).bind fun y296 => (if ((rd_T68 x287002_1 0).f2) ≤ 1 then ((spec_Hash.f k1 ((rd_T68 x287002_1 0).f0)).bind fun t299 => ((spec_l10Haunt.f k1 t275 t276 y296 x287003_1 t283 t299).bind fun bt300 => (some (bt300.1, bt300.2.1, bt300.2.2.1, bt300.2.2.2.1, bt300.2.2.2.2, (rd_T68 x287002_1 0).f0, true)))) else (if x287003_1.length < 3518437208883 then (spec_EvictSmall.l0 k1 t275 t276 y296 (x287003_1 ++ [(⟨(rd_T68 x287002_1 0).f0, (rd_T68 x287002_1 0).f1, 0⟩ : S68)]) t283) else (none)))) else (none))) else (none)) = some (r1, r2, r3, r4, r5, r6, r7) := by first | (rw [hy289]; with_reducible exact H) | (have H2_ := (Option.bind_some _ _).symm.trans H; rw [hy289]; with_reducible exact H2_) | (have H2_ := (Option.bind_some _ _).symm.trans H; with_reducible exact H2_) | with_reducible exact H | (rw [hy289]; exact H) | exact H
      have Ny289 := Aside0.mk hy289
      clear hy289
      by_cases c21 : 1 ≤ (x287002_1.length : Int)
      ·rw [if_pos c21] at H
       have c21b0 := eq_true c21
       have c21b1 : decide (1 ≤ (x287002_1.length : Int)) = true := decide_eq_true c21
       clear c21
       obtain ⟨y292, hy292⟩ : ∃ y_ : List (S68), y_ = (x287002_1.drop 1) := ⟨_, rfl⟩
       replace H : (if y289.length + y292.length < 3518437208883 then ((some (y289 ++ y292 : List (S68))).bind fun y296 => (if ((rd_T68 x287002_1 0).f2) ≤ 1 then ((spec_Hash.f k1 ((rd_T68 x287002_1 0).f0)).bind fun t299 => ((spec_l10Haunt.f k1 t275 t276 y296 x287003_1 t283 t299).bind fun bt300 => (some (bt300.1, bt300.2.1, bt300.2.2.1, bt300.2.2.2.1, bt300.2.2.2.2, (rd_T68 x287002_1 0).f0, true)))) else (if x287003_1.length < 3518437208883 then (spec_EvictSmall.l0 k1 t275 t276 y296 (x287003_1 ++ [(⟨(rd_T68 x287002_1 0).f0, (rd_T68 x287002_1 0).f1, 0⟩ : S68)]) t283) else (none)))) else (none)) = some (r1, r2, r3, r4, r5, r6, r7) := by first | (rw [hy292]; with_reducible exact H) | (have H2_ := (Option.bind_some _ _).symm.trans H; rw [hy292]; with_reducible exact H2_) | (have H2_ := (Option.bind_some _ _).symm.trans H; with_reducible exact H2_) | with_reducible exact H | (rw [hy292]; exact H) | exact H
       have Ny292 := Aside0.mk hy292
       clear hy292
       by_cases c22 : y289.length + y292.length < 3518437208883
       ·rw [if_pos c22] at H
        have LMc22 := Aside0.mk c22
        clear c22
        obtain ⟨y296, hy296⟩ : ∃ y_ : List (S68), y_ = (y289 ++ y292) := ⟨_, rfl⟩
        replace H : (if ((rd_T68 x287002_1 0).f2) ≤ 1 then ((spec_Hash.f k1 ((rd_T68 x287002_1 0).f0)).bind fun t299 => ((spec_l10Haunt.f k1 t275 t276 y296 x287003_1 t283 t299).bind fun bt300 => (some (bt300.1, bt300.2.1, bt300.2.2.1, bt300.2.2.2.1, bt300.2.2.2.2, (rd_T68 x287002_1 0).f0, true)))) else (if x287003_1.length < 3518437208883 then (spec_EvictSmall.l0 k1 t275 t276 y296 (x287003_1 ++ [(⟨(rd_T68 x287002_1 0).f0, (rd_T68 x287002_1 0).f1, 0⟩ : S68)]) t283) else (none))) = some (r1, r2, r3, r4, r5, r6, r7) := by first | (rw [hy296]; with_reducible exact H) | (have H2_ := (Option.bind_some _ _).symm.trans H; rw [hy296]; with_reducible exact H2_) | (have H2_ := (Option.bind_some _ _).symm.trans H; with_reducible exact H2_) | with_reducible exact H | (rw [hy296]; exact H) | exact H
        have Ny296 := Aside0.mk hy296
        clear hy296
        by_cases c23 : ((rd_T68 x287002_1 0).f2) ≤ 1
        ·rw [if_pos c23] at H
         have c23b0 : decide (((rd_T68 x287002_1 0).f2) ≤ 1) = true := decide_eq_true c23
         clear c23
         replace H := Option.bind_eq_some_iff.mp H
         obtain ⟨t299, A240, H⟩ := H
         replace H : ((spec_l10Haunt.f k1 t275 t276 y296 x287003_1 t283 t299).bind fun bt300 => (some (bt300.1, bt300.2.1, bt300.2.2.1, bt300.2.2.2.1, bt300.2.2.2.2, (rd_T68 x287002_1 0).f0, true))) = some (r1, r2, r3, r4, r5, r6, r7) := H
         have A24 := Aside0.mk A240
         clear A240
         replace H := Option.bind_eq_some_iff.mp H
         obtain ⟨⟨t300, t301, t302, t305, t308⟩, A250, H⟩ := H
         replace H : (some (t300, t301, t302, t305, t308, (rd_T68 x287002_1 0).f0, true)) = some (r1, r2, r3, r4, r5, r6, r7) := H
         have A25 := Aside0.mk A250
         clear A250
         simp only [Option.some.injEq, Prod.mk.injEq] at H
         obtain ⟨rfl, rfl, rfl, rfl, rfl, rfl, rfl⟩ := H
         have hnb26 := NB286_272.out
         have hnc26 := NB272_286.out
         have hnb27 := NB286_273.out
         have hnc27 := NB273_286.out
         have hcz28_0 := bz5 BK286
         obtain ⟨Ao29, co29, eo29⟩ := Kd.R_slice HO_287002.out
         subst eo29
         have p287 : 0 ≤ (0 : Int) := (by omega)
         have q287 : 0 < (x287002_1.length : Int) := od
         obtain ⟨ad287, e287, hx287_0, hx287_1, hx287_2⟩ := at_T68 (Kd.R_reads' HO_287002.out).2.2 0 p287 q287
         cases e287
         have qi287 : (0 < x287002_1.length) = True := eq_true (by omega)
         (try rw [show ((0 : Int)).toNat = 0 from rfl] at hx287_0)
         (try rw [show 0 * 3 = 0 from rfl] at hx287_0)
         (try rw [Addr.add_zero'] at hx287_0)
         (try rw [show ((0 : Int)).toNat = 0 from rfl] at hx287_1)
         (try rw [show 0 * 3 = 0 from rfl] at hx287_1)
         (try rw [Addr.add_zero'] at hx287_1)
         (try rw [show ((0 : Int)).toNat = 0 from rfl] at hx287_2)
         (try rw [show 0 * 3 = 0 from rfl] at hx287_2)
         (try rw [Addr.add_zero'] at hx287_2)
         replace p287 := eq_true p287
         replace q287 := eq_true q287
         try go_wp2_with (first | ((with_reducible refine gate_dst (N := 6) rfl ?_); refine bx 6 #[.string (⟨#[]⟩ : ByteArray), .string (⟨#[]⟩ : ByteArray), .int .i64 0] 68 ?_; intro gb288 hg w30 hbox hb; replace HO_287002 := Aside0.mk (Kd.R_below (Kd.R_elderB (ro HO_287002) gb288 (Nat.le_of_eq hg.symm)) hb); replace HO_287003 := Aside0.mk (Kd.R_below (Kd.R_elderB (ro HO_287003) gb288 (Nat.le_of_eq hg.symm)) hb); replace HO_287004 := Aside0.mk (Kd.Q_below (qo HO_287004) hb); have BK288 := am hbox; have GW288 := Aside0.mk ((by rw [hg]; exact (below_size (be3 HB GE272 GE273 GE286)) : w.heap.size ≤ gb288)); have GE288 := Aside0.mk ((by rw [hg]; exact (below_size (be3 HB GE272 GE273 GE286)) : w.heap.size ≤ gb288)); replace HB := Aside0.mk (below_step (be3 HB GE272 GE273 GE286) hb); have NB272_288 := nl hg BK272; have NB288_272 := ng hg BK272; replace BK272 := bb BK272 hb; have NB273_288 := nl hg BK273; have NB288_273 := ng hg BK273; replace BK273 := bb BK273 hb; have NB286_288 := nl hg BK286; have NB288_286 := ng hg BK286; replace BK286 := bb BK286 hb; clear hb hbox hg; have hnb31 := NB288_272.out; have hnc31 := NB272_288.out; have hnb32 := NB288_273.out; have hnc32 := NB273_288.out; have hnb33 := NB288_286.out; have hnc33 := NB286_288.out; have hcz34_0 := bz3 BK288) | ((with_reducible refine gate_dst (N := 21) rfl ?_); refine Kd.R_lit k68 _ 68 ?hg (N := 21) ?hd (xs := ([] : List (S68))) (inner := []) (ok := fun _ => True) (okp := fun _ => True) ?hr ?hp (fun _ hk => hk) trivial (Below.refl _ _) (Nat.le_refl _) (by simp) ?_; (case hd => rfl); (case hg => rfl); (case hr => first | (go_simp; done) | (go_simp; rfl)); (case hp => exact (Reps.none _ _)); intro v290 w35 ho36 hb hg_ hnew_; clear hg_ hnew_; (first | rw [← Ny289.out] at ho36 | (simp only [Int.reduceToNat] at ho36; rw [← Ny289.out] at ho36)); replace HO_287004 := Aside0.mk (Kd.Q_below (qf HO_287004 BK288) hb); have HO291 := Aside0.mk (Kd.R_lower (Kd.R_newB (Kd.R_new' (Kd.R_new' ho36 (Kd.R_lt (rgs gb288 HO_287002))) (Kd.R_lt (rgs gb288 HO_287003))) (g := gb288) (o := .cells #[.string ((rd_T68 x287002_1 0).f0), .string ((rd_T68 x287002_1 0).f1), .int .i64 ((rd_T68 x287002_1 0).f2)] 68 (0, 0)) (bp BK288)) (below_size (be4 HB GE272 GE273 GE286 GE288))); replace HO_287002 := Aside0.mk (Kd.R_elder' (rgs gb288 HO_287002) (Kd.R_base ho36) hb); replace HO_287003 := Aside0.mk (Kd.R_elder' (rgs gb288 HO_287003) (Kd.R_base ho36) hb); replace BK272 := Aside0.mk (blk_below (g := gb272) (o := .cells #[.int .i64 a0_0, .int .i64 a0_1, .slice A0_2 l0_2.length c0_2, .slice A0_3 l0_3.length c0_3, .slice A0_4 l0_4.length c0_4] 30 (0, 0)) (bf1 BK272 NB272_288) hb); replace BK273 := Aside0.mk (blk_below (g := gb273) (o := .cells #[.int .i64 x274000_1, .int .i64 x274001_1, .slice none 0 0, .slice none 0 0, .slice none 0 0] 30 (0, 0)) (bf1 BK273 NB273_288) hb); replace BK286 := Aside0.mk (blk_below (g := gb286) (o := .cells #[.int .i64 t275, .int .i64 t276, .slice (some ad287) x287002_1.length co29, u287003, .slice Ao18 t283.length co18] 30 (0, 0)) (bf1 BK286 NB286_288) hb); replace BK288 := Aside0.mk (blk_below (g := gb288) (o := .cells #[.string ((rd_T68 x287002_1 0).f0), .string ((rd_T68 x287002_1 0).f1), .int .i64 ((rd_T68 x287002_1 0).f2)] 68 (0, 0)) (bp BK288) hb); replace HB := Aside0.mk (below_step (be4 HB GE272 GE273 GE286 GE288) hb); clear hb ho36; have hcz37_0 := bz5 BK286; have q38 : (1 : Int) ≤ ((x287002_1.length : Int) : Int) := od; obtain ⟨i038, hi038, _, hsz38, _⟩ := info_parts info68; have hroom38 : x287002_1.length ≤ co29 := (Kd.R_reads' HO_287002.out).2.1; have hC38 : Kd.C k68 _ (some ad287) x287002_1.length x287002_1 := (Kd.R_reads' HO_287002.out).2.2; have hcut38 := cut_from (P := Try.prog) 28 68 .i64 Try.underlying28 hi038 3 hsz38 (some ad287) x287002_1.length co29 1 (by omega) q38; have hr38 := Kd.C_drop (m := (1 : Int).toNat) (c := co29) hC38 (by omega) hroom38; obtain ⟨A38, hA38⟩ : ∃ A1, A1 = (if co29 = (1 : Int).toNat then (some ad287) else ((some ad287) : Option Addr).map (·.add ((1 : Int).toNat * 3))) := ⟨_, rfl⟩; obtain ⟨c38, hc38⟩ : ∃ c1, c1 = co29 - (1 : Int).toNat := ⟨_, rfl⟩; have hy38 : y292.length = x287002_1.length - (1 : Int).toNat := (by rw [Ny292.out, List.length_drop] <;> omega); rw [show (x287002_1).drop (1 : Int).toNat = y292 from Ny292.out.symm] at hr38; replace hr38 : Kd.C k68 _ A38 y292.length y292 := (by rw [hA38]; exact hr38); rw [← hy38, ← hA38, ← hc38] at hcut38; have HR295 := Aside0.mk hr38; have HC295 := Aside0.mk (show y292.length ≤ c38 from by rw [hy38, hc38]; exact Nat.sub_le_sub_right hroom38 _); clear hr38 hC38 hroom38 hi038 hsz38 hc38; have KY38 := Aside0.mk hy38; have KA38 := Aside0.mk hA38; clear hy38 hA38; have KL38 := Aside0.mk (show 1 ≤ x287002_1.length from by omega); replace q38 := eq_true q38) | ((with_reducible refine gate_builtin (b := .append) (xs := #[.tmp 21, .tmp 24]) rfl ?_); at_builtin; refine Kd.R_append_rows k68 (w0 := w) w.heap.size rfl (.tmp 21) (.tmp 24) 28 68 (.agg #[(.string ⟨#[]⟩), (.string ⟨#[]⟩), (.int .i64 0)]) 40 rfl Try.underlying28 info68 rfl (by decide) (by omega) v290 y289 y292 _ _ _ (fun k_ => some k_ ≠ (.slice (some ad287) x287002_1.length co29 : Value).ownBlock ∧ some k_ ≠ (u287003 : Value).ownBlock ∧ k_ ≠ gb288) (fun _ => False) rfl rfl ?aO ?aR (fun _ _ h => h) (fun _ h => h.elim) ?aF ?aB ?aS ?aL ?_; (case aR => repeat (first | exact (by repeat (first | (with_reducible exact HR295.out) | (with_reducible refine Kd.C_alloc ?_ _) | (with_reducible refine Kd.C_drewN ?_ _) | (with_reducible refine Kd.C_drew ?_) | exact HR295.out)) | (with_reducible refine Kd.C_alloc ?_ _) | (with_reducible refine Kd.C_drewN ?_ _) | (with_reducible refine Kd.C_drew ?_))); (case aB => exact (be4 HB GE272 GE273 GE286 GE288)); (case aF => exact (fun k_ hk => ⟨Kd.fresh' (Kd.R_lt (ro HO_287002)) k_ hk, Kd.fresh' (Kd.R_lt (ro HO_287003)) k_ hk, Kd.freshB (g := gb288) (o := .cells #[.string ((rd_T68 x287002_1 0).f0), .string ((rd_T68 x287002_1 0).f1), .int .i64 ((rd_T68 x287002_1 0).f2)] 68 (0, 0)) (bk BK288) k_ hk⟩)); (case aO => exact (by (with_reducible repeat (first | apply Kd.R_alloc | apply Kd.R_drewN | apply Kd.R_drew)); exact rm HO291)); (case aS => exact (below_size (be4 HB GE272 GE273 GE286 GE288))); (case aL => have := LMc22.out; omega); intro v297 w39 ho hb hg hat; rw [← Ny296.out] at ho; replace HO_287003 := Aside0.mk (Kd.R_after (ok := (fun k_ => some k_ ≠ (.slice (some ad287) x287002_1.length co29 : Value).ownBlock ∧ k_ ≠ gb288)) (ro HO_287003) hg hat); replace HO_287004 := Aside0.mk (Kd.Q_over' (qo HO_287004) (Kd.R_typed (ro HO291)) (by decide) hg); replace BK272 := Aside0.mk (blk_grown (g := gb272) (o := .cells #[.int .i64 a0_0, .int .i64 a0_1, .slice A0_2 l0_2.length c0_2, .slice A0_3 l0_3.length c0_3, .slice A0_4 l0_4.length c0_4] 30 (0, 0)) (bk BK272) hg (Kd.R_ne HO291.out BK272.out (by decide))); replace BK273 := Aside0.mk (blk_grown (g := gb273) (o := .cells #[.int .i64 x274000_1, .int .i64 x274001_1, .slice none 0 0, .slice none 0 0, .slice none 0 0] 30 (0, 0)) (bk BK273) hg (Kd.R_ne HO291.out BK273.out (by decide))); replace BK286 := Aside0.mk (blk_grown (g := gb286) (o := .cells #[.int .i64 t275, .int .i64 t276, .slice (some ad287) x287002_1.length co29, u287003, .slice Ao18 t283.length co18] 30 (0, 0)) (bk BK286) hg (Kd.R_ne HO291.out BK286.out (by decide))); replace BK288 := Aside0.mk (blk_grown (g := gb288) (o := .cells #[.string ((rd_T68 x287002_1 0).f0), .string ((rd_T68 x287002_1 0).f1), .int .i64 ((rd_T68 x287002_1 0).f2)] 68 (0, 0)) (bk BK288) hg (Kd.R_away HO291.out (fun _ hk => hk.2))); replace HB := Aside0.mk (hb); replace HR295 := Aside0.mk ((show Kd.C k68 w39 A38 y292.length y292 from by rw [Ny292.out, KA38.out]; exact Kd.C_drop (m := 1) (c := co29) ((Kd.R_reads' (Kd.R_after (ok := (fun k_ => some k_ ≠ (u287003 : Value).ownBlock ∧ k_ ≠ gb288)) (ro HO_287002) hg hat)).2.2) KL38.out ((Kd.R_reads' (Kd.R_after (ok := (fun k_ => some k_ ≠ (u287003 : Value).ownBlock ∧ k_ ≠ gb288)) (ro HO_287002) hg hat)).2.1))); replace HO_287002 := Aside0.mk (Kd.R_after (ok := (fun k_ => some k_ ≠ (u287003 : Value).ownBlock ∧ k_ ≠ gb288)) (ro HO_287002) hg hat); have HO298 := Aside0.mk (ho); clear HO291; clear ho hb hg hat; obtain ⟨Ao40, co40, eo40⟩ := Kd.R_slice HO298.out; subst eo40; have hcz41_0 := bz5 BK286; have hcz42_0 := bz3 BK288))
         have n0_ : Aside0 (Kd.R k68 68 (w39.setCell ⟨gb286, 2, none⟩ (.slice Ao40 y296.length co40)) w.heap.size (fun k_ => some k_ ≠ (u287003 : Value).ownBlock ∧ nb k_ Ao40 y296.length co40 ∧ k_ ≠ gb288) (.slice (some ad287) x287002_1.length co29) x287002_1) := ⟨(rfn HO_287002 BK286)⟩
         have n1_ : Aside0 (Kd.R k68 68 (w39.setCell ⟨gb286, 2, none⟩ (.slice Ao40 y296.length co40)) w.heap.size (fun k_ => some k_ ≠ (.slice (some ad287) x287002_1.length co29 : Value).ownBlock ∧ nb k_ Ao40 y296.length co40 ∧ k_ ≠ gb288) u287003 x287003_1) := ⟨(rfn HO_287003 BK286)⟩
         have n2_ : Aside0 (Kd.Q (Kd.int .i64) 3 (w39.setCell ⟨gb286, 2, none⟩ (.slice Ao40 y296.length co40)) w.heap.size (fun _ => True) (.slice Ao18 t283.length co18) t283) := ⟨(qfn HO_287004 BK286)⟩
         have n3_ : Aside0 (Kd.R k68 68 (w39.setCell ⟨gb286, 2, none⟩ (.slice Ao40 y296.length co40)) w.heap.size (fun k_ => some k_ ≠ (.slice (some ad287) x287002_1.length co29 : Value).ownBlock ∧ some k_ ≠ (u287003 : Value).ownBlock ∧ k_ ≠ gb288) (.slice Ao40 y296.length co40) y296) := ⟨(rf HO298 BK286)⟩
         have n4_ : Aside0 ((w39.setCell ⟨gb286, 2, none⟩ (.slice Ao40 y296.length co40)).heap[gb272]? = some (.cells #[.int .i64 a0_0, .int .i64 a0_1, .slice A0_2 l0_2.length c0_2, .slice A0_3 l0_3.length c0_3, .slice A0_4 l0_4.length c0_4] 30 (0, 0))) := ⟨(bp1 BK272 NB272_286)⟩
         have n5_ : Aside0 ((w39.setCell ⟨gb286, 2, none⟩ (.slice Ao40 y296.length co40)).heap[gb273]? = some (.cells #[.int .i64 x274000_1, .int .i64 x274001_1, .slice none 0 0, .slice none 0 0, .slice none 0 0] 30 (0, 0))) := ⟨(bp1 BK273 NB273_286)⟩
         have n6_ : Aside0 ((w39.setCell ⟨gb286, 2, none⟩ (.slice Ao40 y296.length co40)).heap[gb286]? = some (.cells #[.int .i64 t275, .int .i64 t276, .slice Ao40 y296.length co40, u287003, .slice Ao18 t283.length co18] 30 (0, 0))) := ⟨(bp BK286)⟩
         have n7_ : Aside0 ((w39.setCell ⟨gb286, 2, none⟩ (.slice Ao40 y296.length co40)).heap[gb288]? = some (.cells #[.string ((rd_T68 x287002_1 0).f0), .string ((rd_T68 x287002_1 0).f1), .int .i64 ((rd_T68 x287002_1 0).f2)] 68 (0, 0))) := ⟨(bp1 BK288 NB288_286)⟩
         have n8_ : Aside0 (Below w.heap.size w (w39.setCell ⟨gb286, 2, none⟩ (.slice Ao40 y296.length co40))) := ⟨be4 HB GE272 GE273 GE286 GE288⟩
         (try clear HO_287002)
         (try clear HO_287003)
         (try clear HO_287004)
         (try clear HO298)
         (try clear BK272)
         (try clear BK273)
         (try clear BK286)
         (try clear BK288)
         (try clear HB)
         generalize (w39.setCell ⟨gb286, 2, none⟩ (.slice Ao40 y296.length co40)) = w43 at n0_ n1_ n2_ n3_ n4_ n5_ n6_ n7_ n8_ ⊢
         have HO_287002 := n0_
         have HO_287003 := n1_
         have HO_287004 := n2_
         have HO298 := n3_
         have BK272 := n4_
         have BK273 := n5_
         have BK286 := n6_
         have BK288 := n7_
         have HB := n8_
         clear n0_ n1_ n2_ n3_ n4_ n5_ n6_ n7_ n8_
         have n0_ := Aside0.mk (Kd.R_drew HO_287002.out)
         have n1_ := Aside0.mk (Kd.R_drew HO_287003.out)
         have n2_ := Aside0.mk (Kd.Q_drew HO_287004.out)
         have n3_ := Aside0.mk (Kd.R_drew HO298.out)
         have n4_ := Aside0.mk (blk_drew BK272.out)
         have n5_ := Aside0.mk (blk_drew BK273.out)
         have n6_ := Aside0.mk (blk_drew BK286.out)
         have n7_ := Aside0.mk (blk_drew BK288.out)
         have n8_ := Aside0.mk (below_drew1 HB.out)
         clear HO_287002
         clear HO_287003
         clear HO_287004
         clear HO298
         clear BK272
         clear BK273
         clear BK286
         clear BK288
         clear HB
         have HO_287002 := n0_
         have HO_287003 := n1_
         have HO_287004 := n2_
         have HO298 := n3_
         have BK272 := n4_
         have BK273 := n5_
         have BK286 := n6_
         have BK288 := n7_
         have HB := n8_
         clear n0_ n1_ n2_ n3_ n4_ n5_ n6_ n7_ n8_
         refine start_ (n := 10) (S := fun w' => w'.cell? ⟨gb286, 0, none⟩ = some (.int .i64 t275) ∧ w'.cell? ⟨gb286, 1, none⟩ = some (.int .i64 t276) ∧ w'.cell? ⟨gb286, 2, none⟩ = some (.slice Ao40 y296.length co40) ∧ w'.cell? ⟨gb286, 3, none⟩ = some (u287003) ∧ w'.cell? ⟨gb286, 4, none⟩ = some (.slice Ao18 t283.length co18) ∧ w'.cell? ⟨gb288, 0, none⟩ = some (.string ((rd_T68 x287002_1 0).f0)) ∧ w'.cell? ⟨gb288, 1, none⟩ = some (.string ((rd_T68 x287002_1 0).f1)) ∧ w'.cell? ⟨gb288, 2, none⟩ = some (.int .i64 ((rd_T68 x287002_1 0).f2))) (ds := []) (bv 10 0x0) (by kernel_rfl) rfl rfl ⟨bc0 BK286, bc1 BK286, bc2 BK286, bc3 BK286, bc4 BK286, bc0 BK288, bc1 BK288, bc2 BK288⟩ (fun hHeld => ?_); refine with_tabW spec_EvictSmall.tab8 spec_EvictSmall.bits8 (fun HT_ HW_ => ?_)
         generalize w43.drew = w44 at HO_287002 HO_287003 HO_287004 HO298 BK272 BK273 BK286 BK288 HB hHeld ⊢
         refine py HT_ 1 31 (bv 10 0x2) ?_
         refine py HT_ 5 35 (bv 10 0x22) ?_
         refine tk HT_ HW_ hHeld 0 30 (bv 10 0x23) ?_
         refine tk HT_ HW_ hHeld 2 32 (bv 10 0x27) ?_
         refine tk HT_ HW_ hHeld 6 36 (bv 10 0x67) ?_
         refine one_ (i := 3) (N := some 33) (bv 10 0x6f) rfl rfl (one_of HT_.out (by kernel_rfl)) (by decide) (fun K hK => ?_)
         refine goes_ Try.func93 (by kernel_rfl) rfl #[.string ((rd_T68 x287002_1 0).f0)] (by rfl) rfl rfl ml ?_
         with_reducible refine (spec_Hash.calls k1 ((rd_T68 x287002_1 0).f0) t299 _ A24.out).mono ?_
         rintro e w' ⟨rfl, ⟨nd, rfl⟩⟩
         refine ⟨_, rfl, ?_⟩
         obtain ⟨Ao45, co45, eo45⟩ := Kd.R_slice HO_287003.out
         (first | subst eo45 | (injection eo45 with f1_ f2_ f3_; have f4_ := f1_.symm; have f5_ := f3_.symm; clear f1_ f2_ f3_; subst f4_; subst f5_))
         refine hK.out _ _ ⟨bc0 BK286, bc1 BK286, bc2 BK286, bc3 BK286, bc4 BK286, bc0 BK288, bc1 BK288, bc2 BK288⟩ (fun hHeld => ?_)
         clear hK K
         refine norm_ (a' := ?_) ?_ ?_
         rotate_left
         ·show Act.put _ (some 33) _ = _
          simp only [aP]
          rfl
         refine one_ (i := 4) (N := some 34) (bv 10 0x7f) rfl rfl (one_of HT_.out (by kernel_rfl)) (by decide) (fun K hK => ?_)
         refine goes_ Try.func92 (by kernel_rfl) rfl #[.agg #[.int .i64 t275, .int .i64 t276, .slice Ao40 y296.length co40, .slice Ao45 x287003_1.length co45, .slice Ao18 t283.length co18], .int .i64 t299] (by rfl) rfl rfl ml ?_
         with_reducible refine (spec_l10Haunt.calls k1 t275 t276 (fun k_ => some k_ = (.slice Ao40 y296.length co40 : Value).ownBlock) (.slice Ao40 y296.length co40) y296 (fun k_ => some k_ = (.slice Ao45 x287003_1.length co45 : Value).ownBlock) (.slice Ao45 x287003_1.length co45) x287003_1 _ _ t283 t299 t300 t301 t302 t305 t308 w _ ?side1 ?side2 ?side3 ?side4 ?side5 ?side6 ?side7 A25.out).mono ?_
         (case side1 => repeat (first | (with_reducible first | exact HB.out | apply below_alloc | apply pw_below_drewN | apply below_drew1 | refine below_set ?_ GE272.out | refine below_set ?_ GE273.out | refine below_set ?_ GE286.out | refine below_set ?_ GE288.out) | exact HB.out))
         (case side2 => exact Kd.R_tight rfl HO298.out)
         (case side3 => exact fun k_ e_ => (HO298.out.1 k_ e_.symm).2.1)
         (case side4 => exact Kd.R_tight rfl HO_287003.out)
         (case side5 => exact fun k_ e_ => (HO_287003.out.1 k_ e_.symm).2.1)
         (case side6 => exact Kd.C_kept_ownQ ((Kd.Q_apart' (Kd.Q_apart' HO_287004.out (Kd.R_typed HO298.out) (by decide)) (Kd.R_typed HO_287003.out) (by decide))) (fun k_ hk_ hs_ => Or.elim hs_ (fun e_ => (hk_.1.2) e_) (fun e_ => (hk_.2) e_)))
         (case side7 => exact (Kd.Q_reads' HO_287004.out).2.1)
         rintro e w46 ⟨v303, v306, v309, rfl, ho0, ho1, ho2, hb, hkp⟩
         refine ⟨_, rfl, ?_⟩
         have n0_ := Aside0.mk (Kd.R_mono (ok' := fun k_ => k_ ≠ gb288 ∧ some k_ ≠ (v303 : Value).ownBlock ∧ some k_ ≠ (v306 : Value).ownBlock) (Kd.R_keptB (HO_287002.out) hkp (fun k_ hk_ hs_ => Or.elim hs_ (fun e_ => (hk_.2.1) e_) (fun e_ => (hk_.1) e_))) (fun k_ hk_ => ⟨hk_.1.2.2, fun e_ => Or.elim (ho0.1 k_ e_.symm).1 (fun hs_ => hk_.2.1 hs_) (fun hn_ => Nat.not_le.2 hk_.2.2 hn_), fun e_ => Or.elim (ho1.1 k_ e_.symm).1 (fun hs_ => hk_.2.1 hs_) (fun hn_ => Nat.not_le.2 hk_.2.2 hn_)⟩))
         have n1_ := Aside0.mk (Kd.Q_mono (ok' := fun k_ => some k_ ≠ (v309 : Value).ownBlock) (Kd.Q_keptB ((Kd.Q_apart' (Kd.Q_apart' HO_287004.out (Kd.R_typed HO298.out) (by decide)) (Kd.R_typed HO_287003.out) (by decide))) hkp (fun k_ hk_ hs_ => Or.elim hs_ (fun e_ => (hk_.1.2) e_) (fun e_ => (hk_.2) e_))) (fun k_ hk_ => fun e_ => Or.elim (ho2.1 k_ e_.symm) (fun hs_ => hk_.2.1 hs_) (fun hn_ => Nat.not_le.2 hk_.2.2 hn_)))
         have n2_ := Aside0.mk (blk_kept (bk BK272) hkp (fun hs_ => Or.elim hs_ (fun e_ => (fun e_ => (Kd.R_ne HO298.out BK272.out (by decide)) e_) e_) (fun e_ => (fun e_ => (Kd.R_ne HO_287003.out BK272.out (by decide)) e_) e_)))
         have n3_ := Aside0.mk (blk_kept (bk BK273) hkp (fun hs_ => Or.elim hs_ (fun e_ => (fun e_ => (Kd.R_ne HO298.out BK273.out (by decide)) e_) e_) (fun e_ => (fun e_ => (Kd.R_ne HO_287003.out BK273.out (by decide)) e_) e_)))
         have n4_ := Aside0.mk (blk_kept (bk BK286) hkp (fun hs_ => Or.elim hs_ (fun e_ => (fun e_ => (Kd.R_ne HO298.out BK286.out (by decide)) e_) e_) (fun e_ => (fun e_ => (Kd.R_ne HO_287003.out BK286.out (by decide)) e_) e_)))
         have n5_ := Aside0.mk (blk_kept (bk BK288) hkp (fun hs_ => Or.elim hs_ (fun e_ => (fun e_ => (Kd.R_away HO298.out (fun _ hk => hk.2.2)) e_) e_) (fun e_ => (fun e_ => (Kd.R_away HO_287003.out (fun _ hk => hk.2.2)) e_) e_)))
         have n6_ := Aside0.mk (Kd.R_mono (ok' := fun k_ => some k_ ≠ (v306 : Value).ownBlock ∧ some k_ ≠ (.slice (some ad287) x287002_1.length co29 : Value).ownBlock ∧ k_ ≠ gb288) ho0 (fun k_ hk_ => ⟨hk_.2, Or.elim hk_.1 (fun hs_ => Or.elim hs_ (fun hs_ => fun e_ => (((HO_287002.out).1 k_ e_.symm).2.1) hs_) (fun hs_ => fun e_ => (((HO_287002.out).1 k_ e_.symm).1) hs_)) (fun hn_ => (Kd.fresh' (Kd.R_lt (ro HO_287002)) k_ hn_)), Or.elim hk_.1 (fun hs_ => Or.elim hs_ (fun hs_ => fun e_ => (Kd.R_away HO298.out (fun _ hk => hk.2.2)) (by rw [← e_]; exact hs_)) (fun hs_ => fun e_ => (Kd.R_away HO_287003.out (fun _ hk => hk.2.2)) (by rw [← e_]; exact hs_))) (fun hn_ => (Kd.freshB (g := gb288) (o := .cells #[.string ((rd_T68 x287002_1 0).f0), .string ((rd_T68 x287002_1 0).f1), .int .i64 ((rd_T68 x287002_1 0).f2)] 68 (0, 0)) (bk BK288) k_ hn_))⟩))
         have n7_ := Aside0.mk (Kd.R_mono (ok' := fun k_ => some k_ ≠ (v303 : Value).ownBlock ∧ some k_ ≠ (.slice (some ad287) x287002_1.length co29 : Value).ownBlock ∧ k_ ≠ gb288) ho1 (fun k_ hk_ => ⟨hk_.2, Or.elim hk_.1 (fun hs_ => Or.elim hs_ (fun hs_ => fun e_ => (((HO_287002.out).1 k_ e_.symm).2.1) hs_) (fun hs_ => fun e_ => (((HO_287002.out).1 k_ e_.symm).1) hs_)) (fun hn_ => (Kd.fresh' (Kd.R_lt (ro HO_287002)) k_ hn_)), Or.elim hk_.1 (fun hs_ => Or.elim hs_ (fun hs_ => fun e_ => (Kd.R_away HO298.out (fun _ hk => hk.2.2)) (by rw [← e_]; exact hs_)) (fun hs_ => fun e_ => (Kd.R_away HO_287003.out (fun _ hk => hk.2.2)) (by rw [← e_]; exact hs_))) (fun hn_ => (Kd.freshB (g := gb288) (o := .cells #[.string ((rd_T68 x287002_1 0).f0), .string ((rd_T68 x287002_1 0).f1), .int .i64 ((rd_T68 x287002_1 0).f2)] 68 (0, 0)) (bk BK288) k_ hn_))⟩))
         have n8_ := Aside0.mk (Kd.Q_mono (ok' := fun k_ => nb k_ Ao18 t283.length co18) ho2 (fun k_ hk_ => Or.elim hk_ (fun hs_ => Or.elim hs_ (fun hs_ => fun e_ => ((((Kd.Q_apart' (Kd.Q_apart' HO_287004.out (Kd.R_typed HO298.out) (by decide)) (Kd.R_typed HO_287003.out) (by decide))).1 k_ e_.symm).1.2) hs_) (fun hs_ => fun e_ => ((((Kd.Q_apart' (Kd.Q_apart' HO_287004.out (Kd.R_typed HO298.out) (by decide)) (Kd.R_typed HO_287003.out) (by decide))).1 k_ e_.symm).2) hs_)) (fun hn_ => (Kd.fresh' (Kd.Q_lt (qo HO_287004)) k_ hn_))))
         have n9_ := Aside0.mk (hb)
         clear HO_287002
         clear HO_287004
         clear BK272
         clear BK273
         clear BK286
         clear BK288
         clear HB
         clear HO298
         clear HO_287003
         have HO_287002 := n0_
         have HO_287004 := n1_
         have BK272 := n2_
         have BK273 := n3_
         have BK286 := n4_
         have BK288 := n5_
         have HO304 := n6_
         have HO307 := n7_
         have HO310 := n8_
         have HB := n9_
         clear n0_ n1_ n2_ n3_ n4_ n5_ n6_ n7_ n8_ n9_
         (try clear hb)
         (try clear hkp)
         (try clear ho0)
         (try clear ho1)
         (try clear ho2)
         obtain ⟨Ao49, co49, eo49⟩ := Kd.R_slice HO304.out
         (first | subst eo49 | (injection eo49 with f1_ f2_ f3_; have f4_ := f1_.symm; have f5_ := f3_.symm; clear f1_ f2_ f3_; subst f4_; subst f5_))
         obtain ⟨Ao51, co51, eo51⟩ := Kd.R_slice HO307.out
         (first | subst eo51 | (injection eo51 with f1_ f2_ f3_; have f4_ := f1_.symm; have f5_ := f3_.symm; clear f1_ f2_ f3_; subst f4_; subst f5_))
         obtain ⟨Ao53, co53, eo53, _⟩ := Kd.Q_slice HO310.out
         (first | subst eo53 | (injection eo53 with f1_ f2_ f3_; have f4_ := f1_.symm; have f5_ := f3_.symm; clear f1_ f2_ f3_; subst f4_; subst f5_))
         refine hK.out _ _ ⟨bc0 BK286, bc1 BK286, bc2 BK286, bc3 BK286, bc4 BK286, bc0 BK288, bc1 BK288, bc2 BK288⟩ (fun hHeld => ?_)
         clear hK K
         refine norm_ (a' := ?_) ?_ ?_
         rotate_left
         ·show Act.put _ (some 34) _ = _
          simp only [aP]
          rfl
         refine one_ (i := 7) (N := none) (bv 10 0xff) rfl rfl (one_of HT_.out (by kernel_rfl)) (by decide) (fun K hK => ?_)
         have hs47 : w46.cell? ⟨gb273, 0, none⟩ = some (.int .i64 x274000_1) := bc0 BK273
         have hfs47 := blk_frozen BK273.out 0
         have hns47_0 := NB272_273.out
         have hns47_2 := NB286_273.out
         have hns47_3 := NB288_273.out
         have hms47_0 := NB273_272.out
         have hms47_2 := NB273_286.out
         have hms47_3 := NB273_288.out
         have hs48 : w46.cell? ⟨gb273, 1, none⟩ = some (.int .i64 x274001_1) := bc1 BK273
         have hfs48 := blk_frozen BK273.out 1
         have hns48_0 := NB272_273.out
         have hns48_2 := NB286_273.out
         have hns48_3 := NB288_273.out
         have hms48_0 := NB273_272.out
         have hms48_2 := NB273_286.out
         have hms48_3 := NB273_288.out
         have hs50 : w46.cell? ⟨gb273, 2, none⟩ = some (.slice none 0 0) := bc2 BK273
         have hfs50 := blk_frozen BK273.out 2
         have hns50_0 := NB272_273.out
         have hns50_2 := NB286_273.out
         have hns50_3 := NB288_273.out
         have hms50_0 := NB273_272.out
         have hms50_2 := NB273_286.out
         have hms50_3 := NB273_288.out
         have hs52 : w46.cell? ⟨gb273, 3, none⟩ = some (.slice none 0 0) := bc3 BK273
         have hfs52 := blk_frozen BK273.out 3
         have hns52_0 := NB272_273.out
         have hns52_2 := NB286_273.out
         have hns52_3 := NB288_273.out
         have hms52_0 := NB273_272.out
         have hms52_2 := NB273_286.out
         have hms52_3 := NB273_288.out
         have hs54 : w46.cell? ⟨gb273, 4, none⟩ = some (.slice none 0 0) := bc4 BK273
         have hfs54 := blk_frozen BK273.out 4
         have hns54_0 := NB272_273.out
         have hns54_2 := NB286_273.out
         have hns54_3 := NB288_273.out
         have hms54_0 := NB273_272.out
         have hms54_2 := NB273_286.out
         have hms54_3 := NB273_288.out
         refine skip_ (w1 := ?_) (by rfl) rfl ?_ ?_
         rotate_left
         ·go_simp
          rfl
         refine hK.out _ _ ⟨((cell_far (p := ⟨gb273, _, none⟩) NB286_273.out _).trans (((cell_far (p := ⟨gb273, _, none⟩) NB286_273.out _).trans (((cell_far (p := ⟨gb273, _, none⟩) NB286_273.out _).trans (((cell_far (p := ⟨gb273, _, none⟩) NB286_273.out _).trans (((cell_far (p := ⟨gb273, _, none⟩) NB286_273.out _).trans (hHeld.1)))))))))), ((cell_far (p := ⟨gb273, _, none⟩) NB286_273.out _).trans (((cell_far (p := ⟨gb273, _, none⟩) NB286_273.out _).trans (((cell_far (p := ⟨gb273, _, none⟩) NB286_273.out _).trans (((cell_far (p := ⟨gb273, _, none⟩) NB286_273.out _).trans (((cell_far (p := ⟨gb273, _, none⟩) NB286_273.out _).trans (hHeld.2.1)))))))))), ((cell_far (p := ⟨gb273, _, none⟩) NB286_273.out _).trans (((cell_far (p := ⟨gb273, _, none⟩) NB286_273.out _).trans (((cell_far (p := ⟨gb273, _, none⟩) NB286_273.out _).trans (((cell_far (p := ⟨gb273, _, none⟩) NB286_273.out _).trans (((cell_far (p := ⟨gb273, _, none⟩) NB286_273.out _).trans (hHeld.2.2.1)))))))))), ((cell_far (p := ⟨gb273, _, none⟩) NB286_273.out _).trans (((cell_far (p := ⟨gb273, _, none⟩) NB286_273.out _).trans (((cell_far (p := ⟨gb273, _, none⟩) NB286_273.out _).trans (((cell_far (p := ⟨gb273, _, none⟩) NB286_273.out _).trans (((cell_far (p := ⟨gb273, _, none⟩) NB286_273.out _).trans (hHeld.2.2.2.1)))))))))), ((cell_far (p := ⟨gb273, _, none⟩) NB286_273.out _).trans (((cell_far (p := ⟨gb273, _, none⟩) NB286_273.out _).trans (((cell_far (p := ⟨gb273, _, none⟩) NB286_273.out _).trans (((cell_far (p := ⟨gb273, _, none⟩) NB286_273.out _).trans (((cell_far (p := ⟨gb273, _, none⟩) NB286_273.out _).trans (hHeld.2.2.2.2.1)))))))))), ((cell_far (p := ⟨gb273, _, none⟩) NB288_273.out _).trans (((cell_far (p := ⟨gb273, _, none⟩) NB288_273.out _).trans (((cell_far (p := ⟨gb273, _, none⟩) NB288_273.out _).trans (((cell_far (p := ⟨gb273, _, none⟩) NB288_273.out _).trans (((cell_far (p := ⟨gb273, _, none⟩) NB288_273.out _).trans (hHeld.2.2.2.2.2.1)))))))))), ((cell_far (p := ⟨gb273, _, none⟩) NB288_273.out _).trans (((cell_far (p := ⟨gb273, _, none⟩) NB288_273.out _).trans (((cell_far (p := ⟨gb273, _, none⟩) NB288_273.out _).trans (((cell_far (p := ⟨gb273, _, none⟩) NB288_273.out _).trans (((cell_far (p := ⟨gb273, _, none⟩) NB288_273.out _).trans (hHeld.2.2.2.2.2.2.1)))))))))), ((cell_far (p := ⟨gb273, _, none⟩) NB288_273.out _).trans (((cell_far (p := ⟨gb273, _, none⟩) NB288_273.out _).trans (((cell_far (p := ⟨gb273, _, none⟩) NB288_273.out _).trans (((cell_far (p := ⟨gb273, _, none⟩) NB288_273.out _).trans (((cell_far (p := ⟨gb273, _, none⟩) NB288_273.out _).trans (hHeld.2.2.2.2.2.2.2))))))))))⟩ (fun hHeld => ?_)
         clear hK K
         refine py HT_ 8 3 (bv 10 0x1ff) ?_
         refine py HT_ 9 4 (bv 10 0x3ff) ?_
         refine done_ (done_of HT_.out (by kernel_rfl)) ?_
         try go_wp2
         refine bodyPost_ret (results_ctt rfl _ _ gb273 30 #[.int .i64 t300, .int .i64 t301, .slice Ao49 t302.length co49, .slice Ao51 t305.length co51, .slice Ao53 t308.length co53] (0, 0) _ rfl (bp BK273) Try.underlying30 rfl (by kernel_rfl)) rfl ?_
         exact ⟨_, _, _, er, by (with_reducible repeat (first | apply Kd.R_alloc | apply Kd.R_drewN | apply Kd.R_drew)); exact Kd.R_mono (Kd.R_far (p := ⟨gb273, 4, none⟩) (Kd.R_far (p := ⟨gb273, 3, none⟩) (Kd.R_far (p := ⟨gb273, 2, none⟩) (Kd.R_far (p := ⟨gb273, 1, none⟩) (Kd.R_far (p := ⟨gb273, 0, none⟩) (Kd.R_types HO304.out BK273.out (by decide)) (fun _ hk => hk.2) (.int .i64 t300)) (fun _ hk => hk.2) (.int .i64 t301)) (fun _ hk => hk.2) (.slice Ao49 t302.length co49)) (fun _ hk => hk.2) (.slice Ao51 t305.length co51)) (fun _ hk => hk.2) (.slice Ao53 t308.length co53)) (fun _ hk => hk.1.1), by (with_reducible repeat (first | apply Kd.R_alloc | apply Kd.R_drewN | apply Kd.R_drew)); exact Kd.R_mono (Kd.R_far (p := ⟨gb273, 4, none⟩) (Kd.R_far (p := ⟨gb273, 3, none⟩) (Kd.R_far (p := ⟨gb273, 2, none⟩) (Kd.R_far (p := ⟨gb273, 1, none⟩) (Kd.R_far (p := ⟨gb273, 0, none⟩) (Kd.R_types HO307.out BK273.out (by decide)) (fun _ hk => hk.2) (.int .i64 t300)) (fun _ hk => hk.2) (.int .i64 t301)) (fun _ hk => hk.2) (.slice Ao49 t302.length co49)) (fun _ hk => hk.2) (.slice Ao51 t305.length co51)) (fun _ hk => hk.2) (.slice Ao53 t308.length co53)) (fun _ hk => hk.1.1), by (with_reducible repeat (first | apply Kd.Q_alloc | apply Kd.Q_drewN | apply Kd.Q_drew)); exact Kd.Q_mono (Kd.Q_far (p := ⟨gb273, 4, none⟩) (Kd.Q_far (p := ⟨gb273, 3, none⟩) (Kd.Q_far (p := ⟨gb273, 2, none⟩) (Kd.Q_far (p := ⟨gb273, 1, none⟩) (Kd.Q_far (p := ⟨gb273, 0, none⟩) (Kd.Q_types HO310.out BK273.out (by decide)) (fun _ hk => hk.2) (.int .i64 t300)) (fun _ hk => hk.2) (.int .i64 t301)) (fun _ hk => hk.2) (.slice Ao49 t302.length co49)) (fun _ hk => hk.2) (.slice Ao51 t305.length co51)) (fun _ hk => hk.2) (.slice Ao53 t308.length co53)) (fun _ hk => trivial), be4 HB GE272 GE273 GE286 GE288⟩
        rw [if_neg c23] at H
        have c23b0 : decide (((rd_T68 x287002_1 0).f2) ≤ 1) = false := decide_eq_false c23
        clear c23
        by_cases c55 : x287003_1.length < 3518437208883
        ·rw [if_pos c55] at H
         have LMc55 := Aside0.mk c55
         clear c55
         obtain ⟨y311, hy311⟩ : ∃ y_ : List (S68), y_ = (x287003_1 ++ [(⟨(rd_T68 x287002_1 0).f0, (rd_T68 x287002_1 0).f1, 0⟩ : S68)]) := ⟨_, rfl⟩
         replace H : (spec_EvictSmall.l0 k1 t275 t276 y296 y311 t283) = some (r1, r2, r3, r4, r5, r6, r7) := by first | (rw [hy311]; with_reducible exact H) | (have H2_ := (Option.bind_some _ _).symm.trans H; rw [hy311]; with_reducible exact H2_) | (have H2_ := (Option.bind_some _ _).symm.trans H; with_reducible exact H2_) | with_reducible exact H | (rw [hy311]; exact H) | exact H
         have Ny311 := Aside0.mk hy311
         clear hy311
         have H' := Aside0.mk H
         clear H
         have hnb56 := NB286_272.out
         have hnc56 := NB272_286.out
         have hnb57 := NB286_273.out
         have hnc57 := NB273_286.out
         have hcz58_0 := bz5 BK286
         obtain ⟨Ao59, co59, eo59⟩ := Kd.R_slice HO_287002.out
         subst eo59
         have p287 : 0 ≤ (0 : Int) := (by omega)
         have q287 : 0 < (x287002_1.length : Int) := od
         obtain ⟨ad287, e287, hx287_0, hx287_1, hx287_2⟩ := at_T68 (Kd.R_reads' HO_287002.out).2.2 0 p287 q287
         cases e287
         have qi287 : (0 < x287002_1.length) = True := eq_true (by omega)
         (try rw [show ((0 : Int)).toNat = 0 from rfl] at hx287_0)
         (try rw [show 0 * 3 = 0 from rfl] at hx287_0)
         (try rw [Addr.add_zero'] at hx287_0)
         (try rw [show ((0 : Int)).toNat = 0 from rfl] at hx287_1)
         (try rw [show 0 * 3 = 0 from rfl] at hx287_1)
         (try rw [Addr.add_zero'] at hx287_1)
         (try rw [show ((0 : Int)).toNat = 0 from rfl] at hx287_2)
         (try rw [show 0 * 3 = 0 from rfl] at hx287_2)
         (try rw [Addr.add_zero'] at hx287_2)
         replace p287 := eq_true p287
         replace q287 := eq_true q287
         go_wp2_with (first | ((with_reducible refine gate_dst (N := 6) rfl ?_); refine bx 6 #[.string (⟨#[]⟩ : ByteArray), .string (⟨#[]⟩ : ByteArray), .int .i64 0] 68 ?_; intro gb288 hg w60 hbox hb; replace HO_287002 := Aside0.mk (Kd.R_below (Kd.R_elderB (ro HO_287002) gb288 (Nat.le_of_eq hg.symm)) hb); replace HO_287003 := Aside0.mk (Kd.R_below (Kd.R_elderB (ro HO_287003) gb288 (Nat.le_of_eq hg.symm)) hb); replace HO_287004 := Aside0.mk (Kd.Q_below (qo HO_287004) hb); have BK288 := am hbox; have GW288 := Aside0.mk ((by rw [hg]; exact (below_size (be3 HB GE272 GE273 GE286)) : w.heap.size ≤ gb288)); have GE288 := Aside0.mk ((by rw [hg]; exact (below_size (be3 HB GE272 GE273 GE286)) : w.heap.size ≤ gb288)); replace HB := Aside0.mk (below_step (be3 HB GE272 GE273 GE286) hb); have NB272_288 := nl hg BK272; have NB288_272 := ng hg BK272; replace BK272 := bb BK272 hb; have NB273_288 := nl hg BK273; have NB288_273 := ng hg BK273; replace BK273 := bb BK273 hb; have NB286_288 := nl hg BK286; have NB288_286 := ng hg BK286; replace BK286 := bb BK286 hb; clear hb hbox hg; have hnb61 := NB288_272.out; have hnc61 := NB272_288.out; have hnb62 := NB288_273.out; have hnc62 := NB273_288.out; have hnb63 := NB288_286.out; have hnc63 := NB286_288.out; have hcz64_0 := bz3 BK288) | ((with_reducible refine gate_dst (N := 21) rfl ?_); refine Kd.R_lit k68 _ 68 ?hg (N := 21) ?hd (xs := ([] : List (S68))) (inner := []) (ok := fun _ => True) (okp := fun _ => True) ?hr ?hp (fun _ hk => hk) trivial (Below.refl _ _) (Nat.le_refl _) (by simp) ?_; (case hd => rfl); (case hg => rfl); (case hr => first | (go_simp; done) | (go_simp; rfl)); (case hp => exact (Reps.none _ _)); intro v290 w65 ho66 hb hg_ hnew_; clear hg_ hnew_; (first | rw [← Ny289.out] at ho66 | (simp only [Int.reduceToNat] at ho66; rw [← Ny289.out] at ho66)); replace HO_287004 := Aside0.mk (Kd.Q_below (qf HO_287004 BK288) hb); have HO291 := Aside0.mk (Kd.R_lower (Kd.R_newB (Kd.R_new' (Kd.R_new' ho66 (Kd.R_lt (rgs gb288 HO_287002))) (Kd.R_lt (rgs gb288 HO_287003))) (g := gb288) (o := .cells #[.string ((rd_T68 x287002_1 0).f0), .string ((rd_T68 x287002_1 0).f1), .int .i64 ((rd_T68 x287002_1 0).f2)] 68 (0, 0)) (bp BK288)) (below_size (be4 HB GE272 GE273 GE286 GE288))); replace HO_287002 := Aside0.mk (Kd.R_elder' (rgs gb288 HO_287002) (Kd.R_base ho66) hb); replace HO_287003 := Aside0.mk (Kd.R_elder' (rgs gb288 HO_287003) (Kd.R_base ho66) hb); replace BK272 := Aside0.mk (blk_below (g := gb272) (o := .cells #[.int .i64 a0_0, .int .i64 a0_1, .slice A0_2 l0_2.length c0_2, .slice A0_3 l0_3.length c0_3, .slice A0_4 l0_4.length c0_4] 30 (0, 0)) (bf1 BK272 NB272_288) hb); replace BK273 := Aside0.mk (blk_below (g := gb273) (o := .cells #[.int .i64 x274000_1, .int .i64 x274001_1, .slice none 0 0, .slice none 0 0, .slice none 0 0] 30 (0, 0)) (bf1 BK273 NB273_288) hb); replace BK286 := Aside0.mk (blk_below (g := gb286) (o := .cells #[.int .i64 t275, .int .i64 t276, .slice (some ad287) x287002_1.length co59, u287003, .slice Ao18 t283.length co18] 30 (0, 0)) (bf1 BK286 NB286_288) hb); replace BK288 := Aside0.mk (blk_below (g := gb288) (o := .cells #[.string ((rd_T68 x287002_1 0).f0), .string ((rd_T68 x287002_1 0).f1), .int .i64 ((rd_T68 x287002_1 0).f2)] 68 (0, 0)) (bp BK288) hb); replace HB := Aside0.mk (below_step (be4 HB GE272 GE273 GE286 GE288) hb); clear hb ho66; have hcz67_0 := bz5 BK286; have q68 : (1 : Int) ≤ ((x287002_1.length : Int) : Int) := od; obtain ⟨i068, hi068, _, hsz68, _⟩ := info_parts info68; have hroom68 : x287002_1.length ≤ co59 := (Kd.R_reads' HO_287002.out).2.1; have hC68 : Kd.C k68 _ (some ad287) x287002_1.length x287002_1 := (Kd.R_reads' HO_287002.out).2.2; have hcut68 := cut_from (P := Try.prog) 28 68 .i64 Try.underlying28 hi068 3 hsz68 (some ad287) x287002_1.length co59 1 (by omega) q68; have hr68 := Kd.C_drop (m := (1 : Int).toNat) (c := co59) hC68 (by omega) hroom68; obtain ⟨A68, hA68⟩ : ∃ A1, A1 = (if co59 = (1 : Int).toNat then (some ad287) else ((some ad287) : Option Addr).map (·.add ((1 : Int).toNat * 3))) := ⟨_, rfl⟩; obtain ⟨c68, hc68⟩ : ∃ c1, c1 = co59 - (1 : Int).toNat := ⟨_, rfl⟩; have hy68 : y292.length = x287002_1.length - (1 : Int).toNat := (by rw [Ny292.out, List.length_drop] <;> omega); rw [show (x287002_1).drop (1 : Int).toNat = y292 from Ny292.out.symm] at hr68; replace hr68 : Kd.C k68 _ A68 y292.length y292 := (by rw [hA68]; exact hr68); rw [← hy68, ← hA68, ← hc68] at hcut68; have HR295 := Aside0.mk hr68; have HC295 := Aside0.mk (show y292.length ≤ c68 from by rw [hy68, hc68]; exact Nat.sub_le_sub_right hroom68 _); clear hr68 hC68 hroom68 hi068 hsz68 hc68; have KY68 := Aside0.mk hy68; have KA68 := Aside0.mk hA68; clear hy68 hA68; have KL68 := Aside0.mk (show 1 ≤ x287002_1.length from by omega); replace q68 := eq_true q68) | ((with_reducible refine gate_builtin (b := .append) (xs := #[.tmp 21, .tmp 24]) rfl ?_); at_builtin; refine Kd.R_append_rows k68 (w0 := w) w.heap.size rfl (.tmp 21) (.tmp 24) 28 68 (.agg #[(.string ⟨#[]⟩), (.string ⟨#[]⟩), (.int .i64 0)]) 40 rfl Try.underlying28 info68 rfl (by decide) (by omega) v290 y289 y292 _ _ _ (fun k_ => some k_ ≠ (.slice (some ad287) x287002_1.length co59 : Value).ownBlock ∧ some k_ ≠ (u287003 : Value).ownBlock ∧ k_ ≠ gb288) (fun _ => False) rfl rfl ?aO ?aR (fun _ _ h => h) (fun _ h => h.elim) ?aF ?aB ?aS ?aL ?_; (case aR => repeat (first | exact (by repeat (first | (with_reducible exact HR295.out) | (with_reducible refine Kd.C_alloc ?_ _) | (with_reducible refine Kd.C_drewN ?_ _) | (with_reducible refine Kd.C_drew ?_) | exact HR295.out)) | (with_reducible refine Kd.C_alloc ?_ _) | (with_reducible refine Kd.C_drewN ?_ _) | (with_reducible refine Kd.C_drew ?_))); (case aB => exact (be4 HB GE272 GE273 GE286 GE288)); (case aF => exact (fun k_ hk => ⟨Kd.fresh' (Kd.R_lt (ro HO_287002)) k_ hk, Kd.fresh' (Kd.R_lt (ro HO_287003)) k_ hk, Kd.freshB (g := gb288) (o := .cells #[.string ((rd_T68 x287002_1 0).f0), .string ((rd_T68 x287002_1 0).f1), .int .i64 ((rd_T68 x287002_1 0).f2)] 68 (0, 0)) (bk BK288) k_ hk⟩)); (case aO => exact (by (with_reducible repeat (first | apply Kd.R_alloc | apply Kd.R_drewN | apply Kd.R_drew)); exact rm HO291)); (case aS => exact (below_size (be4 HB GE272 GE273 GE286 GE288))); (case aL => have := LMc22.out; omega); intro v297 w69 ho hb hg hat; rw [← Ny296.out] at ho; replace HO_287003 := Aside0.mk (Kd.R_after (ok := (fun k_ => some k_ ≠ (.slice (some ad287) x287002_1.length co59 : Value).ownBlock ∧ k_ ≠ gb288)) (ro HO_287003) hg hat); replace HO_287004 := Aside0.mk (Kd.Q_over' (qo HO_287004) (Kd.R_typed (ro HO291)) (by decide) hg); replace BK272 := Aside0.mk (blk_grown (g := gb272) (o := .cells #[.int .i64 a0_0, .int .i64 a0_1, .slice A0_2 l0_2.length c0_2, .slice A0_3 l0_3.length c0_3, .slice A0_4 l0_4.length c0_4] 30 (0, 0)) (bk BK272) hg (Kd.R_ne HO291.out BK272.out (by decide))); replace BK273 := Aside0.mk (blk_grown (g := gb273) (o := .cells #[.int .i64 x274000_1, .int .i64 x274001_1, .slice none 0 0, .slice none 0 0, .slice none 0 0] 30 (0, 0)) (bk BK273) hg (Kd.R_ne HO291.out BK273.out (by decide))); replace BK286 := Aside0.mk (blk_grown (g := gb286) (o := .cells #[.int .i64 t275, .int .i64 t276, .slice (some ad287) x287002_1.length co59, u287003, .slice Ao18 t283.length co18] 30 (0, 0)) (bk BK286) hg (Kd.R_ne HO291.out BK286.out (by decide))); replace BK288 := Aside0.mk (blk_grown (g := gb288) (o := .cells #[.string ((rd_T68 x287002_1 0).f0), .string ((rd_T68 x287002_1 0).f1), .int .i64 ((rd_T68 x287002_1 0).f2)] 68 (0, 0)) (bk BK288) hg (Kd.R_away HO291.out (fun _ hk => hk.2))); replace HB := Aside0.mk (hb); replace HR295 := Aside0.mk ((show Kd.C k68 w69 A68 y292.length y292 from by rw [Ny292.out, KA68.out]; exact Kd.C_drop (m := 1) (c := co59) ((Kd.R_reads' (Kd.R_after (ok := (fun k_ => some k_ ≠ (u287003 : Value).ownBlock ∧ k_ ≠ gb288)) (ro HO_287002) hg hat)).2.2) KL68.out ((Kd.R_reads' (Kd.R_after (ok := (fun k_ => some k_ ≠ (u287003 : Value).ownBlock ∧ k_ ≠ gb288)) (ro HO_287002) hg hat)).2.1))); replace HO_287002 := Aside0.mk (Kd.R_after (ok := (fun k_ => some k_ ≠ (u287003 : Value).ownBlock ∧ k_ ≠ gb288)) (ro HO_287002) hg hat); have HO298 := Aside0.mk (ho); clear HO291; clear ho hb hg hat; obtain ⟨Ao70, co70, eo70⟩ := Kd.R_slice HO298.out; subst eo70; have hcz71_0 := bz5 BK286; have hcz72_0 := bz3 BK288) | ((with_reducible refine gate_builtin (b := .append) (xs := #[.tmp 39, .tmp 41]) rfl ?_); at_builtin; refine Kd.R_append k68 (w0 := w) w.heap.size rfl (.tmp 39) (.tmp 41) 28 68 (.agg #[(.string ⟨#[]⟩), (.string ⟨#[]⟩), (.int .i64 0)]) 40 rfl Try.underlying28 info68 rfl (by decide) (by omega) u287003 x287003_1 (⟨(rd_T68 x287002_1 0).f0, (rd_T68 x287002_1 0).f1, 0⟩ : S68) [.string ((rd_T68 x287002_1 0).f0), .string ((rd_T68 x287002_1 0).f1), .int .i64 0] (fun k_ => some k_ ≠ (.slice (some ad287) x287002_1.length co59 : Value).ownBlock ∧ nb k_ Ao70 y296.length co70 ∧ k_ ≠ gb288) (fun _ => False) rfl (by first | (go_simp; done) | (go_simp; rfl)) ?aP (fun _ hk => hk.elim) ?aF ?aO ?aB ?aS ?aL ?_; (case aP => exact k68_mkM _ _ _ (⟨(rd_T68 x287002_1 0).f0, (rd_T68 x287002_1 0).f1, 0⟩ : S68)); (case aB => exact (be4 HB GE272 GE273 GE286 GE288)); (case aF => exact (fun k_ hk => ⟨Kd.fresh' (Kd.R_lt (by (with_reducible repeat (first | apply Kd.R_alloc | apply Kd.R_drewN | apply Kd.R_drew)); exact (Kd.R_mono (Kd.R_mono (Kd.R_far (p := ⟨gb288, 2, none⟩) (Kd.R_far (p := ⟨gb286, 2, none⟩) (Kd.R_mono (Kd.R_types HO_287002.out BK286.out (by decide)) (fun k_ hk => (⟨hk, hk.1.1.2⟩ : _ ∧ k_ ≠ gb288))) (fun _ hk => hk.1.2) (.slice Ao70 y296.length co70)) (fun _ hk => hk.2) (.int .i64 0)) (fun _ h_ => h_.1)) (fun _ h_ => h_.1)))) k_ hk, Kd.fresh' (Kd.R_lt (by (with_reducible repeat (first | apply Kd.R_alloc | apply Kd.R_drewN | apply Kd.R_drew)); exact (Kd.R_mono (Kd.R_mono (Kd.R_far (p := ⟨gb288, 2, none⟩) (Kd.R_far (p := ⟨gb286, 2, none⟩) (Kd.R_mono (Kd.R_types HO298.out BK286.out (by decide)) (fun k_ hk => (⟨hk, hk.1.2.2⟩ : _ ∧ k_ ≠ gb288))) (fun _ hk => hk.1.2) (.slice Ao70 y296.length co70)) (fun _ hk => hk.2) (.int .i64 0)) (fun _ h_ => h_.1)) (fun _ h_ => h_.1)))) k_ hk, Kd.freshB (g := gb288) (o := .cells #[.string ((rd_T68 x287002_1 0).f0), .string ((rd_T68 x287002_1 0).f1), .int .i64 0] 68 (0, 0)) (bp1 BK288 NB288_286) k_ hk⟩)); (case aO => exact (by (with_reducible repeat (first | apply Kd.R_alloc | apply Kd.R_drewN | apply Kd.R_drew)); exact Kd.R_mono (Kd.R_far (p := ⟨gb288, 2, none⟩) (Kd.R_far (p := ⟨gb286, 2, none⟩) (Kd.R_mono (Kd.R_types HO_287003.out BK286.out (by decide)) (fun k_ hk => (⟨hk, hk.1.1.2⟩ : _ ∧ k_ ≠ gb288))) (fun _ hk => hk.1.2) (.slice Ao70 y296.length co70)) (fun _ hk => hk.2) (.int .i64 0)) (fun _ hk => ⟨hk.1.1.1.1, ⟨hk.1.1.2, hk.1.1.1.2⟩⟩))); (case aS => exact (below_size (be4 HB GE272 GE273 GE286 GE288))); (case aL => have := LMc55.out; omega); intro v312 w73 ho hb hg hat; rw [← Ny311.out] at ho; replace HO_287004 := Aside0.mk (Kd.Q_over' (by (with_reducible repeat (first | apply Kd.Q_alloc | apply Kd.Q_drewN | apply Kd.Q_drew)); exact (Kd.Q_mono (Kd.Q_mono (Kd.Q_far (p := ⟨gb288, 2, none⟩) (Kd.Q_far (p := ⟨gb286, 2, none⟩) (Kd.Q_types (Kd.Q_types HO_287004.out BK286.out (by decide)) BK288.out (by decide)) (fun _ hk => hk.1.2) (.slice Ao70 y296.length co70)) (fun _ hk => hk.2) (.int .i64 0)) (fun _ h_ => h_.1)) (fun _ h_ => h_.1))) (Kd.R_typed (by (with_reducible repeat (first | apply Kd.R_alloc | apply Kd.R_drewN | apply Kd.R_drew)); exact (Kd.R_mono (Kd.R_mono (Kd.R_far (p := ⟨gb288, 2, none⟩) (Kd.R_far (p := ⟨gb286, 2, none⟩) (Kd.R_mono (Kd.R_types HO_287003.out BK286.out (by decide)) (fun k_ hk => (⟨hk, hk.1.1.2⟩ : _ ∧ k_ ≠ gb288))) (fun _ hk => hk.1.2) (.slice Ao70 y296.length co70)) (fun _ hk => hk.2) (.int .i64 0)) (fun _ h_ => h_.1)) (fun _ h_ => h_.1)))) (by decide) hg); replace BK272 := Aside0.mk (blk_grown (g := gb272) (o := .cells #[.int .i64 a0_0, .int .i64 a0_1, .slice A0_2 l0_2.length c0_2, .slice A0_3 l0_3.length c0_3, .slice A0_4 l0_4.length c0_4] 30 (0, 0)) (bf2 BK272 NB272_288 NB272_286) hg (Kd.R_ne HO_287003.out BK272.out (by decide))); replace BK273 := Aside0.mk (blk_grown (g := gb273) (o := .cells #[.int .i64 x274000_1, .int .i64 x274001_1, .slice none 0 0, .slice none 0 0, .slice none 0 0] 30 (0, 0)) (bf2 BK273 NB273_288 NB273_286) hg (Kd.R_ne HO_287003.out BK273.out (by decide))); replace BK288 := Aside0.mk (blk_grown (g := gb288) (o := .cells #[.string ((rd_T68 x287002_1 0).f0), .string ((rd_T68 x287002_1 0).f1), .int .i64 0] 68 (0, 0)) (bp1 BK288 NB288_286) hg (Kd.R_away HO_287003.out (fun _ hk => hk.1.2))); replace HO298 := Aside0.mk (Kd.R_after (ok := (fun k_ => some k_ ≠ (.slice (some ad287) x287002_1.length co59 : Value).ownBlock ∧ k_ ≠ gb288)) (by (with_reducible repeat (first | apply Kd.R_alloc | apply Kd.R_drewN | apply Kd.R_drew)); exact Kd.R_mono (Kd.R_far (p := ⟨gb288, 2, none⟩) (Kd.R_far (p := ⟨gb286, 2, none⟩) (Kd.R_mono (Kd.R_types HO298.out BK286.out (by decide)) (fun k_ hk => (⟨hk, hk.1.2.2⟩ : _ ∧ k_ ≠ gb288))) (fun _ hk => hk.1.2) (.slice Ao70 y296.length co70)) (fun _ hk => hk.2) (.int .i64 0)) (fun _ hk => ⟨⟨hk.1.1.1, hk.1.1.2.2⟩, hk.1.1.2.1⟩)) hg hat); replace HB := Aside0.mk (hb); replace HR295 := Aside0.mk ((show Kd.C k68 w73 A68 y292.length y292 from by rw [Ny292.out, KA68.out]; exact Kd.C_drop (m := 1) (c := co59) ((Kd.R_reads' (Kd.R_after (ok := (fun k_ => nb k_ Ao70 y296.length co70 ∧ k_ ≠ gb288)) (by (with_reducible repeat (first | apply Kd.R_alloc | apply Kd.R_drewN | apply Kd.R_drew)); exact Kd.R_mono (Kd.R_far (p := ⟨gb288, 2, none⟩) (Kd.R_far (p := ⟨gb286, 2, none⟩) (Kd.R_mono (Kd.R_types HO_287002.out BK286.out (by decide)) (fun k_ hk => (⟨hk, hk.1.1.2⟩ : _ ∧ k_ ≠ gb288))) (fun _ hk => hk.1.2) (.slice Ao70 y296.length co70)) (fun _ hk => hk.2) (.int .i64 0)) (fun _ hk => ⟨⟨hk.1.1.2, hk.1.1.1.2⟩, hk.1.1.1.1⟩)) hg hat)).2.2) KL68.out ((Kd.R_reads' (Kd.R_after (ok := (fun k_ => nb k_ Ao70 y296.length co70 ∧ k_ ≠ gb288)) (by (with_reducible repeat (first | apply Kd.R_alloc | apply Kd.R_drewN | apply Kd.R_drew)); exact Kd.R_mono (Kd.R_far (p := ⟨gb288, 2, none⟩) (Kd.R_far (p := ⟨gb286, 2, none⟩) (Kd.R_mono (Kd.R_types HO_287002.out BK286.out (by decide)) (fun k_ hk => (⟨hk, hk.1.1.2⟩ : _ ∧ k_ ≠ gb288))) (fun _ hk => hk.1.2) (.slice Ao70 y296.length co70)) (fun _ hk => hk.2) (.int .i64 0)) (fun _ hk => ⟨⟨hk.1.1.2, hk.1.1.1.2⟩, hk.1.1.1.1⟩)) hg hat)).2.1))); replace HO_287002 := Aside0.mk (Kd.R_after (ok := (fun k_ => nb k_ Ao70 y296.length co70 ∧ k_ ≠ gb288)) (by (with_reducible repeat (first | apply Kd.R_alloc | apply Kd.R_drewN | apply Kd.R_drew)); exact Kd.R_mono (Kd.R_far (p := ⟨gb288, 2, none⟩) (Kd.R_far (p := ⟨gb286, 2, none⟩) (Kd.R_mono (Kd.R_types HO_287002.out BK286.out (by decide)) (fun k_ hk => (⟨hk, hk.1.1.2⟩ : _ ∧ k_ ≠ gb288))) (fun _ hk => hk.1.2) (.slice Ao70 y296.length co70)) (fun _ hk => hk.2) (.int .i64 0)) (fun _ hk => ⟨⟨hk.1.1.2, hk.1.1.1.2⟩, hk.1.1.1.1⟩)) hg hat); replace BK286 := Aside0.mk (blk_grown (g := gb286) (o := .cells #[.int .i64 t275, .int .i64 t276, .slice Ao70 y296.length co70, u287003, .slice Ao18 t283.length co18] 30 (0, 0)) (bp1 BK286 NB286_288) hg (Kd.R_ne HO_287003.out BK286.out (by decide))); have HO313 := Aside0.mk (ho); clear HO_287003; clear ho hb hg hat; obtain ⟨Ao74, co74, eo74⟩ := Kd.R_slice HO313.out; subst eo74; have hcz75_0 := bz5 BK286))
         go_roundg k1
         case measure => have := HK1.out; omega
         case rel => exact ⟨(x274000_1), (x274001_1), (y296), (y311), (.slice Ao70 y296.length co70), (.slice Ao74 y311.length co74), H', ⟨by have := HK1.out; omega⟩, ⟨(rfn HO298 BK286)⟩, ⟨(rfn HO313 BK286)⟩, ⟨(qfn HO_287004 BK286)⟩, ⟨(bp1 BK272 NB272_286)⟩, ⟨(bp1 BK273 NB273_286)⟩, ⟨(bp BK286)⟩, ⟨be4 HB GE272 GE273 GE286 GE288⟩⟩
        rw [if_neg c55] at H
        exact absurd H (by simp)
       rw [if_neg c22] at H
       exact absurd H (by simp)
      rw [if_neg c21] at H
      exact absurd H (by simp)
     rw [if_neg c20] at H
     exact absurd H (by simp)
    rw [if_neg c19] at H
    have c19b0 : decide (0 < (x287002_1.length : Int)) = false := decide_eq_false c19
    have c19b1 : decide (0 < x287002_1.length) = false := decide_eq_false (by omega)
    clear c19
    simp only [Option.some.injEq, Prod.mk.injEq] at H
    obtain ⟨rfl, rfl, rfl, rfl, rfl, rfl, rfl⟩ := H
    have hnb76 := NB286_272.out
    have hnc76 := NB272_286.out
    have hnb77 := NB286_273.out
    have hnc77 := NB273_286.out
    have hcz78_0 := bz5 BK286
    obtain ⟨Ao79, co79, eo79⟩ := Kd.R_slice HO_287002.out
    subst eo79
    have hnb80 := NB273_272.out
    have hnc80 := NB272_273.out
    have hcz81_0 := bz5 BK273
    obtain ⟨Ao82, co82, eo82⟩ := Kd.R_slice HO_287003.out
    subst eo82
    go_wp2
    refine bodyPost_ret (results_ctt rfl _ _ gb273 30 #[.int .i64 t275, .int .i64 t276, .slice Ao79 x287002_1.length co79, .slice Ao82 x287003_1.length co82, .slice Ao18 t283.length co18] (0, 0) _ rfl (bp BK273) Try.underlying30 rfl (by kernel_rfl)) rfl ?_
    exact ⟨_, _, _, er, (rf HO_287002 BK273), (rf HO_287003 BK273), by (with_reducible repeat (first | apply Kd.Q_alloc | apply Kd.Q_drewN | apply Kd.Q_drew)); exact Kd.Q_mono (Kd.Q_far (p := ⟨gb273, 4, none⟩) (Kd.Q_far (p := ⟨gb273, 3, none⟩) (Kd.Q_far (p := ⟨gb273, 2, none⟩) (Kd.Q_far (p := ⟨gb273, 1, none⟩) (Kd.Q_far (p := ⟨gb273, 0, none⟩) (Kd.Q_types HO_287004.out BK273.out (by decide)) (fun _ hk => hk.2) (.int .i64 t275)) (fun _ hk => hk.2) (.int .i64 t276)) (fun _ hk => hk.2) (.slice Ao79 x287002_1.length co79)) (fun _ hk => hk.2) (.slice Ao82 x287003_1.length co82)) (fun _ hk => hk.2) (.slice Ao18 t283.length co18)) (fun _ hk => trivial), be3 HB GE272 GE273 GE286⟩
 replace c3 := Bool.eq_false_iff.mpr c3
 subst c3
 have H1 : (some (0, 0, ([] : List (S68)), ([] : List (S68)), ([] : List Int), (⟨#[]⟩ : ByteArray), false)) = some (r1, r2, r3, r4, r5, r6, r7) := by rw [if_neg (show ¬ (false = true) by decide)] at H; exact H
 clear H
 have H := H1
 clear H1
 simp only [Option.some.injEq, Prod.mk.injEq] at H
 obtain ⟨rfl, rfl, rfl, rfl, rfl, rfl, rfl⟩ := H
 go_enter Try.func37, Try.ntmps37
 go_wp2_with (first | ((with_reducible refine gate_dst (N := 1) rfl ?_); refine bx 1 #[.int .i64 a0_0, .int .i64 a0_1, .slice A0_2 l0_2.length c0_2, .slice A0_3 l0_3.length c0_3, .slice A0_4 l0_4.length c0_4] 30 ?_; intro gb272 hg w83 hbox hb; have BK272 := am hbox; have GW272 := gs0 hg HB; have GE272 := gs0 hg HB; replace HB := s0 HB hb; clear hb hbox hg) | ((with_reducible refine gate_dst (N := 2) rfl ?_); refine bx 2 #[.int .i64 0, .int .i64 0, .slice none 0 0, .slice none 0 0, .slice none 0 0] 30 ?_; intro gb273 hg w84 hbox hb; have BK273 := am hbox; have GW273 := gs1 hg HB GE272; have GE273 := gs1 hg HB GE272; replace HB := Aside0.mk (below_step (be1 HB GE272) hb); have NB272_273 := nl hg BK272; have NB273_272 := ng hg BK272; replace BK272 := bb BK272 hb; clear hb hbox hg; have hnb85 := NB272_273.out; have hnc85 := NB273_272.out; have hcz86_0 := bz5 BK272) | ((with_reducible refine gate_callee (f := 17) rfl ?_); refine gl 8 Try.func17 #[.agg #[.int .i64 a0_0, .int .i64 a0_1, .slice A0_2 l0_2.length c0_2, .slice A0_3 l0_3.length c0_3, .slice A0_4 l0_4.length c0_4]] ?_; (with_reducible refine (spec_ThreeOk.calls k a0_0 a0_1 _ _ l0_2 _ _ l0_3 _ _ l0_4 false _ (cb HR0_2 HB) HC0_2.out (cb HR0_3 HB) HC0_3.out (cb HR0_4 HB) HC0_4.out A2.out).mono ?_); rintro e w87 ⟨rfl, hb⟩; refine ⟨_, rfl, ?_⟩; replace BK272 := bb BK272 hb; replace BK273 := bb BK273 hb; replace HB := Aside0.mk (below_step (be2 HB GE272 GE273) hb); (try clear hb); have hcz88_0 := bz5 BK273))
 refine bodyPost_ret (results_ctt rfl _ _ gb273 30 #[.int .i64 0, .int .i64 0, .slice none 0 0, .slice none 0 0, .slice none 0 0] (0, 0) _ rfl (bp BK273) Try.underlying30 rfl (by kernel_rfl)) rfl ?_
 exact ⟨_, _, _, er, by first | exact Kd.R_nil _ _ _ _ _ | exact Kd.N_nil _ _ _ _ _ | exact Kd.V_nil _ _ _ _ _ | exact Kd.Q_nil _ _ _ _ _ | exact Kd.S_nil _ _ _ _ _, by first | exact Kd.R_nil _ _ _ _ _ | exact Kd.N_nil _ _ _ _ _ | exact Kd.V_nil _ _ _ _ _ | exact Kd.Q_nil _ _ _ _ _ | exact Kd.S_nil _ _ _ _ _, Kd.Q_of_R (by first | exact Kd.R_nil _ _ _ _ _ | exact Kd.N_nil _ _ _ _ _ | exact Kd.V_nil _ _ _ _ _ | exact Kd.Q_nil _ _ _ _ _ | exact Kd.S_nil _ _ _ _ _), be2 HB GE272 GE273⟩

/-! ### spec_Evict: function 39 -/
def spec_Evict.j0 : Nat → Bool → Int → Int → List (S68) → List (S68) → List Int → Option (Int × Int × (List (S68)) × (List (S68)) × List Int × ByteArray × Bool)
 | 0, _, _, _, _, _, _ => none
 | k + 1, x23, x315000, x315001, x315002, x315003, x315004 => if x23 = true then ((spec_EvictSmall.f k x315000 x315001 x315002 x315003 x315004).bind fun bt317 => (if bt317.2.2.2.2.2.2 = true then (some (bt317.1, bt317.2.1, bt317.2.2.1, bt317.2.2.2.1, bt317.2.2.2.2.1, bt317.2.2.2.2.2.1, true)) else ((spec_EvictMain.f k bt317.1 bt317.2.1 bt317.2.2.1 bt317.2.2.2.1 bt317.2.2.2.2.1).bind fun bt331 => (some (bt331.1, bt331.2.1, bt331.2.2.1, bt331.2.2.2.1, bt331.2.2.2.2.1, bt331.2.2.2.2.2.1, bt331.2.2.2.2.2.2))))) else ((spec_EvictMain.f k x315000 x315001 x315002 x315003 x315004).bind fun bt344 => (some (bt344.1, bt344.2.1, bt344.2.2.1, bt344.2.2.2.1, bt344.2.2.2.2.1, bt344.2.2.2.2.2.1, bt344.2.2.2.2.2.2)))
def spec_Evict.f (k : Nat) (a0_0 : Int) (a0_1 : Int) (l0_2 : List (S68)) (l0_3 : List (S68)) (l0_4 : List Int) : Option (Int × Int × (List (S68)) × (List (S68)) × List Int × ByteArray × Bool) := (spec_ThreeOk.f k a0_0 a0_1 l0_2 l0_3 l0_4).bind fun t316 => (if t316 = true then (if (l0_2.length : Int) ≥ a0_1 then (spec_Evict.j0 k true a0_0 a0_1 l0_2 l0_3 l0_4) else (spec_Evict.j0 k ((l0_3.length : Int) == 0) a0_0 a0_1 l0_2 l0_3 l0_4)) else (some (0, 0, ([] : List (S68)), ([] : List (S68)), ([] : List Int), (⟨#[]⟩ : ByteArray), false)))
theorem spec_Evict.mono_l : ∀ k, (∀ y0 y1 y2 y3 y4 y5, LeO (spec_Evict.j0 k y0 y1 y2 y3 y4 y5) (spec_Evict.j0 (k + 1) y0 y1 y2 y3 y4 y5))
 | 0 => fun _ _ _ _ _ _ r h => by simp [spec_Evict.j0] at h
 | k + 1 => by
  have ih0 := spec_Evict.mono_l k
  ·intro y0 y1 y2 y3 y4 y5
   unfold spec_Evict.j0
   repeat' first
   | (with_reducible exact ih0 _ _ _ _ _ _)
   | (with_reducible exact spec_EvictMain.mono _ _ _ _ _ _)
   | (with_reducible exact spec_EvictSmall.mono _ _ _ _ _ _)
   | (with_reducible exact spec_ThreeOk.mono _ _ _ _ _ _)
   | (with_reducible exact LeO.refl _)
   | (with_reducible exact LeO.none _)
   | (with_reducible refine LeO.ite ?_ ?_)
   | (with_reducible refine LeO.bind ?_ (fun _ => ?_))
   | exact ih0 _ _ _ _ _ _
   | exact spec_EvictMain.mono _ _ _ _ _ _
   | exact spec_EvictSmall.mono _ _ _ _ _ _
   | exact spec_ThreeOk.mono _ _ _ _ _ _
   | exact LeO.none _
   | refine LeO.ite ?_ ?_
   | refine LeO.bind ?_ (fun _ => ?_)
theorem spec_Evict.mono : ∀ a0 a1 a2 a3 a4 k, LeO (spec_Evict.f k a0 a1 a2 a3 a4) (spec_Evict.f (k + 1) a0 a1 a2 a3 a4) := by
 intro a0 a1 a2 a3 a4 k
 have ih0 := spec_Evict.mono_l k
 unfold spec_Evict.f
 repeat' first
   | (with_reducible exact ih0 _ _ _ _ _ _)
   | (with_reducible exact spec_EvictMain.mono _ _ _ _ _ _)
   | (with_reducible exact spec_EvictSmall.mono _ _ _ _ _ _)
   | (with_reducible exact spec_ThreeOk.mono _ _ _ _ _ _)
   | (with_reducible exact LeO.refl _)
   | (with_reducible exact LeO.none _)
   | (with_reducible refine LeO.ite ?_ ?_)
   | (with_reducible refine LeO.bind ?_ (fun _ => ?_))
   | exact ih0 _ _ _ _ _ _
   | exact spec_EvictMain.mono _ _ _ _ _ _
   | exact spec_EvictSmall.mono _ _ _ _ _ _
   | exact spec_ThreeOk.mono _ _ _ _ _ _
   | exact LeO.none _
   | refine LeO.ite ?_ ?_
   | refine LeO.bind ?_ (fun _ => ?_)
set_option maxHeartbeats 8000000 in
set_option maxRecDepth 100000 in
theorem spec_Evict.calls (k : Nat) (a0_0 : Int) (a0_1 : Int) (A0_2 : Option Addr) (c0_2 : Nat) (l0_2 : List (S68)) (A0_3 : Option Addr) (c0_3 : Nat) (l0_3 : List (S68)) (A0_4 : Option Addr) (c0_4 : Nat) (l0_4 : List Int) (r1 : Int) (r2 : Int) (r3 : List (S68)) (r4 : List (S68)) (r5 : List Int) (r6 : ByteArray) (r7 : Bool) (w : World) (hr0_2 : Kd.C k68 w A0_2 l0_2.length l0_2) (hc0_2 : l0_2.length ≤ c0_2) (hr0_3 : Kd.C k68 w A0_3 l0_3.length l0_3) (hc0_3 : l0_3.length ≤ c0_3) (hr0_4 : Kd.C (Kd.int .i64) w A0_4 l0_4.length l0_4) (hc0_4 : l0_4.length ≤ c0_4) (h : spec_Evict.f k a0_0 a0_1 l0_2 l0_3 l0_4 = some (r1, r2, r3, r4, r5, r6, r7)) :
  Calls Try.prog 39 #[.agg #[.int .i64 a0_0, .int .i64 a0_1, .slice A0_2 l0_2.length c0_2, .slice A0_3 l0_3.length c0_3, .slice A0_4 l0_4.length c0_4]] w fun e w' => ∃ v2_ v3_ v4_ : Value, e = .returned (.tuple #[.agg #[.int .i64 r1, .int .i64 r2, v2_, v3_, v4_], .string r6, .bool r7]) ∧ Kd.R k68 68 w' w.heap.size (fun k_ => some k_ ≠ (v3_ : Value).ownBlock) v2_ r3 ∧ Kd.R k68 68 w' w.heap.size (fun k_ => some k_ ≠ (v2_ : Value).ownBlock) v3_ r4 ∧ Kd.Q (Kd.int .i64) 3 w' w.heap.size (fun _ => True) v4_ r5 ∧ Below w.heap.size w w' := by
 have hu30 := Try.underlying30
 have HR0_2 := Aside0.mk hr0_2
 have HC0_2 := Aside0.mk hc0_2
 clear hr0_2 hc0_2
 have HR0_3 := Aside0.mk hr0_3
 have HC0_3 := Aside0.mk hc0_3
 clear hr0_3 hc0_3
 have HR0_4 := Aside0.mk hr0_4
 have HC0_4 := Aside0.mk hc0_4
 clear hr0_4 hc0_4
 have HB := Aside0.mk (Below.refl w.heap.size w)
 have H : ((spec_ThreeOk.f k a0_0 a0_1 l0_2 l0_3 l0_4).bind fun t316 => (if t316 = true then (if (l0_2.length : Int) ≥ a0_1 then (spec_Evict.j0 k true a0_0 a0_1 l0_2 l0_3 l0_4) else (spec_Evict.j0 k ((l0_3.length : Int) == 0) a0_0 a0_1 l0_2 l0_3 l0_4)) else (some (0, 0, ([] : List (S68)), ([] : List (S68)), ([] : List Int), (⟨#[]⟩ : ByteArray), false)))) = some (r1, r2, r3, r4, r5, r6, r7) := h
 clear h
 replace H := Option.bind_eq_some_iff.mp H
 obtain ⟨t316, A20, H⟩ := H
 replace H : (if t316 = true then (if (l0_2.length : Int) ≥ a0_1 then (spec_Evict.j0 k true a0_0 a0_1 l0_2 l0_3 l0_4) else (spec_Evict.j0 k ((l0_3.length : Int) == 0) a0_0 a0_1 l0_2 l0_3 l0_4)) else (some (0, 0, ([] : List (S68)), ([] : List (S68)), ([] : List Int), (⟨#[]⟩ : ByteArray), false))) = some (r1, r2, r3, r4, r5, r6, r7) := H
 have A2 := Aside0.mk A20
 clear A20
 by_cases c3 : t316 = true
 ·subst c3
  have H1 : (if (l0_2.length : Int) ≥ a0_1 then (spec_Evict.j0 k true a0_0 a0_1 l0_2 l0_3 l0_4) else (spec_Evict.j0 k ((l0_3.length : Int) == 0) a0_0 a0_1 l0_2 l0_3 l0_4)) = some (r1, r2, r3, r4, r5, r6, r7) := by rw [if_pos rfl] at H; exact H
  clear H
  have H := H1
  clear H1
  have HC4 := Aside0.mk H
  clear H
  go_enter Try.func39, Try.ntmps39
  go_upto_region 3 with (first | ((with_reducible refine gate_dst (N := 1) rfl ?_); (try (refine gate_guard (by rfl) ?_; dsimp only)); refine bx 1 #[.int .i64 a0_0, .int .i64 a0_1, .slice A0_2 l0_2.length c0_2, .slice A0_3 l0_3.length c0_3, .slice A0_4 l0_4.length c0_4] 30 ?_; intro gb314 hg w5 hbox hb; have BK314 := am hbox; have GW314 := gs0 hg HB; have GE314 := gs0 hg HB; replace HB := s0 HB hb; clear hb hbox hg) | ((with_reducible refine gate_dst (N := 2) rfl ?_); (try (refine gate_guard (by rfl) ?_; dsimp only)); refine bx 2 #[.int .i64 0, .int .i64 0, .slice none 0 0, .slice none 0 0, .slice none 0 0] 30 ?_; intro gb315 hg w6 hbox hb; have BK315 := am hbox; have GW315 := gs1 hg HB GE314; have GE315 := gs1 hg HB GE314; replace HB := Aside0.mk (below_step (be1 HB GE314) hb); have NB314_315 := nl hg BK314; have NB315_314 := ng hg BK314; replace BK314 := bb BK314 hb; clear hb hbox hg; have hnb7 := NB314_315.out; have hnc7 := NB315_314.out; have hcz8_0 := bz5 BK314) | ((with_reducible refine gate_callee (f := 17) rfl ?_); refine gl 9 Try.func17 #[.agg #[.int .i64 a0_0, .int .i64 a0_1, .slice A0_2 l0_2.length c0_2, .slice A0_3 l0_3.length c0_3, .slice A0_4 l0_4.length c0_4]] ?_; (with_reducible refine (spec_ThreeOk.calls k a0_0 a0_1 _ _ l0_2 _ _ l0_3 _ _ l0_4 true _ (cb HR0_2 HB) HC0_2.out (cb HR0_3 HB) HC0_3.out (cb HR0_4 HB) HC0_4.out A2.out).mono ?_); rintro e w9 ⟨rfl, hb⟩; refine ⟨_, rfl, ?_⟩; replace BK314 := bb BK314 hb; replace BK315 := bb BK315 hb; replace HB := Aside0.mk (below_step (be2 HB GE314 GE315) hb); (try clear hb)))
  (try simp only [Act.put, List.setIfInBounds_toArray, List.set_cons_zero, List.set_cons_succ])
  go_cut [23] (fun v23 wc => ∃ (kq : Nat) (x23_3 : Bool), v23 = .bool x23_3 ∧ Aside0 (spec_Evict.j0 kq x23_3 a0_0 a0_1 l0_2 l0_3 l0_4 = some (r1, r2, r3, r4, r5, r6, r7)) ∧ Aside0 (kq ≤ k) ∧ Aside0 (wc.heap[gb314]? = some (.cells #[.int .i64 a0_0, .int .i64 a0_1, (.slice A0_2 l0_2.length c0_2), (.slice A0_3 l0_3.length c0_3), (.slice A0_4 l0_4.length c0_4)] 30 (0, 0))) ∧ Aside0 (wc.heap[gb315]? = some (.cells #[.int .i64 0, .int .i64 0, (.slice none 0 0), (.slice none 0 0), (.slice none 0 0)] 30 (0, 0))) ∧ Aside0 (Below w.heap.size w wc))
  case first =>
   have H := HC4.out
   clear HC4
   by_cases c10 : (l0_2.length : Int) ≥ a0_1
   ·rw [if_pos c10] at H
    have c10b0 : decide (a0_1 ≤ (l0_2.length : Int)) = true := decide_eq_true c10
    clear c10
    (first | rw [c10b0] | (simp only [i64_w, i32_w]; rw [c10b0]) | skip)
    have H' := Aside0.mk H
    clear H
    have hnb11 := NB314_315.out
    have hnc11 := NB315_314.out
    have hcz12_0 := bz5 BK314
    go_wp2
    go_meet
    case rel => exact ⟨_, (true), rs, H', ⟨by first | omega | exact Nat.le_refl _⟩, ⟨bk BK314⟩, ⟨bk BK315⟩, ⟨be2 HB GE314 GE315⟩⟩
   rw [if_neg c10] at H
   have c10b0 : decide (a0_1 ≤ (l0_2.length : Int)) = false := decide_eq_false c10
   clear c10
   (first | rw [c10b0] | (simp only [i64_w, i32_w]; rw [c10b0]) | skip)
   have H' := Aside0.mk H
   clear H
   have hnb13 := NB314_315.out
   have hnc13 := NB315_314.out
   have hcz14_0 := bz5 BK314
   go_wp2
   go_meet
   case rel => exact ⟨_, (((l0_3.length : Int) == 0)), rs, H', ⟨by first | omega | exact Nat.le_refl _⟩, ⟨bk BK314⟩, ⟨bk BK315⟩, ⟨be2 HB GE314 GE315⟩⟩
  case rest =>
   clear HC4
   try clear c1; try clear p2; try clear c3; try clear c7; try clear c10; try clear c10b0; try clear c11; try clear c13; try clear hcz12_0; try clear hcz14_0; try clear hcz8_0
   obtain ⟨kq, x23_3, rfl, HA, HJ3, BK314, BK315, HB⟩ := hcut
   cases kq with
   | zero => exact absurd HA.out (by simp [spec_Evict.j0])
   | succ kj3 =>
    have H := HA.out
    clear HA
    simp only [spec_Evict.j0] at H
    by_cases c15 : x23_3 = true
    ·subst c15
     have H1 : ((spec_EvictSmall.f kj3 a0_0 a0_1 l0_2 l0_3 l0_4).bind fun bt317 => (if bt317.2.2.2.2.2.2 = true then (some (bt317.1, bt317.2.1, bt317.2.2.1, bt317.2.2.2.1, bt317.2.2.2.2.1, bt317.2.2.2.2.2.1, true)) else ((spec_EvictMain.f kj3 bt317.1 bt317.2.1 bt317.2.2.1 bt317.2.2.2.1 bt317.2.2.2.2.1).bind fun bt331 => (some (bt331.1, bt331.2.1, bt331.2.2.1, bt331.2.2.2.1, bt331.2.2.2.2.1, bt331.2.2.2.2.2.1, bt331.2.2.2.2.2.2))))) = some (r1, r2, r3, r4, r5, r6, r7) := by rw [if_pos rfl] at H; exact H
     clear H
     have H := H1
     clear H1
     replace H := Option.bind_eq_some_iff.mp H
     obtain ⟨⟨t317, t318, t319, t322, t325, t328, t329⟩, A160, H⟩ := H
     replace H : (if t329 = true then (some (t317, t318, t319, t322, t325, t328, true)) else ((spec_EvictMain.f kj3 t317 t318 t319 t322 t325).bind fun bt331 => (some (bt331.1, bt331.2.1, bt331.2.2.1, bt331.2.2.2.1, bt331.2.2.2.2.1, bt331.2.2.2.2.2.1, bt331.2.2.2.2.2.2)))) = some (r1, r2, r3, r4, r5, r6, r7) := H
     have A16 := Aside0.mk A160
     clear A160
     by_cases c17 : t329 = true
     ·subst c17
      have H1 : (some (t317, t318, t319, t322, t325, t328, true)) = some (r1, r2, r3, r4, r5, r6, r7) := by rw [if_pos rfl] at H; exact H
      clear H
      have H := H1
      clear H1
      simp only [Option.some.injEq, Prod.mk.injEq] at H
      obtain ⟨rfl, rfl, rfl, rfl, rfl, rfl, rfl⟩ := H
      have hnb18 := NB314_315.out
      have hnc18 := NB315_314.out
      have hcz19_0 := bz5 BK314
      go_wp2_with (first | ((with_reducible refine gate_callee (f := 37) rfl ?_); refine gl 26 Try.func37 #[.agg #[.int .i64 a0_0, .int .i64 a0_1, .slice A0_2 l0_2.length c0_2, .slice A0_3 l0_3.length c0_3, .slice A0_4 l0_4.length c0_4]] ?_; (with_reducible refine (spec_EvictSmall.calls kj3 a0_0 a0_1 _ _ l0_2 _ _ l0_3 _ _ l0_4 t317 t318 t319 t322 t325 t328 true _ (cb HR0_2 HB) HC0_2.out (cb HR0_3 HB) HC0_3.out (cb HR0_4 HB) HC0_4.out A16.out).mono ?_); rintro e w20 ⟨v320, v323, v326, rfl, ho0, ho1, ho2, hb⟩; refine ⟨_, rfl, ?_⟩; have HO321 := Aside0.mk (Kd.R_lower ho0 (below_size (be2 HB GE314 GE315))); have HO324 := Aside0.mk (Kd.R_lower ho1 (below_size (be2 HB GE314 GE315))); have HO327 := Aside0.mk (Kd.Q_lower ho2 (below_size (be2 HB GE314 GE315))); replace BK314 := bb BK314 hb; replace BK315 := bb BK315 hb; replace HB := Aside0.mk (below_step (be2 HB GE314 GE315) hb); (try clear hb); (try clear ho0); (try clear ho1); (try clear ho2)) | ((with_reducible refine gate_dst (N := 5) rfl ?_); (try (refine gate_guard (by rfl) ?_; dsimp only)); refine bx 5 #[.int .i64 0, .int .i64 0, .slice none 0 0, .slice none 0 0, .slice none 0 0] 30 ?_; intro gb330 hg w21 hbox hb; replace HO321 := rb HO321 hb; replace HO324 := rb HO324 hb; replace HO327 := Aside0.mk (Kd.Q_below (qo HO327) hb); have BK330 := am hbox; have GW330 := gs2 hg HB GE314 GE315; have GE330 := gs2 hg HB GE314 GE315; replace HB := Aside0.mk (below_step (be2 HB GE314 GE315) hb); have NB314_330 := nl hg BK314; have NB330_314 := ng hg BK314; replace BK314 := bb BK314 hb; have NB315_330 := nl hg BK315; have NB330_315 := ng hg BK315; replace BK315 := bb BK315 hb; clear hb hbox hg; have hnb22 := NB330_314.out; have hnc22 := NB314_330.out; have hnb23 := NB330_315.out; have hnc23 := NB315_330.out; have hcz24_0 := bz5 BK330; obtain ⟨Ao25, co25, eo25⟩ := Kd.R_slice HO321.out; subst eo25; obtain ⟨Ao26, co26, eo26⟩ := Kd.R_slice HO324.out; subst eo26; obtain ⟨Ao27, co27, eo27, _⟩ := Kd.Q_slice HO327.out; subst eo27; have hcz28_0 := bz5 BK315))
      refine bodyPost_ret (results_ctt rfl _ _ gb315 30 #[.int .i64 t317, .int .i64 t318, .slice Ao25 t319.length co25, .slice Ao26 t322.length co26, .slice Ao27 t325.length co27] (0, 0) _ rfl (bp1 BK315 NB315_330) Try.underlying30 rfl (by kernel_rfl)) rfl ?_
      exact ⟨_, _, _, er, by (with_reducible repeat (first | apply Kd.R_alloc | apply Kd.R_drewN | apply Kd.R_drew)); exact Kd.R_mono (Kd.R_far (p := ⟨gb315, 4, none⟩) (Kd.R_far (p := ⟨gb315, 3, none⟩) (Kd.R_far (p := ⟨gb315, 2, none⟩) (Kd.R_far (p := ⟨gb315, 1, none⟩) (Kd.R_far (p := ⟨gb315, 0, none⟩) (Kd.R_far (p := ⟨gb330, 4, none⟩) (Kd.R_far (p := ⟨gb330, 3, none⟩) (Kd.R_far (p := ⟨gb330, 2, none⟩) (Kd.R_far (p := ⟨gb330, 1, none⟩) (Kd.R_far (p := ⟨gb330, 0, none⟩) (Kd.R_types (Kd.R_types HO321.out BK330.out (by decide)) BK315.out (by decide)) (fun _ hk => hk.1.2) (.int .i64 t317)) (fun _ hk => hk.1.2) (.int .i64 t318)) (fun _ hk => hk.1.2) (.slice Ao25 t319.length co25)) (fun _ hk => hk.1.2) (.slice Ao26 t322.length co26)) (fun _ hk => hk.1.2) (.slice Ao27 t325.length co27)) (fun _ hk => hk.2) (.int .i64 t317)) (fun _ hk => hk.2) (.int .i64 t318)) (fun _ hk => hk.2) (.slice Ao25 t319.length co25)) (fun _ hk => hk.2) (.slice Ao26 t322.length co26)) (fun _ hk => hk.2) (.slice Ao27 t325.length co27)) (fun _ hk => hk.1.1), by (with_reducible repeat (first | apply Kd.R_alloc | apply Kd.R_drewN | apply Kd.R_drew)); exact Kd.R_mono (Kd.R_far (p := ⟨gb315, 4, none⟩) (Kd.R_far (p := ⟨gb315, 3, none⟩) (Kd.R_far (p := ⟨gb315, 2, none⟩) (Kd.R_far (p := ⟨gb315, 1, none⟩) (Kd.R_far (p := ⟨gb315, 0, none⟩) (Kd.R_far (p := ⟨gb330, 4, none⟩) (Kd.R_far (p := ⟨gb330, 3, none⟩) (Kd.R_far (p := ⟨gb330, 2, none⟩) (Kd.R_far (p := ⟨gb330, 1, none⟩) (Kd.R_far (p := ⟨gb330, 0, none⟩) (Kd.R_types (Kd.R_types HO324.out BK330.out (by decide)) BK315.out (by decide)) (fun _ hk => hk.1.2) (.int .i64 t317)) (fun _ hk => hk.1.2) (.int .i64 t318)) (fun _ hk => hk.1.2) (.slice Ao25 t319.length co25)) (fun _ hk => hk.1.2) (.slice Ao26 t322.length co26)) (fun _ hk => hk.1.2) (.slice Ao27 t325.length co27)) (fun _ hk => hk.2) (.int .i64 t317)) (fun _ hk => hk.2) (.int .i64 t318)) (fun _ hk => hk.2) (.slice Ao25 t319.length co25)) (fun _ hk => hk.2) (.slice Ao26 t322.length co26)) (fun _ hk => hk.2) (.slice Ao27 t325.length co27)) (fun _ hk => hk.1.1), by (with_reducible repeat (first | apply Kd.Q_alloc | apply Kd.Q_drewN | apply Kd.Q_drew)); exact Kd.Q_mono (Kd.Q_far (p := ⟨gb315, 4, none⟩) (Kd.Q_far (p := ⟨gb315, 3, none⟩) (Kd.Q_far (p := ⟨gb315, 2, none⟩) (Kd.Q_far (p := ⟨gb315, 1, none⟩) (Kd.Q_far (p := ⟨gb315, 0, none⟩) (Kd.Q_far (p := ⟨gb330, 4, none⟩) (Kd.Q_far (p := ⟨gb330, 3, none⟩) (Kd.Q_far (p := ⟨gb330, 2, none⟩) (Kd.Q_far (p := ⟨gb330, 1, none⟩) (Kd.Q_far (p := ⟨gb330, 0, none⟩) (Kd.Q_types (Kd.Q_types HO327.out BK330.out (by decide)) BK315.out (by decide)) (fun _ hk => hk.1.2) (.int .i64 t317)) (fun _ hk => hk.1.2) (.int .i64 t318)) (fun _ hk => hk.1.2) (.slice Ao25 t319.length co25)) (fun _ hk => hk.1.2) (.slice Ao26 t322.length co26)) (fun _ hk => hk.1.2) (.slice Ao27 t325.length co27)) (fun _ hk => hk.2) (.int .i64 t317)) (fun _ hk => hk.2) (.int .i64 t318)) (fun _ hk => hk.2) (.slice Ao25 t319.length co25)) (fun _ hk => hk.2) (.slice Ao26 t322.length co26)) (fun _ hk => hk.2) (.slice Ao27 t325.length co27)) (fun _ hk => trivial), be3 HB GE314 GE315 GE330⟩
     replace c17 := Bool.eq_false_iff.mpr c17
     subst c17
     have H1 : ((spec_EvictMain.f kj3 t317 t318 t319 t322 t325).bind fun bt331 => (some (bt331.1, bt331.2.1, bt331.2.2.1, bt331.2.2.2.1, bt331.2.2.2.2.1, bt331.2.2.2.2.2.1, bt331.2.2.2.2.2.2))) = some (r1, r2, r3, r4, r5, r6, r7) := by rw [if_neg (show ¬ (false = true) by decide)] at H; exact H
     clear H
     have H := H1
     clear H1
     replace H := Option.bind_eq_some_iff.mp H
     obtain ⟨⟨t331, t332, t333, t336, t339, t342, t343⟩, A290, H⟩ := H
     replace H : (some (t331, t332, t333, t336, t339, t342, t343)) = some (r1, r2, r3, r4, r5, r6, r7) := H
     have A29 := Aside0.mk A290
     clear A290
     simp only [Option.some.injEq, Prod.mk.injEq] at H
     obtain ⟨rfl, rfl, rfl, rfl, rfl, rfl, rfl⟩ := H
     have hnb30 := NB314_315.out
     have hnc30 := NB315_314.out
     have hcz31_0 := bz5 BK314
     go_wp2_with (first | ((with_reducible refine gate_callee (f := 37) rfl ?_); refine gl 26 Try.func37 #[.agg #[.int .i64 a0_0, .int .i64 a0_1, .slice A0_2 l0_2.length c0_2, .slice A0_3 l0_3.length c0_3, .slice A0_4 l0_4.length c0_4]] ?_; (with_reducible refine (spec_EvictSmall.calls kj3 a0_0 a0_1 _ _ l0_2 _ _ l0_3 _ _ l0_4 t317 t318 t319 t322 t325 t328 false _ (cb HR0_2 HB) HC0_2.out (cb HR0_3 HB) HC0_3.out (cb HR0_4 HB) HC0_4.out A16.out).mono ?_); rintro e w32 ⟨v320, v323, v326, rfl, ho0, ho1, ho2, hb⟩; refine ⟨_, rfl, ?_⟩; have HO321 := Aside0.mk (Kd.R_lower ho0 (below_size (be2 HB GE314 GE315))); have HO324 := Aside0.mk (Kd.R_lower ho1 (below_size (be2 HB GE314 GE315))); have HO327 := Aside0.mk (Kd.Q_lower ho2 (below_size (be2 HB GE314 GE315))); replace BK314 := bb BK314 hb; replace BK315 := bb BK315 hb; replace HB := Aside0.mk (below_step (be2 HB GE314 GE315) hb); (try clear hb); (try clear ho0); (try clear ho1); (try clear ho2)) | ((with_reducible refine gate_dst (N := 5) rfl ?_); (try (refine gate_guard (by rfl) ?_; dsimp only)); refine bx 5 #[.int .i64 0, .int .i64 0, .slice none 0 0, .slice none 0 0, .slice none 0 0] 30 ?_; intro gb330 hg w33 hbox hb; replace HO321 := rb HO321 hb; replace HO324 := rb HO324 hb; replace HO327 := Aside0.mk (Kd.Q_below (qo HO327) hb); have BK330 := am hbox; have GW330 := gs2 hg HB GE314 GE315; have GE330 := gs2 hg HB GE314 GE315; replace HB := Aside0.mk (below_step (be2 HB GE314 GE315) hb); have NB314_330 := nl hg BK314; have NB330_314 := ng hg BK314; replace BK314 := bb BK314 hb; have NB315_330 := nl hg BK315; have NB330_315 := ng hg BK315; replace BK315 := bb BK315 hb; clear hb hbox hg; have hnb34 := NB330_314.out; have hnc34 := NB314_330.out; have hnb35 := NB330_315.out; have hnc35 := NB315_330.out; have hcz36_0 := bz5 BK330; obtain ⟨Ao37, co37, eo37⟩ := Kd.R_slice HO321.out; subst eo37; obtain ⟨Ao38, co38, eo38⟩ := Kd.R_slice HO324.out; subst eo38; obtain ⟨Ao39, co39, eo39, _⟩ := Kd.Q_slice HO327.out; subst eo39) | ((with_reducible refine gate_callee (f := 31) rfl ?_); refine gl 34 Try.func31 #[.agg #[.int .i64 t317, .int .i64 t318, .slice Ao37 t319.length co37, .slice Ao38 t322.length co38, .slice Ao39 t325.length co39]] ?_; (with_reducible refine (spec_EvictMain.calls kj3 t317 t318 _ _ t319 _ _ t322 _ _ t325 t331 t332 t333 t336 t339 t342 t343 _ ?side1 ((Kd.R_reads' HO321.out).2.1) ?side3 ((Kd.R_reads' HO324.out).2.1) ?side5 ?side6 A29.out).mono ?_); (case side1 => exact rfr _ HO321 BK330); (case side3 => exact rfr _ HO324 BK330); (case side5 => refine (Kd.Q_reads' (e := 3) (base := w.heap.size) (ok := fun k_ => True) (n := t325.length) (c := co39) ?_).2.2; exact (qf HO327 BK330)); (case side6 => exact (Kd.Q_reads' HO327.out).2.1); rintro e w40 ⟨v334, v337, v340, rfl, ho0, ho1, ho2, hb⟩; refine ⟨_, rfl, ?_⟩; have HO335 := Aside0.mk (Kd.R_lower (Kd.R_new' (Kd.R_new' ho0 (Kd.R_lt (rf HO321 BK330))) (Kd.R_lt (rf HO324 BK330))) (below_size (be3 HB GE314 GE315 GE330))); have HO338 := Aside0.mk (Kd.R_lower (Kd.R_new' (Kd.R_new' ho1 (Kd.R_lt (rf HO321 BK330))) (Kd.R_lt (rf HO324 BK330))) (below_size (be3 HB GE314 GE315 GE330))); replace HO321 := td2 (rf HO321 BK330) hb ho0 ho1; replace HO324 := td2 (rf HO324 BK330) hb ho0 ho1; have HO341 := Aside0.mk (Kd.R_lower (Kd.R_new' ho2 (Kd.Q_lt (qf HO327 BK330))) (below_size (be3 HB GE314 GE315 GE330))); replace HO327 := Aside0.mk (Kd.Q_elder' (qf HO327 BK330) (Kd.R_base ho2) hb); replace BK314 := Aside0.mk (blk_below (g := gb314) (o := .cells #[.int .i64 a0_0, .int .i64 a0_1, .slice A0_2 l0_2.length c0_2, .slice A0_3 l0_3.length c0_3, .slice A0_4 l0_4.length c0_4] 30 (0, 0)) (bf1 BK314 NB314_330) hb); replace BK315 := Aside0.mk (blk_below (g := gb315) (o := .cells #[.int .i64 0, .int .i64 0, .slice none 0 0, .slice none 0 0, .slice none 0 0] 30 (0, 0)) (bf1 BK315 NB315_330) hb); replace BK330 := Aside0.mk (blk_below (g := gb330) (o := .cells #[.int .i64 t317, .int .i64 t318, .slice Ao37 t319.length co37, .slice Ao38 t322.length co38, .slice Ao39 t325.length co39] 30 (0, 0)) (bp BK330) hb); replace HB := Aside0.mk (below_step (be3 HB GE314 GE315 GE330) hb); (try clear hb); (try clear ho0); (try clear ho1); (try clear ho2); have hcz41_0 := bz5 BK315; obtain ⟨Ao42, co42, eo42⟩ := Kd.R_slice HO335.out; subst eo42; obtain ⟨Ao43, co43, eo43⟩ := Kd.R_slice HO338.out; subst eo43; obtain ⟨Ao44, co44, eo44⟩ := Kd.R_slice HO341.out; subst eo44))
     refine bodyPost_ret (results_ctt rfl _ _ gb315 30 #[.int .i64 t331, .int .i64 t332, .slice Ao42 t333.length co42, .slice Ao43 t336.length co43, .slice Ao44 t339.length co44] (0, 0) _ rfl (bp BK315) Try.underlying30 rfl (by kernel_rfl)) rfl ?_
     exact ⟨_, _, _, er, by (with_reducible repeat (first | apply Kd.R_alloc | apply Kd.R_drewN | apply Kd.R_drew)); exact Kd.R_mono (Kd.R_far (p := ⟨gb315, 4, none⟩) (Kd.R_far (p := ⟨gb315, 3, none⟩) (Kd.R_far (p := ⟨gb315, 2, none⟩) (Kd.R_far (p := ⟨gb315, 1, none⟩) (Kd.R_far (p := ⟨gb315, 0, none⟩) (Kd.R_types HO335.out BK315.out (by decide)) (fun _ hk => hk.2) (.int .i64 t331)) (fun _ hk => hk.2) (.int .i64 t332)) (fun _ hk => hk.2) (.slice Ao42 t333.length co42)) (fun _ hk => hk.2) (.slice Ao43 t336.length co43)) (fun _ hk => hk.2) (.slice Ao44 t339.length co44)) (fun _ hk => hk.1.1.1), by (with_reducible repeat (first | apply Kd.R_alloc | apply Kd.R_drewN | apply Kd.R_drew)); exact Kd.R_mono (Kd.R_far (p := ⟨gb315, 4, none⟩) (Kd.R_far (p := ⟨gb315, 3, none⟩) (Kd.R_far (p := ⟨gb315, 2, none⟩) (Kd.R_far (p := ⟨gb315, 1, none⟩) (Kd.R_far (p := ⟨gb315, 0, none⟩) (Kd.R_types HO338.out BK315.out (by decide)) (fun _ hk => hk.2) (.int .i64 t331)) (fun _ hk => hk.2) (.int .i64 t332)) (fun _ hk => hk.2) (.slice Ao42 t333.length co42)) (fun _ hk => hk.2) (.slice Ao43 t336.length co43)) (fun _ hk => hk.2) (.slice Ao44 t339.length co44)) (fun _ hk => hk.1.1.1), Kd.Q_of_R (by (with_reducible repeat (first | apply Kd.R_alloc | apply Kd.R_drewN | apply Kd.R_drew)); exact Kd.R_mono (Kd.R_far (p := ⟨gb315, 4, none⟩) (Kd.R_far (p := ⟨gb315, 3, none⟩) (Kd.R_far (p := ⟨gb315, 2, none⟩) (Kd.R_far (p := ⟨gb315, 1, none⟩) (Kd.R_far (p := ⟨gb315, 0, none⟩) (Kd.R_types HO341.out BK315.out (by decide)) (fun _ hk => hk.2) (.int .i64 t331)) (fun _ hk => hk.2) (.int .i64 t332)) (fun _ hk => hk.2) (.slice Ao42 t333.length co42)) (fun _ hk => hk.2) (.slice Ao43 t336.length co43)) (fun _ hk => hk.2) (.slice Ao44 t339.length co44)) (fun _ hk => trivial)), be3 HB GE314 GE315 GE330⟩
    replace c15 := Bool.eq_false_iff.mpr c15
    subst c15
    have H1 : ((spec_EvictMain.f kj3 a0_0 a0_1 l0_2 l0_3 l0_4).bind fun bt344 => (some (bt344.1, bt344.2.1, bt344.2.2.1, bt344.2.2.2.1, bt344.2.2.2.2.1, bt344.2.2.2.2.2.1, bt344.2.2.2.2.2.2))) = some (r1, r2, r3, r4, r5, r6, r7) := by rw [if_neg (show ¬ (false = true) by decide)] at H; exact H
    clear H
    have H := H1
    clear H1
    replace H := Option.bind_eq_some_iff.mp H
    obtain ⟨⟨t344, t345, t346, t349, t352, t355, t356⟩, A450, H⟩ := H
    replace H : (some (t344, t345, t346, t349, t352, t355, t356)) = some (r1, r2, r3, r4, r5, r6, r7) := H
    have A45 := Aside0.mk A450
    clear A450
    simp only [Option.some.injEq, Prod.mk.injEq] at H
    obtain ⟨rfl, rfl, rfl, rfl, rfl, rfl, rfl⟩ := H
    have hnb46 := NB314_315.out
    have hnc46 := NB315_314.out
    have hcz47_0 := bz5 BK314
    go_wp2_with (first | ((with_reducible refine gate_callee (f := 31) rfl ?_); refine gl 39 Try.func31 #[.agg #[.int .i64 a0_0, .int .i64 a0_1, .slice A0_2 l0_2.length c0_2, .slice A0_3 l0_3.length c0_3, .slice A0_4 l0_4.length c0_4]] ?_; (with_reducible refine (spec_EvictMain.calls kj3 a0_0 a0_1 _ _ l0_2 _ _ l0_3 _ _ l0_4 t344 t345 t346 t349 t352 t355 t356 _ (cb HR0_2 HB) HC0_2.out (cb HR0_3 HB) HC0_3.out (cb HR0_4 HB) HC0_4.out A45.out).mono ?_); rintro e w48 ⟨v347, v350, v353, rfl, ho0, ho1, ho2, hb⟩; refine ⟨_, rfl, ?_⟩; have HO348 := Aside0.mk (Kd.R_lower ho0 (below_size (be2 HB GE314 GE315))); have HO351 := Aside0.mk (Kd.R_lower ho1 (below_size (be2 HB GE314 GE315))); have HO354 := Aside0.mk (Kd.R_lower ho2 (below_size (be2 HB GE314 GE315))); replace BK314 := bb BK314 hb; replace BK315 := bb BK315 hb; replace HB := Aside0.mk (below_step (be2 HB GE314 GE315) hb); (try clear hb); (try clear ho0); (try clear ho1); (try clear ho2); have hcz49_0 := bz5 BK315; obtain ⟨Ao50, co50, eo50⟩ := Kd.R_slice HO348.out; subst eo50; obtain ⟨Ao51, co51, eo51⟩ := Kd.R_slice HO351.out; subst eo51; obtain ⟨Ao52, co52, eo52⟩ := Kd.R_slice HO354.out; subst eo52))
    refine bodyPost_ret (results_ctt rfl _ _ gb315 30 #[.int .i64 t344, .int .i64 t345, .slice Ao50 t346.length co50, .slice Ao51 t349.length co51, .slice Ao52 t352.length co52] (0, 0) _ rfl (bp BK315) Try.underlying30 rfl (by kernel_rfl)) rfl ?_
    exact ⟨_, _, _, er, (rf HO348 BK315), (rf HO351 BK315), Kd.Q_of_R (by (with_reducible repeat (first | apply Kd.R_alloc | apply Kd.R_drewN | apply Kd.R_drew)); exact Kd.R_mono (Kd.R_far (p := ⟨gb315, 4, none⟩) (Kd.R_far (p := ⟨gb315, 3, none⟩) (Kd.R_far (p := ⟨gb315, 2, none⟩) (Kd.R_far (p := ⟨gb315, 1, none⟩) (Kd.R_far (p := ⟨gb315, 0, none⟩) (Kd.R_types HO354.out BK315.out (by decide)) (fun _ hk => hk.2) (.int .i64 t344)) (fun _ hk => hk.2) (.int .i64 t345)) (fun _ hk => hk.2) (.slice Ao50 t346.length co50)) (fun _ hk => hk.2) (.slice Ao51 t349.length co51)) (fun _ hk => hk.2) (.slice Ao52 t352.length co52)) (fun _ hk => trivial)), be2 HB GE314 GE315⟩
 replace c3 := Bool.eq_false_iff.mpr c3
 subst c3
 have H1 : (some (0, 0, ([] : List (S68)), ([] : List (S68)), ([] : List Int), (⟨#[]⟩ : ByteArray), false)) = some (r1, r2, r3, r4, r5, r6, r7) := by rw [if_neg (show ¬ (false = true) by decide)] at H; exact H
 clear H
 have H := H1
 clear H1
 simp only [Option.some.injEq, Prod.mk.injEq] at H
 obtain ⟨rfl, rfl, rfl, rfl, rfl, rfl, rfl⟩ := H
 go_enter Try.func39, Try.ntmps39
 go_wp2_with (first | ((with_reducible refine gate_dst (N := 1) rfl ?_); (try (refine gate_guard (by rfl) ?_; dsimp only)); refine bx 1 #[.int .i64 a0_0, .int .i64 a0_1, .slice A0_2 l0_2.length c0_2, .slice A0_3 l0_3.length c0_3, .slice A0_4 l0_4.length c0_4] 30 ?_; intro gb314 hg w53 hbox hb; have BK314 := am hbox; have GW314 := gs0 hg HB; have GE314 := gs0 hg HB; replace HB := s0 HB hb; clear hb hbox hg) | ((with_reducible refine gate_dst (N := 2) rfl ?_); (try (refine gate_guard (by rfl) ?_; dsimp only)); refine bx 2 #[.int .i64 0, .int .i64 0, .slice none 0 0, .slice none 0 0, .slice none 0 0] 30 ?_; intro gb315 hg w54 hbox hb; have BK315 := am hbox; have GW315 := gs1 hg HB GE314; have GE315 := gs1 hg HB GE314; replace HB := Aside0.mk (below_step (be1 HB GE314) hb); have NB314_315 := nl hg BK314; have NB315_314 := ng hg BK314; replace BK314 := bb BK314 hb; clear hb hbox hg; have hnb55 := NB314_315.out; have hnc55 := NB315_314.out; have hcz56_0 := bz5 BK314) | ((with_reducible refine gate_callee (f := 17) rfl ?_); refine gl 9 Try.func17 #[.agg #[.int .i64 a0_0, .int .i64 a0_1, .slice A0_2 l0_2.length c0_2, .slice A0_3 l0_3.length c0_3, .slice A0_4 l0_4.length c0_4]] ?_; (with_reducible refine (spec_ThreeOk.calls k a0_0 a0_1 _ _ l0_2 _ _ l0_3 _ _ l0_4 false _ (cb HR0_2 HB) HC0_2.out (cb HR0_3 HB) HC0_3.out (cb HR0_4 HB) HC0_4.out A2.out).mono ?_); rintro e w57 ⟨rfl, hb⟩; refine ⟨_, rfl, ?_⟩; replace BK314 := bb BK314 hb; replace BK315 := bb BK315 hb; replace HB := Aside0.mk (below_step (be2 HB GE314 GE315) hb); (try clear hb); have hcz58_0 := bz5 BK315))
 refine bodyPost_ret (results_ctt rfl _ _ gb315 30 #[.int .i64 0, .int .i64 0, .slice none 0 0, .slice none 0 0, .slice none 0 0] (0, 0) _ rfl (bp BK315) Try.underlying30 rfl (by kernel_rfl)) rfl ?_
 exact ⟨_, _, _, er, by first | exact Kd.R_nil _ _ _ _ _ | exact Kd.N_nil _ _ _ _ _ | exact Kd.V_nil _ _ _ _ _ | exact Kd.Q_nil _ _ _ _ _ | exact Kd.S_nil _ _ _ _ _, by first | exact Kd.R_nil _ _ _ _ _ | exact Kd.N_nil _ _ _ _ _ | exact Kd.V_nil _ _ _ _ _ | exact Kd.Q_nil _ _ _ _ _ | exact Kd.S_nil _ _ _ _ _, Kd.Q_of_R (by first | exact Kd.R_nil _ _ _ _ _ | exact Kd.N_nil _ _ _ _ _ | exact Kd.V_nil _ _ _ _ _ | exact Kd.Q_nil _ _ _ _ _ | exact Kd.S_nil _ _ _ _ _), be2 HB GE314 GE315⟩

/-! ### impl_within: function 64 -/
def impl_within.f (a0 : Int) (a1 : Int) (a2 : Int) : Option (Bool) := if a0 ≥ a1 then (some (decide (a0 ≤ a2))) else (some false)
set_option maxHeartbeats 8000000 in
set_option maxRecDepth 100000 in
theorem impl_within.calls (a0 : Int) (a1 : Int) (a2 : Int) (r : Bool) (w : World) (h : impl_within.f a0 a1 a2 = some r) :
  Calls Try.prog 64 #[.int .i64 a0, .int .i64 a1, .int .i64 a2] w fun e w' => e = .returned (.bool r) ∧ Drawn0 w w' := by
 have H : (if a0 ≥ a1 then (some (decide (a0 ≤ a2))) else (some false)) = some r := h
 clear h
 by_cases c4 : a0 ≥ a1
 ·rw [if_pos c4] at H
  have c4b0 : decide (a1 ≤ a0) = true := decide_eq_true c4
  clear c4
  obtain rfl := Option.some.inj H
  go_enter Try.func64, Try.ntmps64
  go_wp2
  go_ret
  exact ⟨by first | rfl | (simp; done) | (simp [*]; done), by repeat (first | exact Drawn0.refl _ | apply Drawn0.step)⟩
 rw [if_neg c4] at H
 have c4b0 : decide (a1 ≤ a0) = false := decide_eq_false c4
 clear c4
 obtain rfl := Option.some.inj H
 go_enter Try.func64, Try.ntmps64
 go_wp2
 go_ret
 exact ⟨by first | rfl | (simp; done) | (simp [*]; done), by repeat (first | exact Drawn0.refl _ | apply Drawn0.step)⟩

/-! ### impl_Three_ghosts: function 65 -/
def impl_Three_ghosts.f (a0_0 : Int) (a0_1 : Int) (l0_2 : List (S68)) (l0_3 : List (S68)) (l0_4 : List Int) : Option (Int) := some (mx 1 (wrap64 (a0_0 - a0_1)))
theorem impl_Three_ghosts_in (B : Nat) (W : World) (a b j : Int) (h0 : W.cell? ⟨B, 0, none⟩ = some (.int .i64 a)) (h1 : W.cell? ⟨B, 1, none⟩ = some (.int .i64 b)) (hj : (if 1 < wrap64 (a - b) then wrap64 (a - b) else 1) = j) :
    Calls Try.prog 65 #[.pointer (some ⟨B, 0, none⟩)] W fun e w' => e = .returned (.int .i64 j) ∧ ∃ nd, w' = W.drewN nd := by
  have HJ := Aside0.mk hj
  clear hj
  go_enter Try.func65, Try.ntmps65
  go_wp2
  repeat (go_quiet (fail); try go_wp2)
  all_goals
    go_ret
    refine ⟨?_, ?_⟩
    · rw [← HJ.out]
      first | (rw [if_pos (by omega)]; rfl) | (rw [if_neg (by omega)]; rfl)
    · first | exact ⟨_, rfl⟩ | exact ⟨0, rfl⟩ | exact ⟨1, rfl⟩
set_option maxHeartbeats 8000000 in
set_option maxRecDepth 100000 in
theorem impl_Three_ghosts.calls (a0_0 : Int) (a0_1 : Int) (A0_2 : Option Addr) (c0_2 : Nat) (l0_2 : List (S68)) (A0_3 : Option Addr) (c0_3 : Nat) (l0_3 : List (S68)) (A0_4 : Option Addr) (c0_4 : Nat) (l0_4 : List Int) (gbX : Nat) (r : Int) (w : World) (hr0_2 : Kd.C k68 w A0_2 l0_2.length l0_2) (hc0_2 : l0_2.length ≤ c0_2) (hr0_3 : Kd.C k68 w A0_3 l0_3.length l0_3) (hc0_3 : l0_3.length ≤ c0_3) (hr0_4 : Kd.C (Kd.int .i64) w A0_4 l0_4.length l0_4) (hc0_4 : l0_4.length ≤ c0_4) (hP : w.heap[gbX]? = some (.cells #[.int .i64 a0_0, .int .i64 a0_1, .slice A0_2 l0_2.length c0_2, .slice A0_3 l0_3.length c0_3, .slice A0_4 l0_4.length c0_4] 30 (0, 0))) (h : impl_Three_ghosts.f a0_0 a0_1 l0_2 l0_3 l0_4 = some r) :
  Calls Try.prog 65 #[.pointer (some ⟨gbX, 0, none⟩)] w fun e w' => e = .returned (.int .i64 r) ∧ Below w.heap.size w w' := by
  have hj : (if 1 < wrap64 (a0_0 - a0_1) then wrap64 (a0_0 - a0_1) else 1) = r := Option.some.inj h
  refine (impl_Three_ghosts_in gbX w a0_0 a0_1 r ((blk_cell hP 0).trans rfl) ((blk_cell hP 1).trans rfl) hj).mono ?_
  rintro e w' ⟨rfl, nd, rfl⟩
  exact ⟨rfl, pw_below_drewN (Below.refl _ _) nd⟩

end Go.Proofs.Ytfjhkediaholmaa.QFnExactEvict
