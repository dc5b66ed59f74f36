-- made by a program of this session (myprint.py)
import Derived.Test.YtdgpidhlbpaolaaQFnExactLeavex0
import Derived.Test.YtdgpidhlbpaolaaQFnExactLeavex8
import Derived.Test.YtdgpidhlbpaolaaQFnExactLeavex9
import Derived.Test.YtdgpidhlbpaolaaQFnExactLeavex10
namespace Go.Proofs.Ytdgpidhlbpaolaa.QFnExactLeave
open Go.RowKit Go.Proofs.YtdgpidhlbpaolaaW.PrintWords Go.Proofs.YtdgpidhlbpaolaaW.PrintLast Go.Proofs.YtdgpidhlbpaolaaW.PrintMore
attribute [local go_sem] max2_int min2_int max_two min_two max_three min_three max_four min_four   -- for this text's walks alone
set_option linter.unusedVariables false
set_option linter.unusedSimpArgs false

/-! ### impl_copyPool: function 66 -/
def impl_copyPool.f (l0_0 : List Int) (a0_1 : Int) (l0_2 : List Int) (l0_3 : List (S70)) (l0_4 : List Int) : Option (List Int × Int × List Int × (List (S70)) × List Int) := (impl_copyInts.f l0_0).bind fun t390 => ((impl_copyAges.f a0_1 l0_2 l0_3).bind fun bt393 => ((impl_copyInts.f l0_4).bind fun t400 => (some (t390, bt393.1, bt393.2.1, bt393.2.2, t400))))
def impl_copyPool.T1 : Bool × List (List Nat × List Nat) := (true, [([], []), ([0], [0]), ([1], [1]), ([], []), ([3], [3]), ([4, 2], [4]), ([], []), ([6], [6]), ([7, 5], [7]), ([2, 5, 8], [2, 5, 8]), ([9, 8, 0, 1, 2, 3, 4, 5, 6, 7, 8, 9], [9])])
def impl_copyPool.B1 : List Nat := [0, 1, 3, 0, 8, 31, 0, 64, 255, 511, 1023]
theorem impl_copyPool.tab1 : rtab .any (opsOf Try.f66 1) = impl_copyPool.T1 := by kernel_rfl
theorem impl_copyPool.bits1 : waitsOk impl_copyPool.T1.2 impl_copyPool.B1 = true := by kernel_rfl
set_option maxHeartbeats 8000000 in
set_option maxRecDepth 100000 in
theorem impl_copyPool.calls (A0_0 : Option Addr) (c0_0 : Nat) (l0_0 : List Int) (a0_1 : Int) (A0_2 : Option Addr) (c0_2 : Nat) (l0_2 : List Int) (A0_3 : Option Addr) (c0_3 : Nat) (l0_3 : List (S70)) (A0_4 : Option Addr) (c0_4 : Nat) (l0_4 : List Int) (r1 : List Int) (r2 : Int) (r3 : List Int) (r4 : List (S70)) (r5 : List Int) (w : World) (hr0_0 : Kd.C (Kd.int .i64) w A0_0 l0_0.length l0_0) (hc0_0 : l0_0.length ≤ c0_0) (hr0_2 : Kd.C (Kd.int .i64) w A0_2 l0_2.length l0_2) (hc0_2 : l0_2.length ≤ c0_2) (hr0_3 : Kd.C k70 w A0_3 l0_3.length l0_3) (hc0_3 : l0_3.length ≤ c0_3) (hr0_4 : Kd.C (Kd.int .i64) w A0_4 l0_4.length l0_4) (hc0_4 : l0_4.length ≤ c0_4) (h : impl_copyPool.f l0_0 a0_1 l0_2 l0_3 l0_4 = some (r1, r2, r3, r4, r5)) :
  Calls Try.prog 66 #[.agg #[.slice A0_0 l0_0.length c0_0, .int .i64 a0_1, .slice A0_2 l0_2.length c0_2, .slice A0_3 l0_3.length c0_3, .slice A0_4 l0_4.length c0_4]] w fun e w' => ∃ v0_ v2_ v3_ v4_ : Value, e = .returned (.agg #[v0_, .int .i64 r2, v2_, v3_, v4_]) ∧ Kd.R (Kd.int .i64) 3 w' w.heap.size (fun k_ => some k_ ≠ (v2_ : Value).ownBlock ∧ some k_ ≠ (v4_ : Value).ownBlock) v0_ r1 ∧ Kd.R (Kd.int .i64) 3 w' w.heap.size (fun k_ => some k_ ≠ (v0_ : Value).ownBlock ∧ some k_ ≠ (v4_ : Value).ownBlock) v2_ r3 ∧ Kd.R k70 70 w' w.heap.size (fun _ => True) v3_ r4 ∧ Kd.R (Kd.int .i64) 3 w' w.heap.size (fun k_ => some k_ ≠ (v0_ : Value).ownBlock ∧ some k_ ≠ (v2_ : Value).ownBlock) v4_ r5 ∧ Below w.heap.size w w' := by
 have hu27 := Try.underlying27
 have hu25 := Try.underlying25
 have HR0_0 := Aside0.mk hr0_0
 have HC0_0 := Aside0.mk hc0_0
 clear hr0_0 hc0_0
 have HR0_2 := Aside0.mk hr0_2
 have HC0_2 := Aside0.mk hc0_2
 clear hr0_2 hc0_2
 have HR0_3 := Aside0.mk hr0_3
 have HC0_3 := Aside0.mk hc0_3
 clear hr0_3 hc0_3
 have HR0_4 := Aside0.mk hr0_4
 have HC0_4 := Aside0.mk hc0_4
 clear hr0_4 hc0_4
 have HB := Aside0.mk (Below.refl w.heap.size w)
 have H : ((impl_copyInts.f l0_0).bind fun t390 => ((impl_copyAges.f a0_1 l0_2 l0_3).bind fun bt393 => ((impl_copyInts.f l0_4).bind fun t400 => (some (t390, bt393.1, bt393.2.1, bt393.2.2, t400))))) = some (r1, r2, r3, r4, r5) := h
 clear h
 replace H := Option.bind_eq_some_iff.mp H
 obtain ⟨t390, A20, H⟩ := H
 replace H : ((impl_copyAges.f a0_1 l0_2 l0_3).bind fun bt393 => ((impl_copyInts.f l0_4).bind fun t400 => (some (t390, bt393.1, bt393.2.1, bt393.2.2, t400)))) = some (r1, r2, r3, r4, r5) := H
 have A2 := Aside0.mk A20
 clear A20
 replace H := Option.bind_eq_some_iff.mp H
 obtain ⟨⟨t393, t394, t397⟩, A30, H⟩ := H
 replace H : ((impl_copyInts.f l0_4).bind fun t400 => (some (t390, t393, t394, t397, t400))) = some (r1, r2, r3, r4, r5) := H
 have A3 := Aside0.mk A30
 clear A30
 replace H := Option.bind_eq_some_iff.mp H
 obtain ⟨t400, A40, H⟩ := H
 replace H : (some (t390, t393, t394, t397, t400)) = some (r1, r2, r3, r4, r5) := H
 have A4 := Aside0.mk A40
 clear A40
 simp only [Option.some.injEq, Prod.mk.injEq] at H
 obtain ⟨rfl, rfl, rfl, rfl, rfl⟩ := H
 go_enter Try.func66, Try.ntmps66
 try go_wp2_with (first | ((with_reducible refine gate_dst (N := 1) rfl ?_); refine bx 1 #[.slice A0_0 l0_0.length c0_0, .int .i64 a0_1, .slice A0_2 l0_2.length c0_2, .slice A0_3 l0_3.length c0_3, .slice A0_4 l0_4.length c0_4] 27 ?_; intro gb388 hg w5 hbox hb; have BK388 := am hbox; have GW388 := gs0 hg HB; have GE388 := gs0 hg HB; replace HB := s0 HB hb; clear hb hbox hg) | ((with_reducible refine gate_dst (N := 2) rfl ?_); refine bx 2 #[.slice none 0 0, .int .i64 0, .slice none 0 0, .slice none 0 0, .slice none 0 0] 27 ?_; intro gb389 hg w6 hbox hb; have BK389 := am hbox; have GW389 := gs1 hg HB GE388; have GE389 := gs1 hg HB GE388; replace HB := Aside0.mk (below_step (be1 HB GE388) hb); have NB388_389 := Aside0.mk ((by rw [hg]; exact Nat.ne_of_lt (bl BK388) : gb388 ≠ gb389)); have NB389_388 := Aside0.mk ((by rw [hg]; exact Nat.ne_of_gt (bl BK388) : gb389 ≠ gb388)); replace BK388 := bb BK388 hb; clear hb hbox hg))
 have n0_ := Aside0.mk (blk_drew BK388.out)
 have n1_ := Aside0.mk (blk_drew BK389.out)
 have n2_ := Aside0.mk (below_drew1 HB.out)
 clear BK388
 clear BK389
 clear HB
 have BK388 := n0_
 have BK389 := n1_
 have HB := n2_
 clear n0_ n1_ n2_
 refine start_ (n := 11) (S := fun w' => w'.cell? ⟨gb388, 0, none⟩ = some (.slice A0_0 l0_0.length c0_0) ∧ w'.cell? ⟨gb388, 1, none⟩ = some (.int .i64 a0_1) ∧ w'.cell? ⟨gb388, 2, none⟩ = some (.slice A0_2 l0_2.length c0_2) ∧ w'.cell? ⟨gb388, 3, none⟩ = some (.slice A0_3 l0_3.length c0_3) ∧ w'.cell? ⟨gb388, 4, none⟩ = some (.slice A0_4 l0_4.length c0_4)) (ds := []) (bv 11 0x0) (by kernel_rfl) rfl rfl ⟨bc0 BK388, bc1 BK388, bc2 BK388, bc3 BK388, bc4 BK388⟩ (fun hHeld => ?_); refine with_tabW impl_copyPool.tab1 impl_copyPool.bits1 (fun HT_ HW_ => ?_)
 generalize w6.drew = w7 at BK388 BK389 HB hHeld ⊢
 refine py HT_ 0 3 (bv 11 0x1) ?_
 refine py HT_ 3 6 (bv 11 0x9) ?_
 refine py HT_ 6 9 (bv 11 0x49) ?_
 refine tk HT_ HW_ hHeld 1 4 (bv 11 0x4b) ?_
 refine tk HT_ HW_ hHeld 4 7 (bv 11 0x5b) ?_
 refine tk HT_ HW_ hHeld 7 10 (bv 11 0xdb) ?_
 refine one_ (i := 2) (N := some 5) (bv 11 0xdf) rfl rfl (one_of HT_.out (by kernel_rfl)) (by decide) (fun K hK => ?_)
 refine goes_ Try.func57 (by kernel_rfl) rfl #[.slice A0_0 l0_0.length c0_0] (by rfl) rfl rfl ml ?_
 with_reducible refine (impl_copyInts.calls _ _ l0_0 t390 _ ?side1 ?side2 A2.out).mono ?_
 (case side1 => exact cb HR0_0 HB)
 (case side2 => exact HC0_0.out)
 rintro e w8 ⟨v391, rfl, ho0, hb⟩
 refine ⟨_, rfl, ?_⟩
 have n0_ := Aside0.mk (Kd.R_lower ho0 (below_size (be2 HB GE388 GE389)))
 have n1_ := bb BK388 hb
 have n2_ := bb BK389 hb
 have n3_ := Aside0.mk (below_step (be2 HB GE388 GE389) hb)
 clear BK388
 clear BK389
 clear HB
 have HO392 := n0_
 have BK388 := n1_
 have BK389 := n2_
 have HB := n3_
 clear n0_ n1_ n2_ n3_
 (try clear hb)
 (try clear hb2)
 (try clear hk)
 (try clear hi)
 (try clear ho0)
 refine hK.out _ _ ⟨bc0 BK388, bc1 BK388, bc2 BK388, bc3 BK388, bc4 BK388⟩ (fun hHeld => ?_)
 clear hK K
 refine norm_ (a' := ?_) ?_ ?_
 rotate_left
 ·show Act.put _ (some 5) _ = _
  simp only [aP]
  rfl
 refine one_ (i := 5) (N := some 8) (bv 11 0xff) rfl rfl (one_of HT_.out (by kernel_rfl)) (by decide) (fun K hK => ?_)
 refine goes_ Try.func96 (by kernel_rfl) rfl #[.agg #[.int .i64 a0_1, .slice A0_2 l0_2.length c0_2, .slice A0_3 l0_3.length c0_3]] (by rfl) rfl rfl ml ?_
 with_reducible refine (impl_copyAges.calls a0_1 _ _ l0_2 _ _ l0_3 t393 t394 t397 _ ?side1 ?side2 ?side3 ?side4 A3.out).mono ?_
 (case side1 => exact cb HR0_2 HB)
 (case side2 => exact HC0_2.out)
 (case side3 => exact cb HR0_3 HB)
 (case side4 => exact HC0_3.out)
 rintro e w9 ⟨v395, v398, rfl, ho0, ho1, hb⟩
 refine ⟨_, rfl, ?_⟩
 have n0_ := Aside0.mk (Kd.R_elder' (ro HO392) (Kd.R_base ho0) hb)
 have n1_ := Aside0.mk (Kd.R_lower (nw ho0 HO392) (below_size (be2 HB GE388 GE389)))
 have n2_ := Aside0.mk (Kd.R_lower ho1 (below_size (be2 HB GE388 GE389)))
 have n3_ := bb BK388 hb
 have n4_ := bb BK389 hb
 have n5_ := Aside0.mk (below_step (be2 HB GE388 GE389) hb)
 clear HO392
 clear BK388
 clear BK389
 clear HB
 have HO392 := n0_
 have HO396 := n1_
 have HO399 := n2_
 have BK388 := n3_
 have BK389 := n4_
 have HB := n5_
 clear n0_ n1_ n2_ n3_ n4_ n5_
 (try clear hb)
 (try clear hb2)
 (try clear hk)
 (try clear hi)
 (try clear ho0)
 (try clear ho1)
 refine hK.out _ _ ⟨bc0 BK388, bc1 BK388, bc2 BK388, bc3 BK388, bc4 BK388⟩ (fun hHeld => ?_)
 clear hK K
 refine norm_ (a' := ?_) ?_ ?_
 rotate_left
 ·show Act.put _ (some 8) _ = _
  simp only [aP]
  rfl
 refine one_ (i := 8) (N := some 11) (bv 11 0x1ff) rfl rfl (one_of HT_.out (by kernel_rfl)) (by decide) (fun K hK => ?_)
 refine goes_ Try.func57 (by kernel_rfl) rfl #[.slice A0_4 l0_4.length c0_4] (by rfl) rfl rfl ml ?_
 with_reducible refine (impl_copyInts.calls _ _ l0_4 t400 _ ?side1 ?side2 A4.out).mono ?_
 (case side1 => exact cb HR0_4 HB)
 (case side2 => exact HC0_4.out)
 rintro e w10 ⟨v401, rfl, ho0, hb⟩
 refine ⟨_, rfl, ?_⟩
 have n0_ := Aside0.mk (Kd.R_elder' (ro HO392) (Kd.R_base ho0) hb)
 have n1_ := Aside0.mk (Kd.R_elder' (ro HO396) (Kd.R_base ho0) hb)
 have n2_ := rb HO399 hb
 have n3_ := Aside0.mk (Kd.R_lower (nw (nw ho0 HO392) HO396) (below_size (be2 HB GE388 GE389)))
 have n4_ := bb BK388 hb
 have n5_ := bb BK389 hb
 have n6_ := Aside0.mk (below_step (be2 HB GE388 GE389) hb)
 clear HO392
 clear HO396
 clear HO399
 clear BK388
 clear BK389
 clear HB
 have HO392 := n0_
 have HO396 := n1_
 have HO399 := n2_
 have HO402 := n3_
 have BK388 := n4_
 have BK389 := n5_
 have HB := n6_
 clear n0_ n1_ n2_ n3_ n4_ n5_ n6_
 (try clear hb)
 (try clear hb2)
 (try clear hk)
 (try clear hi)
 (try clear ho0)
 obtain ⟨Ao11, co11, eo11⟩ := Kd.R_slice HO402.out
 (first | subst eo11 | (injection eo11 with f1_ f2_ f3_; have f4_ := f1_.symm; have f5_ := f3_.symm; clear f1_ f2_ f3_; subst f4_; subst f5_))
 obtain ⟨Ao12, co12, eo12⟩ := Kd.R_slice HO399.out
 (first | subst eo12 | (injection eo12 with f1_ f2_ f3_; have f4_ := f1_.symm; have f5_ := f3_.symm; clear f1_ f2_ f3_; subst f4_; subst f5_))
 obtain ⟨Ao13, co13, eo13⟩ := Kd.R_slice HO396.out
 (first | subst eo13 | (injection eo13 with f1_ f2_ f3_; have f4_ := f1_.symm; have f5_ := f3_.symm; clear f1_ f2_ f3_; subst f4_; subst f5_))
 obtain ⟨Ao14, co14, eo14⟩ := Kd.R_slice HO392.out
 (first | subst eo14 | (injection eo14 with f1_ f2_ f3_; have f4_ := f1_.symm; have f5_ := f3_.symm; clear f1_ f2_ f3_; subst f4_; subst f5_))
 refine hK.out _ _ ⟨bc0 BK388, bc1 BK388, bc2 BK388, bc3 BK388, bc4 BK388⟩ (fun hHeld => ?_)
 clear hK K
 refine norm_ (a' := ?_) ?_ ?_
 rotate_left
 ·show Act.put _ (some 11) _ = _
  simp only [aP]
  rfl
 refine py HT_ 9 12 (bv 11 0x3ff) ?_
 refine one_ (i := 10) (N := none) (bv 11 0x7ff) rfl rfl (one_of HT_.out (by kernel_rfl)) (by decide) (fun K hK => ?_)
 have hs15 : w10.cell? ⟨gb389, 0, none⟩ = some (.slice none 0 0) := bc0 BK389
 have hfs15 := blk_frozen BK389.out 0
 have hns15_0 := NB388_389.out
 have hms15_0 := NB389_388.out
 have hs16 : w10.cell? ⟨gb389, 1, none⟩ = some (.int .i64 0) := bc1 BK389
 have hfs16 := blk_frozen BK389.out 1
 have hns16_0 := NB388_389.out
 have hms16_0 := NB389_388.out
 have hs17 : w10.cell? ⟨gb389, 2, none⟩ = some (.slice none 0 0) := bc2 BK389
 have hfs17 := blk_frozen BK389.out 2
 have hns17_0 := NB388_389.out
 have hms17_0 := NB389_388.out
 have hs18 : w10.cell? ⟨gb389, 3, none⟩ = some (.slice none 0 0) := bc3 BK389
 have hfs18 := blk_frozen BK389.out 3
 have hns18_0 := NB388_389.out
 have hms18_0 := NB389_388.out
 have hs19 : w10.cell? ⟨gb389, 4, none⟩ = some (.slice none 0 0) := bc4 BK389
 have hfs19 := blk_frozen BK389.out 4
 have hns19_0 := NB388_389.out
 have hms19_0 := NB389_388.out
 refine skip_ (w1 := ?_) (by rfl) rfl ?_ ?_
 rotate_left
 ·go_simp
  rfl
 refine hK.out _ _ ⟨((cell_far (p := ⟨gb389, _, none⟩) NB388_389.out _).trans (((cell_far (p := ⟨gb389, _, none⟩) NB388_389.out _).trans (((cell_far (p := ⟨gb389, _, none⟩) NB388_389.out _).trans (((cell_far (p := ⟨gb389, _, none⟩) NB388_389.out _).trans (((cell_far (p := ⟨gb389, _, none⟩) NB388_389.out _).trans (hHeld.1)))))))))), ((cell_far (p := ⟨gb389, _, none⟩) NB388_389.out _).trans (((cell_far (p := ⟨gb389, _, none⟩) NB388_389.out _).trans (((cell_far (p := ⟨gb389, _, none⟩) NB388_389.out _).trans (((cell_far (p := ⟨gb389, _, none⟩) NB388_389.out _).trans (((cell_far (p := ⟨gb389, _, none⟩) NB388_389.out _).trans (hHeld.2.1)))))))))), ((cell_far (p := ⟨gb389, _, none⟩) NB388_389.out _).trans (((cell_far (p := ⟨gb389, _, none⟩) NB388_389.out _).trans (((cell_far (p := ⟨gb389, _, none⟩) NB388_389.out _).trans (((cell_far (p := ⟨gb389, _, none⟩) NB388_389.out _).trans (((cell_far (p := ⟨gb389, _, none⟩) NB388_389.out _).trans (hHeld.2.2.1)))))))))), ((cell_far (p := ⟨gb389, _, none⟩) NB388_389.out _).trans (((cell_far (p := ⟨gb389, _, none⟩) NB388_389.out _).trans (((cell_far (p := ⟨gb389, _, none⟩) NB388_389.out _).trans (((cell_far (p := ⟨gb389, _, none⟩) NB388_389.out _).trans (((cell_far (p := ⟨gb389, _, none⟩) NB388_389.out _).trans (hHeld.2.2.2.1)))))))))), ((cell_far (p := ⟨gb389, _, none⟩) NB388_389.out _).trans (((cell_far (p := ⟨gb389, _, none⟩) NB388_389.out _).trans (((cell_far (p := ⟨gb389, _, none⟩) NB388_389.out _).trans (((cell_far (p := ⟨gb389, _, none⟩) NB388_389.out _).trans (((cell_far (p := ⟨gb389, _, none⟩) NB388_389.out _).trans (hHeld.2.2.2.2))))))))))⟩ (fun hHeld => ?_)
 clear hK K
 refine done_ (done_of HT_.out (by kernel_rfl)) ?_
 try go_wp2
 refine bodyPost_ret (results_cell_row rfl _ _ gb389 27 #[.slice Ao14 t390.length co14, .int .i64 t393, .slice Ao13 t394.length co13, .slice Ao12 t397.length co12, .slice Ao11 t400.length co11] (0, 0) _ rfl (by (with_reducible repeat (first | refine blk_drewN ?_ _ | refine blk_drew ?_ | refine blk_alloc ?_ _)); refine blk_put (cs := #[.slice Ao14 t390.length co14, .int .i64 t393, .slice Ao13 t394.length co13, .slice Ao12 t397.length co12, .slice none 0 0]) ?_ 4 _ rfl; (with_reducible repeat (first | refine blk_drewN ?_ _ | refine blk_drew ?_ | refine blk_alloc ?_ _)); refine blk_put (cs := #[.slice Ao14 t390.length co14, .int .i64 t393, .slice Ao13 t394.length co13, .slice none 0 0, .slice none 0 0]) ?_ 3 _ rfl; (with_reducible repeat (first | refine blk_drewN ?_ _ | refine blk_drew ?_ | refine blk_alloc ?_ _)); refine blk_put (cs := #[.slice Ao14 t390.length co14, .int .i64 t393, .slice none 0 0, .slice none 0 0, .slice none 0 0]) ?_ 2 _ rfl; (with_reducible repeat (first | refine blk_drewN ?_ _ | refine blk_drew ?_ | refine blk_alloc ?_ _)); refine blk_put (cs := #[.slice Ao14 t390.length co14, .int .i64 0, .slice none 0 0, .slice none 0 0, .slice none 0 0]) ?_ 1 _ rfl; (with_reducible repeat (first | refine blk_drewN ?_ _ | refine blk_drew ?_ | refine blk_alloc ?_ _)); refine blk_put (cs := #[.slice none 0 0, .int .i64 0, .slice none 0 0, .slice none 0 0, .slice none 0 0]) ?_ 0 _ rfl; (with_reducible repeat (first | refine blk_drewN ?_ _ | refine blk_drew ?_ | refine blk_alloc ?_ _)); exact BK389.out) Try.underlying27 rfl (by kernel_rfl)) rfl ?_
 exact ⟨_, _, _, _, er, by (with_reducible repeat (first | apply Kd.R_alloc | apply Kd.R_drewN | apply Kd.R_drew)); exact Kd.R_mono (Kd.R_far (p := ⟨gb389, 4, none⟩) (Kd.R_far (p := ⟨gb389, 3, none⟩) (Kd.R_far (p := ⟨gb389, 2, none⟩) (Kd.R_far (p := ⟨gb389, 1, none⟩) (Kd.R_far (p := ⟨gb389, 0, none⟩) (Kd.R_types HO392.out BK389.out (by decide)) (fun _ hk => hk.2) (.slice Ao14 t390.length co14)) (fun _ hk => hk.2) (.int .i64 t393)) (fun _ hk => hk.2) (.slice Ao13 t394.length co13)) (fun _ hk => hk.2) (.slice Ao12 t397.length co12)) (fun _ hk => hk.2) (.slice Ao11 t400.length co11)) (fun _ hk => ⟨hk.1.1.2, hk.1.2⟩), by (with_reducible repeat (first | apply Kd.R_alloc | apply Kd.R_drewN | apply Kd.R_drew)); exact Kd.R_mono (Kd.R_far (p := ⟨gb389, 4, none⟩) (Kd.R_far (p := ⟨gb389, 3, none⟩) (Kd.R_far (p := ⟨gb389, 2, none⟩) (Kd.R_far (p := ⟨gb389, 1, none⟩) (Kd.R_far (p := ⟨gb389, 0, none⟩) (Kd.R_types HO396.out BK389.out (by decide)) (fun _ hk => hk.2) (.slice Ao14 t390.length co14)) (fun _ hk => hk.2) (.int .i64 t393)) (fun _ hk => hk.2) (.slice Ao13 t394.length co13)) (fun _ hk => hk.2) (.slice Ao12 t397.length co12)) (fun _ hk => hk.2) (.slice Ao11 t400.length co11)) (fun _ hk => ⟨hk.1.1.2, hk.1.2⟩), by (with_reducible repeat (first | apply Kd.R_alloc | apply Kd.R_drewN | apply Kd.R_drew)); exact Kd.R_mono (Kd.R_far (p := ⟨gb389, 4, none⟩) (Kd.R_far (p := ⟨gb389, 3, none⟩) (Kd.R_far (p := ⟨gb389, 2, none⟩) (Kd.R_far (p := ⟨gb389, 1, none⟩) (Kd.R_far (p := ⟨gb389, 0, none⟩) (Kd.R_types HO399.out BK389.out (by decide)) (fun _ hk => hk.2) (.slice Ao14 t390.length co14)) (fun _ hk => hk.2) (.int .i64 t393)) (fun _ hk => hk.2) (.slice Ao13 t394.length co13)) (fun _ hk => hk.2) (.slice Ao12 t397.length co12)) (fun _ hk => hk.2) (.slice Ao11 t400.length co11)) (fun _ hk => trivial), by (with_reducible repeat (first | apply Kd.R_alloc | apply Kd.R_drewN | apply Kd.R_drew)); exact Kd.R_mono (Kd.R_far (p := ⟨gb389, 4, none⟩) (Kd.R_far (p := ⟨gb389, 3, none⟩) (Kd.R_far (p := ⟨gb389, 2, none⟩) (Kd.R_far (p := ⟨gb389, 1, none⟩) (Kd.R_far (p := ⟨gb389, 0, none⟩) (Kd.R_types HO402.out BK389.out (by decide)) (fun _ hk => hk.2) (.slice Ao14 t390.length co14)) (fun _ hk => hk.2) (.int .i64 t393)) (fun _ hk => hk.2) (.slice Ao13 t394.length co13)) (fun _ hk => hk.2) (.slice Ao12 t397.length co12)) (fun _ hk => hk.2) (.slice Ao11 t400.length co11)) (fun _ hk => ⟨hk.1.1.2, hk.1.2⟩), be2 HB GE388 GE389⟩

/-! ### impl_aged: function 70 -/
def impl_aged.f (l0_0 : List Int) (a0_1 : Int) (l0_2 : List Int) (l0_3 : List (S70)) (l0_4 : List Int) (a1_0 : Int) (l1_1 : List Int) (l1_2 : List (S70)) : Option (List Int × Int × List Int × (List (S70)) × List Int) := (impl_copyPool.f l0_0 a0_1 l0_2 l0_3 l0_4).bind fun bt406 => (some (bt406.1, a1_0, l1_1, l1_2, bt406.2.2.2.2))
set_option maxHeartbeats 8000000 in
set_option maxRecDepth 100000 in
theorem impl_aged.calls (A0_0 : Option Addr) (c0_0 : Nat) (l0_0 : List Int) (a0_1 : Int) (A0_2 : Option Addr) (c0_2 : Nat) (l0_2 : List Int) (A0_3 : Option Addr) (c0_3 : Nat) (l0_3 : List (S70)) (A0_4 : Option Addr) (c0_4 : Nat) (l0_4 : List Int) (a1_0 : Int) (P1_1_ : Nat → Prop) (u9000_ : Value) (l1_1 : List Int) (P1_2_ : Nat → Prop) (u9001_ : Value) (l1_2 : List (S70)) (r1 : List Int) (r2 : Int) (r3 : List Int) (r4 : List (S70)) (r5 : List Int) (w0 w : World) (hB : Below w0.heap.size w0 w) (hr0_0 : ∀ W_, Kept w W_ (fun k_ => P1_1_ k_ ∨ P1_2_ k_) → Kd.C (Kd.int .i64) W_ A0_0 l0_0.length l0_0) (hc0_0 : l0_0.length ≤ c0_0) (hr0_2 : ∀ W_, Kept w W_ (fun k_ => P1_1_ k_ ∨ P1_2_ k_) → Kd.C (Kd.int .i64) W_ A0_2 l0_2.length l0_2) (hc0_2 : l0_2.length ≤ c0_2) (hr0_3 : ∀ W_, Kept w W_ (fun k_ => P1_1_ k_ ∨ P1_2_ k_) → Kd.C k70 W_ A0_3 l0_3.length l0_3) (hc0_3 : l0_3.length ≤ c0_3) (hr0_4 : ∀ W_, Kept w W_ (fun k_ => P1_1_ k_ ∨ P1_2_ k_) → Kd.C (Kd.int .i64) W_ A0_4 l0_4.length l0_4) (hc0_4 : l0_4.length ≤ c0_4) (ho1_1 : Kd.R (Kd.int .i64) 3 w w0.heap.size P1_1_ u9000_ l1_1) (ho1_2 : Kd.R k70 70 w w0.heap.size P1_2_ u9001_ l1_2) (h : impl_aged.f l0_0 a0_1 l0_2 l0_3 l0_4 a1_0 l1_1 l1_2 = some (r1, r2, r3, r4, r5)) :
  Calls Try.prog 70 #[.agg #[.slice A0_0 l0_0.length c0_0, .int .i64 a0_1, .slice A0_2 l0_2.length c0_2, .slice A0_3 l0_3.length c0_3, .slice A0_4 l0_4.length c0_4], .agg #[.int .i64 a1_0, u9000_, u9001_]] w fun e w' => ∃ v0_ v2_ v3_ v4_ : Value, e = .returned (.agg #[v0_, .int .i64 r2, v2_, v3_, v4_]) ∧ Kd.R (Kd.int .i64) 3 w' w0.heap.size (fun k_ => ((P1_1_ k_ ∨ P1_2_ k_) ∨ w.heap.size ≤ k_) ∧ some k_ ≠ (v2_ : Value).ownBlock ∧ some k_ ≠ (v4_ : Value).ownBlock) v0_ r1 ∧ Kd.R (Kd.int .i64) 3 w' w0.heap.size (fun k_ => ((P1_1_ k_ ∨ P1_2_ k_) ∨ w.heap.size ≤ k_) ∧ some k_ ≠ (v0_ : Value).ownBlock ∧ some k_ ≠ (v4_ : Value).ownBlock) v2_ r3 ∧ Kd.R k70 70 w' w0.heap.size (fun k_ => ((P1_1_ k_ ∨ P1_2_ k_) ∨ w.heap.size ≤ k_)) v3_ r4 ∧ Kd.R (Kd.int .i64) 3 w' w0.heap.size (fun k_ => ((P1_1_ k_ ∨ P1_2_ k_) ∨ w.heap.size ≤ k_) ∧ some k_ ≠ (v0_ : Value).ownBlock ∧ some k_ ≠ (v2_ : Value).ownBlock) v4_ r5 ∧ Below w0.heap.size w0 w' ∧ Kept w w' (fun k_ => P1_1_ k_ ∨ P1_2_ k_) := by
 have hu27 := Try.underlying27
 have hu25 := Try.underlying25
 have HR0_0 := Aside0.mk hr0_0
 have HC0_0 := Aside0.mk hc0_0
 clear hr0_0 hc0_0
 have HR0_2 := Aside0.mk hr0_2
 have HC0_2 := Aside0.mk hc0_2
 clear hr0_2 hc0_2
 have HR0_3 := Aside0.mk hr0_3
 have HC0_3 := Aside0.mk hc0_3
 clear hr0_3 hc0_3
 have HR0_4 := Aside0.mk hr0_4
 have HC0_4 := Aside0.mk hc0_4
 clear hr0_4 hc0_4
 have HO1_1 := Aside0.mk (show Kd.R (Kd.int .i64) 3 w w0.heap.size (fun k_ => ((P1_1_ k_ ∨ P1_2_ k_) ∨ w.heap.size ≤ k_)) u9000_ l1_1 from Kd.R_mono ho1_1 (fun k_ hk => (.inl (.inl hk))))
 have HO1_2 := Aside0.mk (show Kd.R k70 70 w w0.heap.size (fun k_ => ((P1_1_ k_ ∨ P1_2_ k_) ∨ w.heap.size ≤ k_)) u9001_ l1_2 from Kd.R_mono ho1_2 (fun k_ hk => (.inl (.inr hk))))
 have HK := Aside0.mk (Kept.refl w (fun k_ => P1_1_ k_ ∨ P1_2_ k_))
 have HW0 := Aside0.mk hB.size
 have HB := Aside0.mk hB
 clear hB
 have H : ((impl_copyPool.f l0_0 a0_1 l0_2 l0_3 l0_4).bind fun bt406 => (some (bt406.1, a1_0, l1_1, l1_2, bt406.2.2.2.2))) = some (r1, r2, r3, r4, r5) := h
 clear h
 replace H := Option.bind_eq_some_iff.mp H
 obtain ⟨⟨t406, t409, t410, t413, t416⟩, A30, H⟩ := H
 replace H : (some (t406, a1_0, l1_1, l1_2, t416)) = some (r1, r2, r3, r4, r5) := H
 have A3 := Aside0.mk A30
 clear A30
 simp only [Option.some.injEq, Prod.mk.injEq] at H
 obtain ⟨rfl, rfl, rfl, rfl, rfl⟩ := H
 go_enter Try.func70, Try.ntmps70
 go_wp2_with (first | ((with_reducible refine gate_dst (N := 2) rfl ?_); refine bx 2 #[.slice A0_0 l0_0.length c0_0, .int .i64 a0_1, .slice A0_2 l0_2.length c0_2, .slice A0_3 l0_3.length c0_3, .slice A0_4 l0_4.length c0_4] 27 ?_; intro gb403 hg w4 hbox hb; replace HO1_1 := rb HO1_1 hb; replace HO1_2 := rb HO1_2 hb; have BK403 := am hbox; have GW403 := Aside0.mk ((by rw [hg]; exact (by first | exact HK.out.1 | exact (show Kept w _ (fun k_ => P1_1_ k_ ∨ P1_2_ k_) from by repeat (first | (with_reducible first | exact HK.out | apply Kept.alloc | apply Kept.drewN | apply Kept.drew) | exact HK.out)).1) : w.heap.size ≤ gb403)); replace HK := Aside0.mk (Kept.below (S := (fun k_ => P1_1_ k_ ∨ P1_2_ k_)) (by repeat (first | (with_reducible first | exact HK.out | apply Kept.alloc | apply Kept.drewN | apply Kept.drew) | exact HK.out)) hb); have GE403 := Aside0.mk ((by rw [hg]; exact (below_size (be HB)) : w0.heap.size ≤ gb403)); replace HB := s0 HB hb; clear hb hbox hg; obtain ⟨Ao5, co5, eo5⟩ := Kd.R_slice HO1_1.out; subst eo5; obtain ⟨Ao6, co6, eo6⟩ := Kd.R_slice HO1_2.out; subst eo6) | ((with_reducible refine gate_dst (N := 3) rfl ?_); refine bx 3 #[.int .i64 a1_0, .slice Ao5 l1_1.length co5, .slice Ao6 l1_2.length co6] 25 ?_; intro gb404 hg w7 hbox hb; replace HO1_1 := rb HO1_1 hb; replace HO1_2 := rb HO1_2 hb; have BK404 := am hbox; have GW404 := Aside0.mk ((by rw [hg]; exact (by first | exact HK.out.1 | exact (show Kept w _ (fun k_ => P1_1_ k_ ∨ P1_2_ k_) from by repeat (first | (with_reducible first | exact HK.out | apply Kept.alloc | apply Kept.drewN | apply Kept.drew | refine Kept.setCell ?_ (.inr GW403.out) _) | exact HK.out)).1) : w.heap.size ≤ gb404)); replace HK := Aside0.mk (Kept.below (S := (fun k_ => P1_1_ k_ ∨ P1_2_ k_)) (by repeat (first | (with_reducible first | exact HK.out | apply Kept.alloc | apply Kept.drewN | apply Kept.drew | refine Kept.setCell ?_ (.inr GW403.out) _) | exact HK.out)) hb); have GE404 := Aside0.mk ((by rw [hg]; exact (below_size (be1 HB GE403)) : w0.heap.size ≤ gb404)); replace HB := Aside0.mk (below_step (be1 HB GE403) hb); have NB403_404 := Aside0.mk ((by rw [hg]; exact Nat.ne_of_lt (bl BK403) : gb403 ≠ gb404)); have NB404_403 := Aside0.mk ((by rw [hg]; exact Nat.ne_of_gt (bl BK403) : gb404 ≠ gb403)); replace BK403 := bb BK403 hb; clear hb hbox hg) | ((with_reducible refine gate_dst (N := 4) rfl ?_); refine bx 4 #[.slice none 0 0, .int .i64 0, .slice none 0 0, .slice none 0 0, .slice none 0 0] 27 ?_; intro gb405 hg w8 hbox hb; replace HO1_1 := rb HO1_1 hb; replace HO1_2 := rb HO1_2 hb; have BK405 := am hbox; have GW405 := Aside0.mk ((by rw [hg]; exact (by first | exact HK.out.1 | exact (show Kept w _ (fun k_ => P1_1_ k_ ∨ P1_2_ k_) from by repeat (first | (with_reducible first | exact HK.out | apply Kept.alloc | apply Kept.drewN | apply Kept.drew | refine Kept.setCell ?_ (.inr GW403.out) _ | refine Kept.setCell ?_ (.inr GW404.out) _) | exact HK.out)).1) : w.heap.size ≤ gb405)); replace HK := Aside0.mk (Kept.below (S := (fun k_ => P1_1_ k_ ∨ P1_2_ k_)) (by repeat (first | (with_reducible first | exact HK.out | apply Kept.alloc | apply Kept.drewN | apply Kept.drew | refine Kept.setCell ?_ (.inr GW403.out) _ | refine Kept.setCell ?_ (.inr GW404.out) _) | exact HK.out)) hb); have GE405 := Aside0.mk ((by rw [hg]; exact (below_size (be2 HB GE403 GE404)) : w0.heap.size ≤ gb405)); replace HB := Aside0.mk (below_step (be2 HB GE403 GE404) hb); have NB403_405 := Aside0.mk ((by rw [hg]; exact Nat.ne_of_lt (bl BK403) : gb403 ≠ gb405)); have NB405_403 := Aside0.mk ((by rw [hg]; exact Nat.ne_of_gt (bl BK403) : gb405 ≠ gb403)); replace BK403 := bb BK403 hb; have NB404_405 := Aside0.mk ((by rw [hg]; exact Nat.ne_of_lt (bl BK404) : gb404 ≠ gb405)); have NB405_404 := Aside0.mk ((by rw [hg]; exact Nat.ne_of_gt (bl BK404) : gb405 ≠ gb404)); replace BK404 := bb BK404 hb; clear hb hbox hg; have hnb9 := NB403_404.out; have hnc9 := NB404_403.out; have hnb10 := NB403_405.out; have hnc10 := NB405_403.out; have hcz11_0 := bz5 BK403) | ((with_reducible refine gate_callee (f := 66) rfl ?_); refine gl 7 Try.func66 #[.agg #[.slice A0_0 l0_0.length c0_0, .int .i64 a0_1, .slice A0_2 l0_2.length c0_2, .slice A0_3 l0_3.length c0_3, .slice A0_4 l0_4.length c0_4]] ?_; (with_reducible refine (impl_copyPool.calls _ _ l0_0 a0_1 _ _ l0_2 _ _ l0_3 _ _ l0_4 t406 t409 t410 t413 t416 _ ?side1 HC0_0.out ?side3 HC0_2.out ?side5 HC0_3.out ?side7 HC0_4.out A3.out).mono ?_); (case side1 => exact Kd.C_kept_now HR0_0.out (by repeat (first | (with_reducible first | exact HK.out | apply Kept.alloc | apply Kept.drewN | apply Kept.drew | refine Kept.setCell ?_ (.inr GW403.out) _ | refine Kept.setCell ?_ (.inr GW404.out) _ | refine Kept.setCell ?_ (.inr GW405.out) _) | exact HK.out))); (case side3 => exact Kd.C_kept_now HR0_2.out (by repeat (first | (with_reducible first | exact HK.out | apply Kept.alloc | apply Kept.drewN | apply Kept.drew | refine Kept.setCell ?_ (.inr GW403.out) _ | refine Kept.setCell ?_ (.inr GW404.out) _ | refine Kept.setCell ?_ (.inr GW405.out) _) | exact HK.out))); (case side5 => exact Kd.C_kept_now HR0_3.out (by repeat (first | (with_reducible first | exact HK.out | apply Kept.alloc | apply Kept.drewN | apply Kept.drew | refine Kept.setCell ?_ (.inr GW403.out) _ | refine Kept.setCell ?_ (.inr GW404.out) _ | refine Kept.setCell ?_ (.inr GW405.out) _) | exact HK.out))); (case side7 => exact Kd.C_kept_now HR0_4.out (by repeat (first | (with_reducible first | exact HK.out | apply Kept.alloc | apply Kept.drewN | apply Kept.drew | refine Kept.setCell ?_ (.inr GW403.out) _ | refine Kept.setCell ?_ (.inr GW404.out) _ | refine Kept.setCell ?_ (.inr GW405.out) _) | exact HK.out))); rintro e w12 ⟨v407, v411, v414, v417, rfl, ho0, ho1, ho2, ho3, hb⟩; refine ⟨_, rfl, ?_⟩; have HO408 := Aside0.mk (Kd.R_lower (nw (Kd.R_newM (M := fun k_ => ((P1_1_ k_ ∨ P1_2_ k_) ∨ w.heap.size ≤ k_)) ho0 (by first | exact HK.out.1 | exact (show Kept w _ (fun k_ => P1_1_ k_ ∨ P1_2_ k_) from by repeat (first | (with_reducible first | exact HK.out | apply Kept.alloc | apply Kept.drewN | apply Kept.drew | refine Kept.setCell ?_ (.inr GW403.out) _ | refine Kept.setCell ?_ (.inr GW404.out) _ | refine Kept.setCell ?_ (.inr GW405.out) _) | exact HK.out)).1) (fun k_ h_ => .inr h_)) HO1_1) (below_size (be3 HB GE403 GE404 GE405))); have HO412 := Aside0.mk (Kd.R_lower (nw (Kd.R_newM (M := fun k_ => ((P1_1_ k_ ∨ P1_2_ k_) ∨ w.heap.size ≤ k_)) ho1 (by first | exact HK.out.1 | exact (show Kept w _ (fun k_ => P1_1_ k_ ∨ P1_2_ k_) from by repeat (first | (with_reducible first | exact HK.out | apply Kept.alloc | apply Kept.drewN | apply Kept.drew | refine Kept.setCell ?_ (.inr GW403.out) _ | refine Kept.setCell ?_ (.inr GW404.out) _ | refine Kept.setCell ?_ (.inr GW405.out) _) | exact HK.out)).1) (fun k_ h_ => .inr h_)) HO1_1) (below_size (be3 HB GE403 GE404 GE405))); have HO415 := Aside0.mk (Kd.R_lower (nw (Kd.R_newM (M := fun k_ => ((P1_1_ k_ ∨ P1_2_ k_) ∨ w.heap.size ≤ k_)) ho2 (by first | exact HK.out.1 | exact (show Kept w _ (fun k_ => P1_1_ k_ ∨ P1_2_ k_) from by repeat (first | (with_reducible first | exact HK.out | apply Kept.alloc | apply Kept.drewN | apply Kept.drew | refine Kept.setCell ?_ (.inr GW403.out) _ | refine Kept.setCell ?_ (.inr GW404.out) _ | refine Kept.setCell ?_ (.inr GW405.out) _) | exact HK.out)).1) (fun k_ h_ => .inr h_)) HO1_2) (below_size (be3 HB GE403 GE404 GE405))); replace HO1_2 := Aside0.mk (Kd.R_elder' (ro HO1_2) (Kd.R_base ho2) hb); have HO418 := Aside0.mk (Kd.R_lower (nw (Kd.R_newM (M := fun k_ => ((P1_1_ k_ ∨ P1_2_ k_) ∨ w.heap.size ≤ k_)) ho3 (by first | exact HK.out.1 | exact (show Kept w _ (fun k_ => P1_1_ k_ ∨ P1_2_ k_) from by repeat (first | (with_reducible first | exact HK.out | apply Kept.alloc | apply Kept.drewN | apply Kept.drew | refine Kept.setCell ?_ (.inr GW403.out) _ | refine Kept.setCell ?_ (.inr GW404.out) _ | refine Kept.setCell ?_ (.inr GW405.out) _) | exact HK.out)).1) (fun k_ h_ => .inr h_)) HO1_1) (below_size (be3 HB GE403 GE404 GE405))); replace HO1_1 := td3 (ro HO1_1) hb ho0 ho1 ho3; replace BK403 := bb BK403 hb; replace BK404 := bb BK404 hb; replace BK405 := bb BK405 hb; replace HK := Aside0.mk (Kept.below (S := (fun k_ => P1_1_ k_ ∨ P1_2_ k_)) (by repeat (first | (with_reducible first | exact HK.out | apply Kept.alloc | apply Kept.drewN | apply Kept.drew | refine Kept.setCell ?_ (.inr GW403.out) _ | refine Kept.setCell ?_ (.inr GW404.out) _ | refine Kept.setCell ?_ (.inr GW405.out) _) | exact HK.out)) hb); replace HB := Aside0.mk (below_step (be3 HB GE403 GE404 GE405) hb); (try clear hb); (try clear ho0); (try clear ho1); (try clear ho2); (try clear ho3)) | ((with_reducible refine gate_dst (N := 5) rfl ?_); refine bx 5 #[.slice none 0 0, .int .i64 0, .slice none 0 0, .slice none 0 0, .slice none 0 0] 27 ?_; intro gb419 hg w13 hbox hb; replace HO1_1 := rb HO1_1 hb; replace HO1_2 := rb HO1_2 hb; replace HO408 := rb HO408 hb; replace HO412 := rb HO412 hb; replace HO415 := rb HO415 hb; replace HO418 := rb HO418 hb; have BK419 := am hbox; have GW419 := Aside0.mk ((by rw [hg]; exact (by first | exact HK.out.1 | exact (show Kept w _ (fun k_ => P1_1_ k_ ∨ P1_2_ k_) from by repeat (first | (with_reducible first | exact HK.out | apply Kept.alloc | apply Kept.drewN | apply Kept.drew | refine Kept.setCell ?_ (.inr GW403.out) _ | refine Kept.setCell ?_ (.inr GW404.out) _ | refine Kept.setCell ?_ (.inr GW405.out) _) | exact HK.out)).1) : w.heap.size ≤ gb419)); replace HK := Aside0.mk (Kept.below (S := (fun k_ => P1_1_ k_ ∨ P1_2_ k_)) (by repeat (first | (with_reducible first | exact HK.out | apply Kept.alloc | apply Kept.drewN | apply Kept.drew | refine Kept.setCell ?_ (.inr GW403.out) _ | refine Kept.setCell ?_ (.inr GW404.out) _ | refine Kept.setCell ?_ (.inr GW405.out) _) | exact HK.out)) hb); have GE419 := Aside0.mk ((by rw [hg]; exact (below_size (be3 HB GE403 GE404 GE405)) : w0.heap.size ≤ gb419)); replace HB := Aside0.mk (below_step (be3 HB GE403 GE404 GE405) hb); have NB403_419 := Aside0.mk ((by rw [hg]; exact Nat.ne_of_lt (bl BK403) : gb403 ≠ gb419)); have NB419_403 := Aside0.mk ((by rw [hg]; exact Nat.ne_of_gt (bl BK403) : gb419 ≠ gb403)); replace BK403 := bb BK403 hb; have NB404_419 := Aside0.mk ((by rw [hg]; exact Nat.ne_of_lt (bl BK404) : gb404 ≠ gb419)); have NB419_404 := Aside0.mk ((by rw [hg]; exact Nat.ne_of_gt (bl BK404) : gb419 ≠ gb404)); replace BK404 := bb BK404 hb; have NB405_419 := Aside0.mk ((by rw [hg]; exact Nat.ne_of_lt (bl BK405) : gb405 ≠ gb419)); have NB419_405 := Aside0.mk ((by rw [hg]; exact Nat.ne_of_gt (bl BK405) : gb419 ≠ gb405)); replace BK405 := bb BK405 hb; clear hb hbox hg; obtain ⟨Ao14, co14, eo14⟩ := Kd.R_slice HO408.out; subst eo14; have hnb15 := NB419_403.out; have hnc15 := NB403_419.out; have hnb16 := NB419_404.out; have hnc16 := NB404_419.out; have hnb17 := NB419_405.out; have hnc17 := NB405_419.out; have hcz18_0 := bz5 BK419; obtain ⟨Ao19, co19, eo19⟩ := Kd.R_slice HO412.out; subst eo19; obtain ⟨Ao20, co20, eo20⟩ := Kd.R_slice HO415.out; subst eo20; obtain ⟨Ao21, co21, eo21⟩ := Kd.R_slice HO418.out; subst eo21; have hnb22 := NB404_405.out; have hnc22 := NB405_404.out; have hcz23_0 := bz3 BK404; have hcz24_0 := bz5 BK405; have hys36_1 := st5 BK419 (.slice Ao14 t406.length co14) (.int .i64 t409) (.slice Ao19 t410.length co19) (.slice Ao20 t413.length co20) (.slice Ao21 t416.length co21)))
 refine bodyPost_ret (results_cell_row rfl _ _ gb405 27 #[.slice Ao14 t406.length co14, .int .i64 a1_0, .slice Ao5 l1_1.length co5, .slice Ao6 l1_2.length co6, .slice Ao21 t416.length co21] (0, 0) _ rfl (by (with_reducible repeat (first | refine blk_drewN ?_ _ | refine blk_drew ?_ | refine blk_alloc ?_ _)); refine blk_put (cs := #[.slice Ao14 t406.length co14, .int .i64 a1_0, .slice Ao5 l1_1.length co5, .slice Ao6 l1_2.length co6, .slice none 0 0]) ?_ 4 _ rfl; (with_reducible repeat (first | refine blk_drewN ?_ _ | refine blk_drew ?_ | refine blk_alloc ?_ _)); refine blk_put (cs := #[.slice Ao14 t406.length co14, .int .i64 a1_0, .slice Ao5 l1_1.length co5, .slice none 0 0, .slice none 0 0]) ?_ 3 _ rfl; (with_reducible repeat (first | refine blk_drewN ?_ _ | refine blk_drew ?_ | refine blk_alloc ?_ _)); refine blk_put (cs := #[.slice Ao14 t406.length co14, .int .i64 a1_0, .slice none 0 0, .slice none 0 0, .slice none 0 0]) ?_ 2 _ rfl; (with_reducible repeat (first | refine blk_drewN ?_ _ | refine blk_drew ?_ | refine blk_alloc ?_ _)); refine blk_put (cs := #[.slice Ao14 t406.length co14, .int .i64 0, .slice none 0 0, .slice none 0 0, .slice none 0 0]) ?_ 1 _ rfl; (with_reducible repeat (first | refine blk_drewN ?_ _ | refine blk_drew ?_ | refine blk_alloc ?_ _)); refine blk_put (cs := #[.slice none 0 0, .int .i64 0, .slice none 0 0, .slice none 0 0, .slice none 0 0]) ?_ 0 _ rfl; (with_reducible repeat (first | refine blk_drewN ?_ _ | refine blk_drew ?_ | refine blk_alloc ?_ _)); refine blk_far ?_ NB405_419.out _; (with_reducible repeat (first | refine blk_drewN ?_ _ | refine blk_drew ?_ | refine blk_alloc ?_ _)); refine blk_far ?_ NB405_419.out _; (with_reducible repeat (first | refine blk_drewN ?_ _ | refine blk_drew ?_ | refine blk_alloc ?_ _)); refine blk_far ?_ NB405_419.out _; (with_reducible repeat (first | refine blk_drewN ?_ _ | refine blk_drew ?_ | refine blk_alloc ?_ _)); refine blk_far ?_ NB405_419.out _; (with_reducible repeat (first | refine blk_drewN ?_ _ | refine blk_drew ?_ | refine blk_alloc ?_ _)); refine blk_far ?_ NB405_419.out _; (with_reducible repeat (first | refine blk_drewN ?_ _ | refine blk_drew ?_ | refine blk_alloc ?_ _)); refine blk_far ?_ NB405_419.out _; (with_reducible repeat (first | refine blk_drewN ?_ _ | refine blk_drew ?_ | refine blk_alloc ?_ _)); refine blk_far ?_ NB405_419.out _; (with_reducible repeat (first | refine blk_drewN ?_ _ | refine blk_drew ?_ | refine blk_alloc ?_ _)); refine blk_far ?_ NB405_419.out _; (with_reducible repeat (first | refine blk_drewN ?_ _ | refine blk_drew ?_ | refine blk_alloc ?_ _)); exact BK405.out) Try.underlying27 rfl (by kernel_rfl)) rfl ?_
 exact ⟨_, _, _, _, er, by (with_reducible repeat (first | apply Kd.R_alloc | apply Kd.R_drewN | apply Kd.R_drew)); exact Kd.R_mono (Kd.R_far (p := ⟨gb405, 4, none⟩) (Kd.R_far (p := ⟨gb405, 3, none⟩) (Kd.R_far (p := ⟨gb405, 2, none⟩) (Kd.R_far (p := ⟨gb405, 1, none⟩) (Kd.R_far (p := ⟨gb405, 0, none⟩) (Kd.R_far (p := ⟨gb419, 3, none⟩) (Kd.R_far (p := ⟨gb419, 2, none⟩) (Kd.R_far (p := ⟨gb419, 1, none⟩) (Kd.R_far (p := ⟨gb419, 4, none⟩) (Kd.R_far (p := ⟨gb419, 3, none⟩) (Kd.R_far (p := ⟨gb419, 2, none⟩) (Kd.R_far (p := ⟨gb419, 1, none⟩) (Kd.R_far (p := ⟨gb419, 0, none⟩) (Kd.R_types (Kd.R_types HO408.out BK419.out (by decide)) BK405.out (by decide)) (fun _ hk => hk.1.2) (.slice Ao14 t406.length co14)) (fun _ hk => hk.1.2) (.int .i64 t409)) (fun _ hk => hk.1.2) (.slice Ao19 t410.length co19)) (fun _ hk => hk.1.2) (.slice Ao20 t413.length co20)) (fun _ hk => hk.1.2) (.slice Ao21 t416.length co21)) (fun _ hk => hk.1.2) (.int .i64 a1_0)) (fun _ hk => hk.1.2) (.slice Ao5 l1_1.length co5)) (fun _ hk => hk.1.2) (.slice Ao6 l1_2.length co6)) (fun _ hk => hk.2) (.slice Ao14 t406.length co14)) (fun _ hk => hk.2) (.int .i64 a1_0)) (fun _ hk => hk.2) (.slice Ao5 l1_1.length co5)) (fun _ hk => hk.2) (.slice Ao6 l1_2.length co6)) (fun _ hk => hk.2) (.slice Ao21 t416.length co21)) (fun _ hk => ⟨hk.1.1.1.1, ⟨hk.1.1.2, hk.1.1.1.2.2⟩⟩), by (with_reducible repeat (first | apply Kd.R_alloc | apply Kd.R_drewN | apply Kd.R_drew)); exact Kd.R_mono (Kd.R_far (p := ⟨gb405, 4, none⟩) (Kd.R_far (p := ⟨gb405, 3, none⟩) (Kd.R_far (p := ⟨gb405, 2, none⟩) (Kd.R_far (p := ⟨gb405, 1, none⟩) (Kd.R_far (p := ⟨gb405, 0, none⟩) (Kd.R_far (p := ⟨gb419, 3, none⟩) (Kd.R_far (p := ⟨gb419, 2, none⟩) (Kd.R_far (p := ⟨gb419, 1, none⟩) (Kd.R_far (p := ⟨gb419, 4, none⟩) (Kd.R_far (p := ⟨gb419, 3, none⟩) (Kd.R_far (p := ⟨gb419, 2, none⟩) (Kd.R_far (p := ⟨gb419, 1, none⟩) (Kd.R_far (p := ⟨gb419, 0, none⟩) (Kd.R_types (Kd.R_types HO1_1.out BK419.out (by decide)) BK405.out (by decide)) (fun _ hk => hk.1.2) (.slice Ao14 t406.length co14)) (fun _ hk => hk.1.2) (.int .i64 t409)) (fun _ hk => hk.1.2) (.slice Ao19 t410.length co19)) (fun _ hk => hk.1.2) (.slice Ao20 t413.length co20)) (fun _ hk => hk.1.2) (.slice Ao21 t416.length co21)) (fun _ hk => hk.1.2) (.int .i64 a1_0)) (fun _ hk => hk.1.2) (.slice Ao5 l1_1.length co5)) (fun _ hk => hk.1.2) (.slice Ao6 l1_2.length co6)) (fun _ hk => hk.2) (.slice Ao14 t406.length co14)) (fun _ hk => hk.2) (.int .i64 a1_0)) (fun _ hk => hk.2) (.slice Ao5 l1_1.length co5)) (fun _ hk => hk.2) (.slice Ao6 l1_2.length co6)) (fun _ hk => hk.2) (.slice Ao21 t416.length co21)) (fun _ hk => ⟨hk.1.1.1.1.1, ⟨hk.1.1.1.1.2, hk.1.1.2⟩⟩), by (with_reducible repeat (first | apply Kd.R_alloc | apply Kd.R_drewN | apply Kd.R_drew)); exact Kd.R_mono (Kd.R_far (p := ⟨gb405, 4, none⟩) (Kd.R_far (p := ⟨gb405, 3, none⟩) (Kd.R_far (p := ⟨gb405, 2, none⟩) (Kd.R_far (p := ⟨gb405, 1, none⟩) (Kd.R_far (p := ⟨gb405, 0, none⟩) (Kd.R_far (p := ⟨gb419, 3, none⟩) (Kd.R_far (p := ⟨gb419, 2, none⟩) (Kd.R_far (p := ⟨gb419, 1, none⟩) (Kd.R_far (p := ⟨gb419, 4, none⟩) (Kd.R_far (p := ⟨gb419, 3, none⟩) (Kd.R_far (p := ⟨gb419, 2, none⟩) (Kd.R_far (p := ⟨gb419, 1, none⟩) (Kd.R_far (p := ⟨gb419, 0, none⟩) (Kd.R_types (Kd.R_types HO1_2.out BK419.out (by decide)) BK405.out (by decide)) (fun _ hk => hk.1.2) (.slice Ao14 t406.length co14)) (fun _ hk => hk.1.2) (.int .i64 t409)) (fun _ hk => hk.1.2) (.slice Ao19 t410.length co19)) (fun _ hk => hk.1.2) (.slice Ao20 t413.length co20)) (fun _ hk => hk.1.2) (.slice Ao21 t416.length co21)) (fun _ hk => hk.1.2) (.int .i64 a1_0)) (fun _ hk => hk.1.2) (.slice Ao5 l1_1.length co5)) (fun _ hk => hk.1.2) (.slice Ao6 l1_2.length co6)) (fun _ hk => hk.2) (.slice Ao14 t406.length co14)) (fun _ hk => hk.2) (.int .i64 a1_0)) (fun _ hk => hk.2) (.slice Ao5 l1_1.length co5)) (fun _ hk => hk.2) (.slice Ao6 l1_2.length co6)) (fun _ hk => hk.2) (.slice Ao21 t416.length co21)) (fun _ hk => hk.1.1.1), by (with_reducible repeat (first | apply Kd.R_alloc | apply Kd.R_drewN | apply Kd.R_drew)); exact Kd.R_mono (Kd.R_far (p := ⟨gb405, 4, none⟩) (Kd.R_far (p := ⟨gb405, 3, none⟩) (Kd.R_far (p := ⟨gb405, 2, none⟩) (Kd.R_far (p := ⟨gb405, 1, none⟩) (Kd.R_far (p := ⟨gb405, 0, none⟩) (Kd.R_far (p := ⟨gb419, 3, none⟩) (Kd.R_far (p := ⟨gb419, 2, none⟩) (Kd.R_far (p := ⟨gb419, 1, none⟩) (Kd.R_far (p := ⟨gb419, 4, none⟩) (Kd.R_far (p := ⟨gb419, 3, none⟩) (Kd.R_far (p := ⟨gb419, 2, none⟩) (Kd.R_far (p := ⟨gb419, 1, none⟩) (Kd.R_far (p := ⟨gb419, 0, none⟩) (Kd.R_types (Kd.R_types HO418.out BK419.out (by decide)) BK405.out (by decide)) (fun _ hk => hk.1.2) (.slice Ao14 t406.length co14)) (fun _ hk => hk.1.2) (.int .i64 t409)) (fun _ hk => hk.1.2) (.slice Ao19 t410.length co19)) (fun _ hk => hk.1.2) (.slice Ao20 t413.length co20)) (fun _ hk => hk.1.2) (.slice Ao21 t416.length co21)) (fun _ hk => hk.1.2) (.int .i64 a1_0)) (fun _ hk => hk.1.2) (.slice Ao5 l1_1.length co5)) (fun _ hk => hk.1.2) (.slice Ao6 l1_2.length co6)) (fun _ hk => hk.2) (.slice Ao14 t406.length co14)) (fun _ hk => hk.2) (.int .i64 a1_0)) (fun _ hk => hk.2) (.slice Ao5 l1_1.length co5)) (fun _ hk => hk.2) (.slice Ao6 l1_2.length co6)) (fun _ hk => hk.2) (.slice Ao21 t416.length co21)) (fun _ hk => ⟨hk.1.1.1.1, ⟨hk.1.1.1.2.1, hk.1.1.2⟩⟩), be4 HB GE403 GE404 GE405 GE419, by repeat (first | (with_reducible first | exact HK.out | apply Kept.alloc | apply Kept.drewN | apply Kept.drew | refine Kept.setCell ?_ (.inr GW403.out) _ | refine Kept.setCell ?_ (.inr GW404.out) _ | refine Kept.setCell ?_ (.inr GW405.out) _ | refine Kept.setCell ?_ (.inr GW419.out) _) | exact HK.out)⟩

/-! ### impl_Ages_isPinned: function 61 -/
def impl_Ages_isPinned.f (a0_0 : Int) (l0_1 : List Int) (l0_2 : List (S70)) (a1 : Int) : Option (Bool × Bool) := (impl_within.f a1 0 (wrap64 ((l0_1.length : Int) - 1))).bind fun t421 => (if t421 = true then (if 0 ≤ a1 then (if a1 < (l0_1.length : Int) then (some (((rd l0_1 a1) != (-1)), true)) else (none)) else (none)) else (some (false, false)))
set_option maxHeartbeats 8000000 in
set_option maxRecDepth 100000 in
theorem impl_Ages_isPinned.calls (a0_0 : Int) (A0_1 : Option Addr) (c0_1 : Nat) (l0_1 : List Int) (A0_2 : Option Addr) (c0_2 : Nat) (l0_2 : List (S70)) (a1 : Int) (r1 : Bool) (r2 : Bool) (w : World) (hr0_1 : Kd.C (Kd.int .i64) w A0_1 l0_1.length l0_1) (hc0_1 : l0_1.length ≤ c0_1) (hr0_2 : Kd.C k70 w A0_2 l0_2.length l0_2) (hc0_2 : l0_2.length ≤ c0_2) (h : impl_Ages_isPinned.f a0_0 l0_1 l0_2 a1 = some (r1, r2)) :
  Calls Try.prog 61 #[.agg #[.int .i64 a0_0, .slice A0_1 l0_1.length c0_1, .slice A0_2 l0_2.length c0_2], .int .i64 a1] w fun e w' => e = .returned (.tuple #[.bool r1, .bool r2]) ∧ Below w.heap.size w w' := by
 have hu25 := Try.underlying25
 have HR0_1 := Aside0.mk hr0_1
 have HC0_1 := Aside0.mk hc0_1
 clear hr0_1 hc0_1
 have HR0_2 := Aside0.mk hr0_2
 have HC0_2 := Aside0.mk hc0_2
 clear hr0_2 hc0_2
 have HB := Aside0.mk (Below.refl w.heap.size w)
 have H : ((impl_within.f a1 0 (wrap64 ((l0_1.length : Int) - 1))).bind fun t421 => (if t421 = true then (if 0 ≤ a1 then (if a1 < (l0_1.length : Int) then (some (((rd l0_1 a1) != (-1)), true)) else (none)) else (none)) else (some (false, false)))) = some (r1, r2) := h
 clear h
 replace H := Option.bind_eq_some_iff.mp H
 obtain ⟨t421, A30, H⟩ := H
 replace H : (if t421 = true then (if 0 ≤ a1 then (if a1 < (l0_1.length : Int) then (some (((rd l0_1 a1) != (-1)), true)) else (none)) else (none)) else (some (false, false))) = some (r1, r2) := H
 have A3 := Aside0.mk A30
 clear A30
 by_cases c4 : t421 = true
 ·subst c4
  have H1 : (if 0 ≤ a1 then (if a1 < (l0_1.length : Int) then (some (((rd l0_1 a1) != (-1)), true)) else (none)) else (none)) = some (r1, r2) := by rw [if_pos rfl] at H; exact H
  clear H
  have H := H1
  clear H1
  by_cases c5 : 0 ≤ a1
  ·rw [if_pos c5] at H
   have c5b0 : decide (0 ≤ a1) = true := decide_eq_true c5
   clear c5
   by_cases c6 : a1 < (l0_1.length : Int)
   ·rw [if_pos c6] at H
    have c6b0 : decide (a1 < (l0_1.length : Int)) = true := decide_eq_true c6
    clear c6
    simp only [Option.some.injEq, Prod.mk.injEq] at H
    obtain ⟨rfl, rfl⟩ := H
    go_enter Try.func61, Try.ntmps61
    go_wp2_with (first | ((with_reducible refine gate_dst (N := 2) rfl ?_); refine bx 2 #[.int .i64 a0_0, .slice A0_1 l0_1.length c0_1, .slice A0_2 l0_2.length c0_2] 25 ?_; intro gb420 hg w7 hbox hb; have BK420 := am hbox; have GW420 := gs0 hg HB; have GE420 := gs0 hg HB; replace HB := s0 HB hb; clear hb hbox hg; have hcz8_0 := bz3 BK420) | ((with_reducible refine gate_callee (f := 46) rfl ?_); refine gl 11 Try.func46 #[.int .i64 a1, .int .i64 0, .int .i64 (wrap64 ((l0_1.length : Int) - 1))] ?_; (with_reducible refine (impl_within.calls a1 0 (wrap64 ((l0_1.length : Int) - 1)) true _ A3.out).mono ?_); rintro e w' ⟨rfl, ⟨nd, rfl⟩⟩; refine ⟨_, rfl, ?_⟩; have p422 : 0 ≤ (a1 : Int) := od; have q422 : a1 < (l0_1.length : Int) := od; obtain ⟨ad422, e422, hx422_0⟩ := Kd.at_int HR0_1.out a1 p422 q422; cases e422; replace hx422_0 := hc HB hx422_0; replace p422 := eq_true p422; replace q422 := eq_true q422))
    go_ret2
    exact ⟨er, be1 HB GE420⟩
   rw [if_neg c6] at H
   exact absurd H (by simp)
  rw [if_neg c5] at H
  exact absurd H (by simp)
 replace c4 := Bool.eq_false_iff.mpr c4
 subst c4
 have H1 : (some (false, false)) = some (r1, r2) := by rw [if_neg (show ¬ (false = true) by decide)] at H; exact H
 clear H
 have H := H1
 clear H1
 simp only [Option.some.injEq, Prod.mk.injEq] at H
 obtain ⟨rfl, rfl⟩ := H
 go_enter Try.func61, Try.ntmps61
 go_wp2_with (first | ((with_reducible refine gate_dst (N := 2) rfl ?_); refine bx 2 #[.int .i64 a0_0, .slice A0_1 l0_1.length c0_1, .slice A0_2 l0_2.length c0_2] 25 ?_; intro gb420 hg w9 hbox hb; have BK420 := am hbox; have GW420 := gs0 hg HB; have GE420 := gs0 hg HB; replace HB := s0 HB hb; clear hb hbox hg; have hcz10_0 := bz3 BK420) | ((with_reducible refine gate_callee (f := 46) rfl ?_); refine gl 11 Try.func46 #[.int .i64 a1, .int .i64 0, .int .i64 (wrap64 ((l0_1.length : Int) - 1))] ?_; (with_reducible refine (impl_within.calls a1 0 (wrap64 ((l0_1.length : Int) - 1)) false _ A3.out).mono ?_); rintro e w' ⟨rfl, ⟨nd, rfl⟩⟩; refine ⟨_, rfl, ?_⟩))
 go_ret2
 exact ⟨er, be1 HB GE420⟩

/-! ### impl_Unpin: function 72 -/
def impl_Unpin.f (k : Nat) (a0_0 : Int) (l0_1 : List Int) (l0_2 : List (S70)) (a1 : Int) : Option (Int × List Int × (List (S70)) × Bool) := (impl_Ages_isPinned.f a0_0 l0_1 l0_2 a1).bind fun bt425 => ((impl_AgesOk.f k a0_0 l0_1 l0_2).bind fun t427 => (if t427 = true then (if bt425.1 = true then ((impl_copyAges.f a0_0 l0_1 l0_2).bind fun bt428 => (if 0 ≤ a1 then (if a1 < (bt428.2.1.length : Int) then (some (bt428.1, (bt428.2.1.set (a1 : Int).toNat (-1)), bt428.2.2, true)) else (none)) else (none))) else (some (0, ([] : List Int), ([] : List (S70)), false))) else (some (0, ([] : List Int), ([] : List (S70)), false))))
theorem impl_Unpin.mono : ∀ a0 a1 a2 a3 k, LeO (impl_Unpin.f k a0 a1 a2 a3) (impl_Unpin.f (k + 1) a0 a1 a2 a3) := by
 intro a0 a1 a2 a3 k
 unfold impl_Unpin.f
 repeat' first
   | (with_reducible exact impl_AgesOk.mono _ _ _ _)
   | (with_reducible exact LeO.refl _)
   | (with_reducible exact LeO.none _)
   | (with_reducible refine LeO.ite ?_ ?_)
   | (with_reducible refine LeO.bind ?_ (fun _ => ?_))
   | exact impl_AgesOk.mono _ _ _ _
   | exact LeO.none _
   | refine LeO.ite ?_ ?_
   | refine LeO.bind ?_ (fun _ => ?_)
set_option maxHeartbeats 8000000 in
set_option maxRecDepth 100000 in
theorem impl_Unpin.calls (k : Nat) (a0_0 : Int) (A0_1 : Option Addr) (c0_1 : Nat) (l0_1 : List Int) (A0_2 : Option Addr) (c0_2 : Nat) (l0_2 : List (S70)) (a1 : Int) (r1 : Int) (r2 : List Int) (r3 : List (S70)) (r4 : Bool) (w : World) (hr0_1 : Kd.C (Kd.int .i64) w A0_1 l0_1.length l0_1) (hc0_1 : l0_1.length ≤ c0_1) (hr0_2 : Kd.C k70 w A0_2 l0_2.length l0_2) (hc0_2 : l0_2.length ≤ c0_2) (h : impl_Unpin.f k a0_0 l0_1 l0_2 a1 = some (r1, r2, r3, r4)) :
  Calls Try.prog 72 #[.agg #[.int .i64 a0_0, .slice A0_1 l0_1.length c0_1, .slice A0_2 l0_2.length c0_2], .int .i64 a1] w fun e w' => ∃ v1_ v2_ : Value, e = .returned (.tuple #[.agg #[.int .i64 r1, v1_, v2_], .bool r4]) ∧ Kd.R (Kd.int .i64) 3 w' w.heap.size (fun _ => True) v1_ r2 ∧ Kd.R k70 70 w' w.heap.size (fun _ => True) v2_ r3 ∧ Below w.heap.size w w' := by
 have hu25 := Try.underlying25
 have HR0_1 := Aside0.mk hr0_1
 have HC0_1 := Aside0.mk hc0_1
 clear hr0_1 hc0_1
 have HR0_2 := Aside0.mk hr0_2
 have HC0_2 := Aside0.mk hc0_2
 clear hr0_2 hc0_2
 have HB := Aside0.mk (Below.refl w.heap.size w)
 have H : ((impl_Ages_isPinned.f a0_0 l0_1 l0_2 a1).bind fun bt425 => ((impl_AgesOk.f k a0_0 l0_1 l0_2).bind fun t427 => (if t427 = true then (if bt425.1 = true then ((impl_copyAges.f a0_0 l0_1 l0_2).bind fun bt428 => (if 0 ≤ a1 then (if a1 < (bt428.2.1.length : Int) then (some (bt428.1, (bt428.2.1.set (a1 : Int).toNat (-1)), bt428.2.2, true)) else (none)) else (none))) else (some (0, ([] : List Int), ([] : List (S70)), false))) else (some (0, ([] : List Int), ([] : List (S70)), false))))) = some (r1, r2, r3, r4) := h
 clear h
 replace H := Option.bind_eq_some_iff.mp H
 obtain ⟨⟨t425, t426⟩, A30, H⟩ := H
 replace H : ((impl_AgesOk.f k a0_0 l0_1 l0_2).bind fun t427 => (if t427 = true then (if t425 = true then ((impl_copyAges.f a0_0 l0_1 l0_2).bind fun bt428 => (if 0 ≤ a1 then (if a1 < (bt428.2.1.length : Int) then (some (bt428.1, (bt428.2.1.set (a1 : Int).toNat (-1)), bt428.2.2, true)) else (none)) else (none))) else (some (0, ([] : List Int), ([] : List (S70)), false))) else (some (0, ([] : List Int), ([] : List (S70)), false)))) = some (r1, r2, r3, r4) := H
 have A3 := Aside0.mk A30
 clear A30
 replace H := Option.bind_eq_some_iff.mp H
 obtain ⟨t427, A40, H⟩ := H
 replace H : (if t427 = true then (if t425 = true then ((impl_copyAges.f a0_0 l0_1 l0_2).bind fun bt428 => (if 0 ≤ a1 then (if a1 < (bt428.2.1.length : Int) then (some (bt428.1, (bt428.2.1.set (a1 : Int).toNat (-1)), bt428.2.2, true)) else (none)) else (none))) else (some (0, ([] : List Int), ([] : List (S70)), false))) else (some (0, ([] : List Int), ([] : List (S70)), false))) = some (r1, r2, r3, r4) := H
 have A4 := Aside0.mk A40
 clear A40
 by_cases c5 : t427 = true
 ·subst c5
  have H1 : (if t425 = true then ((impl_copyAges.f a0_0 l0_1 l0_2).bind fun bt428 => (if 0 ≤ a1 then (if a1 < (bt428.2.1.length : Int) then (some (bt428.1, (bt428.2.1.set (a1 : Int).toNat (-1)), bt428.2.2, true)) else (none)) else (none))) else (some (0, ([] : List Int), ([] : List (S70)), false))) = some (r1, r2, r3, r4) := by rw [if_pos rfl] at H; exact H
  clear H
  have H := H1
  clear H1
  by_cases c6 : t425 = true
  ·subst c6
   have H1 : ((impl_copyAges.f a0_0 l0_1 l0_2).bind fun bt428 => (if 0 ≤ a1 then (if a1 < (bt428.2.1.length : Int) then (some (bt428.1, (bt428.2.1.set (a1 : Int).toNat (-1)), bt428.2.2, true)) else (none)) else (none))) = some (r1, r2, r3, r4) := by rw [if_pos rfl] at H; exact H
   clear H
   have H := H1
   clear H1
   replace H := Option.bind_eq_some_iff.mp H
   obtain ⟨⟨t428, t429, t432⟩, A70, H⟩ := H
   replace H : (if 0 ≤ a1 then (if a1 < (t429.length : Int) then (some (t428, (t429.set (a1 : Int).toNat (-1)), t432, true)) else (none)) else (none)) = some (r1, r2, r3, r4) := H
   have A7 := Aside0.mk A70
   clear A70
   by_cases c8 : 0 ≤ a1
   ·rw [if_pos c8] at H
    have c8b0 : decide (0 ≤ a1) = true := decide_eq_true c8
    clear c8
    by_cases c9 : a1 < (t429.length : Int)
    ·rw [if_pos c9] at H
     have c9b0 : decide (a1 < (t429.length : Int)) = true := decide_eq_true c9
     clear c9
     obtain ⟨y436, hy436⟩ : ∃ y_ : List Int, y_ = (t429.set (a1 : Int).toNat (-1)) := ⟨_, rfl⟩
     replace H : (some (t428, y436, t432, true)) = some (r1, r2, r3, r4) := by first | (rw [hy436]; with_reducible exact H) | (have H2_ := (Option.bind_some _ _).symm.trans H; rw [hy436]; with_reducible exact H2_) | (have H2_ := (Option.bind_some _ _).symm.trans H; with_reducible exact H2_) | with_reducible exact H | (rw [hy436]; exact H) | exact H
     have Ny436 := Aside0.mk hy436
     clear hy436
     simp only [Option.some.injEq, Prod.mk.injEq] at H
     obtain ⟨rfl, rfl, rfl, rfl⟩ := H
     go_enter Try.func72, Try.ntmps72
     go_wp2_with (first | ((with_reducible refine gate_dst (N := 2) rfl ?_); refine bx 2 #[.int .i64 a0_0, .slice A0_1 l0_1.length c0_1, .slice A0_2 l0_2.length c0_2] 25 ?_; intro gb423 hg w11 hbox hb; have BK423 := am hbox; have GW423 := gs0 hg HB; have GE423 := gs0 hg HB; replace HB := s0 HB hb; clear hb hbox hg) | ((with_reducible refine gate_dst (N := 4) rfl ?_); refine bx 4 #[.int .i64 0, .slice none 0 0, .slice none 0 0] 25 ?_; intro gb424 hg w12 hbox hb; have BK424 := am hbox; have GW424 := gs1 hg HB GE423; have GE424 := gs1 hg HB GE423; replace HB := Aside0.mk (below_step (be1 HB GE423) hb); have NB423_424 := Aside0.mk ((by rw [hg]; exact Nat.ne_of_lt (bl BK423) : gb423 ≠ gb424)); have NB424_423 := Aside0.mk ((by rw [hg]; exact Nat.ne_of_gt (bl BK423) : gb424 ≠ gb423)); replace BK423 := bb BK423 hb; clear hb hbox hg; have hnb13 := NB423_424.out; have hnc13 := NB424_423.out; have hcz14_0 := bz3 BK423) | ((with_reducible refine gate_callee (f := 61) rfl ?_); refine gl 12 Try.func61 #[.agg #[.int .i64 a0_0, .slice A0_1 l0_1.length c0_1, .slice A0_2 l0_2.length c0_2], .int .i64 a1] ?_; (with_reducible refine (impl_Ages_isPinned.calls a0_0 _ _ l0_1 _ _ l0_2 a1 true t426 _ (cb HR0_1 HB) HC0_1.out (cb HR0_2 HB) HC0_2.out A3.out).mono ?_); rintro e w15 ⟨rfl, hb⟩; refine ⟨_, rfl, ?_⟩; replace BK423 := bb BK423 hb; replace BK424 := bb BK424 hb; replace HB := Aside0.mk (below_step (be2 HB GE423 GE424) hb); (try clear hb); have hcz16_0 := bz3 BK423) | ((with_reducible refine gate_callee (f := 59) rfl ?_); refine gl 16 Try.func59 #[.agg #[.int .i64 a0_0, .slice A0_1 l0_1.length c0_1, .slice A0_2 l0_2.length c0_2]] ?_; (with_reducible refine (impl_AgesOk.calls k a0_0 _ _ l0_1 _ _ l0_2 true _ (cb HR0_1 HB) HC0_1.out (cb HR0_2 HB) HC0_2.out A4.out).mono ?_); rintro e w17 ⟨rfl, hb⟩; refine ⟨_, rfl, ?_⟩; replace BK423 := bb BK423 hb; replace BK424 := bb BK424 hb; replace HB := Aside0.mk (below_step (be2 HB GE423 GE424) hb); (try clear hb); have hcz18_0 := bz3 BK423) | ((with_reducible refine gate_callee (f := 96) rfl ?_); refine gl 24 Try.func96 #[.agg #[.int .i64 a0_0, .slice A0_1 l0_1.length c0_1, .slice A0_2 l0_2.length c0_2]] ?_; (with_reducible refine (impl_copyAges.calls a0_0 _ _ l0_1 _ _ l0_2 t428 t429 t432 _ (cb HR0_1 HB) HC0_1.out (cb HR0_2 HB) HC0_2.out A7.out).mono ?_); rintro e w19 ⟨v430, v433, rfl, ho0, ho1, hb⟩; refine ⟨_, rfl, ?_⟩; have HO431 := Aside0.mk (Kd.R_lower ho0 (below_size (be2 HB GE423 GE424))); have HO434 := Aside0.mk (Kd.R_lower ho1 (below_size (be2 HB GE423 GE424))); replace BK423 := bb BK423 hb; replace BK424 := bb BK424 hb; replace HB := Aside0.mk (below_step (be2 HB GE423 GE424) hb); (try clear hb); (try clear ho0); (try clear ho1)) | ((with_reducible refine gate_dst (N := 8) rfl ?_); refine bx 8 #[.int .i64 0, .slice none 0 0, .slice none 0 0] 25 ?_; intro gb435 hg w20 hbox hb; replace HO431 := rb HO431 hb; replace HO434 := rb HO434 hb; have BK435 := am hbox; have GW435 := gs2 hg HB GE423 GE424; have GE435 := gs2 hg HB GE423 GE424; replace HB := Aside0.mk (below_step (be2 HB GE423 GE424) hb); have NB423_435 := Aside0.mk ((by rw [hg]; exact Nat.ne_of_lt (bl BK423) : gb423 ≠ gb435)); have NB435_423 := Aside0.mk ((by rw [hg]; exact Nat.ne_of_gt (bl BK423) : gb435 ≠ gb423)); replace BK423 := bb BK423 hb; have NB424_435 := Aside0.mk ((by rw [hg]; exact Nat.ne_of_lt (bl BK424) : gb424 ≠ gb435)); have NB435_424 := Aside0.mk ((by rw [hg]; exact Nat.ne_of_gt (bl BK424) : gb435 ≠ gb424)); replace BK424 := bb BK424 hb; clear hb hbox hg; have hnb21 := NB435_423.out; have hnc21 := NB423_435.out; have hnb22 := NB435_424.out; have hnc22 := NB424_435.out; have hcz23_0 := bz3 BK435; obtain ⟨Ao24, co24, eo24⟩ := Kd.R_slice HO431.out; subst eo24; obtain ⟨Ao25, co25, eo25⟩ := Kd.R_slice HO434.out; subst eo25) | ((with_reducible refine gate_store (t := 25) (p := 8) rfl ?_); refine store_event (t := 25) (p := 8) (v := ?vo_w26) (w1 := (((w20.setCell ⟨gb435, 0, none⟩ (.int .i64 t428)).setCell ⟨gb435, 1, none⟩ (.slice Ao24 t429.length co24)).setCell ⟨gb435, 2, none⟩ (.slice Ao25 t432.length co25))) ?hg ?ho ?hn ?hr ?_; (case ho => rfl); (case hg => rfl); (case hn => rfl); (case hr => first | (go_simp; done) | (go_simp; rfl)); intro w26 hw; have n0_ : Aside0 (Kd.R (Kd.int .i64) 3 w26 w.heap.size (fun _ => True) (.slice Ao24 t429.length co24) t429) := ⟨(by rw [hw]; exact (by (with_reducible repeat (first | apply Kd.R_alloc | apply Kd.R_drewN | apply Kd.R_drew)); exact Kd.R_mono (Kd.R_far (p := ⟨gb435, 2, none⟩) (Kd.R_far (p := ⟨gb435, 1, none⟩) (Kd.R_far (p := ⟨gb435, 0, none⟩) (Kd.R_types HO431.out BK435.out (by decide)) (fun _ hk => hk.2) (.int .i64 t428)) (fun _ hk => hk.2) (.slice Ao24 t429.length co24)) (fun _ hk => hk.2) (.slice Ao25 t432.length co25)) (fun _ hk => trivial)))⟩; have n1_ : Aside0 (Kd.R k70 70 w26 w.heap.size (fun _ => True) (.slice Ao25 t432.length co25) t432) := ⟨(by rw [hw]; exact (by (with_reducible repeat (first | apply Kd.R_alloc | apply Kd.R_drewN | apply Kd.R_drew)); exact Kd.R_mono (Kd.R_far (p := ⟨gb435, 2, none⟩) (Kd.R_far (p := ⟨gb435, 1, none⟩) (Kd.R_far (p := ⟨gb435, 0, none⟩) (Kd.R_types HO434.out BK435.out (by decide)) (fun _ hk => hk.2) (.int .i64 t428)) (fun _ hk => hk.2) (.slice Ao24 t429.length co24)) (fun _ hk => hk.2) (.slice Ao25 t432.length co25)) (fun _ hk => trivial)))⟩; have n2_ : Aside0 (w26.heap[gb423]? = some (.cells #[.int .i64 a0_0, .slice A0_1 l0_1.length c0_1, .slice A0_2 l0_2.length c0_2] 25 (0, 0))) := ⟨(by rw [hw]; exact (bf1 BK423 NB423_435))⟩; have n3_ : Aside0 (w26.heap[gb424]? = some (.cells #[.int .i64 0, .slice none 0 0, .slice none 0 0] 25 (0, 0))) := ⟨(by rw [hw]; exact (bf1 BK424 NB424_435))⟩; have n4_ : Aside0 (w26.heap[gb435]? = some (.cells #[.int .i64 t428, .slice Ao24 t429.length co24, .slice Ao25 t432.length co25] 25 (0, 0))) := ⟨(by rw [hw]; exact (by (with_reducible repeat (first | refine blk_drewN ?_ _ | refine blk_drew ?_ | refine blk_alloc ?_ _)); refine blk_put (cs := #[.int .i64 t428, .slice Ao24 t429.length co24, .slice none 0 0]) ?_ 2 _ rfl; (with_reducible repeat (first | refine blk_drewN ?_ _ | refine blk_drew ?_ | refine blk_alloc ?_ _)); refine blk_put (cs := #[.int .i64 t428, .slice none 0 0, .slice none 0 0]) ?_ 1 _ rfl; (with_reducible repeat (first | refine blk_drewN ?_ _ | refine blk_drew ?_ | refine blk_alloc ?_ _)); refine blk_put (cs := #[.int .i64 0, .slice none 0 0, .slice none 0 0]) ?_ 0 _ rfl; (with_reducible repeat (first | refine blk_drewN ?_ _ | refine blk_drew ?_ | refine blk_alloc ?_ _)); exact BK435.out))⟩; have n5_ : Aside0 (Below w.heap.size w w26) := ⟨(by rw [hw]; exact (be3 HB GE423 GE424 GE435))⟩; clear hw; clear HO431; clear HO434; clear BK423; clear BK424; clear BK435; clear HB; have HO431 := n0_; have HO434 := n1_; have BK423 := n2_; have BK424 := n3_; have BK435 := n4_; have HB := n5_; clear n0_ n1_ n2_ n3_ n4_ n5_; have hcz27_0 := bz3 BK435; have p10 : 0 ≤ (a1 : Int) := od; have q10 : (a1 : Int) < ((t429.length : Int) : Int) := od; obtain ⟨go10, co10, eo10, gb10, gl10, cl10, HG10⟩ := Kd.R_form HO431.out (by omega); (first | cases eo10 | (injection eo10 with ea_ en_ ec_; (first | subst ea_ | (injection ea_ with ea_; subst ea_)); subst ec_; clear en_)); have GB10 := Aside0.mk gb10; have GG10 := Aside0.mk HG10; clear gb10 gl10 HG10; obtain ⟨hx10_0, hf10_0⟩ := Kd.R_celln 0 HO431.out (a1 : Int) p10 q10; replace p10 := eq_true p10; replace q10 := eq_true q10; obtain ⟨hy28_, hz28_⟩ := Kd.R_celln 0 HO431.out (a1 : Int) (od) (od); have HP28 := Kd.R_putg HO431.out (a1 : Int) (-1)) | ((with_reducible refine gate_store (t := 3) (p := 28) rfl ?_); refine store_event (t := 3) (p := 28) (v := ?vo_w29) (w1 := (w26.setCell ⟨go10, (a1 : Int).toNat, none⟩ (.int .i64 (-1)))) ?hg ?ho ?hn ?hr ?_; (case ho => rfl); (case hg => rfl); (case hn => rfl); (case hr => first | (go_simp; done) | (go_simp; rfl)); intro w29 hw; have hg : w26.grownBy w29 (some go10) := (by rw [hw]; exact HP28.2); have hp_ : Kd.R (Kd.int .i64) 3 w29 w.heap.size (fun _ => True) (.slice (some ⟨go10, 0, none⟩) t429.length co24) y436 := (by rw [hw, Ny436.out]; exact HP28.1); clear HP28; replace BK423 := Aside0.mk (blk_grown (g := gb423) (o := .cells #[.int .i64 a0_0, .slice A0_1 l0_1.length c0_1, .slice A0_2 l0_2.length c0_2] 25 (0, 0)) (bk BK423) hg (Kd.R_ne HO431.out BK423.out (by decide))); replace BK424 := Aside0.mk (blk_grown (g := gb424) (o := .cells #[.int .i64 0, .slice none 0 0, .slice none 0 0] 25 (0, 0)) (bk BK424) hg (Kd.R_ne HO431.out BK424.out (by decide))); replace HO434 := Aside0.mk (Kd.R_over' (v := (.slice (some ⟨go10, 0, none⟩) t429.length co24)) (ro HO434) (Kd.R_typed HO431.out) (by decide) hg); replace BK435 := Aside0.mk (blk_grown (g := gb435) (o := .cells #[.int .i64 t428, .slice (some ⟨go10, 0, none⟩) t429.length co24, .slice Ao25 t432.length co25] 25 (0, 0)) (bk BK435) hg (Kd.R_ne HO431.out BK435.out (by decide))); replace HO431 := Aside0.mk (hp_); replace HB := Aside0.mk ((by rw [hw]; exact below_set (HB.out) GB10.out : Below w.heap.size w w29)); clear hg hw hp_; have hcz30_0 := bz3 BK435; have hcz31_0 := bz3 BK424))
     refine bodyPost_ret (results_ct rfl _ _ gb424 25 #[.int .i64 t428, .slice (some ⟨go10, 0, none⟩) t429.length co24, .slice Ao25 t432.length co25] (0, 0) _ rfl (by (with_reducible repeat (first | refine blk_drewN ?_ _ | refine blk_drew ?_ | refine blk_alloc ?_ _)); refine blk_put (cs := #[.int .i64 t428, .slice (some ⟨go10, 0, none⟩) t429.length co24, .slice none 0 0]) ?_ 2 _ rfl; (with_reducible repeat (first | refine blk_drewN ?_ _ | refine blk_drew ?_ | refine blk_alloc ?_ _)); refine blk_put (cs := #[.int .i64 t428, .slice none 0 0, .slice none 0 0]) ?_ 1 _ rfl; (with_reducible repeat (first | refine blk_drewN ?_ _ | refine blk_drew ?_ | refine blk_alloc ?_ _)); refine blk_put (cs := #[.int .i64 0, .slice none 0 0, .slice none 0 0]) ?_ 0 _ rfl; (with_reducible repeat (first | refine blk_drewN ?_ _ | refine blk_drew ?_ | refine blk_alloc ?_ _)); exact BK424.out) Try.underlying25 rfl (by kernel_rfl)) rfl ?_
     exact ⟨_, _, er, by (with_reducible repeat (first | apply Kd.R_alloc | apply Kd.R_drewN | apply Kd.R_drew)); exact Kd.R_mono (Kd.R_far (p := ⟨gb424, 2, none⟩) (Kd.R_far (p := ⟨gb424, 1, none⟩) (Kd.R_far (p := ⟨gb424, 0, none⟩) (Kd.R_types HO431.out BK424.out (by decide)) (fun _ hk => hk.2) (.int .i64 t428)) (fun _ hk => hk.2) (.slice (some ⟨go10, 0, none⟩) t429.length co24)) (fun _ hk => hk.2) (.slice Ao25 t432.length co25)) (fun _ hk => trivial), by (with_reducible repeat (first | apply Kd.R_alloc | apply Kd.R_drewN | apply Kd.R_drew)); exact Kd.R_mono (Kd.R_far (p := ⟨gb424, 2, none⟩) (Kd.R_far (p := ⟨gb424, 1, none⟩) (Kd.R_far (p := ⟨gb424, 0, none⟩) (Kd.R_types HO434.out BK424.out (by decide)) (fun _ hk => hk.2) (.int .i64 t428)) (fun _ hk => hk.2) (.slice (some ⟨go10, 0, none⟩) t429.length co24)) (fun _ hk => hk.2) (.slice Ao25 t432.length co25)) (fun _ hk => trivial), be3 HB GE423 GE424 GE435⟩
    rw [if_neg c9] at H
    exact absurd H (by simp)
   rw [if_neg c8] at H
   exact absurd H (by simp)
  replace c6 := Bool.eq_false_iff.mpr c6
  subst c6
  have H1 : (some (0, ([] : List Int), ([] : List (S70)), false)) = some (r1, r2, r3, r4) := by rw [if_neg (show ¬ (false = true) by decide)] at H; exact H
  clear H
  have H := H1
  clear H1
  simp only [Option.some.injEq, Prod.mk.injEq] at H
  obtain ⟨rfl, rfl, rfl, rfl⟩ := H
  go_enter Try.func72, Try.ntmps72
  go_wp2_with (first | ((with_reducible refine gate_dst (N := 2) rfl ?_); refine bx 2 #[.int .i64 a0_0, .slice A0_1 l0_1.length c0_1, .slice A0_2 l0_2.length c0_2] 25 ?_; intro gb423 hg w32 hbox hb; have BK423 := am hbox; have GW423 := gs0 hg HB; have GE423 := gs0 hg HB; replace HB := s0 HB hb; clear hb hbox hg) | ((with_reducible refine gate_dst (N := 4) rfl ?_); refine bx 4 #[.int .i64 0, .slice none 0 0, .slice none 0 0] 25 ?_; intro gb424 hg w33 hbox hb; have BK424 := am hbox; have GW424 := gs1 hg HB GE423; have GE424 := gs1 hg HB GE423; replace HB := Aside0.mk (below_step (be1 HB GE423) hb); have NB423_424 := Aside0.mk ((by rw [hg]; exact Nat.ne_of_lt (bl BK423) : gb423 ≠ gb424)); have NB424_423 := Aside0.mk ((by rw [hg]; exact Nat.ne_of_gt (bl BK423) : gb424 ≠ gb423)); replace BK423 := bb BK423 hb; clear hb hbox hg; have hnb34 := NB423_424.out; have hnc34 := NB424_423.out; have hcz35_0 := bz3 BK423) | ((with_reducible refine gate_callee (f := 61) rfl ?_); refine gl 12 Try.func61 #[.agg #[.int .i64 a0_0, .slice A0_1 l0_1.length c0_1, .slice A0_2 l0_2.length c0_2], .int .i64 a1] ?_; (with_reducible refine (impl_Ages_isPinned.calls a0_0 _ _ l0_1 _ _ l0_2 a1 false t426 _ (cb HR0_1 HB) HC0_1.out (cb HR0_2 HB) HC0_2.out A3.out).mono ?_); rintro e w36 ⟨rfl, hb⟩; refine ⟨_, rfl, ?_⟩; replace BK423 := bb BK423 hb; replace BK424 := bb BK424 hb; replace HB := Aside0.mk (below_step (be2 HB GE423 GE424) hb); (try clear hb); have hcz37_0 := bz3 BK423) | ((with_reducible refine gate_callee (f := 59) rfl ?_); refine gl 16 Try.func59 #[.agg #[.int .i64 a0_0, .slice A0_1 l0_1.length c0_1, .slice A0_2 l0_2.length c0_2]] ?_; (with_reducible refine (impl_AgesOk.calls k a0_0 _ _ l0_1 _ _ l0_2 true _ (cb HR0_1 HB) HC0_1.out (cb HR0_2 HB) HC0_2.out A4.out).mono ?_); rintro e w38 ⟨rfl, hb⟩; refine ⟨_, rfl, ?_⟩; replace BK423 := bb BK423 hb; replace BK424 := bb BK424 hb; replace HB := Aside0.mk (below_step (be2 HB GE423 GE424) hb); (try clear hb); have hcz39_0 := bz3 BK424))
  refine bodyPost_ret (results_ct rfl _ _ gb424 25 #[.int .i64 0, .slice none 0 0, .slice none 0 0] (0, 0) _ rfl (by (with_reducible repeat (first | refine blk_drewN ?_ _ | refine blk_drew ?_ | refine blk_alloc ?_ _)); refine blk_put (cs := #[.int .i64 0, .slice none 0 0, .slice none 0 0]) ?_ 2 _ rfl; (with_reducible repeat (first | refine blk_drewN ?_ _ | refine blk_drew ?_ | refine blk_alloc ?_ _)); refine blk_put (cs := #[.int .i64 0, .slice none 0 0, .slice none 0 0]) ?_ 1 _ rfl; (with_reducible repeat (first | refine blk_drewN ?_ _ | refine blk_drew ?_ | refine blk_alloc ?_ _)); refine blk_put (cs := #[.int .i64 0, .slice none 0 0, .slice none 0 0]) ?_ 0 _ rfl; (with_reducible repeat (first | refine blk_drewN ?_ _ | refine blk_drew ?_ | refine blk_alloc ?_ _)); exact BK424.out) Try.underlying25 rfl (by kernel_rfl)) rfl ?_
  exact ⟨_, _, er, by first | exact Kd.R_nil _ _ _ _ _ | exact Kd.N_nil _ _ _ _ _ | exact Kd.V_nil _ _ _ _ _ | exact Kd.Q_nil _ _ _ _ _ | exact Kd.S_nil _ _ _ _ _, by first | exact Kd.R_nil _ _ _ _ _ | exact Kd.N_nil _ _ _ _ _ | exact Kd.V_nil _ _ _ _ _ | exact Kd.Q_nil _ _ _ _ _ | exact Kd.S_nil _ _ _ _ _, be2 HB GE423 GE424⟩
 replace c5 := Bool.eq_false_iff.mpr c5
 subst c5
 have H1 : (some (0, ([] : List Int), ([] : List (S70)), false)) = some (r1, r2, r3, r4) := by rw [if_neg (show ¬ (false = true) by decide)] at H; exact H
 clear H
 have H := H1
 clear H1
 simp only [Option.some.injEq, Prod.mk.injEq] at H
 obtain ⟨rfl, rfl, rfl, rfl⟩ := H
 go_enter Try.func72, Try.ntmps72
 go_wp2_with (first | ((with_reducible refine gate_dst (N := 2) rfl ?_); refine bx 2 #[.int .i64 a0_0, .slice A0_1 l0_1.length c0_1, .slice A0_2 l0_2.length c0_2] 25 ?_; intro gb423 hg w40 hbox hb; have BK423 := am hbox; have GW423 := gs0 hg HB; have GE423 := gs0 hg HB; replace HB := s0 HB hb; clear hb hbox hg) | ((with_reducible refine gate_dst (N := 4) rfl ?_); refine bx 4 #[.int .i64 0, .slice none 0 0, .slice none 0 0] 25 ?_; intro gb424 hg w41 hbox hb; have BK424 := am hbox; have GW424 := gs1 hg HB GE423; have GE424 := gs1 hg HB GE423; replace HB := Aside0.mk (below_step (be1 HB GE423) hb); have NB423_424 := Aside0.mk ((by rw [hg]; exact Nat.ne_of_lt (bl BK423) : gb423 ≠ gb424)); have NB424_423 := Aside0.mk ((by rw [hg]; exact Nat.ne_of_gt (bl BK423) : gb424 ≠ gb423)); replace BK423 := bb BK423 hb; clear hb hbox hg; have hnb42 := NB423_424.out; have hnc42 := NB424_423.out; have hcz43_0 := bz3 BK423) | ((with_reducible refine gate_callee (f := 61) rfl ?_); refine gl 12 Try.func61 #[.agg #[.int .i64 a0_0, .slice A0_1 l0_1.length c0_1, .slice A0_2 l0_2.length c0_2], .int .i64 a1] ?_; (with_reducible refine (impl_Ages_isPinned.calls a0_0 _ _ l0_1 _ _ l0_2 a1 t425 t426 _ (cb HR0_1 HB) HC0_1.out (cb HR0_2 HB) HC0_2.out A3.out).mono ?_); rintro e w44 ⟨rfl, hb⟩; refine ⟨_, rfl, ?_⟩; replace BK423 := bb BK423 hb; replace BK424 := bb BK424 hb; replace HB := Aside0.mk (below_step (be2 HB GE423 GE424) hb); (try clear hb); have hcz45_0 := bz3 BK423) | ((with_reducible refine gate_callee (f := 59) rfl ?_); refine gl 16 Try.func59 #[.agg #[.int .i64 a0_0, .slice A0_1 l0_1.length c0_1, .slice A0_2 l0_2.length c0_2]] ?_; (with_reducible refine (impl_AgesOk.calls k a0_0 _ _ l0_1 _ _ l0_2 false _ (cb HR0_1 HB) HC0_1.out (cb HR0_2 HB) HC0_2.out A4.out).mono ?_); rintro e w46 ⟨rfl, hb⟩; refine ⟨_, rfl, ?_⟩; replace BK423 := bb BK423 hb; replace BK424 := bb BK424 hb; replace HB := Aside0.mk (below_step (be2 HB GE423 GE424) hb); (try clear hb); have hcz47_0 := bz3 BK424))
 refine bodyPost_ret (results_ct rfl _ _ gb424 25 #[.int .i64 0, .slice none 0 0, .slice none 0 0] (0, 0) _ rfl (by (with_reducible repeat (first | refine blk_drewN ?_ _ | refine blk_drew ?_ | refine blk_alloc ?_ _)); refine blk_put (cs := #[.int .i64 0, .slice none 0 0, .slice none 0 0]) ?_ 2 _ rfl; (with_reducible repeat (first | refine blk_drewN ?_ _ | refine blk_drew ?_ | refine blk_alloc ?_ _)); refine blk_put (cs := #[.int .i64 0, .slice none 0 0, .slice none 0 0]) ?_ 1 _ rfl; (with_reducible repeat (first | refine blk_drewN ?_ _ | refine blk_drew ?_ | refine blk_alloc ?_ _)); refine blk_put (cs := #[.int .i64 0, .slice none 0 0, .slice none 0 0]) ?_ 0 _ rfl; (with_reducible repeat (first | refine blk_drewN ?_ _ | refine blk_drew ?_ | refine blk_alloc ?_ _)); exact BK424.out) Try.underlying25 rfl (by kernel_rfl)) rfl ?_
 exact ⟨_, _, er, by first | exact Kd.R_nil _ _ _ _ _ | exact Kd.N_nil _ _ _ _ _ | exact Kd.V_nil _ _ _ _ _ | exact Kd.Q_nil _ _ _ _ _ | exact Kd.S_nil _ _ _ _ _, by first | exact Kd.R_nil _ _ _ _ _ | exact Kd.N_nil _ _ _ _ _ | exact Kd.V_nil _ _ _ _ _ | exact Kd.Q_nil _ _ _ _ _ | exact Kd.S_nil _ _ _ _ _, be2 HB GE423 GE424⟩

/-! ### impl_Leave: function 30 -/
def impl_Leave.f (k : Nat) (l0_0 : List Int) (a0_1 : Int) (l0_2 : List Int) (l0_3 : List (S70)) (l0_4 : List Int) (a1 : Int) : Option (List Int × Int × List Int × (List (S70)) × List Int × Bool) := (impl_Unpin.f k a0_1 l0_2 l0_3 a1).bind fun bt439 => ((impl_PoolOk.f k l0_0 a0_1 l0_2 l0_3 l0_4).bind fun t448 => (if t448 = true then (if bt439.2.2.2 = true then ((impl_aged.f l0_0 a0_1 l0_2 l0_3 l0_4 bt439.1 bt439.2.1 bt439.2.2.1).bind fun bt449 => (some (bt449.1, bt449.2.1, bt449.2.2.1, bt449.2.2.2.1, bt449.2.2.2.2, true))) else (some (([] : List Int), 0, ([] : List Int), ([] : List (S70)), ([] : List Int), false))) else (some (([] : List Int), 0, ([] : List Int), ([] : List (S70)), ([] : List Int), false))))
theorem impl_Leave.mono : ∀ a0 a1 a2 a3 a4 a5 k, LeO (impl_Leave.f k a0 a1 a2 a3 a4 a5) (impl_Leave.f (k + 1) a0 a1 a2 a3 a4 a5) := by
 intro a0 a1 a2 a3 a4 a5 k
 unfold impl_Leave.f
 repeat' first
   | (with_reducible exact impl_PoolOk.mono _ _ _ _ _ _)
   | (with_reducible exact impl_Unpin.mono _ _ _ _ _)
   | (with_reducible exact LeO.refl _)
   | (with_reducible exact LeO.none _)
   | (with_reducible refine LeO.ite ?_ ?_)
   | (with_reducible refine LeO.bind ?_ (fun _ => ?_))
   | exact impl_PoolOk.mono _ _ _ _ _ _
   | exact impl_Unpin.mono _ _ _ _ _
   | exact LeO.none _
   | refine LeO.ite ?_ ?_
   | refine LeO.bind ?_ (fun _ => ?_)
set_option maxHeartbeats 8000000 in
set_option maxRecDepth 100000 in
theorem impl_Leave.calls (k : Nat) (A0_0 : Option Addr) (c0_0 : Nat) (l0_0 : List Int) (a0_1 : Int) (A0_2 : Option Addr) (c0_2 : Nat) (l0_2 : List Int) (A0_3 : Option Addr) (c0_3 : Nat) (l0_3 : List (S70)) (A0_4 : Option Addr) (c0_4 : Nat) (l0_4 : List Int) (a1 : Int) (r1 : List Int) (r2 : Int) (r3 : List Int) (r4 : List (S70)) (r5 : List Int) (r6 : Bool) (w : World) (hr0_0 : Kd.C (Kd.int .i64) w A0_0 l0_0.length l0_0) (hc0_0 : l0_0.length ≤ c0_0) (hr0_2 : Kd.C (Kd.int .i64) w A0_2 l0_2.length l0_2) (hc0_2 : l0_2.length ≤ c0_2) (hr0_3 : Kd.C k70 w A0_3 l0_3.length l0_3) (hc0_3 : l0_3.length ≤ c0_3) (hr0_4 : Kd.C (Kd.int .i64) w A0_4 l0_4.length l0_4) (hc0_4 : l0_4.length ≤ c0_4) (h : impl_Leave.f k l0_0 a0_1 l0_2 l0_3 l0_4 a1 = some (r1, r2, r3, r4, r5, r6)) :
  Calls Try.prog 30 #[.agg #[.slice A0_0 l0_0.length c0_0, .int .i64 a0_1, .slice A0_2 l0_2.length c0_2, .slice A0_3 l0_3.length c0_3, .slice A0_4 l0_4.length c0_4], .int .i64 a1] w fun e w' => ∃ v0_ v2_ v3_ v4_ : Value, e = .returned (.tuple #[.agg #[v0_, .int .i64 r2, v2_, v3_, v4_], .bool r6]) ∧ Kd.R (Kd.int .i64) 3 w' w.heap.size (fun k_ => some k_ ≠ (v2_ : Value).ownBlock ∧ some k_ ≠ (v4_ : Value).ownBlock) v0_ r1 ∧ Kd.R (Kd.int .i64) 3 w' w.heap.size (fun k_ => some k_ ≠ (v0_ : Value).ownBlock ∧ some k_ ≠ (v4_ : Value).ownBlock) v2_ r3 ∧ Kd.R k70 70 w' w.heap.size (fun _ => True) v3_ r4 ∧ Kd.R (Kd.int .i64) 3 w' w.heap.size (fun k_ => some k_ ≠ (v0_ : Value).ownBlock ∧ some k_ ≠ (v2_ : Value).ownBlock) v4_ r5 ∧ Below w.heap.size w w' := by
 have hu27 := Try.underlying27
 have hu25 := Try.underlying25
 have HR0_0 := Aside0.mk hr0_0
 have HC0_0 := Aside0.mk hc0_0
 clear hr0_0 hc0_0
 have HR0_2 := Aside0.mk hr0_2
 have HC0_2 := Aside0.mk hc0_2
 clear hr0_2 hc0_2
 have HR0_3 := Aside0.mk hr0_3
 have HC0_3 := Aside0.mk hc0_3
 clear hr0_3 hc0_3
 have HR0_4 := Aside0.mk hr0_4
 have HC0_4 := Aside0.mk hc0_4
 clear hr0_4 hc0_4
 have HB := Aside0.mk (Below.refl w.heap.size w)
 have H : ((impl_Unpin.f k a0_1 l0_2 l0_3 a1).bind fun bt439 => ((impl_PoolOk.f k l0_0 a0_1 l0_2 l0_3 l0_4).bind fun t448 => (if t448 = true then (if bt439.2.2.2 = true then ((impl_aged.f l0_0 a0_1 l0_2 l0_3 l0_4 bt439.1 bt439.2.1 bt439.2.2.1).bind fun bt449 => (some (bt449.1, bt449.2.1, bt449.2.2.1, bt449.2.2.2.1, bt449.2.2.2.2, true))) else (some (([] : List Int), 0, ([] : List Int), ([] : List (S70)), ([] : List Int), false))) else (some (([] : List Int), 0, ([] : List Int), ([] : List (S70)), ([] : List Int), false))))) = some (r1, r2, r3, r4, r5, r6) := h
 clear h
 replace H := Option.bind_eq_some_iff.mp H
 obtain ⟨⟨t439, t440, t443, t446⟩, A30, H⟩ := H
 replace H : ((impl_PoolOk.f k l0_0 a0_1 l0_2 l0_3 l0_4).bind fun t448 => (if t448 = true then (if t446 = true then ((impl_aged.f l0_0 a0_1 l0_2 l0_3 l0_4 t439 t440 t443).bind fun bt449 => (some (bt449.1, bt449.2.1, bt449.2.2.1, bt449.2.2.2.1, bt449.2.2.2.2, true))) else (some (([] : List Int), 0, ([] : List Int), ([] : List (S70)), ([] : List Int), false))) else (some (([] : List Int), 0, ([] : List Int), ([] : List (S70)), ([] : List Int), false)))) = some (r1, r2, r3, r4, r5, r6) := H
 have A3 := Aside0.mk A30
 clear A30
 replace H := Option.bind_eq_some_iff.mp H
 obtain ⟨t448, A40, H⟩ := H
 replace H : (if t448 = true then (if t446 = true then ((impl_aged.f l0_0 a0_1 l0_2 l0_3 l0_4 t439 t440 t443).bind fun bt449 => (some (bt449.1, bt449.2.1, bt449.2.2.1, bt449.2.2.2.1, bt449.2.2.2.2, true))) else (some (([] : List Int), 0, ([] : List Int), ([] : List (S70)), ([] : List Int), false))) else (some (([] : List Int), 0, ([] : List Int), ([] : List (S70)), ([] : List Int), false))) = some (r1, r2, r3, r4, r5, r6) := H
 have A4 := Aside0.mk A40
 clear A40
 by_cases c5 : t448 = true
 ·subst c5
  have H1 : (if t446 = true then ((impl_aged.f l0_0 a0_1 l0_2 l0_3 l0_4 t439 t440 t443).bind fun bt449 => (some (bt449.1, bt449.2.1, bt449.2.2.1, bt449.2.2.2.1, bt449.2.2.2.2, true))) else (some (([] : List Int), 0, ([] : List Int), ([] : List (S70)), ([] : List Int), false))) = some (r1, r2, r3, r4, r5, r6) := by rw [if_pos rfl] at H; exact H
  clear H
  have H := H1
  clear H1
  by_cases c6 : t446 = true
  ·subst c6
   have H1 : ((impl_aged.f l0_0 a0_1 l0_2 l0_3 l0_4 t439 t440 t443).bind fun bt449 => (some (bt449.1, bt449.2.1, bt449.2.2.1, bt449.2.2.2.1, bt449.2.2.2.2, true))) = some (r1, r2, r3, r4, r5, r6) := by rw [if_pos rfl] at H; exact H
   clear H
   have H := H1
   clear H1
   replace H := Option.bind_eq_some_iff.mp H
   obtain ⟨⟨t449, t452, t453, t456, t459⟩, A70, H⟩ := H
   replace H : (some (t449, t452, t453, t456, t459, true)) = some (r1, r2, r3, r4, r5, r6) := H
   have A7 := Aside0.mk A70
   clear A70
   simp only [Option.some.injEq, Prod.mk.injEq] at H
   obtain ⟨rfl, rfl, rfl, rfl, rfl, rfl⟩ := H
   go_enter Try.func30, Try.ntmps30
   go_wp2_with (first | ((with_reducible refine gate_dst (N := 2) rfl ?_); refine bx 2 #[.slice A0_0 l0_0.length c0_0, .int .i64 a0_1, .slice A0_2 l0_2.length c0_2, .slice A0_3 l0_3.length c0_3, .slice A0_4 l0_4.length c0_4] 27 ?_; intro gb437 hg w8 hbox hb; have BK437 := am hbox; have GW437 := gs0 hg HB; have GE437 := gs0 hg HB; replace HB := s0 HB hb; clear hb hbox hg) | ((with_reducible refine gate_dst (N := 4) rfl ?_); refine bx 4 #[.slice none 0 0, .int .i64 0, .slice none 0 0, .slice none 0 0, .slice none 0 0] 27 ?_; intro gb438 hg w9 hbox hb; have BK438 := am hbox; have GW438 := gs1 hg HB GE437; have GE438 := gs1 hg HB GE437; replace HB := Aside0.mk (below_step (be1 HB GE437) hb); have NB437_438 := Aside0.mk ((by rw [hg]; exact Nat.ne_of_lt (bl BK437) : gb437 ≠ gb438)); have NB438_437 := Aside0.mk ((by rw [hg]; exact Nat.ne_of_gt (bl BK437) : gb438 ≠ gb437)); replace BK437 := bb BK437 hb; clear hb hbox hg; have hnb10 := NB437_438.out; have hnc10 := NB438_437.out; have hcz11_0 := bz5 BK437) | ((with_reducible refine gate_callee (f := 72) rfl ?_); refine gl 12 Try.func72 #[.agg #[.int .i64 a0_1, .slice A0_2 l0_2.length c0_2, .slice A0_3 l0_3.length c0_3], .int .i64 a1] ?_; (with_reducible refine (impl_Unpin.calls k a0_1 _ _ l0_2 _ _ l0_3 a1 t439 t440 t443 true _ (cb HR0_2 HB) HC0_2.out (cb HR0_3 HB) HC0_3.out A3.out).mono ?_); rintro e w12 ⟨v441, v444, rfl, ho0, ho1, hb⟩; refine ⟨_, rfl, ?_⟩; have HO442 := Aside0.mk (Kd.R_lower ho0 (below_size (be2 HB GE437 GE438))); have HO445 := Aside0.mk (Kd.R_lower ho1 (below_size (be2 HB GE437 GE438))); replace BK437 := bb BK437 hb; replace BK438 := bb BK438 hb; replace HB := Aside0.mk (below_step (be2 HB GE437 GE438) hb); (try clear hb); (try clear ho0); (try clear ho1)) | ((with_reducible refine gate_dst (N := 6) rfl ?_); refine bx 6 #[.int .i64 0, .slice none 0 0, .slice none 0 0] 25 ?_; intro gb447 hg w13 hbox hb; replace HO442 := rb HO442 hb; replace HO445 := rb HO445 hb; have BK447 := am hbox; have GW447 := gs2 hg HB GE437 GE438; have GE447 := gs2 hg HB GE437 GE438; replace HB := Aside0.mk (below_step (be2 HB GE437 GE438) hb); have NB437_447 := Aside0.mk ((by rw [hg]; exact Nat.ne_of_lt (bl BK437) : gb437 ≠ gb447)); have NB447_437 := Aside0.mk ((by rw [hg]; exact Nat.ne_of_gt (bl BK437) : gb447 ≠ gb437)); replace BK437 := bb BK437 hb; have NB438_447 := Aside0.mk ((by rw [hg]; exact Nat.ne_of_lt (bl BK438) : gb438 ≠ gb447)); have NB447_438 := Aside0.mk ((by rw [hg]; exact Nat.ne_of_gt (bl BK438) : gb447 ≠ gb438)); replace BK438 := bb BK438 hb; clear hb hbox hg; have hnb14 := NB447_437.out; have hnc14 := NB437_447.out; have hnb15 := NB447_438.out; have hnc15 := NB438_447.out; have hcz16_0 := bz3 BK447; obtain ⟨Ao17, co17, eo17⟩ := Kd.R_slice HO442.out; subst eo17; obtain ⟨Ao18, co18, eo18⟩ := Kd.R_slice HO445.out; subst eo18; have hcz19_0 := bz5 BK437) | ((with_reducible refine gate_callee (f := 22) rfl ?_); refine gl 16 Try.func22 #[.agg #[.slice A0_0 l0_0.length c0_0, .int .i64 a0_1, .slice A0_2 l0_2.length c0_2, .slice A0_3 l0_3.length c0_3, .slice A0_4 l0_4.length c0_4]] ?_; (with_reducible refine (impl_PoolOk.calls k _ _ l0_0 a0_1 _ _ l0_2 _ _ l0_3 _ _ l0_4 true _ ?side1 HC0_0.out ?side3 HC0_2.out ?side5 HC0_3.out ?side7 HC0_4.out A4.out).mono ?_); (case side1 => exact Kd.C_below HR0_0.out (be3 HB GE437 GE438 GE447)); (case side3 => exact Kd.C_below HR0_2.out (be3 HB GE437 GE438 GE447)); (case side5 => exact Kd.C_below HR0_3.out (be3 HB GE437 GE438 GE447)); (case side7 => exact Kd.C_below HR0_4.out (be3 HB GE437 GE438 GE447)); rintro e w20 ⟨rfl, hb⟩; refine ⟨_, rfl, ?_⟩; replace HO442 := Aside0.mk (Kd.R_below (rf HO442 BK447) hb); replace HO445 := Aside0.mk (Kd.R_below (rf HO445 BK447) hb); replace BK437 := Aside0.mk (blk_below (g := gb437) (o := .cells #[.slice A0_0 l0_0.length c0_0, .int .i64 a0_1, .slice A0_2 l0_2.length c0_2, .slice A0_3 l0_3.length c0_3, .slice A0_4 l0_4.length c0_4] 27 (0, 0)) (bf1 BK437 NB437_447) hb); replace BK438 := Aside0.mk (blk_below (g := gb438) (o := .cells #[.slice none 0 0, .int .i64 0, .slice none 0 0, .slice none 0 0, .slice none 0 0] 27 (0, 0)) (bf1 BK438 NB438_447) hb); replace BK447 := Aside0.mk (blk_below (g := gb447) (o := .cells #[.int .i64 t439, .slice Ao17 t440.length co17, .slice Ao18 t443.length co18] 25 (0, 0)) (by (with_reducible repeat (first | refine blk_drewN ?_ _ | refine blk_drew ?_ | refine blk_alloc ?_ _)); refine blk_put (cs := #[.int .i64 t439, .slice Ao17 t440.length co17, .slice none 0 0]) ?_ 2 _ rfl; (with_reducible repeat (first | refine blk_drewN ?_ _ | refine blk_drew ?_ | refine blk_alloc ?_ _)); refine blk_put (cs := #[.int .i64 t439, .slice none 0 0, .slice none 0 0]) ?_ 1 _ rfl; (with_reducible repeat (first | refine blk_drewN ?_ _ | refine blk_drew ?_ | refine blk_alloc ?_ _)); refine blk_put (cs := #[.int .i64 0, .slice none 0 0, .slice none 0 0]) ?_ 0 _ rfl; (with_reducible repeat (first | refine blk_drewN ?_ _ | refine blk_drew ?_ | refine blk_alloc ?_ _)); exact BK447.out) hb); replace HB := Aside0.mk (below_step (be3 HB GE437 GE438 GE447) hb); (try clear hb); have hcz21_0 := bz5 BK437; have hcz22_0 := bz3 BK447) | ((with_reducible refine gate_callee (f := 70) rfl ?_); refine gl 25 Try.func70 #[.agg #[.slice A0_0 l0_0.length c0_0, .int .i64 a0_1, .slice A0_2 l0_2.length c0_2, .slice A0_3 l0_3.length c0_3, .slice A0_4 l0_4.length c0_4], .agg #[.int .i64 t439, .slice Ao17 t440.length co17, .slice Ao18 t443.length co18]] ?_; (with_reducible refine (impl_aged.calls _ _ l0_0 a0_1 _ _ l0_2 _ _ l0_3 _ _ l0_4 t439 (fun k_ => some k_ = (.slice Ao17 t440.length co17 : Value).ownBlock) (.slice Ao17 t440.length co17) t440 (fun k_ => some k_ = (.slice Ao18 t443.length co18 : Value).ownBlock) (.slice Ao18 t443.length co18) t443 t449 t452 t453 t456 t459 w _ ?side1 ?side2 HC0_0.out ?side4 HC0_2.out ?side6 HC0_3.out ?side8 HC0_4.out ?side10 ?side11 A7.out).mono ?_); (case side1 => repeat (first | (with_reducible first | exact HB.out | apply below_alloc | apply pw_below_drewN | apply below_drew1 | refine below_set ?_ GE437.out | refine below_set ?_ GE438.out | refine below_set ?_ GE447.out) | exact HB.out)); (case side2 => exact Kd.C_kept_came (Kd.heap_int .i64) HR0_0.out (be3 HB GE437 GE438 GE447) (fun k_ hs_ => Or.elim hs_ (fun e_ => (fun e_ => Kd.R_base HO442.out k_ e_.symm) e_) (fun e_ => (fun e_ => Kd.R_base HO445.out k_ e_.symm) e_))); (case side4 => exact Kd.C_kept_came (Kd.heap_int .i64) HR0_2.out (be3 HB GE437 GE438 GE447) (fun k_ hs_ => Or.elim hs_ (fun e_ => (fun e_ => Kd.R_base HO442.out k_ e_.symm) e_) (fun e_ => (fun e_ => Kd.R_base HO445.out k_ e_.symm) e_))); (case side6 => exact Kd.C_kept_came k70_heap HR0_3.out (be3 HB GE437 GE438 GE447) (fun k_ hs_ => Or.elim hs_ (fun e_ => (fun e_ => Kd.R_base HO442.out k_ e_.symm) e_) (fun e_ => (fun e_ => Kd.R_base HO445.out k_ e_.symm) e_))); (case side8 => exact Kd.C_kept_came (Kd.heap_int .i64) HR0_4.out (be3 HB GE437 GE438 GE447) (fun k_ hs_ => Or.elim hs_ (fun e_ => (fun e_ => Kd.R_base HO442.out k_ e_.symm) e_) (fun e_ => (fun e_ => Kd.R_base HO445.out k_ e_.symm) e_))); (case side10 => exact Kd.R_tight rfl HO442.out); (case side11 => exact Kd.R_tight rfl HO445.out); rintro e w23 ⟨v450, v454, v457, v460, rfl, ho0, ho1, ho2, ho3, hb, hkp⟩; refine ⟨_, rfl, ?_⟩; replace BK437 := Aside0.mk (blk_kept (bk BK437) hkp (fun hs_ => Or.elim hs_ (fun e_ => (fun e_ => (Kd.R_ne HO442.out BK437.out (by decide)) e_) e_) (fun e_ => (fun e_ => (Kd.R_ne HO445.out BK437.out (by decide)) e_) e_))); replace BK438 := Aside0.mk (blk_kept (bk BK438) hkp (fun hs_ => Or.elim hs_ (fun e_ => (fun e_ => (Kd.R_ne HO442.out BK438.out (by decide)) e_) e_) (fun e_ => (fun e_ => (Kd.R_ne HO445.out BK438.out (by decide)) e_) e_))); replace BK447 := Aside0.mk (blk_kept (bk BK447) hkp (fun hs_ => Or.elim hs_ (fun e_ => (fun e_ => (Kd.R_ne HO442.out BK447.out (by decide)) e_) e_) (fun e_ => (fun e_ => (Kd.R_ne HO445.out BK447.out (by decide)) e_) e_))); have HO451 := Aside0.mk (Kd.R_mono (ok' := fun k_ => some k_ ≠ (v454 : Value).ownBlock ∧ some k_ ≠ (v460 : Value).ownBlock) ho0 cj); have HO455 := Aside0.mk (Kd.R_mono (ok' := fun k_ => some k_ ≠ (v450 : Value).ownBlock ∧ some k_ ≠ (v460 : Value).ownBlock) ho1 cj); have HO458 := Aside0.mk (Kd.R_mono (ok' := fun k_ => True) ho2 (fun k_ hk_ => trivial)); have HO461 := Aside0.mk (Kd.R_mono (ok' := fun k_ => some k_ ≠ (v450 : Value).ownBlock ∧ some k_ ≠ (v454 : Value).ownBlock) ho3 cj); replace HB := Aside0.mk (hb); clear HO442; clear HO445; (try clear hb); (try clear hkp); (try clear ho0); (try clear ho1); (try clear ho2); (try clear ho3); obtain ⟨Ao24, co24, eo24⟩ := Kd.R_slice HO451.out; subst eo24; have hcz25_0 := bz5 BK438; obtain ⟨Ao26, co26, eo26⟩ := Kd.R_slice HO455.out; subst eo26; obtain ⟨Ao27, co27, eo27⟩ := Kd.R_slice HO458.out; subst eo27; obtain ⟨Ao28, co28, eo28⟩ := Kd.R_slice HO461.out; subst eo28))
   refine bodyPost_ret (results_ct rfl _ _ gb438 27 #[.slice Ao24 t449.length co24, .int .i64 t452, .slice Ao26 t453.length co26, .slice Ao27 t456.length co27, .slice Ao28 t459.length co28] (0, 0) _ rfl (by (with_reducible repeat (first | refine blk_drewN ?_ _ | refine blk_drew ?_ | refine blk_alloc ?_ _)); refine blk_put (cs := #[.slice Ao24 t449.length co24, .int .i64 t452, .slice Ao26 t453.length co26, .slice Ao27 t456.length co27, .slice none 0 0]) ?_ 4 _ rfl; (with_reducible repeat (first | refine blk_drewN ?_ _ | refine blk_drew ?_ | refine blk_alloc ?_ _)); refine blk_put (cs := #[.slice Ao24 t449.length co24, .int .i64 t452, .slice Ao26 t453.length co26, .slice none 0 0, .slice none 0 0]) ?_ 3 _ rfl; (with_reducible repeat (first | refine blk_drewN ?_ _ | refine blk_drew ?_ | refine blk_alloc ?_ _)); refine blk_put (cs := #[.slice Ao24 t449.length co24, .int .i64 t452, .slice none 0 0, .slice none 0 0, .slice none 0 0]) ?_ 2 _ rfl; (with_reducible repeat (first | refine blk_drewN ?_ _ | refine blk_drew ?_ | refine blk_alloc ?_ _)); refine blk_put (cs := #[.slice Ao24 t449.length co24, .int .i64 0, .slice none 0 0, .slice none 0 0, .slice none 0 0]) ?_ 1 _ rfl; (with_reducible repeat (first | refine blk_drewN ?_ _ | refine blk_drew ?_ | refine blk_alloc ?_ _)); refine blk_put (cs := #[.slice none 0 0, .int .i64 0, .slice none 0 0, .slice none 0 0, .slice none 0 0]) ?_ 0 _ rfl; (with_reducible repeat (first | refine blk_drewN ?_ _ | refine blk_drew ?_ | refine blk_alloc ?_ _)); exact BK438.out) Try.underlying27 rfl (by kernel_rfl)) rfl ?_
   exact ⟨_, _, _, _, er, by (with_reducible repeat (first | apply Kd.R_alloc | apply Kd.R_drewN | apply Kd.R_drew)); exact Kd.R_mono (Kd.R_far (p := ⟨gb438, 4, none⟩) (Kd.R_far (p := ⟨gb438, 3, none⟩) (Kd.R_far (p := ⟨gb438, 2, none⟩) (Kd.R_far (p := ⟨gb438, 1, none⟩) (Kd.R_far (p := ⟨gb438, 0, none⟩) (Kd.R_types HO451.out BK438.out (by decide)) (fun _ hk => hk.2) (.slice Ao24 t449.length co24)) (fun _ hk => hk.2) (.int .i64 t452)) (fun _ hk => hk.2) (.slice Ao26 t453.length co26)) (fun _ hk => hk.2) (.slice Ao27 t456.length co27)) (fun _ hk => hk.2) (.slice Ao28 t459.length co28)) (fun _ hk => ⟨hk.1.1, hk.1.2⟩), by (with_reducible repeat (first | apply Kd.R_alloc | apply Kd.R_drewN | apply Kd.R_drew)); exact Kd.R_mono (Kd.R_far (p := ⟨gb438, 4, none⟩) (Kd.R_far (p := ⟨gb438, 3, none⟩) (Kd.R_far (p := ⟨gb438, 2, none⟩) (Kd.R_far (p := ⟨gb438, 1, none⟩) (Kd.R_far (p := ⟨gb438, 0, none⟩) (Kd.R_types HO455.out BK438.out (by decide)) (fun _ hk => hk.2) (.slice Ao24 t449.length co24)) (fun _ hk => hk.2) (.int .i64 t452)) (fun _ hk => hk.2) (.slice Ao26 t453.length co26)) (fun _ hk => hk.2) (.slice Ao27 t456.length co27)) (fun _ hk => hk.2) (.slice Ao28 t459.length co28)) (fun _ hk => ⟨hk.1.1, hk.1.2⟩), by (with_reducible repeat (first | apply Kd.R_alloc | apply Kd.R_drewN | apply Kd.R_drew)); exact Kd.R_mono (Kd.R_far (p := ⟨gb438, 4, none⟩) (Kd.R_far (p := ⟨gb438, 3, none⟩) (Kd.R_far (p := ⟨gb438, 2, none⟩) (Kd.R_far (p := ⟨gb438, 1, none⟩) (Kd.R_far (p := ⟨gb438, 0, none⟩) (Kd.R_types HO458.out BK438.out (by decide)) (fun _ hk => hk.2) (.slice Ao24 t449.length co24)) (fun _ hk => hk.2) (.int .i64 t452)) (fun _ hk => hk.2) (.slice Ao26 t453.length co26)) (fun _ hk => hk.2) (.slice Ao27 t456.length co27)) (fun _ hk => hk.2) (.slice Ao28 t459.length co28)) (fun _ hk => trivial), by (with_reducible repeat (first | apply Kd.R_alloc | apply Kd.R_drewN | apply Kd.R_drew)); exact Kd.R_mono (Kd.R_far (p := ⟨gb438, 4, none⟩) (Kd.R_far (p := ⟨gb438, 3, none⟩) (Kd.R_far (p := ⟨gb438, 2, none⟩) (Kd.R_far (p := ⟨gb438, 1, none⟩) (Kd.R_far (p := ⟨gb438, 0, none⟩) (Kd.R_types HO461.out BK438.out (by decide)) (fun _ hk => hk.2) (.slice Ao24 t449.length co24)) (fun _ hk => hk.2) (.int .i64 t452)) (fun _ hk => hk.2) (.slice Ao26 t453.length co26)) (fun _ hk => hk.2) (.slice Ao27 t456.length co27)) (fun _ hk => hk.2) (.slice Ao28 t459.length co28)) (fun _ hk => ⟨hk.1.1, hk.1.2⟩), be3 HB GE437 GE438 GE447⟩
  replace c6 := Bool.eq_false_iff.mpr c6
  subst c6
  have H1 : (some (([] : List Int), 0, ([] : List Int), ([] : List (S70)), ([] : List Int), false)) = some (r1, r2, r3, r4, r5, r6) := by rw [if_neg (show ¬ (false = true) by decide)] at H; exact H
  clear H
  have H := H1
  clear H1
  simp only [Option.some.injEq, Prod.mk.injEq] at H
  obtain ⟨rfl, rfl, rfl, rfl, rfl, rfl⟩ := H
  go_enter Try.func30, Try.ntmps30
  go_wp2_with (first | ((with_reducible refine gate_dst (N := 2) rfl ?_); refine bx 2 #[.slice A0_0 l0_0.length c0_0, .int .i64 a0_1, .slice A0_2 l0_2.length c0_2, .slice A0_3 l0_3.length c0_3, .slice A0_4 l0_4.length c0_4] 27 ?_; intro gb437 hg w29 hbox hb; have BK437 := am hbox; have GW437 := gs0 hg HB; have GE437 := gs0 hg HB; replace HB := s0 HB hb; clear hb hbox hg) | ((with_reducible refine gate_dst (N := 4) rfl ?_); refine bx 4 #[.slice none 0 0, .int .i64 0, .slice none 0 0, .slice none 0 0, .slice none 0 0] 27 ?_; intro gb438 hg w30 hbox hb; have BK438 := am hbox; have GW438 := gs1 hg HB GE437; have GE438 := gs1 hg HB GE437; replace HB := Aside0.mk (below_step (be1 HB GE437) hb); have NB437_438 := Aside0.mk ((by rw [hg]; exact Nat.ne_of_lt (bl BK437) : gb437 ≠ gb438)); have NB438_437 := Aside0.mk ((by rw [hg]; exact Nat.ne_of_gt (bl BK437) : gb438 ≠ gb437)); replace BK437 := bb BK437 hb; clear hb hbox hg; have hnb31 := NB437_438.out; have hnc31 := NB438_437.out; have hcz32_0 := bz5 BK437) | ((with_reducible refine gate_callee (f := 72) rfl ?_); refine gl 12 Try.func72 #[.agg #[.int .i64 a0_1, .slice A0_2 l0_2.length c0_2, .slice A0_3 l0_3.length c0_3], .int .i64 a1] ?_; (with_reducible refine (impl_Unpin.calls k a0_1 _ _ l0_2 _ _ l0_3 a1 t439 t440 t443 false _ (cb HR0_2 HB) HC0_2.out (cb HR0_3 HB) HC0_3.out A3.out).mono ?_); rintro e w33 ⟨v441, v444, rfl, ho0, ho1, hb⟩; refine ⟨_, rfl, ?_⟩; have HO442 := Aside0.mk (Kd.R_lower ho0 (below_size (be2 HB GE437 GE438))); have HO445 := Aside0.mk (Kd.R_lower ho1 (below_size (be2 HB GE437 GE438))); replace BK437 := bb BK437 hb; replace BK438 := bb BK438 hb; replace HB := Aside0.mk (below_step (be2 HB GE437 GE438) hb); (try clear hb); (try clear ho0); (try clear ho1)) | ((with_reducible refine gate_dst (N := 6) rfl ?_); refine bx 6 #[.int .i64 0, .slice none 0 0, .slice none 0 0] 25 ?_; intro gb447 hg w34 hbox hb; replace HO442 := rb HO442 hb; replace HO445 := rb HO445 hb; have BK447 := am hbox; have GW447 := gs2 hg HB GE437 GE438; have GE447 := gs2 hg HB GE437 GE438; replace HB := Aside0.mk (below_step (be2 HB GE437 GE438) hb); have NB437_447 := Aside0.mk ((by rw [hg]; exact Nat.ne_of_lt (bl BK437) : gb437 ≠ gb447)); have NB447_437 := Aside0.mk ((by rw [hg]; exact Nat.ne_of_gt (bl BK437) : gb447 ≠ gb437)); replace BK437 := bb BK437 hb; have NB438_447 := Aside0.mk ((by rw [hg]; exact Nat.ne_of_lt (bl BK438) : gb438 ≠ gb447)); have NB447_438 := Aside0.mk ((by rw [hg]; exact Nat.ne_of_gt (bl BK438) : gb447 ≠ gb438)); replace BK438 := bb BK438 hb; clear hb hbox hg; have hnb35 := NB447_437.out; have hnc35 := NB437_447.out; have hnb36 := NB447_438.out; have hnc36 := NB438_447.out; have hcz37_0 := bz3 BK447; obtain ⟨Ao38, co38, eo38⟩ := Kd.R_slice HO442.out; subst eo38; obtain ⟨Ao39, co39, eo39⟩ := Kd.R_slice HO445.out; subst eo39; have hcz40_0 := bz5 BK437) | ((with_reducible refine gate_callee (f := 22) rfl ?_); refine gl 16 Try.func22 #[.agg #[.slice A0_0 l0_0.length c0_0, .int .i64 a0_1, .slice A0_2 l0_2.length c0_2, .slice A0_3 l0_3.length c0_3, .slice A0_4 l0_4.length c0_4]] ?_; (with_reducible refine (impl_PoolOk.calls k _ _ l0_0 a0_1 _ _ l0_2 _ _ l0_3 _ _ l0_4 true _ ?side1 HC0_0.out ?side3 HC0_2.out ?side5 HC0_3.out ?side7 HC0_4.out A4.out).mono ?_); (case side1 => exact Kd.C_below HR0_0.out (be3 HB GE437 GE438 GE447)); (case side3 => exact Kd.C_below HR0_2.out (be3 HB GE437 GE438 GE447)); (case side5 => exact Kd.C_below HR0_3.out (be3 HB GE437 GE438 GE447)); (case side7 => exact Kd.C_below HR0_4.out (be3 HB GE437 GE438 GE447)); rintro e w41 ⟨rfl, hb⟩; refine ⟨_, rfl, ?_⟩; replace HO442 := Aside0.mk (Kd.R_below (rf HO442 BK447) hb); replace HO445 := Aside0.mk (Kd.R_below (rf HO445 BK447) hb); replace BK437 := Aside0.mk (blk_below (g := gb437) (o := .cells #[.slice A0_0 l0_0.length c0_0, .int .i64 a0_1, .slice A0_2 l0_2.length c0_2, .slice A0_3 l0_3.length c0_3, .slice A0_4 l0_4.length c0_4] 27 (0, 0)) (bf1 BK437 NB437_447) hb); replace BK438 := Aside0.mk (blk_below (g := gb438) (o := .cells #[.slice none 0 0, .int .i64 0, .slice none 0 0, .slice none 0 0, .slice none 0 0] 27 (0, 0)) (bf1 BK438 NB438_447) hb); replace BK447 := Aside0.mk (blk_below (g := gb447) (o := .cells #[.int .i64 t439, .slice Ao38 t440.length co38, .slice Ao39 t443.length co39] 25 (0, 0)) (by (with_reducible repeat (first | refine blk_drewN ?_ _ | refine blk_drew ?_ | refine blk_alloc ?_ _)); refine blk_put (cs := #[.int .i64 t439, .slice Ao38 t440.length co38, .slice none 0 0]) ?_ 2 _ rfl; (with_reducible repeat (first | refine blk_drewN ?_ _ | refine blk_drew ?_ | refine blk_alloc ?_ _)); refine blk_put (cs := #[.int .i64 t439, .slice none 0 0, .slice none 0 0]) ?_ 1 _ rfl; (with_reducible repeat (first | refine blk_drewN ?_ _ | refine blk_drew ?_ | refine blk_alloc ?_ _)); refine blk_put (cs := #[.int .i64 0, .slice none 0 0, .slice none 0 0]) ?_ 0 _ rfl; (with_reducible repeat (first | refine blk_drewN ?_ _ | refine blk_drew ?_ | refine blk_alloc ?_ _)); exact BK447.out) hb); replace HB := Aside0.mk (below_step (be3 HB GE437 GE438 GE447) hb); (try clear hb); have hcz42_0 := bz5 BK438))
  refine bodyPost_ret (results_ct rfl _ _ gb438 27 #[.slice none 0 0, .int .i64 0, .slice none 0 0, .slice none 0 0, .slice none 0 0] (0, 0) _ rfl (by (with_reducible repeat (first | refine blk_drewN ?_ _ | refine blk_drew ?_ | refine blk_alloc ?_ _)); refine blk_put (cs := #[.slice none 0 0, .int .i64 0, .slice none 0 0, .slice none 0 0, .slice none 0 0]) ?_ 4 _ rfl; (with_reducible repeat (first | refine blk_drewN ?_ _ | refine blk_drew ?_ | refine blk_alloc ?_ _)); refine blk_put (cs := #[.slice none 0 0, .int .i64 0, .slice none 0 0, .slice none 0 0, .slice none 0 0]) ?_ 3 _ rfl; (with_reducible repeat (first | refine blk_drewN ?_ _ | refine blk_drew ?_ | refine blk_alloc ?_ _)); refine blk_put (cs := #[.slice none 0 0, .int .i64 0, .slice none 0 0, .slice none 0 0, .slice none 0 0]) ?_ 2 _ rfl; (with_reducible repeat (first | refine blk_drewN ?_ _ | refine blk_drew ?_ | refine blk_alloc ?_ _)); refine blk_put (cs := #[.slice none 0 0, .int .i64 0, .slice none 0 0, .slice none 0 0, .slice none 0 0]) ?_ 1 _ rfl; (with_reducible repeat (first | refine blk_drewN ?_ _ | refine blk_drew ?_ | refine blk_alloc ?_ _)); refine blk_put (cs := #[.slice none 0 0, .int .i64 0, .slice none 0 0, .slice none 0 0, .slice none 0 0]) ?_ 0 _ rfl; (with_reducible repeat (first | refine blk_drewN ?_ _ | refine blk_drew ?_ | refine blk_alloc ?_ _)); exact BK438.out) Try.underlying27 rfl (by kernel_rfl)) rfl ?_
  exact ⟨_, _, _, _, er, by first | exact Kd.R_nil _ _ _ _ _ | exact Kd.N_nil _ _ _ _ _ | exact Kd.V_nil _ _ _ _ _ | exact Kd.Q_nil _ _ _ _ _ | exact Kd.S_nil _ _ _ _ _, by first | exact Kd.R_nil _ _ _ _ _ | exact Kd.N_nil _ _ _ _ _ | exact Kd.V_nil _ _ _ _ _ | exact Kd.Q_nil _ _ _ _ _ | exact Kd.S_nil _ _ _ _ _, by first | exact Kd.R_nil _ _ _ _ _ | exact Kd.N_nil _ _ _ _ _ | exact Kd.V_nil _ _ _ _ _ | exact Kd.Q_nil _ _ _ _ _ | exact Kd.S_nil _ _ _ _ _, by first | exact Kd.R_nil _ _ _ _ _ | exact Kd.N_nil _ _ _ _ _ | exact Kd.V_nil _ _ _ _ _ | exact Kd.Q_nil _ _ _ _ _ | exact Kd.S_nil _ _ _ _ _, be3 HB GE437 GE438 GE447⟩
 replace c5 := Bool.eq_false_iff.mpr c5
 subst c5
 have H1 : (some (([] : List Int), 0, ([] : List Int), ([] : List (S70)), ([] : List Int), false)) = some (r1, r2, r3, r4, r5, r6) := by rw [if_neg (show ¬ (false = true) by decide)] at H; exact H
 clear H
 have H := H1
 clear H1
 simp only [Option.some.injEq, Prod.mk.injEq] at H
 obtain ⟨rfl, rfl, rfl, rfl, rfl, rfl⟩ := H
 go_enter Try.func30, Try.ntmps30
 go_wp2_with (first | ((with_reducible refine gate_dst (N := 2) rfl ?_); refine bx 2 #[.slice A0_0 l0_0.length c0_0, .int .i64 a0_1, .slice A0_2 l0_2.length c0_2, .slice A0_3 l0_3.length c0_3, .slice A0_4 l0_4.length c0_4] 27 ?_; intro gb437 hg w43 hbox hb; have BK437 := am hbox; have GW437 := gs0 hg HB; have GE437 := gs0 hg HB; replace HB := s0 HB hb; clear hb hbox hg) | ((with_reducible refine gate_dst (N := 4) rfl ?_); refine bx 4 #[.slice none 0 0, .int .i64 0, .slice none 0 0, .slice none 0 0, .slice none 0 0] 27 ?_; intro gb438 hg w44 hbox hb; have BK438 := am hbox; have GW438 := gs1 hg HB GE437; have GE438 := gs1 hg HB GE437; replace HB := Aside0.mk (below_step (be1 HB GE437) hb); have NB437_438 := Aside0.mk ((by rw [hg]; exact Nat.ne_of_lt (bl BK437) : gb437 ≠ gb438)); have NB438_437 := Aside0.mk ((by rw [hg]; exact Nat.ne_of_gt (bl BK437) : gb438 ≠ gb437)); replace BK437 := bb BK437 hb; clear hb hbox hg; have hnb45 := NB437_438.out; have hnc45 := NB438_437.out; have hcz46_0 := bz5 BK437) | ((with_reducible refine gate_callee (f := 72) rfl ?_); refine gl 12 Try.func72 #[.agg #[.int .i64 a0_1, .slice A0_2 l0_2.length c0_2, .slice A0_3 l0_3.length c0_3], .int .i64 a1] ?_; (with_reducible refine (impl_Unpin.calls k a0_1 _ _ l0_2 _ _ l0_3 a1 t439 t440 t443 t446 _ (cb HR0_2 HB) HC0_2.out (cb HR0_3 HB) HC0_3.out A3.out).mono ?_); rintro e w47 ⟨v441, v444, rfl, ho0, ho1, hb⟩; refine ⟨_, rfl, ?_⟩; have HO442 := Aside0.mk (Kd.R_lower ho0 (below_size (be2 HB GE437 GE438))); have HO445 := Aside0.mk (Kd.R_lower ho1 (below_size (be2 HB GE437 GE438))); replace BK437 := bb BK437 hb; replace BK438 := bb BK438 hb; replace HB := Aside0.mk (below_step (be2 HB GE437 GE438) hb); (try clear hb); (try clear ho0); (try clear ho1)) | ((with_reducible refine gate_dst (N := 6) rfl ?_); refine bx 6 #[.int .i64 0, .slice none 0 0, .slice none 0 0] 25 ?_; intro gb447 hg w48 hbox hb; replace HO442 := rb HO442 hb; replace HO445 := rb HO445 hb; have BK447 := am hbox; have GW447 := gs2 hg HB GE437 GE438; have GE447 := gs2 hg HB GE437 GE438; replace HB := Aside0.mk (below_step (be2 HB GE437 GE438) hb); have NB437_447 := Aside0.mk ((by rw [hg]; exact Nat.ne_of_lt (bl BK437) : gb437 ≠ gb447)); have NB447_437 := Aside0.mk ((by rw [hg]; exact Nat.ne_of_gt (bl BK437) : gb447 ≠ gb437)); replace BK437 := bb BK437 hb; have NB438_447 := Aside0.mk ((by rw [hg]; exact Nat.ne_of_lt (bl BK438) : gb438 ≠ gb447)); have NB447_438 := Aside0.mk ((by rw [hg]; exact Nat.ne_of_gt (bl BK438) : gb447 ≠ gb438)); replace BK438 := bb BK438 hb; clear hb hbox hg; have hnb49 := NB447_437.out; have hnc49 := NB437_447.out; have hnb50 := NB447_438.out; have hnc50 := NB438_447.out; have hcz51_0 := bz3 BK447; obtain ⟨Ao52, co52, eo52⟩ := Kd.R_slice HO442.out; subst eo52; obtain ⟨Ao53, co53, eo53⟩ := Kd.R_slice HO445.out; subst eo53; have hcz54_0 := bz5 BK437) | ((with_reducible refine gate_callee (f := 22) rfl ?_); refine gl 16 Try.func22 #[.agg #[.slice A0_0 l0_0.length c0_0, .int .i64 a0_1, .slice A0_2 l0_2.length c0_2, .slice A0_3 l0_3.length c0_3, .slice A0_4 l0_4.length c0_4]] ?_; (with_reducible refine (impl_PoolOk.calls k _ _ l0_0 a0_1 _ _ l0_2 _ _ l0_3 _ _ l0_4 false _ ?side1 HC0_0.out ?side3 HC0_2.out ?side5 HC0_3.out ?side7 HC0_4.out A4.out).mono ?_); (case side1 => exact Kd.C_below HR0_0.out (be3 HB GE437 GE438 GE447)); (case side3 => exact Kd.C_below HR0_2.out (be3 HB GE437 GE438 GE447)); (case side5 => exact Kd.C_below HR0_3.out (be3 HB GE437 GE438 GE447)); (case side7 => exact Kd.C_below HR0_4.out (be3 HB GE437 GE438 GE447)); rintro e w55 ⟨rfl, hb⟩; refine ⟨_, rfl, ?_⟩; replace HO442 := Aside0.mk (Kd.R_below (rf HO442 BK447) hb); replace HO445 := Aside0.mk (Kd.R_below (rf HO445 BK447) hb); replace BK437 := Aside0.mk (blk_below (g := gb437) (o := .cells #[.slice A0_0 l0_0.length c0_0, .int .i64 a0_1, .slice A0_2 l0_2.length c0_2, .slice A0_3 l0_3.length c0_3, .slice A0_4 l0_4.length c0_4] 27 (0, 0)) (bf1 BK437 NB437_447) hb); replace BK438 := Aside0.mk (blk_below (g := gb438) (o := .cells #[.slice none 0 0, .int .i64 0, .slice none 0 0, .slice none 0 0, .slice none 0 0] 27 (0, 0)) (bf1 BK438 NB438_447) hb); replace BK447 := Aside0.mk (blk_below (g := gb447) (o := .cells #[.int .i64 t439, .slice Ao52 t440.length co52, .slice Ao53 t443.length co53] 25 (0, 0)) (by (with_reducible repeat (first | refine blk_drewN ?_ _ | refine blk_drew ?_ | refine blk_alloc ?_ _)); refine blk_put (cs := #[.int .i64 t439, .slice Ao52 t440.length co52, .slice none 0 0]) ?_ 2 _ rfl; (with_reducible repeat (first | refine blk_drewN ?_ _ | refine blk_drew ?_ | refine blk_alloc ?_ _)); refine blk_put (cs := #[.int .i64 t439, .slice none 0 0, .slice none 0 0]) ?_ 1 _ rfl; (with_reducible repeat (first | refine blk_drewN ?_ _ | refine blk_drew ?_ | refine blk_alloc ?_ _)); refine blk_put (cs := #[.int .i64 0, .slice none 0 0, .slice none 0 0]) ?_ 0 _ rfl; (with_reducible repeat (first | refine blk_drewN ?_ _ | refine blk_drew ?_ | refine blk_alloc ?_ _)); exact BK447.out) hb); replace HB := Aside0.mk (below_step (be3 HB GE437 GE438 GE447) hb); (try clear hb); have hcz56_0 := bz5 BK438))
 refine bodyPost_ret (results_ct rfl _ _ gb438 27 #[.slice none 0 0, .int .i64 0, .slice none 0 0, .slice none 0 0, .slice none 0 0] (0, 0) _ rfl (by (with_reducible repeat (first | refine blk_drewN ?_ _ | refine blk_drew ?_ | refine blk_alloc ?_ _)); refine blk_put (cs := #[.slice none 0 0, .int .i64 0, .slice none 0 0, .slice none 0 0, .slice none 0 0]) ?_ 4 _ rfl; (with_reducible repeat (first | refine blk_drewN ?_ _ | refine blk_drew ?_ | refine blk_alloc ?_ _)); refine blk_put (cs := #[.slice none 0 0, .int .i64 0, .slice none 0 0, .slice none 0 0, .slice none 0 0]) ?_ 3 _ rfl; (with_reducible repeat (first | refine blk_drewN ?_ _ | refine blk_drew ?_ | refine blk_alloc ?_ _)); refine blk_put (cs := #[.slice none 0 0, .int .i64 0, .slice none 0 0, .slice none 0 0, .slice none 0 0]) ?_ 2 _ rfl; (with_reducible repeat (first | refine blk_drewN ?_ _ | refine blk_drew ?_ | refine blk_alloc ?_ _)); refine blk_put (cs := #[.slice none 0 0, .int .i64 0, .slice none 0 0, .slice none 0 0, .slice none 0 0]) ?_ 1 _ rfl; (with_reducible repeat (first | refine blk_drewN ?_ _ | refine blk_drew ?_ | refine blk_alloc ?_ _)); refine blk_put (cs := #[.slice none 0 0, .int .i64 0, .slice none 0 0, .slice none 0 0, .slice none 0 0]) ?_ 0 _ rfl; (with_reducible repeat (first | refine blk_drewN ?_ _ | refine blk_drew ?_ | refine blk_alloc ?_ _)); exact BK438.out) Try.underlying27 rfl (by kernel_rfl)) rfl ?_
 exact ⟨_, _, _, _, er, by first | exact Kd.R_nil _ _ _ _ _ | exact Kd.N_nil _ _ _ _ _ | exact Kd.V_nil _ _ _ _ _ | exact Kd.Q_nil _ _ _ _ _ | exact Kd.S_nil _ _ _ _ _, by first | exact Kd.R_nil _ _ _ _ _ | exact Kd.N_nil _ _ _ _ _ | exact Kd.V_nil _ _ _ _ _ | exact Kd.Q_nil _ _ _ _ _ | exact Kd.S_nil _ _ _ _ _, by first | exact Kd.R_nil _ _ _ _ _ | exact Kd.N_nil _ _ _ _ _ | exact Kd.V_nil _ _ _ _ _ | exact Kd.Q_nil _ _ _ _ _ | exact Kd.S_nil _ _ _ _ _, by first | exact Kd.R_nil _ _ _ _ _ | exact Kd.N_nil _ _ _ _ _ | exact Kd.V_nil _ _ _ _ _ | exact Kd.Q_nil _ _ _ _ _ | exact Kd.S_nil _ _ _ _ _, be3 HB GE437 GE438 GE447⟩

end Go.Proofs.Ytdgpidhlbpaolaa.QFnExactLeave
