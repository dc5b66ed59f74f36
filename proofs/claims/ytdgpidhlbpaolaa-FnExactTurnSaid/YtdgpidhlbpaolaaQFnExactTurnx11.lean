-- made by a program of this session (myprint.py)
import Derived.Test.YtdgpidhlbpaolaaQFnExactTurnx0
import Derived.Test.YtdgpidhlbpaolaaQFnExactTurnx8
import Derived.Test.YtdgpidhlbpaolaaQFnExactTurnx9
import Derived.Test.YtdgpidhlbpaolaaQFnExactTurnx10
namespace Go.Proofs.Ytdgpidhlbpaolaa.QFnExactTurn
open Go.RowKit Go.Proofs.YtdgpidhlbpaolaaW.PrintWords Go.Proofs.YtdgpidhlbpaolaaW.PrintLast Go.Proofs.YtdgpidhlbpaolaaW.PrintMore
attribute [local go_sem] max2_int min2_int max_two min_two max_three min_three max_four min_four   -- for this text's walks alone
set_option linter.unusedVariables false
set_option linter.unusedSimpArgs false

/-! ### impl_copyPool: function 66 -/
def impl_copyPool.f (l0_0 : List Int) (a0_1 : Int) (l0_2 : List Int) (l0_3 : List (S70)) (l0_4 : List Int) : Option (List Int × Int × List Int × (List (S70)) × List Int) := (impl_copyInts.f l0_0).bind fun t393 => ((impl_copyAges.f a0_1 l0_2 l0_3).bind fun bt396 => ((impl_copyInts.f l0_4).bind fun t403 => (some (t393, bt396.1, bt396.2.1, bt396.2.2, t403))))
def impl_copyPool.T1 : Bool × List (List Nat × List Nat) := (true, [([], []), ([0], [0]), ([1], [1]), ([], []), ([3], [3]), ([4, 2], [4]), ([], []), ([6], [6]), ([7, 5], [7]), ([2, 5, 8], [2, 5, 8]), ([9, 8, 0, 1, 2, 3, 4, 5, 6, 7, 8, 9], [9])])
def impl_copyPool.B1 : List Nat := [0, 1, 3, 0, 8, 31, 0, 64, 255, 511, 1023]
theorem impl_copyPool.tab1 : rtab .any (opsOf Try.f66 1) = impl_copyPool.T1 := by kernel_rfl
theorem impl_copyPool.bits1 : waitsOk impl_copyPool.T1.2 impl_copyPool.B1 = true := by kernel_rfl
set_option maxHeartbeats 8000000 in
set_option maxRecDepth 100000 in
theorem impl_copyPool.calls (A0_0 : Option Addr) (c0_0 : Nat) (l0_0 : List Int) (a0_1 : Int) (A0_2 : Option Addr) (c0_2 : Nat) (l0_2 : List Int) (A0_3 : Option Addr) (c0_3 : Nat) (l0_3 : List (S70)) (A0_4 : Option Addr) (c0_4 : Nat) (l0_4 : List Int) (r1 : List Int) (r2 : Int) (r3 : List Int) (r4 : List (S70)) (r5 : List Int) (w : World) (hr0_0 : Kd.C (Kd.int .i64) w A0_0 l0_0.length l0_0) (hc0_0 : l0_0.length ≤ c0_0) (hr0_2 : Kd.C (Kd.int .i64) w A0_2 l0_2.length l0_2) (hc0_2 : l0_2.length ≤ c0_2) (hr0_3 : Kd.C k70 w A0_3 l0_3.length l0_3) (hc0_3 : l0_3.length ≤ c0_3) (hr0_4 : Kd.C (Kd.int .i64) w A0_4 l0_4.length l0_4) (hc0_4 : l0_4.length ≤ c0_4) (h : impl_copyPool.f l0_0 a0_1 l0_2 l0_3 l0_4 = some (r1, r2, r3, r4, r5)) :
  Calls Try.prog 66 #[.agg #[.slice A0_0 l0_0.length c0_0, .int .i64 a0_1, .slice A0_2 l0_2.length c0_2, .slice A0_3 l0_3.length c0_3, .slice A0_4 l0_4.length c0_4]] w fun e w' => ∃ v0_ v2_ v3_ v4_ : Value, e = .returned (.agg #[v0_, .int .i64 r2, v2_, v3_, v4_]) ∧ Kd.R (Kd.int .i64) 3 w' w.heap.size (fun k_ => some k_ ≠ (v2_ : Value).ownBlock ∧ some k_ ≠ (v4_ : Value).ownBlock) v0_ r1 ∧ Kd.R (Kd.int .i64) 3 w' w.heap.size (fun k_ => some k_ ≠ (v0_ : Value).ownBlock ∧ some k_ ≠ (v4_ : Value).ownBlock) v2_ r3 ∧ Kd.R k70 70 w' w.heap.size (fun _ => True) v3_ r4 ∧ Kd.R (Kd.int .i64) 3 w' w.heap.size (fun k_ => some k_ ≠ (v0_ : Value).ownBlock ∧ some k_ ≠ (v2_ : Value).ownBlock) v4_ r5 ∧ Below w.heap.size w w' := by
 have hu27 := Try.underlying27
 have hu25 := Try.underlying25
 have HR0_0 := Aside0.mk hr0_0
 have HC0_0 := Aside0.mk hc0_0
 clear hr0_0 hc0_0
 have HR0_2 := Aside0.mk hr0_2
 have HC0_2 := Aside0.mk hc0_2
 clear hr0_2 hc0_2
 have HR0_3 := Aside0.mk hr0_3
 have HC0_3 := Aside0.mk hc0_3
 clear hr0_3 hc0_3
 have HR0_4 := Aside0.mk hr0_4
 have HC0_4 := Aside0.mk hc0_4
 clear hr0_4 hc0_4
 have HB := Aside0.mk (Below.refl w.heap.size w)
 have H : ((impl_copyInts.f l0_0).bind fun t393 => ((impl_copyAges.f a0_1 l0_2 l0_3).bind fun bt396 => ((impl_copyInts.f l0_4).bind fun t403 => (some (t393, bt396.1, bt396.2.1, bt396.2.2, t403))))) = some (r1, r2, r3, r4, r5) := h
 clear h
 replace H := Option.bind_eq_some_iff.mp H
 obtain ⟨t393, A20, H⟩ := H
 replace H : ((impl_copyAges.f a0_1 l0_2 l0_3).bind fun bt396 => ((impl_copyInts.f l0_4).bind fun t403 => (some (t393, bt396.1, bt396.2.1, bt396.2.2, t403)))) = some (r1, r2, r3, r4, r5) := H
 have A2 := Aside0.mk A20
 clear A20
 replace H := Option.bind_eq_some_iff.mp H
 obtain ⟨⟨t396, t397, t400⟩, A30, H⟩ := H
 replace H : ((impl_copyInts.f l0_4).bind fun t403 => (some (t393, t396, t397, t400, t403))) = some (r1, r2, r3, r4, r5) := H
 have A3 := Aside0.mk A30
 clear A30
 replace H := Option.bind_eq_some_iff.mp H
 obtain ⟨t403, A40, H⟩ := H
 replace H : (some (t393, t396, t397, t400, t403)) = some (r1, r2, r3, r4, r5) := H
 have A4 := Aside0.mk A40
 clear A40
 simp only [Option.some.injEq, Prod.mk.injEq] at H
 obtain ⟨rfl, rfl, rfl, rfl, rfl⟩ := H
 go_enter Try.func66, Try.ntmps66
 try go_wp2_with (first | ((with_reducible refine gate_dst (N := 1) rfl ?_); refine bx 1 #[.slice A0_0 l0_0.length c0_0, .int .i64 a0_1, .slice A0_2 l0_2.length c0_2, .slice A0_3 l0_3.length c0_3, .slice A0_4 l0_4.length c0_4] 27 ?_; intro gb391 hg w5 hbox hb; have BK391 := am hbox; have GW391 := gs0 hg HB; have GE391 := gs0 hg HB; replace HB := s0 HB hb; clear hb hbox hg) | ((with_reducible refine gate_dst (N := 2) rfl ?_); refine bx 2 #[.slice none 0 0, .int .i64 0, .slice none 0 0, .slice none 0 0, .slice none 0 0] 27 ?_; intro gb392 hg w6 hbox hb; have BK392 := am hbox; have GW392 := gs1 hg HB GE391; have GE392 := gs1 hg HB GE391; replace HB := Aside0.mk (below_step (be1 HB GE391) hb); have NB391_392 := Aside0.mk ((by rw [hg]; exact Nat.ne_of_lt (bl BK391) : gb391 ≠ gb392)); have NB392_391 := Aside0.mk ((by rw [hg]; exact Nat.ne_of_gt (bl BK391) : gb392 ≠ gb391)); replace BK391 := bb BK391 hb; clear hb hbox hg))
 have n0_ := Aside0.mk (blk_drew BK391.out)
 have n1_ := Aside0.mk (blk_drew BK392.out)
 have n2_ := Aside0.mk (below_drew1 HB.out)
 clear BK391
 clear BK392
 clear HB
 have BK391 := n0_
 have BK392 := n1_
 have HB := n2_
 clear n0_ n1_ n2_
 refine start_ (n := 11) (S := fun w' => w'.cell? ⟨gb391, 0, none⟩ = some (.slice A0_0 l0_0.length c0_0) ∧ w'.cell? ⟨gb391, 1, none⟩ = some (.int .i64 a0_1) ∧ w'.cell? ⟨gb391, 2, none⟩ = some (.slice A0_2 l0_2.length c0_2) ∧ w'.cell? ⟨gb391, 3, none⟩ = some (.slice A0_3 l0_3.length c0_3) ∧ w'.cell? ⟨gb391, 4, none⟩ = some (.slice A0_4 l0_4.length c0_4)) (ds := []) (bv 11 0x0) (by kernel_rfl) rfl rfl ⟨bc0 BK391, bc1 BK391, bc2 BK391, bc3 BK391, bc4 BK391⟩ (fun hHeld => ?_); refine with_tabW impl_copyPool.tab1 impl_copyPool.bits1 (fun HT_ HW_ => ?_)
 generalize w6.drew = w7 at BK391 BK392 HB hHeld ⊢
 refine py HT_ 0 3 (bv 11 0x1) ?_
 refine py HT_ 3 6 (bv 11 0x9) ?_
 refine py HT_ 6 9 (bv 11 0x49) ?_
 refine tk HT_ HW_ hHeld 1 4 (bv 11 0x4b) ?_
 refine tk HT_ HW_ hHeld 4 7 (bv 11 0x5b) ?_
 refine tk HT_ HW_ hHeld 7 10 (bv 11 0xdb) ?_
 refine one_ (i := 2) (N := some 5) (bv 11 0xdf) rfl rfl (one_of HT_.out (by kernel_rfl)) (by decide) (fun K hK => ?_)
 refine goes_ Try.func57 (by kernel_rfl) rfl #[.slice A0_0 l0_0.length c0_0] (by rfl) rfl rfl ml ?_
 with_reducible refine (impl_copyInts.calls _ _ l0_0 t393 _ ?side1 ?side2 A2.out).mono ?_
 (case side1 => exact cb HR0_0 HB)
 (case side2 => exact HC0_0.out)
 rintro e w8 ⟨v394, rfl, ho0, hb⟩
 refine ⟨_, rfl, ?_⟩
 have n0_ := Aside0.mk (Kd.R_lower ho0 (below_size (be2 HB GE391 GE392)))
 have n1_ := bb BK391 hb
 have n2_ := bb BK392 hb
 have n3_ := Aside0.mk (below_step (be2 HB GE391 GE392) hb)
 clear BK391
 clear BK392
 clear HB
 have HO395 := n0_
 have BK391 := n1_
 have BK392 := n2_
 have HB := n3_
 clear n0_ n1_ n2_ n3_
 (try clear hb)
 (try clear hb2)
 (try clear hk)
 (try clear hi)
 (try clear ho0)
 refine hK.out _ _ ⟨bc0 BK391, bc1 BK391, bc2 BK391, bc3 BK391, bc4 BK391⟩ (fun hHeld => ?_)
 clear hK K
 refine norm_ (a' := ?_) ?_ ?_
 rotate_left
 ·show Act.put _ (some 5) _ = _
  simp only [aP]
  rfl
 refine one_ (i := 5) (N := some 8) (bv 11 0xff) rfl rfl (one_of HT_.out (by kernel_rfl)) (by decide) (fun K hK => ?_)
 refine goes_ Try.func96 (by kernel_rfl) rfl #[.agg #[.int .i64 a0_1, .slice A0_2 l0_2.length c0_2, .slice A0_3 l0_3.length c0_3]] (by rfl) rfl rfl ml ?_
 with_reducible refine (impl_copyAges.calls a0_1 _ _ l0_2 _ _ l0_3 t396 t397 t400 _ ?side1 ?side2 ?side3 ?side4 A3.out).mono ?_
 (case side1 => exact cb HR0_2 HB)
 (case side2 => exact HC0_2.out)
 (case side3 => exact cb HR0_3 HB)
 (case side4 => exact HC0_3.out)
 rintro e w9 ⟨v398, v401, rfl, ho0, ho1, hb⟩
 refine ⟨_, rfl, ?_⟩
 have n0_ := Aside0.mk (Kd.R_elder' (ro HO395) (Kd.R_base ho0) hb)
 have n1_ := Aside0.mk (Kd.R_lower (nw ho0 HO395) (below_size (be2 HB GE391 GE392)))
 have n2_ := Aside0.mk (Kd.R_lower ho1 (below_size (be2 HB GE391 GE392)))
 have n3_ := bb BK391 hb
 have n4_ := bb BK392 hb
 have n5_ := Aside0.mk (below_step (be2 HB GE391 GE392) hb)
 clear HO395
 clear BK391
 clear BK392
 clear HB
 have HO395 := n0_
 have HO399 := n1_
 have HO402 := n2_
 have BK391 := n3_
 have BK392 := n4_
 have HB := n5_
 clear n0_ n1_ n2_ n3_ n4_ n5_
 (try clear hb)
 (try clear hb2)
 (try clear hk)
 (try clear hi)
 (try clear ho0)
 (try clear ho1)
 refine hK.out _ _ ⟨bc0 BK391, bc1 BK391, bc2 BK391, bc3 BK391, bc4 BK391⟩ (fun hHeld => ?_)
 clear hK K
 refine norm_ (a' := ?_) ?_ ?_
 rotate_left
 ·show Act.put _ (some 8) _ = _
  simp only [aP]
  rfl
 refine one_ (i := 8) (N := some 11) (bv 11 0x1ff) rfl rfl (one_of HT_.out (by kernel_rfl)) (by decide) (fun K hK => ?_)
 refine goes_ Try.func57 (by kernel_rfl) rfl #[.slice A0_4 l0_4.length c0_4] (by rfl) rfl rfl ml ?_
 with_reducible refine (impl_copyInts.calls _ _ l0_4 t403 _ ?side1 ?side2 A4.out).mono ?_
 (case side1 => exact cb HR0_4 HB)
 (case side2 => exact HC0_4.out)
 rintro e w10 ⟨v404, rfl, ho0, hb⟩
 refine ⟨_, rfl, ?_⟩
 have n0_ := Aside0.mk (Kd.R_elder' (ro HO395) (Kd.R_base ho0) hb)
 have n1_ := Aside0.mk (Kd.R_elder' (ro HO399) (Kd.R_base ho0) hb)
 have n2_ := rb HO402 hb
 have n3_ := Aside0.mk (Kd.R_lower (nw (nw ho0 HO395) HO399) (below_size (be2 HB GE391 GE392)))
 have n4_ := bb BK391 hb
 have n5_ := bb BK392 hb
 have n6_ := Aside0.mk (below_step (be2 HB GE391 GE392) hb)
 clear HO395
 clear HO399
 clear HO402
 clear BK391
 clear BK392
 clear HB
 have HO395 := n0_
 have HO399 := n1_
 have HO402 := n2_
 have HO405 := n3_
 have BK391 := n4_
 have BK392 := n5_
 have HB := n6_
 clear n0_ n1_ n2_ n3_ n4_ n5_ n6_
 (try clear hb)
 (try clear hb2)
 (try clear hk)
 (try clear hi)
 (try clear ho0)
 obtain ⟨Ao11, co11, eo11⟩ := Kd.R_slice HO405.out
 (first | subst eo11 | (injection eo11 with f1_ f2_ f3_; have f4_ := f1_.symm; have f5_ := f3_.symm; clear f1_ f2_ f3_; subst f4_; subst f5_))
 obtain ⟨Ao12, co12, eo12⟩ := Kd.R_slice HO402.out
 (first | subst eo12 | (injection eo12 with f1_ f2_ f3_; have f4_ := f1_.symm; have f5_ := f3_.symm; clear f1_ f2_ f3_; subst f4_; subst f5_))
 obtain ⟨Ao13, co13, eo13⟩ := Kd.R_slice HO399.out
 (first | subst eo13 | (injection eo13 with f1_ f2_ f3_; have f4_ := f1_.symm; have f5_ := f3_.symm; clear f1_ f2_ f3_; subst f4_; subst f5_))
 obtain ⟨Ao14, co14, eo14⟩ := Kd.R_slice HO395.out
 (first | subst eo14 | (injection eo14 with f1_ f2_ f3_; have f4_ := f1_.symm; have f5_ := f3_.symm; clear f1_ f2_ f3_; subst f4_; subst f5_))
 refine hK.out _ _ ⟨bc0 BK391, bc1 BK391, bc2 BK391, bc3 BK391, bc4 BK391⟩ (fun hHeld => ?_)
 clear hK K
 refine norm_ (a' := ?_) ?_ ?_
 rotate_left
 ·show Act.put _ (some 11) _ = _
  simp only [aP]
  rfl
 refine py HT_ 9 12 (bv 11 0x3ff) ?_
 refine one_ (i := 10) (N := none) (bv 11 0x7ff) rfl rfl (one_of HT_.out (by kernel_rfl)) (by decide) (fun K hK => ?_)
 have hs15 : w10.cell? ⟨gb392, 0, none⟩ = some (.slice none 0 0) := bc0 BK392
 have hfs15 := blk_frozen BK392.out 0
 have hns15_0 := NB391_392.out
 have hms15_0 := NB392_391.out
 have hs16 : w10.cell? ⟨gb392, 1, none⟩ = some (.int .i64 0) := bc1 BK392
 have hfs16 := blk_frozen BK392.out 1
 have hns16_0 := NB391_392.out
 have hms16_0 := NB392_391.out
 have hs17 : w10.cell? ⟨gb392, 2, none⟩ = some (.slice none 0 0) := bc2 BK392
 have hfs17 := blk_frozen BK392.out 2
 have hns17_0 := NB391_392.out
 have hms17_0 := NB392_391.out
 have hs18 : w10.cell? ⟨gb392, 3, none⟩ = some (.slice none 0 0) := bc3 BK392
 have hfs18 := blk_frozen BK392.out 3
 have hns18_0 := NB391_392.out
 have hms18_0 := NB392_391.out
 have hs19 : w10.cell? ⟨gb392, 4, none⟩ = some (.slice none 0 0) := bc4 BK392
 have hfs19 := blk_frozen BK392.out 4
 have hns19_0 := NB391_392.out
 have hms19_0 := NB392_391.out
 refine skip_ (w1 := ?_) (by rfl) rfl ?_ ?_
 rotate_left
 ·go_simp
  rfl
 refine hK.out _ _ ⟨((cell_far (p := ⟨gb392, _, none⟩) NB391_392.out _).trans (((cell_far (p := ⟨gb392, _, none⟩) NB391_392.out _).trans (((cell_far (p := ⟨gb392, _, none⟩) NB391_392.out _).trans (((cell_far (p := ⟨gb392, _, none⟩) NB391_392.out _).trans (((cell_far (p := ⟨gb392, _, none⟩) NB391_392.out _).trans (hHeld.1)))))))))), ((cell_far (p := ⟨gb392, _, none⟩) NB391_392.out _).trans (((cell_far (p := ⟨gb392, _, none⟩) NB391_392.out _).trans (((cell_far (p := ⟨gb392, _, none⟩) NB391_392.out _).trans (((cell_far (p := ⟨gb392, _, none⟩) NB391_392.out _).trans (((cell_far (p := ⟨gb392, _, none⟩) NB391_392.out _).trans (hHeld.2.1)))))))))), ((cell_far (p := ⟨gb392, _, none⟩) NB391_392.out _).trans (((cell_far (p := ⟨gb392, _, none⟩) NB391_392.out _).trans (((cell_far (p := ⟨gb392, _, none⟩) NB391_392.out _).trans (((cell_far (p := ⟨gb392, _, none⟩) NB391_392.out _).trans (((cell_far (p := ⟨gb392, _, none⟩) NB391_392.out _).trans (hHeld.2.2.1)))))))))), ((cell_far (p := ⟨gb392, _, none⟩) NB391_392.out _).trans (((cell_far (p := ⟨gb392, _, none⟩) NB391_392.out _).trans (((cell_far (p := ⟨gb392, _, none⟩) NB391_392.out _).trans (((cell_far (p := ⟨gb392, _, none⟩) NB391_392.out _).trans (((cell_far (p := ⟨gb392, _, none⟩) NB391_392.out _).trans (hHeld.2.2.2.1)))))))))), ((cell_far (p := ⟨gb392, _, none⟩) NB391_392.out _).trans (((cell_far (p := ⟨gb392, _, none⟩) NB391_392.out _).trans (((cell_far (p := ⟨gb392, _, none⟩) NB391_392.out _).trans (((cell_far (p := ⟨gb392, _, none⟩) NB391_392.out _).trans (((cell_far (p := ⟨gb392, _, none⟩) NB391_392.out _).trans (hHeld.2.2.2.2))))))))))⟩ (fun hHeld => ?_)
 clear hK K
 refine done_ (done_of HT_.out (by kernel_rfl)) ?_
 try go_wp2
 refine bodyPost_ret (results_cell_row rfl _ _ gb392 27 #[.slice Ao14 t393.length co14, .int .i64 t396, .slice Ao13 t397.length co13, .slice Ao12 t400.length co12, .slice Ao11 t403.length co11] (0, 0) _ rfl (by (with_reducible repeat (first | refine blk_drewN ?_ _ | refine blk_drew ?_ | refine blk_alloc ?_ _)); refine blk_put (cs := #[.slice Ao14 t393.length co14, .int .i64 t396, .slice Ao13 t397.length co13, .slice Ao12 t400.length co12, .slice none 0 0]) ?_ 4 _ rfl; (with_reducible repeat (first | refine blk_drewN ?_ _ | refine blk_drew ?_ | refine blk_alloc ?_ _)); refine blk_put (cs := #[.slice Ao14 t393.length co14, .int .i64 t396, .slice Ao13 t397.length co13, .slice none 0 0, .slice none 0 0]) ?_ 3 _ rfl; (with_reducible repeat (first | refine blk_drewN ?_ _ | refine blk_drew ?_ | refine blk_alloc ?_ _)); refine blk_put (cs := #[.slice Ao14 t393.length co14, .int .i64 t396, .slice none 0 0, .slice none 0 0, .slice none 0 0]) ?_ 2 _ rfl; (with_reducible repeat (first | refine blk_drewN ?_ _ | refine blk_drew ?_ | refine blk_alloc ?_ _)); refine blk_put (cs := #[.slice Ao14 t393.length co14, .int .i64 0, .slice none 0 0, .slice none 0 0, .slice none 0 0]) ?_ 1 _ rfl; (with_reducible repeat (first | refine blk_drewN ?_ _ | refine blk_drew ?_ | refine blk_alloc ?_ _)); refine blk_put (cs := #[.slice none 0 0, .int .i64 0, .slice none 0 0, .slice none 0 0, .slice none 0 0]) ?_ 0 _ rfl; (with_reducible repeat (first | refine blk_drewN ?_ _ | refine blk_drew ?_ | refine blk_alloc ?_ _)); exact BK392.out) Try.underlying27 rfl (by kernel_rfl)) rfl ?_
 exact ⟨_, _, _, _, er, by (with_reducible repeat (first | apply Kd.R_alloc | apply Kd.R_drewN | apply Kd.R_drew)); exact Kd.R_mono (Kd.R_far (p := ⟨gb392, 4, none⟩) (Kd.R_far (p := ⟨gb392, 3, none⟩) (Kd.R_far (p := ⟨gb392, 2, none⟩) (Kd.R_far (p := ⟨gb392, 1, none⟩) (Kd.R_far (p := ⟨gb392, 0, none⟩) (Kd.R_types HO395.out BK392.out (by decide)) (fun _ hk => hk.2) (.slice Ao14 t393.length co14)) (fun _ hk => hk.2) (.int .i64 t396)) (fun _ hk => hk.2) (.slice Ao13 t397.length co13)) (fun _ hk => hk.2) (.slice Ao12 t400.length co12)) (fun _ hk => hk.2) (.slice Ao11 t403.length co11)) (fun _ hk => ⟨hk.1.1.2, hk.1.2⟩), by (with_reducible repeat (first | apply Kd.R_alloc | apply Kd.R_drewN | apply Kd.R_drew)); exact Kd.R_mono (Kd.R_far (p := ⟨gb392, 4, none⟩) (Kd.R_far (p := ⟨gb392, 3, none⟩) (Kd.R_far (p := ⟨gb392, 2, none⟩) (Kd.R_far (p := ⟨gb392, 1, none⟩) (Kd.R_far (p := ⟨gb392, 0, none⟩) (Kd.R_types HO399.out BK392.out (by decide)) (fun _ hk => hk.2) (.slice Ao14 t393.length co14)) (fun _ hk => hk.2) (.int .i64 t396)) (fun _ hk => hk.2) (.slice Ao13 t397.length co13)) (fun _ hk => hk.2) (.slice Ao12 t400.length co12)) (fun _ hk => hk.2) (.slice Ao11 t403.length co11)) (fun _ hk => ⟨hk.1.1.2, hk.1.2⟩), by (with_reducible repeat (first | apply Kd.R_alloc | apply Kd.R_drewN | apply Kd.R_drew)); exact Kd.R_mono (Kd.R_far (p := ⟨gb392, 4, none⟩) (Kd.R_far (p := ⟨gb392, 3, none⟩) (Kd.R_far (p := ⟨gb392, 2, none⟩) (Kd.R_far (p := ⟨gb392, 1, none⟩) (Kd.R_far (p := ⟨gb392, 0, none⟩) (Kd.R_types HO402.out BK392.out (by decide)) (fun _ hk => hk.2) (.slice Ao14 t393.length co14)) (fun _ hk => hk.2) (.int .i64 t396)) (fun _ hk => hk.2) (.slice Ao13 t397.length co13)) (fun _ hk => hk.2) (.slice Ao12 t400.length co12)) (fun _ hk => hk.2) (.slice Ao11 t403.length co11)) (fun _ hk => trivial), by (with_reducible repeat (first | apply Kd.R_alloc | apply Kd.R_drewN | apply Kd.R_drew)); exact Kd.R_mono (Kd.R_far (p := ⟨gb392, 4, none⟩) (Kd.R_far (p := ⟨gb392, 3, none⟩) (Kd.R_far (p := ⟨gb392, 2, none⟩) (Kd.R_far (p := ⟨gb392, 1, none⟩) (Kd.R_far (p := ⟨gb392, 0, none⟩) (Kd.R_types HO405.out BK392.out (by decide)) (fun _ hk => hk.2) (.slice Ao14 t393.length co14)) (fun _ hk => hk.2) (.int .i64 t396)) (fun _ hk => hk.2) (.slice Ao13 t397.length co13)) (fun _ hk => hk.2) (.slice Ao12 t400.length co12)) (fun _ hk => hk.2) (.slice Ao11 t403.length co11)) (fun _ hk => ⟨hk.1.1.2, hk.1.2⟩), be2 HB GE391 GE392⟩

/-! ### impl_aged: function 70 -/
def impl_aged.f (l0_0 : List Int) (a0_1 : Int) (l0_2 : List Int) (l0_3 : List (S70)) (l0_4 : List Int) (a1_0 : Int) (l1_1 : List Int) (l1_2 : List (S70)) : Option (List Int × Int × List Int × (List (S70)) × List Int) := (impl_copyPool.f l0_0 a0_1 l0_2 l0_3 l0_4).bind fun bt409 => (some (bt409.1, a1_0, l1_1, l1_2, bt409.2.2.2.2))
set_option maxHeartbeats 8000000 in
set_option maxRecDepth 100000 in
theorem impl_aged.calls (A0_0 : Option Addr) (c0_0 : Nat) (l0_0 : List Int) (a0_1 : Int) (A0_2 : Option Addr) (c0_2 : Nat) (l0_2 : List Int) (A0_3 : Option Addr) (c0_3 : Nat) (l0_3 : List (S70)) (A0_4 : Option Addr) (c0_4 : Nat) (l0_4 : List Int) (a1_0 : Int) (P1_1_ : Nat → Prop) (u9000_ : Value) (l1_1 : List Int) (P1_2_ : Nat → Prop) (u9001_ : Value) (l1_2 : List (S70)) (r1 : List Int) (r2 : Int) (r3 : List Int) (r4 : List (S70)) (r5 : List Int) (w0 w : World) (hB : Below w0.heap.size w0 w) (hr0_0 : ∀ W_, Kept w W_ (fun k_ => P1_1_ k_ ∨ P1_2_ k_) → Kd.C (Kd.int .i64) W_ A0_0 l0_0.length l0_0) (hc0_0 : l0_0.length ≤ c0_0) (hr0_2 : ∀ W_, Kept w W_ (fun k_ => P1_1_ k_ ∨ P1_2_ k_) → Kd.C (Kd.int .i64) W_ A0_2 l0_2.length l0_2) (hc0_2 : l0_2.length ≤ c0_2) (hr0_3 : ∀ W_, Kept w W_ (fun k_ => P1_1_ k_ ∨ P1_2_ k_) → Kd.C k70 W_ A0_3 l0_3.length l0_3) (hc0_3 : l0_3.length ≤ c0_3) (hr0_4 : ∀ W_, Kept w W_ (fun k_ => P1_1_ k_ ∨ P1_2_ k_) → Kd.C (Kd.int .i64) W_ A0_4 l0_4.length l0_4) (hc0_4 : l0_4.length ≤ c0_4) (ho1_1 : Kd.R (Kd.int .i64) 3 w w0.heap.size P1_1_ u9000_ l1_1) (ho1_2 : Kd.R k70 70 w w0.heap.size P1_2_ u9001_ l1_2) (h : impl_aged.f l0_0 a0_1 l0_2 l0_3 l0_4 a1_0 l1_1 l1_2 = some (r1, r2, r3, r4, r5)) :
  Calls Try.prog 70 #[.agg #[.slice A0_0 l0_0.length c0_0, .int .i64 a0_1, .slice A0_2 l0_2.length c0_2, .slice A0_3 l0_3.length c0_3, .slice A0_4 l0_4.length c0_4], .agg #[.int .i64 a1_0, u9000_, u9001_]] w fun e w' => ∃ v0_ v2_ v3_ v4_ : Value, e = .returned (.agg #[v0_, .int .i64 r2, v2_, v3_, v4_]) ∧ Kd.R (Kd.int .i64) 3 w' w0.heap.size (fun k_ => ((P1_1_ k_ ∨ P1_2_ k_) ∨ w.heap.size ≤ k_) ∧ some k_ ≠ (v2_ : Value).ownBlock ∧ some k_ ≠ (v4_ : Value).ownBlock) v0_ r1 ∧ Kd.R (Kd.int .i64) 3 w' w0.heap.size (fun k_ => ((P1_1_ k_ ∨ P1_2_ k_) ∨ w.heap.size ≤ k_) ∧ some k_ ≠ (v0_ : Value).ownBlock ∧ some k_ ≠ (v4_ : Value).ownBlock) v2_ r3 ∧ Kd.R k70 70 w' w0.heap.size (fun k_ => ((P1_1_ k_ ∨ P1_2_ k_) ∨ w.heap.size ≤ k_)) v3_ r4 ∧ Kd.R (Kd.int .i64) 3 w' w0.heap.size (fun k_ => ((P1_1_ k_ ∨ P1_2_ k_) ∨ w.heap.size ≤ k_) ∧ some k_ ≠ (v0_ : Value).ownBlock ∧ some k_ ≠ (v2_ : Value).ownBlock) v4_ r5 ∧ Below w0.heap.size w0 w' ∧ Kept w w' (fun k_ => P1_1_ k_ ∨ P1_2_ k_) := by
 have hu27 := Try.underlying27
 have hu25 := Try.underlying25
 have HR0_0 := Aside0.mk hr0_0
 have HC0_0 := Aside0.mk hc0_0
 clear hr0_0 hc0_0
 have HR0_2 := Aside0.mk hr0_2
 have HC0_2 := Aside0.mk hc0_2
 clear hr0_2 hc0_2
 have HR0_3 := Aside0.mk hr0_3
 have HC0_3 := Aside0.mk hc0_3
 clear hr0_3 hc0_3
 have HR0_4 := Aside0.mk hr0_4
 have HC0_4 := Aside0.mk hc0_4
 clear hr0_4 hc0_4
 have HO1_1 := Aside0.mk (show Kd.R (Kd.int .i64) 3 w w0.heap.size (fun k_ => ((P1_1_ k_ ∨ P1_2_ k_) ∨ w.heap.size ≤ k_)) u9000_ l1_1 from Kd.R_mono ho1_1 (fun k_ hk => (.inl (.inl hk))))
 have HO1_2 := Aside0.mk (show Kd.R k70 70 w w0.heap.size (fun k_ => ((P1_1_ k_ ∨ P1_2_ k_) ∨ w.heap.size ≤ k_)) u9001_ l1_2 from Kd.R_mono ho1_2 (fun k_ hk => (.inl (.inr hk))))
 have HK := Aside0.mk (Kept.refl w (fun k_ => P1_1_ k_ ∨ P1_2_ k_))
 have HW0 := Aside0.mk hB.size
 have HB := Aside0.mk hB
 clear hB
 have H : ((impl_copyPool.f l0_0 a0_1 l0_2 l0_3 l0_4).bind fun bt409 => (some (bt409.1, a1_0, l1_1, l1_2, bt409.2.2.2.2))) = some (r1, r2, r3, r4, r5) := h
 clear h
 replace H := Option.bind_eq_some_iff.mp H
 obtain ⟨⟨t409, t412, t413, t416, t419⟩, A30, H⟩ := H
 replace H : (some (t409, a1_0, l1_1, l1_2, t419)) = some (r1, r2, r3, r4, r5) := H
 have A3 := Aside0.mk A30
 clear A30
 simp only [Option.some.injEq, Prod.mk.injEq] at H
 obtain ⟨rfl, rfl, rfl, rfl, rfl⟩ := H
 go_enter Try.func70, Try.ntmps70
 go_wp2_with (first | ((with_reducible refine gate_dst (N := 2) rfl ?_); refine bx 2 #[.slice A0_0 l0_0.length c0_0, .int .i64 a0_1, .slice A0_2 l0_2.length c0_2, .slice A0_3 l0_3.length c0_3, .slice A0_4 l0_4.length c0_4] 27 ?_; intro gb406 hg w4 hbox hb; replace HO1_1 := rb HO1_1 hb; replace HO1_2 := rb HO1_2 hb; have BK406 := am hbox; have GW406 := Aside0.mk ((by rw [hg]; exact (by first | exact HK.out.1 | exact (show Kept w _ (fun k_ => P1_1_ k_ ∨ P1_2_ k_) from by repeat (first | (with_reducible first | exact HK.out | apply Kept.alloc | apply Kept.drewN | apply Kept.drew) | exact HK.out)).1) : w.heap.size ≤ gb406)); replace HK := Aside0.mk (Kept.below (S := (fun k_ => P1_1_ k_ ∨ P1_2_ k_)) (by repeat (first | (with_reducible first | exact HK.out | apply Kept.alloc | apply Kept.drewN | apply Kept.drew) | exact HK.out)) hb); have GE406 := Aside0.mk ((by rw [hg]; exact (below_size (be HB)) : w0.heap.size ≤ gb406)); replace HB := s0 HB hb; clear hb hbox hg; obtain ⟨Ao5, co5, eo5⟩ := Kd.R_slice HO1_1.out; subst eo5; obtain ⟨Ao6, co6, eo6⟩ := Kd.R_slice HO1_2.out; subst eo6) | ((with_reducible refine gate_dst (N := 3) rfl ?_); refine bx 3 #[.int .i64 a1_0, .slice Ao5 l1_1.length co5, .slice Ao6 l1_2.length co6] 25 ?_; intro gb407 hg w7 hbox hb; replace HO1_1 := rb HO1_1 hb; replace HO1_2 := rb HO1_2 hb; have BK407 := am hbox; have GW407 := Aside0.mk ((by rw [hg]; exact (by first | exact HK.out.1 | exact (show Kept w _ (fun k_ => P1_1_ k_ ∨ P1_2_ k_) from by repeat (first | (with_reducible first | exact HK.out | apply Kept.alloc | apply Kept.drewN | apply Kept.drew | refine Kept.setCell ?_ (.inr GW406.out) _) | exact HK.out)).1) : w.heap.size ≤ gb407)); replace HK := Aside0.mk (Kept.below (S := (fun k_ => P1_1_ k_ ∨ P1_2_ k_)) (by repeat (first | (with_reducible first | exact HK.out | apply Kept.alloc | apply Kept.drewN | apply Kept.drew | refine Kept.setCell ?_ (.inr GW406.out) _) | exact HK.out)) hb); have GE407 := Aside0.mk ((by rw [hg]; exact (below_size (be1 HB GE406)) : w0.heap.size ≤ gb407)); replace HB := Aside0.mk (below_step (be1 HB GE406) hb); have NB406_407 := Aside0.mk ((by rw [hg]; exact Nat.ne_of_lt (bl BK406) : gb406 ≠ gb407)); have NB407_406 := Aside0.mk ((by rw [hg]; exact Nat.ne_of_gt (bl BK406) : gb407 ≠ gb406)); replace BK406 := bb BK406 hb; clear hb hbox hg) | ((with_reducible refine gate_dst (N := 4) rfl ?_); refine bx 4 #[.slice none 0 0, .int .i64 0, .slice none 0 0, .slice none 0 0, .slice none 0 0] 27 ?_; intro gb408 hg w8 hbox hb; replace HO1_1 := rb HO1_1 hb; replace HO1_2 := rb HO1_2 hb; have BK408 := am hbox; have GW408 := Aside0.mk ((by rw [hg]; exact (by first | exact HK.out.1 | exact (show Kept w _ (fun k_ => P1_1_ k_ ∨ P1_2_ k_) from by repeat (first | (with_reducible first | exact HK.out | apply Kept.alloc | apply Kept.drewN | apply Kept.drew | refine Kept.setCell ?_ (.inr GW406.out) _ | refine Kept.setCell ?_ (.inr GW407.out) _) | exact HK.out)).1) : w.heap.size ≤ gb408)); replace HK := Aside0.mk (Kept.below (S := (fun k_ => P1_1_ k_ ∨ P1_2_ k_)) (by repeat (first | (with_reducible first | exact HK.out | apply Kept.alloc | apply Kept.drewN | apply Kept.drew | refine Kept.setCell ?_ (.inr GW406.out) _ | refine Kept.setCell ?_ (.inr GW407.out) _) | exact HK.out)) hb); have GE408 := Aside0.mk ((by rw [hg]; exact (below_size (be2 HB GE406 GE407)) : w0.heap.size ≤ gb408)); replace HB := Aside0.mk (below_step (be2 HB GE406 GE407) hb); have NB406_408 := Aside0.mk ((by rw [hg]; exact Nat.ne_of_lt (bl BK406) : gb406 ≠ gb408)); have NB408_406 := Aside0.mk ((by rw [hg]; exact Nat.ne_of_gt (bl BK406) : gb408 ≠ gb406)); replace BK406 := bb BK406 hb; have NB407_408 := Aside0.mk ((by rw [hg]; exact Nat.ne_of_lt (bl BK407) : gb407 ≠ gb408)); have NB408_407 := Aside0.mk ((by rw [hg]; exact Nat.ne_of_gt (bl BK407) : gb408 ≠ gb407)); replace BK407 := bb BK407 hb; clear hb hbox hg; have hnb9 := NB406_407.out; have hnc9 := NB407_406.out; have hnb10 := NB406_408.out; have hnc10 := NB408_406.out; have hcz11_0 := bz5 BK406) | ((with_reducible refine gate_callee (f := 66) rfl ?_); refine gl 7 Try.func66 #[.agg #[.slice A0_0 l0_0.length c0_0, .int .i64 a0_1, .slice A0_2 l0_2.length c0_2, .slice A0_3 l0_3.length c0_3, .slice A0_4 l0_4.length c0_4]] ?_; (with_reducible refine (impl_copyPool.calls _ _ l0_0 a0_1 _ _ l0_2 _ _ l0_3 _ _ l0_4 t409 t412 t413 t416 t419 _ ?side1 HC0_0.out ?side3 HC0_2.out ?side5 HC0_3.out ?side7 HC0_4.out A3.out).mono ?_); (case side1 => exact Kd.C_kept_now HR0_0.out (by repeat (first | (with_reducible first | exact HK.out | apply Kept.alloc | apply Kept.drewN | apply Kept.drew | refine Kept.setCell ?_ (.inr GW406.out) _ | refine Kept.setCell ?_ (.inr GW407.out) _ | refine Kept.setCell ?_ (.inr GW408.out) _) | exact HK.out))); (case side3 => exact Kd.C_kept_now HR0_2.out (by repeat (first | (with_reducible first | exact HK.out | apply Kept.alloc | apply Kept.drewN | apply Kept.drew | refine Kept.setCell ?_ (.inr GW406.out) _ | refine Kept.setCell ?_ (.inr GW407.out) _ | refine Kept.setCell ?_ (.inr GW408.out) _) | exact HK.out))); (case side5 => exact Kd.C_kept_now HR0_3.out (by repeat (first | (with_reducible first | exact HK.out | apply Kept.alloc | apply Kept.drewN | apply Kept.drew | refine Kept.setCell ?_ (.inr GW406.out) _ | refine Kept.setCell ?_ (.inr GW407.out) _ | refine Kept.setCell ?_ (.inr GW408.out) _) | exact HK.out))); (case side7 => exact Kd.C_kept_now HR0_4.out (by repeat (first | (with_reducible first | exact HK.out | apply Kept.alloc | apply Kept.drewN | apply Kept.drew | refine Kept.setCell ?_ (.inr GW406.out) _ | refine Kept.setCell ?_ (.inr GW407.out) _ | refine Kept.setCell ?_ (.inr GW408.out) _) | exact HK.out))); rintro e w12 ⟨v410, v414, v417, v420, rfl, ho0, ho1, ho2, ho3, hb⟩; refine ⟨_, rfl, ?_⟩; have HO411 := Aside0.mk (Kd.R_lower (nw (Kd.R_newM (M := fun k_ => ((P1_1_ k_ ∨ P1_2_ k_) ∨ w.heap.size ≤ k_)) ho0 (by first | exact HK.out.1 | exact (show Kept w _ (fun k_ => P1_1_ k_ ∨ P1_2_ k_) from by repeat (first | (with_reducible first | exact HK.out | apply Kept.alloc | apply Kept.drewN | apply Kept.drew | refine Kept.setCell ?_ (.inr GW406.out) _ | refine Kept.setCell ?_ (.inr GW407.out) _ | refine Kept.setCell ?_ (.inr GW408.out) _) | exact HK.out)).1) (fun k_ h_ => .inr h_)) HO1_1) (below_size (be3 HB GE406 GE407 GE408))); have HO415 := Aside0.mk (Kd.R_lower (nw (Kd.R_newM (M := fun k_ => ((P1_1_ k_ ∨ P1_2_ k_) ∨ w.heap.size ≤ k_)) ho1 (by first | exact HK.out.1 | exact (show Kept w _ (fun k_ => P1_1_ k_ ∨ P1_2_ k_) from by repeat (first | (with_reducible first | exact HK.out | apply Kept.alloc | apply Kept.drewN | apply Kept.drew | refine Kept.setCell ?_ (.inr GW406.out) _ | refine Kept.setCell ?_ (.inr GW407.out) _ | refine Kept.setCell ?_ (.inr GW408.out) _) | exact HK.out)).1) (fun k_ h_ => .inr h_)) HO1_1) (below_size (be3 HB GE406 GE407 GE408))); have HO418 := Aside0.mk (Kd.R_lower (nw (Kd.R_newM (M := fun k_ => ((P1_1_ k_ ∨ P1_2_ k_) ∨ w.heap.size ≤ k_)) ho2 (by first | exact HK.out.1 | exact (show Kept w _ (fun k_ => P1_1_ k_ ∨ P1_2_ k_) from by repeat (first | (with_reducible first | exact HK.out | apply Kept.alloc | apply Kept.drewN | apply Kept.drew | refine Kept.setCell ?_ (.inr GW406.out) _ | refine Kept.setCell ?_ (.inr GW407.out) _ | refine Kept.setCell ?_ (.inr GW408.out) _) | exact HK.out)).1) (fun k_ h_ => .inr h_)) HO1_2) (below_size (be3 HB GE406 GE407 GE408))); replace HO1_2 := Aside0.mk (Kd.R_elder' (ro HO1_2) (Kd.R_base ho2) hb); have HO421 := Aside0.mk (Kd.R_lower (nw (Kd.R_newM (M := fun k_ => ((P1_1_ k_ ∨ P1_2_ k_) ∨ w.heap.size ≤ k_)) ho3 (by first | exact HK.out.1 | exact (show Kept w _ (fun k_ => P1_1_ k_ ∨ P1_2_ k_) from by repeat (first | (with_reducible first | exact HK.out | apply Kept.alloc | apply Kept.drewN | apply Kept.drew | refine Kept.setCell ?_ (.inr GW406.out) _ | refine Kept.setCell ?_ (.inr GW407.out) _ | refine Kept.setCell ?_ (.inr GW408.out) _) | exact HK.out)).1) (fun k_ h_ => .inr h_)) HO1_1) (below_size (be3 HB GE406 GE407 GE408))); replace HO1_1 := td3 (ro HO1_1) hb ho0 ho1 ho3; replace BK406 := bb BK406 hb; replace BK407 := bb BK407 hb; replace BK408 := bb BK408 hb; replace HK := Aside0.mk (Kept.below (S := (fun k_ => P1_1_ k_ ∨ P1_2_ k_)) (by repeat (first | (with_reducible first | exact HK.out | apply Kept.alloc | apply Kept.drewN | apply Kept.drew | refine Kept.setCell ?_ (.inr GW406.out) _ | refine Kept.setCell ?_ (.inr GW407.out) _ | refine Kept.setCell ?_ (.inr GW408.out) _) | exact HK.out)) hb); replace HB := Aside0.mk (below_step (be3 HB GE406 GE407 GE408) hb); (try clear hb); (try clear ho0); (try clear ho1); (try clear ho2); (try clear ho3)) | ((with_reducible refine gate_dst (N := 5) rfl ?_); refine bx 5 #[.slice none 0 0, .int .i64 0, .slice none 0 0, .slice none 0 0, .slice none 0 0] 27 ?_; intro gb422 hg w13 hbox hb; replace HO1_1 := rb HO1_1 hb; replace HO1_2 := rb HO1_2 hb; replace HO411 := rb HO411 hb; replace HO415 := rb HO415 hb; replace HO418 := rb HO418 hb; replace HO421 := rb HO421 hb; have BK422 := am hbox; have GW422 := Aside0.mk ((by rw [hg]; exact (by first | exact HK.out.1 | exact (show Kept w _ (fun k_ => P1_1_ k_ ∨ P1_2_ k_) from by repeat (first | (with_reducible first | exact HK.out | apply Kept.alloc | apply Kept.drewN | apply Kept.drew | refine Kept.setCell ?_ (.inr GW406.out) _ | refine Kept.setCell ?_ (.inr GW407.out) _ | refine Kept.setCell ?_ (.inr GW408.out) _) | exact HK.out)).1) : w.heap.size ≤ gb422)); replace HK := Aside0.mk (Kept.below (S := (fun k_ => P1_1_ k_ ∨ P1_2_ k_)) (by repeat (first | (with_reducible first | exact HK.out | apply Kept.alloc | apply Kept.drewN | apply Kept.drew | refine Kept.setCell ?_ (.inr GW406.out) _ | refine Kept.setCell ?_ (.inr GW407.out) _ | refine Kept.setCell ?_ (.inr GW408.out) _) | exact HK.out)) hb); have GE422 := Aside0.mk ((by rw [hg]; exact (below_size (be3 HB GE406 GE407 GE408)) : w0.heap.size ≤ gb422)); replace HB := Aside0.mk (below_step (be3 HB GE406 GE407 GE408) hb); have NB406_422 := Aside0.mk ((by rw [hg]; exact Nat.ne_of_lt (bl BK406) : gb406 ≠ gb422)); have NB422_406 := Aside0.mk ((by rw [hg]; exact Nat.ne_of_gt (bl BK406) : gb422 ≠ gb406)); replace BK406 := bb BK406 hb; have NB407_422 := Aside0.mk ((by rw [hg]; exact Nat.ne_of_lt (bl BK407) : gb407 ≠ gb422)); have NB422_407 := Aside0.mk ((by rw [hg]; exact Nat.ne_of_gt (bl BK407) : gb422 ≠ gb407)); replace BK407 := bb BK407 hb; have NB408_422 := Aside0.mk ((by rw [hg]; exact Nat.ne_of_lt (bl BK408) : gb408 ≠ gb422)); have NB422_408 := Aside0.mk ((by rw [hg]; exact Nat.ne_of_gt (bl BK408) : gb422 ≠ gb408)); replace BK408 := bb BK408 hb; clear hb hbox hg; obtain ⟨Ao14, co14, eo14⟩ := Kd.R_slice HO411.out; subst eo14; have hnb15 := NB422_406.out; have hnc15 := NB406_422.out; have hnb16 := NB422_407.out; have hnc16 := NB407_422.out; have hnb17 := NB422_408.out; have hnc17 := NB408_422.out; have hcz18_0 := bz5 BK422; obtain ⟨Ao19, co19, eo19⟩ := Kd.R_slice HO415.out; subst eo19; obtain ⟨Ao20, co20, eo20⟩ := Kd.R_slice HO418.out; subst eo20; obtain ⟨Ao21, co21, eo21⟩ := Kd.R_slice HO421.out; subst eo21; have hnb22 := NB407_408.out; have hnc22 := NB408_407.out; have hcz23_0 := bz3 BK407; have hcz24_0 := bz5 BK408; have hys36_1 := st5 BK422 (.slice Ao14 t409.length co14) (.int .i64 t412) (.slice Ao19 t413.length co19) (.slice Ao20 t416.length co20) (.slice Ao21 t419.length co21)))
 refine bodyPost_ret (results_cell_row rfl _ _ gb408 27 #[.slice Ao14 t409.length co14, .int .i64 a1_0, .slice Ao5 l1_1.length co5, .slice Ao6 l1_2.length co6, .slice Ao21 t419.length co21] (0, 0) _ rfl (by (with_reducible repeat (first | refine blk_drewN ?_ _ | refine blk_drew ?_ | refine blk_alloc ?_ _)); refine blk_put (cs := #[.slice Ao14 t409.length co14, .int .i64 a1_0, .slice Ao5 l1_1.length co5, .slice Ao6 l1_2.length co6, .slice none 0 0]) ?_ 4 _ rfl; (with_reducible repeat (first | refine blk_drewN ?_ _ | refine blk_drew ?_ | refine blk_alloc ?_ _)); refine blk_put (cs := #[.slice Ao14 t409.length co14, .int .i64 a1_0, .slice Ao5 l1_1.length co5, .slice none 0 0, .slice none 0 0]) ?_ 3 _ rfl; (with_reducible repeat (first | refine blk_drewN ?_ _ | refine blk_drew ?_ | refine blk_alloc ?_ _)); refine blk_put (cs := #[.slice Ao14 t409.length co14, .int .i64 a1_0, .slice none 0 0, .slice none 0 0, .slice none 0 0]) ?_ 2 _ rfl; (with_reducible repeat (first | refine blk_drewN ?_ _ | refine blk_drew ?_ | refine blk_alloc ?_ _)); refine blk_put (cs := #[.slice Ao14 t409.length co14, .int .i64 0, .slice none 0 0, .slice none 0 0, .slice none 0 0]) ?_ 1 _ rfl; (with_reducible repeat (first | refine blk_drewN ?_ _ | refine blk_drew ?_ | refine blk_alloc ?_ _)); refine blk_put (cs := #[.slice none 0 0, .int .i64 0, .slice none 0 0, .slice none 0 0, .slice none 0 0]) ?_ 0 _ rfl; (with_reducible repeat (first | refine blk_drewN ?_ _ | refine blk_drew ?_ | refine blk_alloc ?_ _)); refine blk_far ?_ NB408_422.out _; (with_reducible repeat (first | refine blk_drewN ?_ _ | refine blk_drew ?_ | refine blk_alloc ?_ _)); refine blk_far ?_ NB408_422.out _; (with_reducible repeat (first | refine blk_drewN ?_ _ | refine blk_drew ?_ | refine blk_alloc ?_ _)); refine blk_far ?_ NB408_422.out _; (with_reducible repeat (first | refine blk_drewN ?_ _ | refine blk_drew ?_ | refine blk_alloc ?_ _)); refine blk_far ?_ NB408_422.out _; (with_reducible repeat (first | refine blk_drewN ?_ _ | refine blk_drew ?_ | refine blk_alloc ?_ _)); refine blk_far ?_ NB408_422.out _; (with_reducible repeat (first | refine blk_drewN ?_ _ | refine blk_drew ?_ | refine blk_alloc ?_ _)); refine blk_far ?_ NB408_422.out _; (with_reducible repeat (first | refine blk_drewN ?_ _ | refine blk_drew ?_ | refine blk_alloc ?_ _)); refine blk_far ?_ NB408_422.out _; (with_reducible repeat (first | refine blk_drewN ?_ _ | refine blk_drew ?_ | refine blk_alloc ?_ _)); refine blk_far ?_ NB408_422.out _; (with_reducible repeat (first | refine blk_drewN ?_ _ | refine blk_drew ?_ | refine blk_alloc ?_ _)); exact BK408.out) Try.underlying27 rfl (by kernel_rfl)) rfl ?_
 exact ⟨_, _, _, _, er, by (with_reducible repeat (first | apply Kd.R_alloc | apply Kd.R_drewN | apply Kd.R_drew)); exact Kd.R_mono (Kd.R_far (p := ⟨gb408, 4, none⟩) (Kd.R_far (p := ⟨gb408, 3, none⟩) (Kd.R_far (p := ⟨gb408, 2, none⟩) (Kd.R_far (p := ⟨gb408, 1, none⟩) (Kd.R_far (p := ⟨gb408, 0, none⟩) (Kd.R_far (p := ⟨gb422, 3, none⟩) (Kd.R_far (p := ⟨gb422, 2, none⟩) (Kd.R_far (p := ⟨gb422, 1, none⟩) (Kd.R_far (p := ⟨gb422, 4, none⟩) (Kd.R_far (p := ⟨gb422, 3, none⟩) (Kd.R_far (p := ⟨gb422, 2, none⟩) (Kd.R_far (p := ⟨gb422, 1, none⟩) (Kd.R_far (p := ⟨gb422, 0, none⟩) (Kd.R_types (Kd.R_types HO411.out BK422.out (by decide)) BK408.out (by decide)) (fun _ hk => hk.1.2) (.slice Ao14 t409.length co14)) (fun _ hk => hk.1.2) (.int .i64 t412)) (fun _ hk => hk.1.2) (.slice Ao19 t413.length co19)) (fun _ hk => hk.1.2) (.slice Ao20 t416.length co20)) (fun _ hk => hk.1.2) (.slice Ao21 t419.length co21)) (fun _ hk => hk.1.2) (.int .i64 a1_0)) (fun _ hk => hk.1.2) (.slice Ao5 l1_1.length co5)) (fun _ hk => hk.1.2) (.slice Ao6 l1_2.length co6)) (fun _ hk => hk.2) (.slice Ao14 t409.length co14)) (fun _ hk => hk.2) (.int .i64 a1_0)) (fun _ hk => hk.2) (.slice Ao5 l1_1.length co5)) (fun _ hk => hk.2) (.slice Ao6 l1_2.length co6)) (fun _ hk => hk.2) (.slice Ao21 t419.length co21)) (fun _ hk => ⟨hk.1.1.1.1, ⟨hk.1.1.2, hk.1.1.1.2.2⟩⟩), by (with_reducible repeat (first | apply Kd.R_alloc | apply Kd.R_drewN | apply Kd.R_drew)); exact Kd.R_mono (Kd.R_far (p := ⟨gb408, 4, none⟩) (Kd.R_far (p := ⟨gb408, 3, none⟩) (Kd.R_far (p := ⟨gb408, 2, none⟩) (Kd.R_far (p := ⟨gb408, 1, none⟩) (Kd.R_far (p := ⟨gb408, 0, none⟩) (Kd.R_far (p := ⟨gb422, 3, none⟩) (Kd.R_far (p := ⟨gb422, 2, none⟩) (Kd.R_far (p := ⟨gb422, 1, none⟩) (Kd.R_far (p := ⟨gb422, 4, none⟩) (Kd.R_far (p := ⟨gb422, 3, none⟩) (Kd.R_far (p := ⟨gb422, 2, none⟩) (Kd.R_far (p := ⟨gb422, 1, none⟩) (Kd.R_far (p := ⟨gb422, 0, none⟩) (Kd.R_types (Kd.R_types HO1_1.out BK422.out (by decide)) BK408.out (by decide)) (fun _ hk => hk.1.2) (.slice Ao14 t409.length co14)) (fun _ hk => hk.1.2) (.int .i64 t412)) (fun _ hk => hk.1.2) (.slice Ao19 t413.length co19)) (fun _ hk => hk.1.2) (.slice Ao20 t416.length co20)) (fun _ hk => hk.1.2) (.slice Ao21 t419.length co21)) (fun _ hk => hk.1.2) (.int .i64 a1_0)) (fun _ hk => hk.1.2) (.slice Ao5 l1_1.length co5)) (fun _ hk => hk.1.2) (.slice Ao6 l1_2.length co6)) (fun _ hk => hk.2) (.slice Ao14 t409.length co14)) (fun _ hk => hk.2) (.int .i64 a1_0)) (fun _ hk => hk.2) (.slice Ao5 l1_1.length co5)) (fun _ hk => hk.2) (.slice Ao6 l1_2.length co6)) (fun _ hk => hk.2) (.slice Ao21 t419.length co21)) (fun _ hk => ⟨hk.1.1.1.1.1, ⟨hk.1.1.1.1.2, hk.1.1.2⟩⟩), by (with_reducible repeat (first | apply Kd.R_alloc | apply Kd.R_drewN | apply Kd.R_drew)); exact Kd.R_mono (Kd.R_far (p := ⟨gb408, 4, none⟩) (Kd.R_far (p := ⟨gb408, 3, none⟩) (Kd.R_far (p := ⟨gb408, 2, none⟩) (Kd.R_far (p := ⟨gb408, 1, none⟩) (Kd.R_far (p := ⟨gb408, 0, none⟩) (Kd.R_far (p := ⟨gb422, 3, none⟩) (Kd.R_far (p := ⟨gb422, 2, none⟩) (Kd.R_far (p := ⟨gb422, 1, none⟩) (Kd.R_far (p := ⟨gb422, 4, none⟩) (Kd.R_far (p := ⟨gb422, 3, none⟩) (Kd.R_far (p := ⟨gb422, 2, none⟩) (Kd.R_far (p := ⟨gb422, 1, none⟩) (Kd.R_far (p := ⟨gb422, 0, none⟩) (Kd.R_types (Kd.R_types HO1_2.out BK422.out (by decide)) BK408.out (by decide)) (fun _ hk => hk.1.2) (.slice Ao14 t409.length co14)) (fun _ hk => hk.1.2) (.int .i64 t412)) (fun _ hk => hk.1.2) (.slice Ao19 t413.length co19)) (fun _ hk => hk.1.2) (.slice Ao20 t416.length co20)) (fun _ hk => hk.1.2) (.slice Ao21 t419.length co21)) (fun _ hk => hk.1.2) (.int .i64 a1_0)) (fun _ hk => hk.1.2) (.slice Ao5 l1_1.length co5)) (fun _ hk => hk.1.2) (.slice Ao6 l1_2.length co6)) (fun _ hk => hk.2) (.slice Ao14 t409.length co14)) (fun _ hk => hk.2) (.int .i64 a1_0)) (fun _ hk => hk.2) (.slice Ao5 l1_1.length co5)) (fun _ hk => hk.2) (.slice Ao6 l1_2.length co6)) (fun _ hk => hk.2) (.slice Ao21 t419.length co21)) (fun _ hk => hk.1.1.1), by (with_reducible repeat (first | apply Kd.R_alloc | apply Kd.R_drewN | apply Kd.R_drew)); exact Kd.R_mono (Kd.R_far (p := ⟨gb408, 4, none⟩) (Kd.R_far (p := ⟨gb408, 3, none⟩) (Kd.R_far (p := ⟨gb408, 2, none⟩) (Kd.R_far (p := ⟨gb408, 1, none⟩) (Kd.R_far (p := ⟨gb408, 0, none⟩) (Kd.R_far (p := ⟨gb422, 3, none⟩) (Kd.R_far (p := ⟨gb422, 2, none⟩) (Kd.R_far (p := ⟨gb422, 1, none⟩) (Kd.R_far (p := ⟨gb422, 4, none⟩) (Kd.R_far (p := ⟨gb422, 3, none⟩) (Kd.R_far (p := ⟨gb422, 2, none⟩) (Kd.R_far (p := ⟨gb422, 1, none⟩) (Kd.R_far (p := ⟨gb422, 0, none⟩) (Kd.R_types (Kd.R_types HO421.out BK422.out (by decide)) BK408.out (by decide)) (fun _ hk => hk.1.2) (.slice Ao14 t409.length co14)) (fun _ hk => hk.1.2) (.int .i64 t412)) (fun _ hk => hk.1.2) (.slice Ao19 t413.length co19)) (fun _ hk => hk.1.2) (.slice Ao20 t416.length co20)) (fun _ hk => hk.1.2) (.slice Ao21 t419.length co21)) (fun _ hk => hk.1.2) (.int .i64 a1_0)) (fun _ hk => hk.1.2) (.slice Ao5 l1_1.length co5)) (fun _ hk => hk.1.2) (.slice Ao6 l1_2.length co6)) (fun _ hk => hk.2) (.slice Ao14 t409.length co14)) (fun _ hk => hk.2) (.int .i64 a1_0)) (fun _ hk => hk.2) (.slice Ao5 l1_1.length co5)) (fun _ hk => hk.2) (.slice Ao6 l1_2.length co6)) (fun _ hk => hk.2) (.slice Ao21 t419.length co21)) (fun _ hk => ⟨hk.1.1.1.1, ⟨hk.1.1.1.2.1, hk.1.1.2⟩⟩), be4 HB GE406 GE407 GE408 GE422, by repeat (first | (with_reducible first | exact HK.out | apply Kept.alloc | apply Kept.drewN | apply Kept.drew | refine Kept.setCell ?_ (.inr GW406.out) _ | refine Kept.setCell ?_ (.inr GW407.out) _ | refine Kept.setCell ?_ (.inr GW408.out) _ | refine Kept.setCell ?_ (.inr GW422.out) _) | exact HK.out)⟩

/-! ### impl_Advance: function 76 -/
def impl_Advance.l0 : Nat → List Int → Int → Int → Int → List Int → List (S70) → Int → List Int → List (S70) → Option (Int × List Int × (List (S70)) × Bool)
 | 0, _, _, _, _, _, _, _, _, _ => none
 | k + 1, x14, x15, x16, x424000, x424001, x424002, x434000, x434001, x434002 => if x16 < x15 then (if 0 ≤ x16 then (if x16 < (x14.length : Int) then (if (rd x14 x16) = (-1) then (impl_Advance.l0 k x14 x15 (wrap64 (x16 + 1)) x424000 x424001 x424002 x434000 x434001 x434002) else (if (rd x14 x16) = x424000 then (impl_Advance.l0 k x14 x15 (wrap64 (x16 + 1)) x424000 x424001 x424002 x434000 x434001 x434002) else (some (x434000, x434001, x434002, false)))) else (none)) else (none)) else (if x424000 = 4294967295 then (some (x434000, x434001, x434002, false)) else (some (wrap64 (x434000 + 1), x434001, x434002, true)))
def impl_Advance.f (k : Nat) (a0_0 : Int) (l0_1 : List Int) (l0_2 : List (S70)) : Option (Int × List Int × (List (S70)) × Bool) := (impl_AgesOk.f k a0_0 l0_1 l0_2).bind fun t425 => (if t425 = true then ((impl_copyAges.f a0_0 l0_1 l0_2).bind fun bt426 => (impl_Advance.l0 k l0_1 (l0_1.length : Int) 0 a0_0 l0_1 l0_2 bt426.1 bt426.2.1 bt426.2.2)) else (some (0, ([] : List Int), ([] : List (S70)), false)))
theorem impl_Advance.mono_l : ∀ k, (∀ y0 y1 y2 y3 y4 y5 y6 y7 y8, LeO (impl_Advance.l0 k y0 y1 y2 y3 y4 y5 y6 y7 y8) (impl_Advance.l0 (k + 1) y0 y1 y2 y3 y4 y5 y6 y7 y8))
 | 0 => fun _ _ _ _ _ _ _ _ _ r h => by simp [impl_Advance.l0] at h
 | k + 1 => by
  have ih0 := impl_Advance.mono_l k
  ·intro y0 y1 y2 y3 y4 y5 y6 y7 y8
   unfold impl_Advance.l0
   repeat' first
   | (with_reducible exact ih0 _ _ _ _ _ _ _ _ _)
   | (with_reducible exact impl_AgesOk.mono _ _ _ _)
   | (with_reducible exact LeO.refl _)
   | (with_reducible exact LeO.none _)
   | (with_reducible refine LeO.ite ?_ ?_)
   | (with_reducible refine LeO.bind ?_ (fun _ => ?_))
   | exact ih0 _ _ _ _ _ _ _ _ _
   | exact impl_AgesOk.mono _ _ _ _
   | exact LeO.none _
   | refine LeO.ite ?_ ?_
   | refine LeO.bind ?_ (fun _ => ?_)
theorem impl_Advance.mono : ∀ a0 a1 a2 k, LeO (impl_Advance.f k a0 a1 a2) (impl_Advance.f (k + 1) a0 a1 a2) := by
 intro a0 a1 a2 k
 have ih0 := impl_Advance.mono_l k
 unfold impl_Advance.f
 repeat' first
   | (with_reducible exact ih0 _ _ _ _ _ _ _ _ _)
   | (with_reducible exact impl_AgesOk.mono _ _ _ _)
   | (with_reducible exact LeO.refl _)
   | (with_reducible exact LeO.none _)
   | (with_reducible refine LeO.ite ?_ ?_)
   | (with_reducible refine LeO.bind ?_ (fun _ => ?_))
   | exact ih0 _ _ _ _ _ _ _ _ _
   | exact impl_AgesOk.mono _ _ _ _
   | exact LeO.none _
   | refine LeO.ite ?_ ?_
   | refine LeO.bind ?_ (fun _ => ?_)
set_option maxHeartbeats 8000000 in
set_option maxRecDepth 100000 in
theorem impl_Advance.calls (k : Nat) (a0_0 : Int) (A0_1 : Option Addr) (c0_1 : Nat) (l0_1 : List Int) (A0_2 : Option Addr) (c0_2 : Nat) (l0_2 : List (S70)) (r1 : Int) (r2 : List Int) (r3 : List (S70)) (r4 : Bool) (w : World) (hr0_1 : Kd.C (Kd.int .i64) w A0_1 l0_1.length l0_1) (hc0_1 : l0_1.length ≤ c0_1) (hr0_2 : Kd.C k70 w A0_2 l0_2.length l0_2) (hc0_2 : l0_2.length ≤ c0_2) (h : impl_Advance.f k a0_0 l0_1 l0_2 = some (r1, r2, r3, r4)) :
  Calls Try.prog 76 #[.agg #[.int .i64 a0_0, .slice A0_1 l0_1.length c0_1, .slice A0_2 l0_2.length c0_2]] w fun e w' => ∃ v1_ v2_ : Value, e = .returned (.tuple #[.agg #[.int .i64 r1, v1_, v2_], .bool r4]) ∧ Kd.R (Kd.int .i64) 3 w' w.heap.size (fun _ => True) v1_ r2 ∧ Kd.R k70 70 w' w.heap.size (fun _ => True) v2_ r3 ∧ Below w.heap.size w w' := by
 have hu25 := Try.underlying25
 have HR0_1 := Aside0.mk hr0_1
 have HC0_1 := Aside0.mk hc0_1
 clear hr0_1 hc0_1
 have HR0_2 := Aside0.mk hr0_2
 have HC0_2 := Aside0.mk hc0_2
 clear hr0_2 hc0_2
 have HB := Aside0.mk (Below.refl w.heap.size w)
 have H : ((impl_AgesOk.f k a0_0 l0_1 l0_2).bind fun t425 => (if t425 = true then ((impl_copyAges.f a0_0 l0_1 l0_2).bind fun bt426 => (impl_Advance.l0 k l0_1 (l0_1.length : Int) 0 a0_0 l0_1 l0_2 bt426.1 bt426.2.1 bt426.2.2)) else (some (0, ([] : List Int), ([] : List (S70)), false)))) = some (r1, r2, r3, r4) := h
 clear h
 replace H := Option.bind_eq_some_iff.mp H
 obtain ⟨t425, A20, H⟩ := H
 replace H : (if t425 = true then ((impl_copyAges.f a0_0 l0_1 l0_2).bind fun bt426 => (impl_Advance.l0 k l0_1 (l0_1.length : Int) 0 a0_0 l0_1 l0_2 bt426.1 bt426.2.1 bt426.2.2)) else (some (0, ([] : List Int), ([] : List (S70)), false))) = some (r1, r2, r3, r4) := H
 have A2 := Aside0.mk A20
 clear A20
 by_cases c3 : t425 = true
 ·subst c3
  have H1 : ((impl_copyAges.f a0_0 l0_1 l0_2).bind fun bt426 => (impl_Advance.l0 k l0_1 (l0_1.length : Int) 0 a0_0 l0_1 l0_2 bt426.1 bt426.2.1 bt426.2.2)) = some (r1, r2, r3, r4) := by rw [if_pos rfl] at H; exact H
  clear H
  have H := H1
  clear H1
  replace H := Option.bind_eq_some_iff.mp H
  obtain ⟨⟨t426, t427, t430⟩, A40, H⟩ := H
  replace H : (impl_Advance.l0 k l0_1 (l0_1.length : Int) 0 a0_0 l0_1 l0_2 t426 t427 t430) = some (r1, r2, r3, r4) := H
  have A4 := Aside0.mk A40
  clear A40
  have H' := Aside0.mk H
  clear H
  go_enter Try.func76, Try.ntmps76
  go_wp2_with (first | ((with_reducible refine gate_dst (N := 1) rfl ?_); refine bx 1 #[.int .i64 a0_0, .slice A0_1 l0_1.length c0_1, .slice A0_2 l0_2.length c0_2] 25 ?_; intro gb423 hg w5 hbox hb; have BK423 := am hbox; have GW423 := gs0 hg HB; have GE423 := gs0 hg HB; replace HB := s0 HB hb; clear hb hbox hg) | ((with_reducible refine gate_dst (N := 2) rfl ?_); refine bx 2 #[.int .i64 0, .slice none 0 0, .slice none 0 0] 25 ?_; intro gb424 hg w6 hbox hb; have BK424 := am hbox; have GW424 := gs1 hg HB GE423; have GE424 := gs1 hg HB GE423; replace HB := Aside0.mk (below_step (be1 HB GE423) hb); have NB423_424 := Aside0.mk ((by rw [hg]; exact Nat.ne_of_lt (bl BK423) : gb423 ≠ gb424)); have NB424_423 := Aside0.mk ((by rw [hg]; exact Nat.ne_of_gt (bl BK423) : gb424 ≠ gb423)); replace BK423 := bb BK423 hb; clear hb hbox hg; have hnb7 := NB423_424.out; have hnc7 := NB424_423.out; have hcz8_0 := bz3 BK423) | ((with_reducible refine gate_callee (f := 59) rfl ?_); refine gl 8 Try.func59 #[.agg #[.int .i64 a0_0, .slice A0_1 l0_1.length c0_1, .slice A0_2 l0_2.length c0_2]] ?_; (with_reducible refine (impl_AgesOk.calls k a0_0 _ _ l0_1 _ _ l0_2 true _ (cb HR0_1 HB) HC0_1.out (cb HR0_2 HB) HC0_2.out A2.out).mono ?_); rintro e w9 ⟨rfl, hb⟩; refine ⟨_, rfl, ?_⟩; replace BK423 := bb BK423 hb; replace BK424 := bb BK424 hb; replace HB := Aside0.mk (below_step (be2 HB GE423 GE424) hb); (try clear hb); have hcz10_0 := bz3 BK423) | ((with_reducible refine gate_callee (f := 96) rfl ?_); refine gl 12 Try.func96 #[.agg #[.int .i64 a0_0, .slice A0_1 l0_1.length c0_1, .slice A0_2 l0_2.length c0_2]] ?_; (with_reducible refine (impl_copyAges.calls a0_0 _ _ l0_1 _ _ l0_2 t426 t427 t430 _ (cb HR0_1 HB) HC0_1.out (cb HR0_2 HB) HC0_2.out A4.out).mono ?_); rintro e w11 ⟨v428, v431, rfl, ho0, ho1, hb⟩; refine ⟨_, rfl, ?_⟩; have HO429 := Aside0.mk (Kd.R_lower ho0 (below_size (be2 HB GE423 GE424))); have HO432 := Aside0.mk (Kd.R_lower ho1 (below_size (be2 HB GE423 GE424))); replace BK423 := bb BK423 hb; replace BK424 := bb BK424 hb; replace HB := Aside0.mk (below_step (be2 HB GE423 GE424) hb); (try clear hb); (try clear ho0); (try clear ho1)) | ((with_reducible refine gate_dst (N := 4) rfl ?_); refine bx 4 #[.int .i64 0, .slice none 0 0, .slice none 0 0] 25 ?_; intro gb433 hg w12 hbox hb; replace HO429 := rb HO429 hb; replace HO432 := rb HO432 hb; have BK433 := am hbox; have GW433 := gs2 hg HB GE423 GE424; have GE433 := gs2 hg HB GE423 GE424; replace HB := Aside0.mk (below_step (be2 HB GE423 GE424) hb); have NB423_433 := Aside0.mk ((by rw [hg]; exact Nat.ne_of_lt (bl BK423) : gb423 ≠ gb433)); have NB433_423 := Aside0.mk ((by rw [hg]; exact Nat.ne_of_gt (bl BK423) : gb433 ≠ gb423)); replace BK423 := bb BK423 hb; have NB424_433 := Aside0.mk ((by rw [hg]; exact Nat.ne_of_lt (bl BK424) : gb424 ≠ gb433)); have NB433_424 := Aside0.mk ((by rw [hg]; exact Nat.ne_of_gt (bl BK424) : gb433 ≠ gb424)); replace BK424 := bb BK424 hb; clear hb hbox hg; have hnb13 := NB433_423.out; have hnc13 := NB423_433.out; have hnb14 := NB433_424.out; have hnc14 := NB424_433.out; have hcz15_0 := bz3 BK433; obtain ⟨Ao16, co16, eo16⟩ := Kd.R_slice HO429.out; subst eo16; obtain ⟨Ao17, co17, eo17⟩ := Kd.R_slice HO432.out; subst eo17; have hcz18_0 := bz3 BK423))
  go_loopg [16] k (fun kq v16 w' => ∃ (x16_1 : Int) (x425000_1 : Int), v16 = .int .i64 x16_1 ∧ Aside0 (impl_Advance.l0 kq l0_1 (l0_1.length : Int) x16_1 a0_0 l0_1 l0_2 t426 t427 t430 = some (r1, r2, r3, r4)) ∧ Aside0 (kq ≤ k) ∧ Aside0 (Kd.R (Kd.int .i64) 3 w' w.heap.size (fun _ => True) (.slice Ao16 t427.length co16) t427) ∧ Aside0 (Kd.R k70 70 w' w.heap.size (fun _ => True) (.slice Ao17 t430.length co17) t430) ∧ Aside0 (w'.heap[gb423]? = some (.cells #[.int .i64 a0_0, (.slice A0_1 l0_1.length c0_1), (.slice A0_2 l0_2.length c0_2)] 25 (0, 0))) ∧ Aside0 (w'.heap[gb424]? = some (.cells #[.int .i64 x425000_1, (.slice none 0 0), (.slice none 0 0)] 25 (0, 0))) ∧ Aside0 (w'.heap[gb433]? = some (.cells #[.int .i64 t426, (.slice Ao16 t427.length co16), (.slice Ao17 t430.length co17)] 25 (0, 0))) ∧ Aside0 (Below w.heap.size w w'))
  case atStart => exact ⟨(0), (0), rs, H', ⟨Nat.le_refl _⟩, ⟨by (with_reducible repeat (first | apply Kd.R_alloc | apply Kd.R_drewN | apply Kd.R_drew)); exact Kd.R_mono (Kd.R_far (p := ⟨gb433, 2, none⟩) (Kd.R_far (p := ⟨gb433, 1, none⟩) (Kd.R_far (p := ⟨gb433, 0, none⟩) (Kd.R_types HO429.out BK433.out (by decide)) (fun _ hk => hk.2) (.int .i64 t426)) (fun _ hk => hk.2) (.slice Ao16 t427.length co16)) (fun _ hk => hk.2) (.slice Ao17 t430.length co17)) (fun _ hk => trivial)⟩, ⟨by (with_reducible repeat (first | apply Kd.R_alloc | apply Kd.R_drewN | apply Kd.R_drew)); exact Kd.R_mono (Kd.R_far (p := ⟨gb433, 2, none⟩) (Kd.R_far (p := ⟨gb433, 1, none⟩) (Kd.R_far (p := ⟨gb433, 0, none⟩) (Kd.R_types HO432.out BK433.out (by decide)) (fun _ hk => hk.2) (.int .i64 t426)) (fun _ hk => hk.2) (.slice Ao16 t427.length co16)) (fun _ hk => hk.2) (.slice Ao17 t430.length co17)) (fun _ hk => trivial)⟩, ⟨by (with_reducible repeat (first | refine blk_drewN ?_ _ | refine blk_drew ?_ | refine blk_alloc ?_ _)); refine blk_far ?_ NB423_433.out _; (with_reducible repeat (first | refine blk_drewN ?_ _ | refine blk_drew ?_ | refine blk_alloc ?_ _)); refine blk_far ?_ NB423_433.out _; (with_reducible repeat (first | refine blk_drewN ?_ _ | refine blk_drew ?_ | refine blk_alloc ?_ _)); refine blk_far ?_ NB423_433.out _; (with_reducible repeat (first | refine blk_drewN ?_ _ | refine blk_drew ?_ | refine blk_alloc ?_ _)); exact BK423.out⟩, ⟨by (with_reducible repeat (first | refine blk_drewN ?_ _ | refine blk_drew ?_ | refine blk_alloc ?_ _)); refine blk_far ?_ NB424_433.out _; (with_reducible repeat (first | refine blk_drewN ?_ _ | refine blk_drew ?_ | refine blk_alloc ?_ _)); refine blk_far ?_ NB424_433.out _; (with_reducible repeat (first | refine blk_drewN ?_ _ | refine blk_drew ?_ | refine blk_alloc ?_ _)); refine blk_far ?_ NB424_433.out _; (with_reducible repeat (first | refine blk_drewN ?_ _ | refine blk_drew ?_ | refine blk_alloc ?_ _)); exact BK424.out⟩, ⟨by (with_reducible repeat (first | refine blk_drewN ?_ _ | refine blk_drew ?_ | refine blk_alloc ?_ _)); refine blk_put (cs := #[.int .i64 t426, .slice Ao16 t427.length co16, .slice none 0 0]) ?_ 2 _ rfl; (with_reducible repeat (first | refine blk_drewN ?_ _ | refine blk_drew ?_ | refine blk_alloc ?_ _)); refine blk_put (cs := #[.int .i64 t426, .slice none 0 0, .slice none 0 0]) ?_ 1 _ rfl; (with_reducible repeat (first | refine blk_drewN ?_ _ | refine blk_drew ?_ | refine blk_alloc ?_ _)); refine blk_put (cs := #[.int .i64 0, .slice none 0 0, .slice none 0 0]) ?_ 0 _ rfl; (with_reducible repeat (first | refine blk_drewN ?_ _ | refine blk_drew ?_ | refine blk_alloc ?_ _)); exact BK433.out⟩, ⟨be3 HB GE423 GE424 GE433⟩⟩
  case round =>
   clear H'
   try clear c1; try clear p2; try clear c3; try clear c5; try clear c7; try clear c9; try clear c13; try clear c14; try clear hcz10_0; try clear hcz15_0; try clear hcz18_0; try clear hcz8_0
   obtain ⟨x16_1, x425000_1, rfl, HA, HK1, HO_434001, HO_434002, BK423, BK424, BK433, HB⟩ := hrel
   cases gk with
   | zero => exact absurd HA.out (by simp [impl_Advance.l0])
   | succ k1 =>
    have H := HA.out
    clear HA
    simp only [impl_Advance.l0] at H
    by_cases c19 : x16_1 < (l0_1.length : Int)
    ·rw [if_pos c19] at H
     have c19b0 : decide (x16_1 < (l0_1.length : Int)) = true := decide_eq_true c19
     clear c19
     by_cases c20 : 0 ≤ x16_1
     ·rw [if_pos c20] at H
      have c20b0 : decide (0 ≤ x16_1) = true := decide_eq_true c20
      clear c20
      by_cases c21 : x16_1 < (l0_1.length : Int)
      ·rw [if_pos c21] at H
       have c21b0 : decide (x16_1 < (l0_1.length : Int)) = true := decide_eq_true c21
       clear c21
       by_cases c22 : (rd l0_1 x16_1) = (-1)
       ·rw [if_pos c22] at H
        have c22b0 : ((rd l0_1 x16_1) == (-1)) = true := beq_iff_eq.mpr c22
        have c22b1 : ((rd l0_1 x16_1) != (-1)) = false := bne_eq_false_iff_eq.mpr c22
        clear c22
        have H' := Aside0.mk H
        clear H
        have p434 : 0 ≤ (x16_1 : Int) := od
        have q434 : x16_1 < (l0_1.length : Int) := od
        obtain ⟨ad434, e434, hx434_0⟩ := Kd.at_int HR0_1.out x16_1 p434 q434
        cases e434
        replace hx434_0 := hc HB hx434_0
        replace p434 := eq_true p434
        replace q434 := eq_true q434
        go_wp2
        go_roundg k1
        case measure => have := HK1.out; omega
        case rel => exact ⟨(wrap64 (x16_1 + 1)), (x425000_1), rs, H', ⟨by have := HK1.out; omega⟩, ⟨ro HO_434001⟩, ⟨ro HO_434002⟩, ⟨bk BK423⟩, ⟨bk BK424⟩, ⟨bk BK433⟩, ⟨be3 HB GE423 GE424 GE433⟩⟩
       rw [if_neg c22] at H
       have c22b0 : ((rd l0_1 x16_1) == (-1)) = false := beq_eq_false_iff_ne.mpr c22
       have c22b1 : ((rd l0_1 x16_1) != (-1)) = true := bne_iff_ne.mpr c22
       by_cases c23 : (rd l0_1 x16_1) = a0_0
       ·rw [if_pos c23] at H
        have c23b0 : ((rd l0_1 x16_1) == a0_0) = true := beq_iff_eq.mpr c23
        have c23b1 : ((rd l0_1 x16_1) != a0_0) = false := bne_eq_false_iff_eq.mpr c23
        clear c23
        have H' := Aside0.mk H
        clear H
        have p434 : 0 ≤ (x16_1 : Int) := od
        have q434 : x16_1 < (l0_1.length : Int) := od
        obtain ⟨ad434, e434, hx434_0⟩ := Kd.at_int HR0_1.out x16_1 p434 q434
        cases e434
        replace hx434_0 := hc HB hx434_0
        replace p434 := eq_true p434
        replace q434 := eq_true q434
        have hnb24 := NB423_424.out
        have hnc24 := NB424_423.out
        have hnb25 := NB423_433.out
        have hnc25 := NB433_423.out
        have hcz26_0 := bz3 BK423
        go_wp2
        go_roundg k1
        case measure => have := HK1.out; omega
        case rel => exact ⟨(wrap64 (x16_1 + 1)), (x425000_1), rs, H', ⟨by have := HK1.out; omega⟩, ⟨ro HO_434001⟩, ⟨ro HO_434002⟩, ⟨bk BK423⟩, ⟨bk BK424⟩, ⟨bk BK433⟩, ⟨be3 HB GE423 GE424 GE433⟩⟩
       rw [if_neg c23] at H
       have c23b0 : ((rd l0_1 x16_1) == a0_0) = false := beq_eq_false_iff_ne.mpr c23
       have c23b1 : ((rd l0_1 x16_1) != a0_0) = true := bne_iff_ne.mpr c23
       simp only [Option.some.injEq, Prod.mk.injEq] at H
       obtain ⟨rfl, rfl, rfl, rfl⟩ := H
       have p434 : 0 ≤ (x16_1 : Int) := od
       have q434 : x16_1 < (l0_1.length : Int) := od
       obtain ⟨ad434, e434, hx434_0⟩ := Kd.at_int HR0_1.out x16_1 p434 q434
       cases e434
       replace hx434_0 := hc HB hx434_0
       replace p434 := eq_true p434
       replace q434 := eq_true q434
       have hnb27 := NB423_424.out
       have hnc27 := NB424_423.out
       have hnb28 := NB423_433.out
       have hnc28 := NB433_423.out
       have hcz29_0 := bz3 BK423
       have hnb30 := NB433_424.out
       have hnc30 := NB424_433.out
       have hcz31_0 := bz3 BK433
       have hcz32_0 := bz3 BK424
       go_wp2
       refine bodyPost_ret (results_ct rfl _ _ gb424 25 #[.int .i64 t426, .slice Ao16 t427.length co16, .slice Ao17 t430.length co17] (0, 0) _ rfl (by (with_reducible repeat (first | refine blk_drewN ?_ _ | refine blk_drew ?_ | refine blk_alloc ?_ _)); refine blk_put (cs := #[.int .i64 t426, .slice Ao16 t427.length co16, .slice none 0 0]) ?_ 2 _ rfl; (with_reducible repeat (first | refine blk_drewN ?_ _ | refine blk_drew ?_ | refine blk_alloc ?_ _)); refine blk_put (cs := #[.int .i64 t426, .slice none 0 0, .slice none 0 0]) ?_ 1 _ rfl; (with_reducible repeat (first | refine blk_drewN ?_ _ | refine blk_drew ?_ | refine blk_alloc ?_ _)); refine blk_put (cs := #[.int .i64 x425000_1, .slice none 0 0, .slice none 0 0]) ?_ 0 _ rfl; (with_reducible repeat (first | refine blk_drewN ?_ _ | refine blk_drew ?_ | refine blk_alloc ?_ _)); exact BK424.out) Try.underlying25 rfl (by kernel_rfl)) rfl ?_
       exact ⟨_, _, er, by (with_reducible repeat (first | apply Kd.R_alloc | apply Kd.R_drewN | apply Kd.R_drew)); exact Kd.R_mono (Kd.R_far (p := ⟨gb424, 2, none⟩) (Kd.R_far (p := ⟨gb424, 1, none⟩) (Kd.R_far (p := ⟨gb424, 0, none⟩) (Kd.R_types HO_434001.out BK424.out (by decide)) (fun _ hk => hk.2) (.int .i64 t426)) (fun _ hk => hk.2) (.slice Ao16 t427.length co16)) (fun _ hk => hk.2) (.slice Ao17 t430.length co17)) (fun _ hk => trivial), by (with_reducible repeat (first | apply Kd.R_alloc | apply Kd.R_drewN | apply Kd.R_drew)); exact Kd.R_mono (Kd.R_far (p := ⟨gb424, 2, none⟩) (Kd.R_far (p := ⟨gb424, 1, none⟩) (Kd.R_far (p := ⟨gb424, 0, none⟩) (Kd.R_types HO_434002.out BK424.out (by decide)) (fun _ hk => hk.2) (.int .i64 t426)) (fun _ hk => hk.2) (.slice Ao16 t427.length co16)) (fun _ hk => hk.2) (.slice Ao17 t430.length co17)) (fun _ hk => trivial), be3 HB GE423 GE424 GE433⟩
      rw [if_neg c21] at H
      exact absurd H (by simp)
     rw [if_neg c20] at H
     exact absurd H (by simp)
    rw [if_neg c19] at H
    have c19b0 : decide (x16_1 < (l0_1.length : Int)) = false := decide_eq_false c19
    clear c19
    by_cases c33 : a0_0 = 4294967295
    ·rw [if_pos c33] at H
     have c33b0 : (a0_0 == 4294967295) = true := beq_iff_eq.mpr c33
     have c33b1 : (a0_0 != 4294967295) = false := bne_eq_false_iff_eq.mpr c33
     clear c33
     simp only [Option.some.injEq, Prod.mk.injEq] at H
     obtain ⟨rfl, rfl, rfl, rfl⟩ := H
     have hnb34 := NB423_424.out
     have hnc34 := NB424_423.out
     have hnb35 := NB423_433.out
     have hnc35 := NB433_423.out
     have hcz36_0 := bz3 BK423
     have hnb37 := NB433_424.out
     have hnc37 := NB424_433.out
     have hcz38_0 := bz3 BK433
     have hcz39_0 := bz3 BK424
     go_wp2
     refine bodyPost_ret (results_ct rfl _ _ gb424 25 #[.int .i64 t426, .slice Ao16 t427.length co16, .slice Ao17 t430.length co17] (0, 0) _ rfl (by (with_reducible repeat (first | refine blk_drewN ?_ _ | refine blk_drew ?_ | refine blk_alloc ?_ _)); refine blk_put (cs := #[.int .i64 t426, .slice Ao16 t427.length co16, .slice none 0 0]) ?_ 2 _ rfl; (with_reducible repeat (first | refine blk_drewN ?_ _ | refine blk_drew ?_ | refine blk_alloc ?_ _)); refine blk_put (cs := #[.int .i64 t426, .slice none 0 0, .slice none 0 0]) ?_ 1 _ rfl; (with_reducible repeat (first | refine blk_drewN ?_ _ | refine blk_drew ?_ | refine blk_alloc ?_ _)); refine blk_put (cs := #[.int .i64 x425000_1, .slice none 0 0, .slice none 0 0]) ?_ 0 _ rfl; (with_reducible repeat (first | refine blk_drewN ?_ _ | refine blk_drew ?_ | refine blk_alloc ?_ _)); exact BK424.out) Try.underlying25 rfl (by kernel_rfl)) rfl ?_
     exact ⟨_, _, er, by (with_reducible repeat (first | apply Kd.R_alloc | apply Kd.R_drewN | apply Kd.R_drew)); exact Kd.R_mono (Kd.R_far (p := ⟨gb424, 2, none⟩) (Kd.R_far (p := ⟨gb424, 1, none⟩) (Kd.R_far (p := ⟨gb424, 0, none⟩) (Kd.R_types HO_434001.out BK424.out (by decide)) (fun _ hk => hk.2) (.int .i64 t426)) (fun _ hk => hk.2) (.slice Ao16 t427.length co16)) (fun _ hk => hk.2) (.slice Ao17 t430.length co17)) (fun _ hk => trivial), by (with_reducible repeat (first | apply Kd.R_alloc | apply Kd.R_drewN | apply Kd.R_drew)); exact Kd.R_mono (Kd.R_far (p := ⟨gb424, 2, none⟩) (Kd.R_far (p := ⟨gb424, 1, none⟩) (Kd.R_far (p := ⟨gb424, 0, none⟩) (Kd.R_types HO_434002.out BK424.out (by decide)) (fun _ hk => hk.2) (.int .i64 t426)) (fun _ hk => hk.2) (.slice Ao16 t427.length co16)) (fun _ hk => hk.2) (.slice Ao17 t430.length co17)) (fun _ hk => trivial), be3 HB GE423 GE424 GE433⟩
    rw [if_neg c33] at H
    have c33b0 : (a0_0 == 4294967295) = false := beq_eq_false_iff_ne.mpr c33
    have c33b1 : (a0_0 != 4294967295) = true := bne_iff_ne.mpr c33
    simp only [Option.some.injEq, Prod.mk.injEq] at H
    obtain ⟨rfl, rfl, rfl, rfl⟩ := H
    have hnb40 := NB423_424.out
    have hnc40 := NB424_423.out
    have hnb41 := NB423_433.out
    have hnc41 := NB433_423.out
    have hcz42_0 := bz3 BK423
    have hnb43 := NB433_424.out
    have hnc43 := NB424_433.out
    have hcz44_0 := bz3 BK433
    have hcz45_0 := bz3 BK424
    go_wp2
    refine bodyPost_ret (results_ct rfl _ _ gb424 25 #[.int .i64 (wrap64 (t426 + 1)), .slice Ao16 t427.length co16, .slice Ao17 t430.length co17] (0, 0) _ rfl (by (with_reducible repeat (first | refine blk_drewN ?_ _ | refine blk_drew ?_ | refine blk_alloc ?_ _)); refine blk_put (cs := #[.int .i64 (wrap64 (t426 + 1)), .slice Ao16 t427.length co16, .slice none 0 0]) ?_ 2 _ rfl; (with_reducible repeat (first | refine blk_drewN ?_ _ | refine blk_drew ?_ | refine blk_alloc ?_ _)); refine blk_put (cs := #[.int .i64 (wrap64 (t426 + 1)), .slice none 0 0, .slice none 0 0]) ?_ 1 _ rfl; (with_reducible repeat (first | refine blk_drewN ?_ _ | refine blk_drew ?_ | refine blk_alloc ?_ _)); refine blk_put (cs := #[.int .i64 x425000_1, .slice none 0 0, .slice none 0 0]) ?_ 0 _ rfl; (with_reducible repeat (first | refine blk_drewN ?_ _ | refine blk_drew ?_ | refine blk_alloc ?_ _)); refine blk_far ?_ NB424_433.out _; (with_reducible repeat (first | refine blk_drewN ?_ _ | refine blk_drew ?_ | refine blk_alloc ?_ _)); exact BK424.out) Try.underlying25 rfl (by kernel_rfl)) rfl ?_
    exact ⟨_, _, er, by (with_reducible repeat (first | apply Kd.R_alloc | apply Kd.R_drewN | apply Kd.R_drew)); exact Kd.R_mono (Kd.R_far (p := ⟨gb424, 2, none⟩) (Kd.R_far (p := ⟨gb424, 1, none⟩) (Kd.R_far (p := ⟨gb424, 0, none⟩) (Kd.R_far (p := ⟨gb433, 0, none⟩) (Kd.R_types (Kd.R_types HO_434001.out BK433.out (by decide)) BK424.out (by decide)) (fun _ hk => hk.1.2) (.int .i64 (wrap64 (t426 + 1)))) (fun _ hk => hk.2) (.int .i64 (wrap64 (t426 + 1)))) (fun _ hk => hk.2) (.slice Ao16 t427.length co16)) (fun _ hk => hk.2) (.slice Ao17 t430.length co17)) (fun _ hk => trivial), by (with_reducible repeat (first | apply Kd.R_alloc | apply Kd.R_drewN | apply Kd.R_drew)); exact Kd.R_mono (Kd.R_far (p := ⟨gb424, 2, none⟩) (Kd.R_far (p := ⟨gb424, 1, none⟩) (Kd.R_far (p := ⟨gb424, 0, none⟩) (Kd.R_far (p := ⟨gb433, 0, none⟩) (Kd.R_types (Kd.R_types HO_434002.out BK433.out (by decide)) BK424.out (by decide)) (fun _ hk => hk.1.2) (.int .i64 (wrap64 (t426 + 1)))) (fun _ hk => hk.2) (.int .i64 (wrap64 (t426 + 1)))) (fun _ hk => hk.2) (.slice Ao16 t427.length co16)) (fun _ hk => hk.2) (.slice Ao17 t430.length co17)) (fun _ hk => trivial), be3 HB GE423 GE424 GE433⟩
 replace c3 := Bool.eq_false_iff.mpr c3
 subst c3
 have H1 : (some (0, ([] : List Int), ([] : List (S70)), false)) = some (r1, r2, r3, r4) := by rw [if_neg (show ¬ (false = true) by decide)] at H; exact H
 clear H
 have H := H1
 clear H1
 simp only [Option.some.injEq, Prod.mk.injEq] at H
 obtain ⟨rfl, rfl, rfl, rfl⟩ := H
 go_enter Try.func76, Try.ntmps76
 go_wp2_with (first | ((with_reducible refine gate_dst (N := 1) rfl ?_); refine bx 1 #[.int .i64 a0_0, .slice A0_1 l0_1.length c0_1, .slice A0_2 l0_2.length c0_2] 25 ?_; intro gb423 hg w46 hbox hb; have BK423 := am hbox; have GW423 := gs0 hg HB; have GE423 := gs0 hg HB; replace HB := s0 HB hb; clear hb hbox hg) | ((with_reducible refine gate_dst (N := 2) rfl ?_); refine bx 2 #[.int .i64 0, .slice none 0 0, .slice none 0 0] 25 ?_; intro gb424 hg w47 hbox hb; have BK424 := am hbox; have GW424 := gs1 hg HB GE423; have GE424 := gs1 hg HB GE423; replace HB := Aside0.mk (below_step (be1 HB GE423) hb); have NB423_424 := Aside0.mk ((by rw [hg]; exact Nat.ne_of_lt (bl BK423) : gb423 ≠ gb424)); have NB424_423 := Aside0.mk ((by rw [hg]; exact Nat.ne_of_gt (bl BK423) : gb424 ≠ gb423)); replace BK423 := bb BK423 hb; clear hb hbox hg; have hnb48 := NB423_424.out; have hnc48 := NB424_423.out; have hcz49_0 := bz3 BK423) | ((with_reducible refine gate_callee (f := 59) rfl ?_); refine gl 8 Try.func59 #[.agg #[.int .i64 a0_0, .slice A0_1 l0_1.length c0_1, .slice A0_2 l0_2.length c0_2]] ?_; (with_reducible refine (impl_AgesOk.calls k a0_0 _ _ l0_1 _ _ l0_2 false _ (cb HR0_1 HB) HC0_1.out (cb HR0_2 HB) HC0_2.out A2.out).mono ?_); rintro e w50 ⟨rfl, hb⟩; refine ⟨_, rfl, ?_⟩; replace BK423 := bb BK423 hb; replace BK424 := bb BK424 hb; replace HB := Aside0.mk (below_step (be2 HB GE423 GE424) hb); (try clear hb); have hcz51_0 := bz3 BK424))
 refine bodyPost_ret (results_ct rfl _ _ gb424 25 #[.int .i64 0, .slice none 0 0, .slice none 0 0] (0, 0) _ rfl (by (with_reducible repeat (first | refine blk_drewN ?_ _ | refine blk_drew ?_ | refine blk_alloc ?_ _)); refine blk_put (cs := #[.int .i64 0, .slice none 0 0, .slice none 0 0]) ?_ 2 _ rfl; (with_reducible repeat (first | refine blk_drewN ?_ _ | refine blk_drew ?_ | refine blk_alloc ?_ _)); refine blk_put (cs := #[.int .i64 0, .slice none 0 0, .slice none 0 0]) ?_ 1 _ rfl; (with_reducible repeat (first | refine blk_drewN ?_ _ | refine blk_drew ?_ | refine blk_alloc ?_ _)); refine blk_put (cs := #[.int .i64 0, .slice none 0 0, .slice none 0 0]) ?_ 0 _ rfl; (with_reducible repeat (first | refine blk_drewN ?_ _ | refine blk_drew ?_ | refine blk_alloc ?_ _)); exact BK424.out) Try.underlying25 rfl (by kernel_rfl)) rfl ?_
 exact ⟨_, _, er, by first | exact Kd.R_nil _ _ _ _ _ | exact Kd.N_nil _ _ _ _ _ | exact Kd.V_nil _ _ _ _ _ | exact Kd.Q_nil _ _ _ _ _ | exact Kd.S_nil _ _ _ _ _, by first | exact Kd.R_nil _ _ _ _ _ | exact Kd.N_nil _ _ _ _ _ | exact Kd.V_nil _ _ _ _ _ | exact Kd.Q_nil _ _ _ _ _ | exact Kd.S_nil _ _ _ _ _, be2 HB GE423 GE424⟩

/-! ### impl_Turn: function 37 -/
def impl_Turn.f (k : Nat) (l0_0 : List Int) (a0_1 : Int) (l0_2 : List Int) (l0_3 : List (S70)) (l0_4 : List Int) : Option (List Int × Int × List Int × (List (S70)) × List Int × Bool) := (impl_PoolOk.f k l0_0 a0_1 l0_2 l0_3 l0_4).bind fun t437 => (if t437 = true then ((impl_Advance.f k a0_1 l0_2 l0_3).bind fun bt438 => ((impl_aged.f l0_0 a0_1 l0_2 l0_3 l0_4 bt438.1 bt438.2.1 bt438.2.2.1).bind fun bt447 => (some (bt447.1, bt447.2.1, bt447.2.2.1, bt447.2.2.2.1, bt447.2.2.2.2, bt438.2.2.2)))) else (some (([] : List Int), 0, ([] : List Int), ([] : List (S70)), ([] : List Int), false)))
theorem impl_Turn.mono : ∀ a0 a1 a2 a3 a4 k, LeO (impl_Turn.f k a0 a1 a2 a3 a4) (impl_Turn.f (k + 1) a0 a1 a2 a3 a4) := by
 intro a0 a1 a2 a3 a4 k
 unfold impl_Turn.f
 repeat' first
   | (with_reducible exact impl_Advance.mono _ _ _ _)
   | (with_reducible exact impl_PoolOk.mono _ _ _ _ _ _)
   | (with_reducible exact LeO.refl _)
   | (with_reducible exact LeO.none _)
   | (with_reducible refine LeO.ite ?_ ?_)
   | (with_reducible refine LeO.bind ?_ (fun _ => ?_))
   | exact impl_Advance.mono _ _ _ _
   | exact impl_PoolOk.mono _ _ _ _ _ _
   | exact LeO.none _
   | refine LeO.ite ?_ ?_
   | refine LeO.bind ?_ (fun _ => ?_)
set_option maxHeartbeats 8000000 in
set_option maxRecDepth 100000 in
theorem impl_Turn.calls (k : Nat) (A0_0 : Option Addr) (c0_0 : Nat) (l0_0 : List Int) (a0_1 : Int) (A0_2 : Option Addr) (c0_2 : Nat) (l0_2 : List Int) (A0_3 : Option Addr) (c0_3 : Nat) (l0_3 : List (S70)) (A0_4 : Option Addr) (c0_4 : Nat) (l0_4 : List Int) (r1 : List Int) (r2 : Int) (r3 : List Int) (r4 : List (S70)) (r5 : List Int) (r6 : Bool) (w : World) (hr0_0 : Kd.C (Kd.int .i64) w A0_0 l0_0.length l0_0) (hc0_0 : l0_0.length ≤ c0_0) (hr0_2 : Kd.C (Kd.int .i64) w A0_2 l0_2.length l0_2) (hc0_2 : l0_2.length ≤ c0_2) (hr0_3 : Kd.C k70 w A0_3 l0_3.length l0_3) (hc0_3 : l0_3.length ≤ c0_3) (hr0_4 : Kd.C (Kd.int .i64) w A0_4 l0_4.length l0_4) (hc0_4 : l0_4.length ≤ c0_4) (h : impl_Turn.f k l0_0 a0_1 l0_2 l0_3 l0_4 = some (r1, r2, r3, r4, r5, r6)) :
  Calls Try.prog 37 #[.agg #[.slice A0_0 l0_0.length c0_0, .int .i64 a0_1, .slice A0_2 l0_2.length c0_2, .slice A0_3 l0_3.length c0_3, .slice A0_4 l0_4.length c0_4]] w fun e w' => ∃ v0_ v2_ v3_ v4_ : Value, e = .returned (.tuple #[.agg #[v0_, .int .i64 r2, v2_, v3_, v4_], .bool r6]) ∧ Kd.R (Kd.int .i64) 3 w' w.heap.size (fun k_ => some k_ ≠ (v2_ : Value).ownBlock ∧ some k_ ≠ (v4_ : Value).ownBlock) v0_ r1 ∧ Kd.R (Kd.int .i64) 3 w' w.heap.size (fun k_ => some k_ ≠ (v0_ : Value).ownBlock ∧ some k_ ≠ (v4_ : Value).ownBlock) v2_ r3 ∧ Kd.R k70 70 w' w.heap.size (fun _ => True) v3_ r4 ∧ Kd.R (Kd.int .i64) 3 w' w.heap.size (fun k_ => some k_ ≠ (v0_ : Value).ownBlock ∧ some k_ ≠ (v2_ : Value).ownBlock) v4_ r5 ∧ Below w.heap.size w w' := by
 have hu27 := Try.underlying27
 have hu25 := Try.underlying25
 have HR0_0 := Aside0.mk hr0_0
 have HC0_0 := Aside0.mk hc0_0
 clear hr0_0 hc0_0
 have HR0_2 := Aside0.mk hr0_2
 have HC0_2 := Aside0.mk hc0_2
 clear hr0_2 hc0_2
 have HR0_3 := Aside0.mk hr0_3
 have HC0_3 := Aside0.mk hc0_3
 clear hr0_3 hc0_3
 have HR0_4 := Aside0.mk hr0_4
 have HC0_4 := Aside0.mk hc0_4
 clear hr0_4 hc0_4
 have HB := Aside0.mk (Below.refl w.heap.size w)
 have H : ((impl_PoolOk.f k l0_0 a0_1 l0_2 l0_3 l0_4).bind fun t437 => (if t437 = true then ((impl_Advance.f k a0_1 l0_2 l0_3).bind fun bt438 => ((impl_aged.f l0_0 a0_1 l0_2 l0_3 l0_4 bt438.1 bt438.2.1 bt438.2.2.1).bind fun bt447 => (some (bt447.1, bt447.2.1, bt447.2.2.1, bt447.2.2.2.1, bt447.2.2.2.2, bt438.2.2.2)))) else (some (([] : List Int), 0, ([] : List Int), ([] : List (S70)), ([] : List Int), false)))) = some (r1, r2, r3, r4, r5, r6) := h
 clear h
 replace H := Option.bind_eq_some_iff.mp H
 obtain ⟨t437, A20, H⟩ := H
 replace H : (if t437 = true then ((impl_Advance.f k a0_1 l0_2 l0_3).bind fun bt438 => ((impl_aged.f l0_0 a0_1 l0_2 l0_3 l0_4 bt438.1 bt438.2.1 bt438.2.2.1).bind fun bt447 => (some (bt447.1, bt447.2.1, bt447.2.2.1, bt447.2.2.2.1, bt447.2.2.2.2, bt438.2.2.2)))) else (some (([] : List Int), 0, ([] : List Int), ([] : List (S70)), ([] : List Int), false))) = some (r1, r2, r3, r4, r5, r6) := H
 have A2 := Aside0.mk A20
 clear A20
 by_cases c3 : t437 = true
 ·subst c3
  have H1 : ((impl_Advance.f k a0_1 l0_2 l0_3).bind fun bt438 => ((impl_aged.f l0_0 a0_1 l0_2 l0_3 l0_4 bt438.1 bt438.2.1 bt438.2.2.1).bind fun bt447 => (some (bt447.1, bt447.2.1, bt447.2.2.1, bt447.2.2.2.1, bt447.2.2.2.2, bt438.2.2.2)))) = some (r1, r2, r3, r4, r5, r6) := by rw [if_pos rfl] at H; exact H
  clear H
  have H := H1
  clear H1
  replace H := Option.bind_eq_some_iff.mp H
  obtain ⟨⟨t438, t439, t442, t445⟩, A40, H⟩ := H
  replace H : ((impl_aged.f l0_0 a0_1 l0_2 l0_3 l0_4 t438 t439 t442).bind fun bt447 => (some (bt447.1, bt447.2.1, bt447.2.2.1, bt447.2.2.2.1, bt447.2.2.2.2, t445))) = some (r1, r2, r3, r4, r5, r6) := H
  have A4 := Aside0.mk A40
  clear A40
  replace H := Option.bind_eq_some_iff.mp H
  obtain ⟨⟨t447, t450, t451, t454, t457⟩, A50, H⟩ := H
  replace H : (some (t447, t450, t451, t454, t457, t445)) = some (r1, r2, r3, r4, r5, r6) := H
  have A5 := Aside0.mk A50
  clear A50
  simp only [Option.some.injEq, Prod.mk.injEq] at H
  obtain ⟨rfl, rfl, rfl, rfl, rfl, rfl⟩ := H
  go_enter Try.func37, Try.ntmps37
  go_wp2_with (first | ((with_reducible refine gate_dst (N := 1) rfl ?_); refine bx 1 #[.slice A0_0 l0_0.length c0_0, .int .i64 a0_1, .slice A0_2 l0_2.length c0_2, .slice A0_3 l0_3.length c0_3, .slice A0_4 l0_4.length c0_4] 27 ?_; intro gb435 hg w6 hbox hb; have BK435 := am hbox; have GW435 := gs0 hg HB; have GE435 := gs0 hg HB; replace HB := s0 HB hb; clear hb hbox hg) | ((with_reducible refine gate_dst (N := 2) rfl ?_); refine bx 2 #[.slice none 0 0, .int .i64 0, .slice none 0 0, .slice none 0 0, .slice none 0 0] 27 ?_; intro gb436 hg w7 hbox hb; have BK436 := am hbox; have GW436 := gs1 hg HB GE435; have GE436 := gs1 hg HB GE435; replace HB := Aside0.mk (below_step (be1 HB GE435) hb); have NB435_436 := Aside0.mk ((by rw [hg]; exact Nat.ne_of_lt (bl BK435) : gb435 ≠ gb436)); have NB436_435 := Aside0.mk ((by rw [hg]; exact Nat.ne_of_gt (bl BK435) : gb436 ≠ gb435)); replace BK435 := bb BK435 hb; clear hb hbox hg; have hnb8 := NB435_436.out; have hnc8 := NB436_435.out; have hcz9_0 := bz5 BK435) | ((with_reducible refine gate_callee (f := 22) rfl ?_); refine gl 7 Try.func22 #[.agg #[.slice A0_0 l0_0.length c0_0, .int .i64 a0_1, .slice A0_2 l0_2.length c0_2, .slice A0_3 l0_3.length c0_3, .slice A0_4 l0_4.length c0_4]] ?_; (with_reducible refine (impl_PoolOk.calls k _ _ l0_0 a0_1 _ _ l0_2 _ _ l0_3 _ _ l0_4 true _ (cb HR0_0 HB) HC0_0.out (cb HR0_2 HB) HC0_2.out (cb HR0_3 HB) HC0_3.out (cb HR0_4 HB) HC0_4.out A2.out).mono ?_); rintro e w10 ⟨rfl, hb⟩; refine ⟨_, rfl, ?_⟩; replace BK435 := bb BK435 hb; replace BK436 := bb BK436 hb; replace HB := Aside0.mk (below_step (be2 HB GE435 GE436) hb); (try clear hb); have hcz11_0 := bz5 BK435) | ((with_reducible refine gate_callee (f := 76) rfl ?_); refine gl 13 Try.func76 #[.agg #[.int .i64 a0_1, .slice A0_2 l0_2.length c0_2, .slice A0_3 l0_3.length c0_3]] ?_; (with_reducible refine (impl_Advance.calls k a0_1 _ _ l0_2 _ _ l0_3 t438 t439 t442 t445 _ (cb HR0_2 HB) HC0_2.out (cb HR0_3 HB) HC0_3.out A4.out).mono ?_); rintro e w12 ⟨v440, v443, rfl, ho0, ho1, hb⟩; refine ⟨_, rfl, ?_⟩; have HO441 := Aside0.mk (Kd.R_lower ho0 (below_size (be2 HB GE435 GE436))); have HO444 := Aside0.mk (Kd.R_lower ho1 (below_size (be2 HB GE435 GE436))); replace BK435 := bb BK435 hb; replace BK436 := bb BK436 hb; replace HB := Aside0.mk (below_step (be2 HB GE435 GE436) hb); (try clear hb); (try clear ho0); (try clear ho1)) | ((with_reducible refine gate_dst (N := 4) rfl ?_); refine bx 4 #[.int .i64 0, .slice none 0 0, .slice none 0 0] 25 ?_; intro gb446 hg w13 hbox hb; replace HO441 := rb HO441 hb; replace HO444 := rb HO444 hb; have BK446 := am hbox; have GW446 := gs2 hg HB GE435 GE436; have GE446 := gs2 hg HB GE435 GE436; replace HB := Aside0.mk (below_step (be2 HB GE435 GE436) hb); have NB435_446 := Aside0.mk ((by rw [hg]; exact Nat.ne_of_lt (bl BK435) : gb435 ≠ gb446)); have NB446_435 := Aside0.mk ((by rw [hg]; exact Nat.ne_of_gt (bl BK435) : gb446 ≠ gb435)); replace BK435 := bb BK435 hb; have NB436_446 := Aside0.mk ((by rw [hg]; exact Nat.ne_of_lt (bl BK436) : gb436 ≠ gb446)); have NB446_436 := Aside0.mk ((by rw [hg]; exact Nat.ne_of_gt (bl BK436) : gb446 ≠ gb436)); replace BK436 := bb BK436 hb; clear hb hbox hg; have hnb14 := NB446_435.out; have hnc14 := NB435_446.out; have hnb15 := NB446_436.out; have hnc15 := NB436_446.out; have hcz16_0 := bz3 BK446; obtain ⟨Ao17, co17, eo17⟩ := Kd.R_slice HO441.out; subst eo17; obtain ⟨Ao18, co18, eo18⟩ := Kd.R_slice HO444.out; subst eo18) | ((with_reducible refine gate_store (t := 25) (p := 4) rfl ?_); refine store_event (t := 25) (p := 4) (v := ?vo_w19) (w1 := (((w13.setCell ⟨gb446, 0, none⟩ (.int .i64 t438)).setCell ⟨gb446, 1, none⟩ (.slice Ao17 t439.length co17)).setCell ⟨gb446, 2, none⟩ (.slice Ao18 t442.length co18))) ?hg ?ho ?hn ?hr ?_; (case ho => rfl); (case hg => rfl); (case hn => rfl); (case hr => first | (go_simp; done) | (go_simp; rfl)); intro w19 hw; have n0_ : Aside0 (Kd.R (Kd.int .i64) 3 w19 w.heap.size (fun _ => True) (.slice Ao17 t439.length co17) t439) := ⟨(by rw [hw]; exact (by (with_reducible repeat (first | apply Kd.R_alloc | apply Kd.R_drewN | apply Kd.R_drew)); exact Kd.R_mono (Kd.R_far (p := ⟨gb446, 2, none⟩) (Kd.R_far (p := ⟨gb446, 1, none⟩) (Kd.R_far (p := ⟨gb446, 0, none⟩) (Kd.R_types HO441.out BK446.out (by decide)) (fun _ hk => hk.2) (.int .i64 t438)) (fun _ hk => hk.2) (.slice Ao17 t439.length co17)) (fun _ hk => hk.2) (.slice Ao18 t442.length co18)) (fun _ hk => trivial)))⟩; have n1_ : Aside0 (Kd.R k70 70 w19 w.heap.size (fun _ => True) (.slice Ao18 t442.length co18) t442) := ⟨(by rw [hw]; exact (by (with_reducible repeat (first | apply Kd.R_alloc | apply Kd.R_drewN | apply Kd.R_drew)); exact Kd.R_mono (Kd.R_far (p := ⟨gb446, 2, none⟩) (Kd.R_far (p := ⟨gb446, 1, none⟩) (Kd.R_far (p := ⟨gb446, 0, none⟩) (Kd.R_types HO444.out BK446.out (by decide)) (fun _ hk => hk.2) (.int .i64 t438)) (fun _ hk => hk.2) (.slice Ao17 t439.length co17)) (fun _ hk => hk.2) (.slice Ao18 t442.length co18)) (fun _ hk => trivial)))⟩; have n2_ : Aside0 (w19.heap[gb435]? = some (.cells #[.slice A0_0 l0_0.length c0_0, .int .i64 a0_1, .slice A0_2 l0_2.length c0_2, .slice A0_3 l0_3.length c0_3, .slice A0_4 l0_4.length c0_4] 27 (0, 0))) := ⟨(by rw [hw]; exact (bf1 BK435 NB435_446))⟩; have n3_ : Aside0 (w19.heap[gb436]? = some (.cells #[.slice none 0 0, .int .i64 0, .slice none 0 0, .slice none 0 0, .slice none 0 0] 27 (0, 0))) := ⟨(by rw [hw]; exact (bf1 BK436 NB436_446))⟩; have n4_ : Aside0 (w19.heap[gb446]? = some (.cells #[.int .i64 t438, .slice Ao17 t439.length co17, .slice Ao18 t442.length co18] 25 (0, 0))) := ⟨(by rw [hw]; exact (by (with_reducible repeat (first | refine blk_drewN ?_ _ | refine blk_drew ?_ | refine blk_alloc ?_ _)); refine blk_put (cs := #[.int .i64 t438, .slice Ao17 t439.length co17, .slice none 0 0]) ?_ 2 _ rfl; (with_reducible repeat (first | refine blk_drewN ?_ _ | refine blk_drew ?_ | refine blk_alloc ?_ _)); refine blk_put (cs := #[.int .i64 t438, .slice none 0 0, .slice none 0 0]) ?_ 1 _ rfl; (with_reducible repeat (first | refine blk_drewN ?_ _ | refine blk_drew ?_ | refine blk_alloc ?_ _)); refine blk_put (cs := #[.int .i64 0, .slice none 0 0, .slice none 0 0]) ?_ 0 _ rfl; (with_reducible repeat (first | refine blk_drewN ?_ _ | refine blk_drew ?_ | refine blk_alloc ?_ _)); exact BK446.out))⟩; have n5_ : Aside0 (Below w.heap.size w w19) := ⟨(by rw [hw]; exact (be3 HB GE435 GE436 GE446))⟩; clear hw; clear HO441; clear HO444; clear BK435; clear BK436; clear BK446; clear HB; have HO441 := n0_; have HO444 := n1_; have BK435 := n2_; have BK436 := n3_; have BK446 := n4_; have HB := n5_; clear n0_ n1_ n2_ n3_ n4_ n5_; have hcz20_0 := bz5 BK435; have hcz21_0 := bz3 BK446) | ((with_reducible refine gate_callee (f := 70) rfl ?_); refine gl 18 Try.func70 #[.agg #[.slice A0_0 l0_0.length c0_0, .int .i64 a0_1, .slice A0_2 l0_2.length c0_2, .slice A0_3 l0_3.length c0_3, .slice A0_4 l0_4.length c0_4], .agg #[.int .i64 t438, .slice Ao17 t439.length co17, .slice Ao18 t442.length co18]] ?_; (with_reducible refine (impl_aged.calls _ _ l0_0 a0_1 _ _ l0_2 _ _ l0_3 _ _ l0_4 t438 (fun k_ => some k_ = (.slice Ao17 t439.length co17 : Value).ownBlock) (.slice Ao17 t439.length co17) t439 (fun k_ => some k_ = (.slice Ao18 t442.length co18 : Value).ownBlock) (.slice Ao18 t442.length co18) t442 t447 t450 t451 t454 t457 w _ ?side1 ?side2 HC0_0.out ?side4 HC0_2.out ?side6 HC0_3.out ?side8 HC0_4.out ?side10 ?side11 A5.out).mono ?_); (case side1 => repeat (first | (with_reducible first | exact HB.out | apply below_alloc | apply pw_below_drewN | apply below_drew1 | refine below_set ?_ GE435.out | refine below_set ?_ GE436.out | refine below_set ?_ GE446.out) | exact HB.out)); (case side2 => exact Kd.C_kept_came (Kd.heap_int .i64) HR0_0.out (be3 HB GE435 GE436 GE446) (fun k_ hs_ => Or.elim hs_ (fun e_ => (fun e_ => Kd.R_base HO441.out k_ e_.symm) e_) (fun e_ => (fun e_ => Kd.R_base HO444.out k_ e_.symm) e_))); (case side4 => exact Kd.C_kept_came (Kd.heap_int .i64) HR0_2.out (be3 HB GE435 GE436 GE446) (fun k_ hs_ => Or.elim hs_ (fun e_ => (fun e_ => Kd.R_base HO441.out k_ e_.symm) e_) (fun e_ => (fun e_ => Kd.R_base HO444.out k_ e_.symm) e_))); (case side6 => exact Kd.C_kept_came k70_heap HR0_3.out (be3 HB GE435 GE436 GE446) (fun k_ hs_ => Or.elim hs_ (fun e_ => (fun e_ => Kd.R_base HO441.out k_ e_.symm) e_) (fun e_ => (fun e_ => Kd.R_base HO444.out k_ e_.symm) e_))); (case side8 => exact Kd.C_kept_came (Kd.heap_int .i64) HR0_4.out (be3 HB GE435 GE436 GE446) (fun k_ hs_ => Or.elim hs_ (fun e_ => (fun e_ => Kd.R_base HO441.out k_ e_.symm) e_) (fun e_ => (fun e_ => Kd.R_base HO444.out k_ e_.symm) e_))); (case side10 => exact Kd.R_tight rfl HO441.out); (case side11 => exact Kd.R_tight rfl HO444.out); rintro e w22 ⟨v448, v452, v455, v458, rfl, ho0, ho1, ho2, ho3, hb, hkp⟩; refine ⟨_, rfl, ?_⟩; replace BK435 := Aside0.mk (blk_kept (bk BK435) hkp (fun hs_ => Or.elim hs_ (fun e_ => (fun e_ => (Kd.R_ne HO441.out BK435.out (by decide)) e_) e_) (fun e_ => (fun e_ => (Kd.R_ne HO444.out BK435.out (by decide)) e_) e_))); replace BK436 := Aside0.mk (blk_kept (bk BK436) hkp (fun hs_ => Or.elim hs_ (fun e_ => (fun e_ => (Kd.R_ne HO441.out BK436.out (by decide)) e_) e_) (fun e_ => (fun e_ => (Kd.R_ne HO444.out BK436.out (by decide)) e_) e_))); replace BK446 := Aside0.mk (blk_kept (bk BK446) hkp (fun hs_ => Or.elim hs_ (fun e_ => (fun e_ => (Kd.R_ne HO441.out BK446.out (by decide)) e_) e_) (fun e_ => (fun e_ => (Kd.R_ne HO444.out BK446.out (by decide)) e_) e_))); have HO449 := Aside0.mk (Kd.R_mono (ok' := fun k_ => some k_ ≠ (v452 : Value).ownBlock ∧ some k_ ≠ (v458 : Value).ownBlock) ho0 cj); have HO453 := Aside0.mk (Kd.R_mono (ok' := fun k_ => some k_ ≠ (v448 : Value).ownBlock ∧ some k_ ≠ (v458 : Value).ownBlock) ho1 cj); have HO456 := Aside0.mk (Kd.R_mono (ok' := fun k_ => True) ho2 (fun k_ hk_ => trivial)); have HO459 := Aside0.mk (Kd.R_mono (ok' := fun k_ => some k_ ≠ (v448 : Value).ownBlock ∧ some k_ ≠ (v452 : Value).ownBlock) ho3 cj); replace HB := Aside0.mk (hb); clear HO441; clear HO444; (try clear hb); (try clear hkp); (try clear ho0); (try clear ho1); (try clear ho2); (try clear ho3); obtain ⟨Ao23, co23, eo23⟩ := Kd.R_slice HO449.out; subst eo23; have hcz24_0 := bz5 BK436; obtain ⟨Ao25, co25, eo25⟩ := Kd.R_slice HO453.out; subst eo25; obtain ⟨Ao26, co26, eo26⟩ := Kd.R_slice HO456.out; subst eo26; obtain ⟨Ao27, co27, eo27⟩ := Kd.R_slice HO459.out; subst eo27))
  refine bodyPost_ret (results_ct rfl _ _ gb436 27 #[.slice Ao23 t447.length co23, .int .i64 t450, .slice Ao25 t451.length co25, .slice Ao26 t454.length co26, .slice Ao27 t457.length co27] (0, 0) _ rfl (by (with_reducible repeat (first | refine blk_drewN ?_ _ | refine blk_drew ?_ | refine blk_alloc ?_ _)); refine blk_put (cs := #[.slice Ao23 t447.length co23, .int .i64 t450, .slice Ao25 t451.length co25, .slice Ao26 t454.length co26, .slice none 0 0]) ?_ 4 _ rfl; (with_reducible repeat (first | refine blk_drewN ?_ _ | refine blk_drew ?_ | refine blk_alloc ?_ _)); refine blk_put (cs := #[.slice Ao23 t447.length co23, .int .i64 t450, .slice Ao25 t451.length co25, .slice none 0 0, .slice none 0 0]) ?_ 3 _ rfl; (with_reducible repeat (first | refine blk_drewN ?_ _ | refine blk_drew ?_ | refine blk_alloc ?_ _)); refine blk_put (cs := #[.slice Ao23 t447.length co23, .int .i64 t450, .slice none 0 0, .slice none 0 0, .slice none 0 0]) ?_ 2 _ rfl; (with_reducible repeat (first | refine blk_drewN ?_ _ | refine blk_drew ?_ | refine blk_alloc ?_ _)); refine blk_put (cs := #[.slice Ao23 t447.length co23, .int .i64 0, .slice none 0 0, .slice none 0 0, .slice none 0 0]) ?_ 1 _ rfl; (with_reducible repeat (first | refine blk_drewN ?_ _ | refine blk_drew ?_ | refine blk_alloc ?_ _)); refine blk_put (cs := #[.slice none 0 0, .int .i64 0, .slice none 0 0, .slice none 0 0, .slice none 0 0]) ?_ 0 _ rfl; (with_reducible repeat (first | refine blk_drewN ?_ _ | refine blk_drew ?_ | refine blk_alloc ?_ _)); exact BK436.out) Try.underlying27 rfl (by kernel_rfl)) rfl ?_
  exact ⟨_, _, _, _, er, by (with_reducible repeat (first | apply Kd.R_alloc | apply Kd.R_drewN | apply Kd.R_drew)); exact Kd.R_mono (Kd.R_far (p := ⟨gb436, 4, none⟩) (Kd.R_far (p := ⟨gb436, 3, none⟩) (Kd.R_far (p := ⟨gb436, 2, none⟩) (Kd.R_far (p := ⟨gb436, 1, none⟩) (Kd.R_far (p := ⟨gb436, 0, none⟩) (Kd.R_types HO449.out BK436.out (by decide)) (fun _ hk => hk.2) (.slice Ao23 t447.length co23)) (fun _ hk => hk.2) (.int .i64 t450)) (fun _ hk => hk.2) (.slice Ao25 t451.length co25)) (fun _ hk => hk.2) (.slice Ao26 t454.length co26)) (fun _ hk => hk.2) (.slice Ao27 t457.length co27)) (fun _ hk => ⟨hk.1.1, hk.1.2⟩), by (with_reducible repeat (first | apply Kd.R_alloc | apply Kd.R_drewN | apply Kd.R_drew)); exact Kd.R_mono (Kd.R_far (p := ⟨gb436, 4, none⟩) (Kd.R_far (p := ⟨gb436, 3, none⟩) (Kd.R_far (p := ⟨gb436, 2, none⟩) (Kd.R_far (p := ⟨gb436, 1, none⟩) (Kd.R_far (p := ⟨gb436, 0, none⟩) (Kd.R_types HO453.out BK436.out (by decide)) (fun _ hk => hk.2) (.slice Ao23 t447.length co23)) (fun _ hk => hk.2) (.int .i64 t450)) (fun _ hk => hk.2) (.slice Ao25 t451.length co25)) (fun _ hk => hk.2) (.slice Ao26 t454.length co26)) (fun _ hk => hk.2) (.slice Ao27 t457.length co27)) (fun _ hk => ⟨hk.1.1, hk.1.2⟩), by (with_reducible repeat (first | apply Kd.R_alloc | apply Kd.R_drewN | apply Kd.R_drew)); exact Kd.R_mono (Kd.R_far (p := ⟨gb436, 4, none⟩) (Kd.R_far (p := ⟨gb436, 3, none⟩) (Kd.R_far (p := ⟨gb436, 2, none⟩) (Kd.R_far (p := ⟨gb436, 1, none⟩) (Kd.R_far (p := ⟨gb436, 0, none⟩) (Kd.R_types HO456.out BK436.out (by decide)) (fun _ hk => hk.2) (.slice Ao23 t447.length co23)) (fun _ hk => hk.2) (.int .i64 t450)) (fun _ hk => hk.2) (.slice Ao25 t451.length co25)) (fun _ hk => hk.2) (.slice Ao26 t454.length co26)) (fun _ hk => hk.2) (.slice Ao27 t457.length co27)) (fun _ hk => trivial), by (with_reducible repeat (first | apply Kd.R_alloc | apply Kd.R_drewN | apply Kd.R_drew)); exact Kd.R_mono (Kd.R_far (p := ⟨gb436, 4, none⟩) (Kd.R_far (p := ⟨gb436, 3, none⟩) (Kd.R_far (p := ⟨gb436, 2, none⟩) (Kd.R_far (p := ⟨gb436, 1, none⟩) (Kd.R_far (p := ⟨gb436, 0, none⟩) (Kd.R_types HO459.out BK436.out (by decide)) (fun _ hk => hk.2) (.slice Ao23 t447.length co23)) (fun _ hk => hk.2) (.int .i64 t450)) (fun _ hk => hk.2) (.slice Ao25 t451.length co25)) (fun _ hk => hk.2) (.slice Ao26 t454.length co26)) (fun _ hk => hk.2) (.slice Ao27 t457.length co27)) (fun _ hk => ⟨hk.1.1, hk.1.2⟩), be3 HB GE435 GE436 GE446⟩
 replace c3 := Bool.eq_false_iff.mpr c3
 subst c3
 have H1 : (some (([] : List Int), 0, ([] : List Int), ([] : List (S70)), ([] : List Int), false)) = some (r1, r2, r3, r4, r5, r6) := by rw [if_neg (show ¬ (false = true) by decide)] at H; exact H
 clear H
 have H := H1
 clear H1
 simp only [Option.some.injEq, Prod.mk.injEq] at H
 obtain ⟨rfl, rfl, rfl, rfl, rfl, rfl⟩ := H
 go_enter Try.func37, Try.ntmps37
 go_wp2_with (first | ((with_reducible refine gate_dst (N := 1) rfl ?_); refine bx 1 #[.slice A0_0 l0_0.length c0_0, .int .i64 a0_1, .slice A0_2 l0_2.length c0_2, .slice A0_3 l0_3.length c0_3, .slice A0_4 l0_4.length c0_4] 27 ?_; intro gb435 hg w28 hbox hb; have BK435 := am hbox; have GW435 := gs0 hg HB; have GE435 := gs0 hg HB; replace HB := s0 HB hb; clear hb hbox hg) | ((with_reducible refine gate_dst (N := 2) rfl ?_); refine bx 2 #[.slice none 0 0, .int .i64 0, .slice none 0 0, .slice none 0 0, .slice none 0 0] 27 ?_; intro gb436 hg w29 hbox hb; have BK436 := am hbox; have GW436 := gs1 hg HB GE435; have GE436 := gs1 hg HB GE435; replace HB := Aside0.mk (below_step (be1 HB GE435) hb); have NB435_436 := Aside0.mk ((by rw [hg]; exact Nat.ne_of_lt (bl BK435) : gb435 ≠ gb436)); have NB436_435 := Aside0.mk ((by rw [hg]; exact Nat.ne_of_gt (bl BK435) : gb436 ≠ gb435)); replace BK435 := bb BK435 hb; clear hb hbox hg; have hnb30 := NB435_436.out; have hnc30 := NB436_435.out; have hcz31_0 := bz5 BK435) | ((with_reducible refine gate_callee (f := 22) rfl ?_); refine gl 7 Try.func22 #[.agg #[.slice A0_0 l0_0.length c0_0, .int .i64 a0_1, .slice A0_2 l0_2.length c0_2, .slice A0_3 l0_3.length c0_3, .slice A0_4 l0_4.length c0_4]] ?_; (with_reducible refine (impl_PoolOk.calls k _ _ l0_0 a0_1 _ _ l0_2 _ _ l0_3 _ _ l0_4 false _ (cb HR0_0 HB) HC0_0.out (cb HR0_2 HB) HC0_2.out (cb HR0_3 HB) HC0_3.out (cb HR0_4 HB) HC0_4.out A2.out).mono ?_); rintro e w32 ⟨rfl, hb⟩; refine ⟨_, rfl, ?_⟩; replace BK435 := bb BK435 hb; replace BK436 := bb BK436 hb; replace HB := Aside0.mk (below_step (be2 HB GE435 GE436) hb); (try clear hb); have hcz33_0 := bz5 BK436))
 refine bodyPost_ret (results_ct rfl _ _ gb436 27 #[.slice none 0 0, .int .i64 0, .slice none 0 0, .slice none 0 0, .slice none 0 0] (0, 0) _ rfl (by (with_reducible repeat (first | refine blk_drewN ?_ _ | refine blk_drew ?_ | refine blk_alloc ?_ _)); refine blk_put (cs := #[.slice none 0 0, .int .i64 0, .slice none 0 0, .slice none 0 0, .slice none 0 0]) ?_ 4 _ rfl; (with_reducible repeat (first | refine blk_drewN ?_ _ | refine blk_drew ?_ | refine blk_alloc ?_ _)); refine blk_put (cs := #[.slice none 0 0, .int .i64 0, .slice none 0 0, .slice none 0 0, .slice none 0 0]) ?_ 3 _ rfl; (with_reducible repeat (first | refine blk_drewN ?_ _ | refine blk_drew ?_ | refine blk_alloc ?_ _)); refine blk_put (cs := #[.slice none 0 0, .int .i64 0, .slice none 0 0, .slice none 0 0, .slice none 0 0]) ?_ 2 _ rfl; (with_reducible repeat (first | refine blk_drewN ?_ _ | refine blk_drew ?_ | refine blk_alloc ?_ _)); refine blk_put (cs := #[.slice none 0 0, .int .i64 0, .slice none 0 0, .slice none 0 0, .slice none 0 0]) ?_ 1 _ rfl; (with_reducible repeat (first | refine blk_drewN ?_ _ | refine blk_drew ?_ | refine blk_alloc ?_ _)); refine blk_put (cs := #[.slice none 0 0, .int .i64 0, .slice none 0 0, .slice none 0 0, .slice none 0 0]) ?_ 0 _ rfl; (with_reducible repeat (first | refine blk_drewN ?_ _ | refine blk_drew ?_ | refine blk_alloc ?_ _)); exact BK436.out) Try.underlying27 rfl (by kernel_rfl)) rfl ?_
 exact ⟨_, _, _, _, er, by first | exact Kd.R_nil _ _ _ _ _ | exact Kd.N_nil _ _ _ _ _ | exact Kd.V_nil _ _ _ _ _ | exact Kd.Q_nil _ _ _ _ _ | exact Kd.S_nil _ _ _ _ _, by first | exact Kd.R_nil _ _ _ _ _ | exact Kd.N_nil _ _ _ _ _ | exact Kd.V_nil _ _ _ _ _ | exact Kd.Q_nil _ _ _ _ _ | exact Kd.S_nil _ _ _ _ _, by first | exact Kd.R_nil _ _ _ _ _ | exact Kd.N_nil _ _ _ _ _ | exact Kd.V_nil _ _ _ _ _ | exact Kd.Q_nil _ _ _ _ _ | exact Kd.S_nil _ _ _ _ _, by first | exact Kd.R_nil _ _ _ _ _ | exact Kd.N_nil _ _ _ _ _ | exact Kd.V_nil _ _ _ _ _ | exact Kd.Q_nil _ _ _ _ _ | exact Kd.S_nil _ _ _ _ _, be2 HB GE435 GE436⟩

end Go.Proofs.Ytdgpidhlbpaolaa.QFnExactTurn
