-- made by a program of this session (myprint.py)
import Derived.Test.YtdgpidhlbpaolaaQFnExactAllocx0
import Derived.Test.YtdgpidhlbpaolaaQFnExactAllocx8
import Derived.Test.YtdgpidhlbpaolaaQFnExactAllocx10
namespace Go.Proofs.Ytdgpidhlbpaolaa.QFnExactAlloc
open Go.RowKit Go.Proofs.YtdgpidhlbpaolaaW.PrintWords Go.Proofs.YtdgpidhlbpaolaaW.PrintLast Go.Proofs.YtdgpidhlbpaolaaW.PrintMore
attribute [local go_sem] max2_int min2_int max_two min_two max_three min_three max_four min_four   -- for this text's walks alone
set_option linter.unusedVariables false
set_option linter.unusedSimpArgs false

/-! ### impl_copyPool: function 66 -/
def impl_copyPool.f (l0_0 : List Int) (a0_1 : Int) (l0_2 : List Int) (l0_3 : List (S70)) (l0_4 : List Int) : Option (List Int × Int × List Int × (List (S70)) × List Int) := (impl_copyInts.f l0_0).bind fun t368 => ((impl_copyAges.f a0_1 l0_2 l0_3).bind fun bt371 => ((impl_copyInts.f l0_4).bind fun t378 => (some (t368, bt371.1, bt371.2.1, bt371.2.2, t378))))
def impl_copyPool.T1 : Bool × List (List Nat × List Nat) := (true, [([], []), ([0], [0]), ([1], [1]), ([], []), ([3], [3]), ([4, 2], [4]), ([], []), ([6], [6]), ([7, 5], [7]), ([2, 5, 8], [2, 5, 8]), ([9, 8, 0, 1, 2, 3, 4, 5, 6, 7, 8, 9], [9])])
def impl_copyPool.B1 : List Nat := [0, 1, 3, 0, 8, 31, 0, 64, 255, 511, 1023]
theorem impl_copyPool.tab1 : rtab .any (opsOf Try.f66 1) = impl_copyPool.T1 := by kernel_rfl
theorem impl_copyPool.bits1 : waitsOk impl_copyPool.T1.2 impl_copyPool.B1 = true := by kernel_rfl
set_option maxHeartbeats 8000000 in
set_option maxRecDepth 100000 in
theorem impl_copyPool.calls (A0_0 : Option Addr) (c0_0 : Nat) (l0_0 : List Int) (a0_1 : Int) (A0_2 : Option Addr) (c0_2 : Nat) (l0_2 : List Int) (A0_3 : Option Addr) (c0_3 : Nat) (l0_3 : List (S70)) (A0_4 : Option Addr) (c0_4 : Nat) (l0_4 : List Int) (r1 : List Int) (r2 : Int) (r3 : List Int) (r4 : List (S70)) (r5 : List Int) (w : World) (hr0_0 : Kd.C (Kd.int .i64) w A0_0 l0_0.length l0_0) (hc0_0 : l0_0.length ≤ c0_0) (hr0_2 : Kd.C (Kd.int .i64) w A0_2 l0_2.length l0_2) (hc0_2 : l0_2.length ≤ c0_2) (hr0_3 : Kd.C k70 w A0_3 l0_3.length l0_3) (hc0_3 : l0_3.length ≤ c0_3) (hr0_4 : Kd.C (Kd.int .i64) w A0_4 l0_4.length l0_4) (hc0_4 : l0_4.length ≤ c0_4) (h : impl_copyPool.f l0_0 a0_1 l0_2 l0_3 l0_4 = some (r1, r2, r3, r4, r5)) :
  Calls Try.prog 66 #[.agg #[.slice A0_0 l0_0.length c0_0, .int .i64 a0_1, .slice A0_2 l0_2.length c0_2, .slice A0_3 l0_3.length c0_3, .slice A0_4 l0_4.length c0_4]] w fun e w' => ∃ v0_ v2_ v3_ v4_ : Value, e = .returned (.agg #[v0_, .int .i64 r2, v2_, v3_, v4_]) ∧ Kd.R (Kd.int .i64) 3 w' w.heap.size (fun k_ => some k_ ≠ (v2_ : Value).ownBlock ∧ some k_ ≠ (v4_ : Value).ownBlock) v0_ r1 ∧ Kd.R (Kd.int .i64) 3 w' w.heap.size (fun k_ => some k_ ≠ (v0_ : Value).ownBlock ∧ some k_ ≠ (v4_ : Value).ownBlock) v2_ r3 ∧ Kd.R k70 70 w' w.heap.size (fun _ => True) v3_ r4 ∧ Kd.R (Kd.int .i64) 3 w' w.heap.size (fun k_ => some k_ ≠ (v0_ : Value).ownBlock ∧ some k_ ≠ (v2_ : Value).ownBlock) v4_ r5 ∧ Below w.heap.size w w' := by
 have hu27 := Try.underlying27
 have hu25 := Try.underlying25
 have HR0_0 := Aside0.mk hr0_0
 have HC0_0 := Aside0.mk hc0_0
 clear hr0_0 hc0_0
 have HR0_2 := Aside0.mk hr0_2
 have HC0_2 := Aside0.mk hc0_2
 clear hr0_2 hc0_2
 have HR0_3 := Aside0.mk hr0_3
 have HC0_3 := Aside0.mk hc0_3
 clear hr0_3 hc0_3
 have HR0_4 := Aside0.mk hr0_4
 have HC0_4 := Aside0.mk hc0_4
 clear hr0_4 hc0_4
 have HB := Aside0.mk (Below.refl w.heap.size w)
 have H : ((impl_copyInts.f l0_0).bind fun t368 => ((impl_copyAges.f a0_1 l0_2 l0_3).bind fun bt371 => ((impl_copyInts.f l0_4).bind fun t378 => (some (t368, bt371.1, bt371.2.1, bt371.2.2, t378))))) = some (r1, r2, r3, r4, r5) := h
 clear h
 replace H := Option.bind_eq_some_iff.mp H
 obtain ⟨t368, A20, H⟩ := H
 replace H : ((impl_copyAges.f a0_1 l0_2 l0_3).bind fun bt371 => ((impl_copyInts.f l0_4).bind fun t378 => (some (t368, bt371.1, bt371.2.1, bt371.2.2, t378)))) = some (r1, r2, r3, r4, r5) := H
 have A2 := Aside0.mk A20
 clear A20
 replace H := Option.bind_eq_some_iff.mp H
 obtain ⟨⟨t371, t372, t375⟩, A30, H⟩ := H
 replace H : ((impl_copyInts.f l0_4).bind fun t378 => (some (t368, t371, t372, t375, t378))) = some (r1, r2, r3, r4, r5) := H
 have A3 := Aside0.mk A30
 clear A30
 replace H := Option.bind_eq_some_iff.mp H
 obtain ⟨t378, A40, H⟩ := H
 replace H : (some (t368, t371, t372, t375, t378)) = some (r1, r2, r3, r4, r5) := H
 have A4 := Aside0.mk A40
 clear A40
 simp only [Option.some.injEq, Prod.mk.injEq] at H
 obtain ⟨rfl, rfl, rfl, rfl, rfl⟩ := H
 go_enter Try.func66, Try.ntmps66
 try go_wp2_with (first | ((with_reducible refine gate_dst (N := 1) rfl ?_); refine bx 1 #[.slice A0_0 l0_0.length c0_0, .int .i64 a0_1, .slice A0_2 l0_2.length c0_2, .slice A0_3 l0_3.length c0_3, .slice A0_4 l0_4.length c0_4] 27 ?_; intro gb366 hg w5 hbox hb; have BK366 := am hbox; have GW366 := gs0 hg HB; have GE366 := gs0 hg HB; replace HB := s0 HB hb; clear hb hbox hg) | ((with_reducible refine gate_dst (N := 2) rfl ?_); refine bx 2 #[.slice none 0 0, .int .i64 0, .slice none 0 0, .slice none 0 0, .slice none 0 0] 27 ?_; intro gb367 hg w6 hbox hb; have BK367 := am hbox; have GW367 := gs1 hg HB GE366; have GE367 := gs1 hg HB GE366; replace HB := Aside0.mk (below_step (be1 HB GE366) hb); have NB366_367 := Aside0.mk ((by rw [hg]; exact Nat.ne_of_lt (bl BK366) : gb366 ≠ gb367)); have NB367_366 := Aside0.mk ((by rw [hg]; exact Nat.ne_of_gt (bl BK366) : gb367 ≠ gb366)); replace BK366 := bb BK366 hb; clear hb hbox hg))
 have n0_ := Aside0.mk (blk_drew BK366.out)
 have n1_ := Aside0.mk (blk_drew BK367.out)
 have n2_ := Aside0.mk (below_drew1 HB.out)
 clear BK366
 clear BK367
 clear HB
 have BK366 := n0_
 have BK367 := n1_
 have HB := n2_
 clear n0_ n1_ n2_
 refine start_ (n := 11) (S := fun w' => w'.cell? ⟨gb366, 0, none⟩ = some (.slice A0_0 l0_0.length c0_0) ∧ w'.cell? ⟨gb366, 1, none⟩ = some (.int .i64 a0_1) ∧ w'.cell? ⟨gb366, 2, none⟩ = some (.slice A0_2 l0_2.length c0_2) ∧ w'.cell? ⟨gb366, 3, none⟩ = some (.slice A0_3 l0_3.length c0_3) ∧ w'.cell? ⟨gb366, 4, none⟩ = some (.slice A0_4 l0_4.length c0_4)) (ds := []) (bv 11 0x0) (by kernel_rfl) rfl rfl ⟨bc0 BK366, bc1 BK366, bc2 BK366, bc3 BK366, bc4 BK366⟩ (fun hHeld => ?_); refine with_tabW impl_copyPool.tab1 impl_copyPool.bits1 (fun HT_ HW_ => ?_)
 generalize w6.drew = w7 at BK366 BK367 HB hHeld ⊢
 refine py HT_ 0 3 (bv 11 0x1) ?_
 refine py HT_ 3 6 (bv 11 0x9) ?_
 refine py HT_ 6 9 (bv 11 0x49) ?_
 refine tk HT_ HW_ hHeld 1 4 (bv 11 0x4b) ?_
 refine tk HT_ HW_ hHeld 4 7 (bv 11 0x5b) ?_
 refine tk HT_ HW_ hHeld 7 10 (bv 11 0xdb) ?_
 refine one_ (i := 2) (N := some 5) (bv 11 0xdf) rfl rfl (one_of HT_.out (by kernel_rfl)) (by decide) (fun K hK => ?_)
 refine goes_ Try.func57 (by kernel_rfl) rfl #[.slice A0_0 l0_0.length c0_0] (by rfl) rfl rfl ml ?_
 with_reducible refine (impl_copyInts.calls _ _ l0_0 t368 _ ?side1 ?side2 A2.out).mono ?_
 (case side1 => exact cb HR0_0 HB)
 (case side2 => exact HC0_0.out)
 rintro e w8 ⟨v369, rfl, ho0, hb⟩
 refine ⟨_, rfl, ?_⟩
 have n0_ := Aside0.mk (Kd.R_lower ho0 (below_size (be2 HB GE366 GE367)))
 have n1_ := bb BK366 hb
 have n2_ := bb BK367 hb
 have n3_ := Aside0.mk (below_step (be2 HB GE366 GE367) hb)
 clear BK366
 clear BK367
 clear HB
 have HO370 := n0_
 have BK366 := n1_
 have BK367 := n2_
 have HB := n3_
 clear n0_ n1_ n2_ n3_
 (try clear hb)
 (try clear hb2)
 (try clear hk)
 (try clear hi)
 (try clear ho0)
 refine hK.out _ _ ⟨bc0 BK366, bc1 BK366, bc2 BK366, bc3 BK366, bc4 BK366⟩ (fun hHeld => ?_)
 clear hK K
 refine norm_ (a' := ?_) ?_ ?_
 rotate_left
 ·show Act.put _ (some 5) _ = _
  simp only [aP]
  rfl
 refine one_ (i := 5) (N := some 8) (bv 11 0xff) rfl rfl (one_of HT_.out (by kernel_rfl)) (by decide) (fun K hK => ?_)
 refine goes_ Try.func96 (by kernel_rfl) rfl #[.agg #[.int .i64 a0_1, .slice A0_2 l0_2.length c0_2, .slice A0_3 l0_3.length c0_3]] (by rfl) rfl rfl ml ?_
 with_reducible refine (impl_copyAges.calls a0_1 _ _ l0_2 _ _ l0_3 t371 t372 t375 _ ?side1 ?side2 ?side3 ?side4 A3.out).mono ?_
 (case side1 => exact cb HR0_2 HB)
 (case side2 => exact HC0_2.out)
 (case side3 => exact cb HR0_3 HB)
 (case side4 => exact HC0_3.out)
 rintro e w9 ⟨v373, v376, rfl, ho0, ho1, hb⟩
 refine ⟨_, rfl, ?_⟩
 have n0_ := Aside0.mk (Kd.R_elder' (ro HO370) (Kd.R_base ho0) hb)
 have n1_ := Aside0.mk (Kd.R_lower (nw ho0 HO370) (below_size (be2 HB GE366 GE367)))
 have n2_ := Aside0.mk (Kd.R_lower ho1 (below_size (be2 HB GE366 GE367)))
 have n3_ := bb BK366 hb
 have n4_ := bb BK367 hb
 have n5_ := Aside0.mk (below_step (be2 HB GE366 GE367) hb)
 clear HO370
 clear BK366
 clear BK367
 clear HB
 have HO370 := n0_
 have HO374 := n1_
 have HO377 := n2_
 have BK366 := n3_
 have BK367 := n4_
 have HB := n5_
 clear n0_ n1_ n2_ n3_ n4_ n5_
 (try clear hb)
 (try clear hb2)
 (try clear hk)
 (try clear hi)
 (try clear ho0)
 (try clear ho1)
 refine hK.out _ _ ⟨bc0 BK366, bc1 BK366, bc2 BK366, bc3 BK366, bc4 BK366⟩ (fun hHeld => ?_)
 clear hK K
 refine norm_ (a' := ?_) ?_ ?_
 rotate_left
 ·show Act.put _ (some 8) _ = _
  simp only [aP]
  rfl
 refine one_ (i := 8) (N := some 11) (bv 11 0x1ff) rfl rfl (one_of HT_.out (by kernel_rfl)) (by decide) (fun K hK => ?_)
 refine goes_ Try.func57 (by kernel_rfl) rfl #[.slice A0_4 l0_4.length c0_4] (by rfl) rfl rfl ml ?_
 with_reducible refine (impl_copyInts.calls _ _ l0_4 t378 _ ?side1 ?side2 A4.out).mono ?_
 (case side1 => exact cb HR0_4 HB)
 (case side2 => exact HC0_4.out)
 rintro e w10 ⟨v379, rfl, ho0, hb⟩
 refine ⟨_, rfl, ?_⟩
 have n0_ := Aside0.mk (Kd.R_elder' (ro HO370) (Kd.R_base ho0) hb)
 have n1_ := Aside0.mk (Kd.R_elder' (ro HO374) (Kd.R_base ho0) hb)
 have n2_ := rb HO377 hb
 have n3_ := Aside0.mk (Kd.R_lower (nw (nw ho0 HO370) HO374) (below_size (be2 HB GE366 GE367)))
 have n4_ := bb BK366 hb
 have n5_ := bb BK367 hb
 have n6_ := Aside0.mk (below_step (be2 HB GE366 GE367) hb)
 clear HO370
 clear HO374
 clear HO377
 clear BK366
 clear BK367
 clear HB
 have HO370 := n0_
 have HO374 := n1_
 have HO377 := n2_
 have HO380 := n3_
 have BK366 := n4_
 have BK367 := n5_
 have HB := n6_
 clear n0_ n1_ n2_ n3_ n4_ n5_ n6_
 (try clear hb)
 (try clear hb2)
 (try clear hk)
 (try clear hi)
 (try clear ho0)
 obtain ⟨Ao11, co11, eo11⟩ := Kd.R_slice HO380.out
 (first | subst eo11 | (injection eo11 with f1_ f2_ f3_; have f4_ := f1_.symm; have f5_ := f3_.symm; clear f1_ f2_ f3_; subst f4_; subst f5_))
 obtain ⟨Ao12, co12, eo12⟩ := Kd.R_slice HO377.out
 (first | subst eo12 | (injection eo12 with f1_ f2_ f3_; have f4_ := f1_.symm; have f5_ := f3_.symm; clear f1_ f2_ f3_; subst f4_; subst f5_))
 obtain ⟨Ao13, co13, eo13⟩ := Kd.R_slice HO374.out
 (first | subst eo13 | (injection eo13 with f1_ f2_ f3_; have f4_ := f1_.symm; have f5_ := f3_.symm; clear f1_ f2_ f3_; subst f4_; subst f5_))
 obtain ⟨Ao14, co14, eo14⟩ := Kd.R_slice HO370.out
 (first | subst eo14 | (injection eo14 with f1_ f2_ f3_; have f4_ := f1_.symm; have f5_ := f3_.symm; clear f1_ f2_ f3_; subst f4_; subst f5_))
 refine hK.out _ _ ⟨bc0 BK366, bc1 BK366, bc2 BK366, bc3 BK366, bc4 BK366⟩ (fun hHeld => ?_)
 clear hK K
 refine norm_ (a' := ?_) ?_ ?_
 rotate_left
 ·show Act.put _ (some 11) _ = _
  simp only [aP]
  rfl
 refine py HT_ 9 12 (bv 11 0x3ff) ?_
 refine one_ (i := 10) (N := none) (bv 11 0x7ff) rfl rfl (one_of HT_.out (by kernel_rfl)) (by decide) (fun K hK => ?_)
 have hs15 : w10.cell? ⟨gb367, 0, none⟩ = some (.slice none 0 0) := bc0 BK367
 have hfs15 := blk_frozen BK367.out 0
 have hns15_0 := NB366_367.out
 have hms15_0 := NB367_366.out
 have hs16 : w10.cell? ⟨gb367, 1, none⟩ = some (.int .i64 0) := bc1 BK367
 have hfs16 := blk_frozen BK367.out 1
 have hns16_0 := NB366_367.out
 have hms16_0 := NB367_366.out
 have hs17 : w10.cell? ⟨gb367, 2, none⟩ = some (.slice none 0 0) := bc2 BK367
 have hfs17 := blk_frozen BK367.out 2
 have hns17_0 := NB366_367.out
 have hms17_0 := NB367_366.out
 have hs18 : w10.cell? ⟨gb367, 3, none⟩ = some (.slice none 0 0) := bc3 BK367
 have hfs18 := blk_frozen BK367.out 3
 have hns18_0 := NB366_367.out
 have hms18_0 := NB367_366.out
 have hs19 : w10.cell? ⟨gb367, 4, none⟩ = some (.slice none 0 0) := bc4 BK367
 have hfs19 := blk_frozen BK367.out 4
 have hns19_0 := NB366_367.out
 have hms19_0 := NB367_366.out
 refine skip_ (w1 := ?_) (by rfl) rfl ?_ ?_
 rotate_left
 ·go_simp
  rfl
 refine hK.out _ _ ⟨((cell_far (p := ⟨gb367, _, none⟩) NB366_367.out _).trans (((cell_far (p := ⟨gb367, _, none⟩) NB366_367.out _).trans (((cell_far (p := ⟨gb367, _, none⟩) NB366_367.out _).trans (((cell_far (p := ⟨gb367, _, none⟩) NB366_367.out _).trans (((cell_far (p := ⟨gb367, _, none⟩) NB366_367.out _).trans (hHeld.1)))))))))), ((cell_far (p := ⟨gb367, _, none⟩) NB366_367.out _).trans (((cell_far (p := ⟨gb367, _, none⟩) NB366_367.out _).trans (((cell_far (p := ⟨gb367, _, none⟩) NB366_367.out _).trans (((cell_far (p := ⟨gb367, _, none⟩) NB366_367.out _).trans (((cell_far (p := ⟨gb367, _, none⟩) NB366_367.out _).trans (hHeld.2.1)))))))))), ((cell_far (p := ⟨gb367, _, none⟩) NB366_367.out _).trans (((cell_far (p := ⟨gb367, _, none⟩) NB366_367.out _).trans (((cell_far (p := ⟨gb367, _, none⟩) NB366_367.out _).trans (((cell_far (p := ⟨gb367, _, none⟩) NB366_367.out _).trans (((cell_far (p := ⟨gb367, _, none⟩) NB366_367.out _).trans (hHeld.2.2.1)))))))))), ((cell_far (p := ⟨gb367, _, none⟩) NB366_367.out _).trans (((cell_far (p := ⟨gb367, _, none⟩) NB366_367.out _).trans (((cell_far (p := ⟨gb367, _, none⟩) NB366_367.out _).trans (((cell_far (p := ⟨gb367, _, none⟩) NB366_367.out _).trans (((cell_far (p := ⟨gb367, _, none⟩) NB366_367.out _).trans (hHeld.2.2.2.1)))))))))), ((cell_far (p := ⟨gb367, _, none⟩) NB366_367.out _).trans (((cell_far (p := ⟨gb367, _, none⟩) NB366_367.out _).trans (((cell_far (p := ⟨gb367, _, none⟩) NB366_367.out _).trans (((cell_far (p := ⟨gb367, _, none⟩) NB366_367.out _).trans (((cell_far (p := ⟨gb367, _, none⟩) NB366_367.out _).trans (hHeld.2.2.2.2))))))))))⟩ (fun hHeld => ?_)
 clear hK K
 refine done_ (done_of HT_.out (by kernel_rfl)) ?_
 try go_wp2
 refine bodyPost_ret (results_cell_row rfl _ _ gb367 27 #[.slice Ao14 t368.length co14, .int .i64 t371, .slice Ao13 t372.length co13, .slice Ao12 t375.length co12, .slice Ao11 t378.length co11] (0, 0) _ rfl (by (with_reducible repeat (first | refine blk_drewN ?_ _ | refine blk_drew ?_ | refine blk_alloc ?_ _)); refine blk_put (cs := #[.slice Ao14 t368.length co14, .int .i64 t371, .slice Ao13 t372.length co13, .slice Ao12 t375.length co12, .slice none 0 0]) ?_ 4 _ rfl; (with_reducible repeat (first | refine blk_drewN ?_ _ | refine blk_drew ?_ | refine blk_alloc ?_ _)); refine blk_put (cs := #[.slice Ao14 t368.length co14, .int .i64 t371, .slice Ao13 t372.length co13, .slice none 0 0, .slice none 0 0]) ?_ 3 _ rfl; (with_reducible repeat (first | refine blk_drewN ?_ _ | refine blk_drew ?_ | refine blk_alloc ?_ _)); refine blk_put (cs := #[.slice Ao14 t368.length co14, .int .i64 t371, .slice none 0 0, .slice none 0 0, .slice none 0 0]) ?_ 2 _ rfl; (with_reducible repeat (first | refine blk_drewN ?_ _ | refine blk_drew ?_ | refine blk_alloc ?_ _)); refine blk_put (cs := #[.slice Ao14 t368.length co14, .int .i64 0, .slice none 0 0, .slice none 0 0, .slice none 0 0]) ?_ 1 _ rfl; (with_reducible repeat (first | refine blk_drewN ?_ _ | refine blk_drew ?_ | refine blk_alloc ?_ _)); refine blk_put (cs := #[.slice none 0 0, .int .i64 0, .slice none 0 0, .slice none 0 0, .slice none 0 0]) ?_ 0 _ rfl; (with_reducible repeat (first | refine blk_drewN ?_ _ | refine blk_drew ?_ | refine blk_alloc ?_ _)); exact BK367.out) Try.underlying27 rfl (by kernel_rfl)) rfl ?_
 exact ⟨_, _, _, _, er, by (with_reducible repeat (first | apply Kd.R_alloc | apply Kd.R_drewN | apply Kd.R_drew)); exact Kd.R_mono (Kd.R_far (p := ⟨gb367, 4, none⟩) (Kd.R_far (p := ⟨gb367, 3, none⟩) (Kd.R_far (p := ⟨gb367, 2, none⟩) (Kd.R_far (p := ⟨gb367, 1, none⟩) (Kd.R_far (p := ⟨gb367, 0, none⟩) (Kd.R_types HO370.out BK367.out (by decide)) (fun _ hk => hk.2) (.slice Ao14 t368.length co14)) (fun _ hk => hk.2) (.int .i64 t371)) (fun _ hk => hk.2) (.slice Ao13 t372.length co13)) (fun _ hk => hk.2) (.slice Ao12 t375.length co12)) (fun _ hk => hk.2) (.slice Ao11 t378.length co11)) (fun _ hk => ⟨hk.1.1.2, hk.1.2⟩), by (with_reducible repeat (first | apply Kd.R_alloc | apply Kd.R_drewN | apply Kd.R_drew)); exact Kd.R_mono (Kd.R_far (p := ⟨gb367, 4, none⟩) (Kd.R_far (p := ⟨gb367, 3, none⟩) (Kd.R_far (p := ⟨gb367, 2, none⟩) (Kd.R_far (p := ⟨gb367, 1, none⟩) (Kd.R_far (p := ⟨gb367, 0, none⟩) (Kd.R_types HO374.out BK367.out (by decide)) (fun _ hk => hk.2) (.slice Ao14 t368.length co14)) (fun _ hk => hk.2) (.int .i64 t371)) (fun _ hk => hk.2) (.slice Ao13 t372.length co13)) (fun _ hk => hk.2) (.slice Ao12 t375.length co12)) (fun _ hk => hk.2) (.slice Ao11 t378.length co11)) (fun _ hk => ⟨hk.1.1.2, hk.1.2⟩), by (with_reducible repeat (first | apply Kd.R_alloc | apply Kd.R_drewN | apply Kd.R_drew)); exact Kd.R_mono (Kd.R_far (p := ⟨gb367, 4, none⟩) (Kd.R_far (p := ⟨gb367, 3, none⟩) (Kd.R_far (p := ⟨gb367, 2, none⟩) (Kd.R_far (p := ⟨gb367, 1, none⟩) (Kd.R_far (p := ⟨gb367, 0, none⟩) (Kd.R_types HO377.out BK367.out (by decide)) (fun _ hk => hk.2) (.slice Ao14 t368.length co14)) (fun _ hk => hk.2) (.int .i64 t371)) (fun _ hk => hk.2) (.slice Ao13 t372.length co13)) (fun _ hk => hk.2) (.slice Ao12 t375.length co12)) (fun _ hk => hk.2) (.slice Ao11 t378.length co11)) (fun _ hk => trivial), by (with_reducible repeat (first | apply Kd.R_alloc | apply Kd.R_drewN | apply Kd.R_drew)); exact Kd.R_mono (Kd.R_far (p := ⟨gb367, 4, none⟩) (Kd.R_far (p := ⟨gb367, 3, none⟩) (Kd.R_far (p := ⟨gb367, 2, none⟩) (Kd.R_far (p := ⟨gb367, 1, none⟩) (Kd.R_far (p := ⟨gb367, 0, none⟩) (Kd.R_types HO380.out BK367.out (by decide)) (fun _ hk => hk.2) (.slice Ao14 t368.length co14)) (fun _ hk => hk.2) (.int .i64 t371)) (fun _ hk => hk.2) (.slice Ao13 t372.length co13)) (fun _ hk => hk.2) (.slice Ao12 t375.length co12)) (fun _ hk => hk.2) (.slice Ao11 t378.length co11)) (fun _ hk => ⟨hk.1.1.2, hk.1.2⟩), be2 HB GE366 GE367⟩

/-! ### impl_Alloc: function 26 -/
def impl_Alloc.f (k : Nat) (l0_0 : List Int) (a0_1 : Int) (l0_2 : List Int) (l0_3 : List (S70)) (l0_4 : List Int) : Option (List Int × Int × List Int × (List (S70)) × List Int × Int × Bool) := (impl_PoolOk.f k l0_0 a0_1 l0_2 l0_3 l0_4).bind fun t383 => (if t383 = true then ((impl_copyPool.f l0_0 a0_1 l0_2 l0_3 l0_4).bind fun bt384 => (if (l0_0.length : Int) = 0 then (some (bt384.1, bt384.2.1, bt384.2.2.1, bt384.2.2.2.1, bt384.2.2.2.2, 0, false)) else (if 1 ≤ (bt384.1.length : Int) then (if 0 < (l0_0.length : Int) then (if bt384.2.2.2.2.length < 17592186044416 then ((slices_Sort_int_int.f k (bt384.2.2.2.2 ++ [rd l0_0 0])).bind fun t405 => (some ((bt384.1.drop (1 : Int).toNat), bt384.2.1, bt384.2.2.1, bt384.2.2.2.1, t405, rd l0_0 0, true))) else (none)) else (none)) else (none)))) else (some (([] : List Int), 0, ([] : List Int), ([] : List (S70)), ([] : List Int), 0, false)))
theorem impl_Alloc.mono : ∀ a0 a1 a2 a3 a4 k, LeO (impl_Alloc.f k a0 a1 a2 a3 a4) (impl_Alloc.f (k + 1) a0 a1 a2 a3 a4) := by
 intro a0 a1 a2 a3 a4 k
 unfold impl_Alloc.f
 repeat' first
   | (with_reducible exact impl_PoolOk.mono _ _ _ _ _ _)
   | (with_reducible exact slices_Sort_int_int.mono _ _)
   | (with_reducible exact LeO.refl _)
   | (with_reducible exact LeO.none _)
   | (with_reducible refine LeO.ite ?_ ?_)
   | (with_reducible refine LeO.bind ?_ (fun _ => ?_))
   | exact impl_PoolOk.mono _ _ _ _ _ _
   | exact slices_Sort_int_int.mono _ _
   | exact LeO.none _
   | refine LeO.ite ?_ ?_
   | refine LeO.bind ?_ (fun _ => ?_)
def impl_Alloc.T7 : Bool × List (List Nat × List Nat) := (true, [([], []), ([0], [0]), ([], []), ([2], [2]), ([3], [3]), ([4], [4]), ([5], [5]), ([1, 6], [1, 6]), ([0, 1, 2, 3, 4, 5, 6, 7], []), ([8, 7, 7, 0, 1, 2, 3, 4, 5, 6, 7], [7, 8])])
def impl_Alloc.B7 : List Nat := [0, 1, 0, 4, 12, 28, 60, 127, 255, 511]
theorem impl_Alloc.tab7 : rtab .any (opsOf Try.f26 7) = impl_Alloc.T7 := by kernel_rfl
theorem impl_Alloc.bits7 : waitsOk impl_Alloc.T7.2 impl_Alloc.B7 = true := by kernel_rfl
def impl_Alloc.T9 : Bool × List (List Nat × List Nat) := (true, [([], []), ([], []), ([1], [1]), ([2], [2]), ([3], [3]), ([0, 0], [0]), ([4, 5, 0, 1, 2, 3, 4, 5], [4]), ([6, 0, 1, 2, 3, 4, 5, 6], [])])
def impl_Alloc.B9 : List Nat := [0, 0, 2, 6, 14, 1, 63, 127]
theorem impl_Alloc.tab9 : rtab .any (opsOf Try.f26 9) = impl_Alloc.T9 := by kernel_rfl
theorem impl_Alloc.bits9 : waitsOk impl_Alloc.T9.2 impl_Alloc.B9 = true := by kernel_rfl
set_option maxHeartbeats 8000000 in
set_option maxRecDepth 100000 in
theorem impl_Alloc.calls (k : Nat) (A0_0 : Option Addr) (c0_0 : Nat) (l0_0 : List Int) (a0_1 : Int) (A0_2 : Option Addr) (c0_2 : Nat) (l0_2 : List Int) (A0_3 : Option Addr) (c0_3 : Nat) (l0_3 : List (S70)) (A0_4 : Option Addr) (c0_4 : Nat) (l0_4 : List Int) (r1 : List Int) (r2 : Int) (r3 : List Int) (r4 : List (S70)) (r5 : List Int) (r6 : Int) (r7 : Bool) (w : World) (hr0_0 : Kd.C (Kd.int .i64) w A0_0 l0_0.length l0_0) (hc0_0 : l0_0.length ≤ c0_0) (hr0_2 : Kd.C (Kd.int .i64) w A0_2 l0_2.length l0_2) (hc0_2 : l0_2.length ≤ c0_2) (hr0_3 : Kd.C k70 w A0_3 l0_3.length l0_3) (hc0_3 : l0_3.length ≤ c0_3) (hr0_4 : Kd.C (Kd.int .i64) w A0_4 l0_4.length l0_4) (hc0_4 : l0_4.length ≤ c0_4) (h : impl_Alloc.f k l0_0 a0_1 l0_2 l0_3 l0_4 = some (r1, r2, r3, r4, r5, r6, r7)) :
  Calls Try.prog 26 #[.agg #[.slice A0_0 l0_0.length c0_0, .int .i64 a0_1, .slice A0_2 l0_2.length c0_2, .slice A0_3 l0_3.length c0_3, .slice A0_4 l0_4.length c0_4]] w fun e w' => ∃ v0_ v2_ v3_ v4_ : Value, e = .returned (.tuple #[.agg #[v0_, .int .i64 r2, v2_, v3_, v4_], .int .i64 r6, .bool r7]) ∧ Kd.Q (Kd.int .i64) 3 w' w.heap.size (fun k_ => some k_ ≠ (v2_ : Value).ownBlock ∧ some k_ ≠ (v4_ : Value).ownBlock) v0_ r1 ∧ Kd.R (Kd.int .i64) 3 w' w.heap.size (fun k_ => some k_ ≠ (v0_ : Value).ownBlock ∧ some k_ ≠ (v4_ : Value).ownBlock) v2_ r3 ∧ Kd.R k70 70 w' w.heap.size (fun _ => True) v3_ r4 ∧ Kd.R (Kd.int .i64) 3 w' w.heap.size (fun k_ => some k_ ≠ (v0_ : Value).ownBlock ∧ some k_ ≠ (v2_ : Value).ownBlock) v4_ r5 ∧ Below w.heap.size w w' := by
 have hu27 := Try.underlying27
 have HR0_0 := Aside0.mk hr0_0
 have HC0_0 := Aside0.mk hc0_0
 clear hr0_0 hc0_0
 have HR0_2 := Aside0.mk hr0_2
 have HC0_2 := Aside0.mk hc0_2
 clear hr0_2 hc0_2
 have HR0_3 := Aside0.mk hr0_3
 have HC0_3 := Aside0.mk hc0_3
 clear hr0_3 hc0_3
 have HR0_4 := Aside0.mk hr0_4
 have HC0_4 := Aside0.mk hc0_4
 clear hr0_4 hc0_4
 have HB := Aside0.mk (Below.refl w.heap.size w)
 have H : ((impl_PoolOk.f k l0_0 a0_1 l0_2 l0_3 l0_4).bind fun t383 => (if t383 = true then ((impl_copyPool.f l0_0 a0_1 l0_2 l0_3 l0_4).bind fun bt384 => (if (l0_0.length : Int) = 0 then (some (bt384.1, bt384.2.1, bt384.2.2.1, bt384.2.2.2.1, bt384.2.2.2.2, 0, false)) else (if 1 ≤ (bt384.1.length : Int) then (if 0 < (l0_0.length : Int) then (if bt384.2.2.2.2.length < 17592186044416 then ((slices_Sort_int_int.f k (bt384.2.2.2.2 ++ [rd l0_0 0])).bind fun t405 => (some ((bt384.1.drop (1 : Int).toNat), bt384.2.1, bt384.2.2.1, bt384.2.2.2.1, t405, rd l0_0 0, true))) else (none)) else (none)) else (none)))) else (some (([] : List Int), 0, ([] : List Int), ([] : List (S70)), ([] : List Int), 0, false)))) = some (r1, r2, r3, r4, r5, r6, r7) := h
 clear h
 replace H := Option.bind_eq_some_iff.mp H
 obtain ⟨t383, A20, H⟩ := H
 replace H : (if t383 = true then ((impl_copyPool.f l0_0 a0_1 l0_2 l0_3 l0_4).bind fun bt384 => (if (l0_0.length : Int) = 0 then (some (bt384.1, bt384.2.1, bt384.2.2.1, bt384.2.2.2.1, bt384.2.2.2.2, 0, false)) else (if 1 ≤ (bt384.1.length : Int) then (if 0 < (l0_0.length : Int) then (if bt384.2.2.2.2.length < 17592186044416 then ((slices_Sort_int_int.f k (bt384.2.2.2.2 ++ [rd l0_0 0])).bind fun t405 => (some ((bt384.1.drop (1 : Int).toNat), bt384.2.1, bt384.2.2.1, bt384.2.2.2.1, t405, rd l0_0 0, true))) else (none)) else (none)) else (none)))) else (some (([] : List Int), 0, ([] : List Int), ([] : List (S70)), ([] : List Int), 0, false))) = some (r1, r2, r3, r4, r5, r6, r7) := H
 have A2 := Aside0.mk A20
 clear A20
 by_cases c3 : t383 = true
 ·subst c3
  have H1 : ((impl_copyPool.f l0_0 a0_1 l0_2 l0_3 l0_4).bind fun bt384 => (if (l0_0.length : Int) = 0 then (some (bt384.1, bt384.2.1, bt384.2.2.1, bt384.2.2.2.1, bt384.2.2.2.2, 0, false)) else (if 1 ≤ (bt384.1.length : Int) then (if 0 < (l0_0.length : Int) then (if bt384.2.2.2.2.length < 17592186044416 then ((slices_Sort_int_int.f k (bt384.2.2.2.2 ++ [rd l0_0 0])).bind fun t405 => (some ((bt384.1.drop (1 : Int).toNat), bt384.2.1, bt384.2.2.1, bt384.2.2.2.1, t405, rd l0_0 0, true))) else (none)) else (none)) else (none)))) = some (r1, r2, r3, r4, r5, r6, r7) := by rw [if_pos rfl] at H; exact H
  clear H
  have H := H1
  clear H1
  replace H := Option.bind_eq_some_iff.mp H
  obtain ⟨⟨t384, t387, t388, t391, t394⟩, A40, H⟩ := H
  replace H : (if (l0_0.length : Int) = 0 then (some (t384, t387, t388, t391, t394, 0, false)) else (if 1 ≤ (t384.length : Int) then (if 0 < (l0_0.length : Int) then (if t394.length < 17592186044416 then ((slices_Sort_int_int.f k (t394 ++ [rd l0_0 0])).bind fun t405 => (some ((t384.drop (1 : Int).toNat), t387, t388, t391, t405, rd l0_0 0, true))) else (none)) else (none)) else (none))) = some (r1, r2, r3, r4, r5, r6, r7) := H
  have A4 := Aside0.mk A40
  clear A40
  by_cases c5 : (l0_0.length : Int) = 0
  ·rw [if_pos c5] at H
   have c5b0 : ((l0_0.length : Int) == 0) = true := beq_iff_eq.mpr c5
   have c5b1 : ((l0_0.length : Int) != 0) = false := bne_eq_false_iff_eq.mpr c5
   clear c5
   simp only [Option.some.injEq, Prod.mk.injEq] at H
   obtain ⟨rfl, rfl, rfl, rfl, rfl, rfl, rfl⟩ := H
   go_enter Try.func26, Try.ntmps26
   go_wp2_with (first | ((with_reducible refine gate_dst (N := 1) rfl ?_); refine bx 1 #[.slice A0_0 l0_0.length c0_0, .int .i64 a0_1, .slice A0_2 l0_2.length c0_2, .slice A0_3 l0_3.length c0_3, .slice A0_4 l0_4.length c0_4] 27 ?_; intro gb381 hg w6 hbox hb; have BK381 := am hbox; have GW381 := gs0 hg HB; have GE381 := gs0 hg HB; replace HB := s0 HB hb; clear hb hbox hg) | ((with_reducible refine gate_dst (N := 2) rfl ?_); refine bx 2 #[.slice none 0 0, .int .i64 0, .slice none 0 0, .slice none 0 0, .slice none 0 0] 27 ?_; intro gb382 hg w7 hbox hb; have BK382 := am hbox; have GW382 := gs1 hg HB GE381; have GE382 := gs1 hg HB GE381; replace HB := Aside0.mk (below_step (be1 HB GE381) hb); have NB381_382 := Aside0.mk ((by rw [hg]; exact Nat.ne_of_lt (bl BK381) : gb381 ≠ gb382)); have NB382_381 := Aside0.mk ((by rw [hg]; exact Nat.ne_of_gt (bl BK381) : gb382 ≠ gb381)); replace BK381 := bb BK381 hb; clear hb hbox hg; have hnb8 := NB381_382.out; have hnc8 := NB382_381.out; have hcz9_0 := bz5 BK381) | ((with_reducible refine gate_callee (f := 22) rfl ?_); refine gl 7 Try.func22 #[.agg #[.slice A0_0 l0_0.length c0_0, .int .i64 a0_1, .slice A0_2 l0_2.length c0_2, .slice A0_3 l0_3.length c0_3, .slice A0_4 l0_4.length c0_4]] ?_; (with_reducible refine (impl_PoolOk.calls k _ _ l0_0 a0_1 _ _ l0_2 _ _ l0_3 _ _ l0_4 true _ (cb HR0_0 HB) HC0_0.out (cb HR0_2 HB) HC0_2.out (cb HR0_3 HB) HC0_3.out (cb HR0_4 HB) HC0_4.out A2.out).mono ?_); rintro e w10 ⟨rfl, hb⟩; refine ⟨_, rfl, ?_⟩; replace BK381 := bb BK381 hb; replace BK382 := bb BK382 hb; replace HB := Aside0.mk (below_step (be2 HB GE381 GE382) hb); (try clear hb); have hcz11_0 := bz5 BK381) | ((with_reducible refine gate_callee (f := 66) rfl ?_); refine gl 11 Try.func66 #[.agg #[.slice A0_0 l0_0.length c0_0, .int .i64 a0_1, .slice A0_2 l0_2.length c0_2, .slice A0_3 l0_3.length c0_3, .slice A0_4 l0_4.length c0_4]] ?_; (with_reducible refine (impl_copyPool.calls _ _ l0_0 a0_1 _ _ l0_2 _ _ l0_3 _ _ l0_4 t384 t387 t388 t391 t394 _ (cb HR0_0 HB) HC0_0.out (cb HR0_2 HB) HC0_2.out (cb HR0_3 HB) HC0_3.out (cb HR0_4 HB) HC0_4.out A4.out).mono ?_); rintro e w12 ⟨v385, v389, v392, v395, rfl, ho0, ho1, ho2, ho3, hb⟩; refine ⟨_, rfl, ?_⟩; have HO386 := Aside0.mk (Kd.R_lower ho0 (below_size (be2 HB GE381 GE382))); have HO390 := Aside0.mk (Kd.R_lower ho1 (below_size (be2 HB GE381 GE382))); have HO393 := Aside0.mk (Kd.R_lower ho2 (below_size (be2 HB GE381 GE382))); have HO396 := Aside0.mk (Kd.R_lower ho3 (below_size (be2 HB GE381 GE382))); replace BK381 := bb BK381 hb; replace BK382 := bb BK382 hb; replace HB := Aside0.mk (below_step (be2 HB GE381 GE382) hb); (try clear hb); (try clear ho0); (try clear ho1); (try clear ho2); (try clear ho3)) | ((with_reducible refine gate_dst (N := 5) rfl ?_); refine bx 5 #[.slice none 0 0, .int .i64 0, .slice none 0 0, .slice none 0 0, .slice none 0 0] 27 ?_; intro gb397 hg w13 hbox hb; replace HO386 := rb HO386 hb; replace HO390 := rb HO390 hb; replace HO393 := rb HO393 hb; replace HO396 := rb HO396 hb; have BK397 := am hbox; have GW397 := gs2 hg HB GE381 GE382; have GE397 := gs2 hg HB GE381 GE382; replace HB := Aside0.mk (below_step (be2 HB GE381 GE382) hb); have NB381_397 := Aside0.mk ((by rw [hg]; exact Nat.ne_of_lt (bl BK381) : gb381 ≠ gb397)); have NB397_381 := Aside0.mk ((by rw [hg]; exact Nat.ne_of_gt (bl BK381) : gb397 ≠ gb381)); replace BK381 := bb BK381 hb; have NB382_397 := Aside0.mk ((by rw [hg]; exact Nat.ne_of_lt (bl BK382) : gb382 ≠ gb397)); have NB397_382 := Aside0.mk ((by rw [hg]; exact Nat.ne_of_gt (bl BK382) : gb397 ≠ gb382)); replace BK382 := bb BK382 hb; clear hb hbox hg; obtain ⟨Ao14, co14, eo14⟩ := Kd.R_slice HO386.out; subst eo14; have hnb15 := NB397_381.out; have hnc15 := NB381_397.out; have hnb16 := NB397_382.out; have hnc16 := NB382_397.out; have hcz17_0 := bz5 BK397; obtain ⟨Ao18, co18, eo18⟩ := Kd.R_slice HO390.out; subst eo18; obtain ⟨Ao19, co19, eo19⟩ := Kd.R_slice HO393.out; subst eo19; obtain ⟨Ao20, co20, eo20⟩ := Kd.R_slice HO396.out; subst eo20; have hcz21_0 := bz5 BK381; have hcz22_0 := bz5 BK382))
   refine bodyPost_ret (results_ctt rfl _ _ gb382 27 #[.slice Ao14 t384.length co14, .int .i64 t387, .slice Ao18 t388.length co18, .slice Ao19 t391.length co19, .slice Ao20 t394.length co20] (0, 0) _ rfl (by (with_reducible repeat (first | refine blk_drewN ?_ _ | refine blk_drew ?_ | refine blk_alloc ?_ _)); refine blk_put (cs := #[.slice Ao14 t384.length co14, .int .i64 t387, .slice Ao18 t388.length co18, .slice Ao19 t391.length co19, .slice none 0 0]) ?_ 4 _ rfl; (with_reducible repeat (first | refine blk_drewN ?_ _ | refine blk_drew ?_ | refine blk_alloc ?_ _)); refine blk_put (cs := #[.slice Ao14 t384.length co14, .int .i64 t387, .slice Ao18 t388.length co18, .slice none 0 0, .slice none 0 0]) ?_ 3 _ rfl; (with_reducible repeat (first | refine blk_drewN ?_ _ | refine blk_drew ?_ | refine blk_alloc ?_ _)); refine blk_put (cs := #[.slice Ao14 t384.length co14, .int .i64 t387, .slice none 0 0, .slice none 0 0, .slice none 0 0]) ?_ 2 _ rfl; (with_reducible repeat (first | refine blk_drewN ?_ _ | refine blk_drew ?_ | refine blk_alloc ?_ _)); refine blk_put (cs := #[.slice Ao14 t384.length co14, .int .i64 0, .slice none 0 0, .slice none 0 0, .slice none 0 0]) ?_ 1 _ rfl; (with_reducible repeat (first | refine blk_drewN ?_ _ | refine blk_drew ?_ | refine blk_alloc ?_ _)); refine blk_put (cs := #[.slice none 0 0, .int .i64 0, .slice none 0 0, .slice none 0 0, .slice none 0 0]) ?_ 0 _ rfl; (with_reducible repeat (first | refine blk_drewN ?_ _ | refine blk_drew ?_ | refine blk_alloc ?_ _)); refine blk_far ?_ NB382_397.out _; (with_reducible repeat (first | refine blk_drewN ?_ _ | refine blk_drew ?_ | refine blk_alloc ?_ _)); refine blk_far ?_ NB382_397.out _; (with_reducible repeat (first | refine blk_drewN ?_ _ | refine blk_drew ?_ | refine blk_alloc ?_ _)); refine blk_far ?_ NB382_397.out _; (with_reducible repeat (first | refine blk_drewN ?_ _ | refine blk_drew ?_ | refine blk_alloc ?_ _)); refine blk_far ?_ NB382_397.out _; (with_reducible repeat (first | refine blk_drewN ?_ _ | refine blk_drew ?_ | refine blk_alloc ?_ _)); refine blk_far ?_ NB382_397.out _; (with_reducible repeat (first | refine blk_drewN ?_ _ | refine blk_drew ?_ | refine blk_alloc ?_ _)); exact BK382.out) Try.underlying27 rfl (by kernel_rfl)) rfl ?_
   exact ⟨_, _, _, _, er, Kd.Q_of_R (by (with_reducible repeat (first | apply Kd.R_alloc | apply Kd.R_drewN | apply Kd.R_drew)); exact Kd.R_mono (Kd.R_far (p := ⟨gb382, 4, none⟩) (Kd.R_far (p := ⟨gb382, 3, none⟩) (Kd.R_far (p := ⟨gb382, 2, none⟩) (Kd.R_far (p := ⟨gb382, 1, none⟩) (Kd.R_far (p := ⟨gb382, 0, none⟩) (Kd.R_far (p := ⟨gb397, 4, none⟩) (Kd.R_far (p := ⟨gb397, 3, none⟩) (Kd.R_far (p := ⟨gb397, 2, none⟩) (Kd.R_far (p := ⟨gb397, 1, none⟩) (Kd.R_far (p := ⟨gb397, 0, none⟩) (Kd.R_types (Kd.R_types HO386.out BK397.out (by decide)) BK382.out (by decide)) (fun _ hk => hk.1.2) (.slice Ao14 t384.length co14)) (fun _ hk => hk.1.2) (.int .i64 t387)) (fun _ hk => hk.1.2) (.slice Ao18 t388.length co18)) (fun _ hk => hk.1.2) (.slice Ao19 t391.length co19)) (fun _ hk => hk.1.2) (.slice Ao20 t394.length co20)) (fun _ hk => hk.2) (.slice Ao14 t384.length co14)) (fun _ hk => hk.2) (.int .i64 t387)) (fun _ hk => hk.2) (.slice Ao18 t388.length co18)) (fun _ hk => hk.2) (.slice Ao19 t391.length co19)) (fun _ hk => hk.2) (.slice Ao20 t394.length co20)) (fun _ hk => ⟨hk.1.1.1, hk.1.1.2⟩)), by (with_reducible repeat (first | apply Kd.R_alloc | apply Kd.R_drewN | apply Kd.R_drew)); exact Kd.R_mono (Kd.R_far (p := ⟨gb382, 4, none⟩) (Kd.R_far (p := ⟨gb382, 3, none⟩) (Kd.R_far (p := ⟨gb382, 2, none⟩) (Kd.R_far (p := ⟨gb382, 1, none⟩) (Kd.R_far (p := ⟨gb382, 0, none⟩) (Kd.R_far (p := ⟨gb397, 4, none⟩) (Kd.R_far (p := ⟨gb397, 3, none⟩) (Kd.R_far (p := ⟨gb397, 2, none⟩) (Kd.R_far (p := ⟨gb397, 1, none⟩) (Kd.R_far (p := ⟨gb397, 0, none⟩) (Kd.R_types (Kd.R_types HO390.out BK397.out (by decide)) BK382.out (by decide)) (fun _ hk => hk.1.2) (.slice Ao14 t384.length co14)) (fun _ hk => hk.1.2) (.int .i64 t387)) (fun _ hk => hk.1.2) (.slice Ao18 t388.length co18)) (fun _ hk => hk.1.2) (.slice Ao19 t391.length co19)) (fun _ hk => hk.1.2) (.slice Ao20 t394.length co20)) (fun _ hk => hk.2) (.slice Ao14 t384.length co14)) (fun _ hk => hk.2) (.int .i64 t387)) (fun _ hk => hk.2) (.slice Ao18 t388.length co18)) (fun _ hk => hk.2) (.slice Ao19 t391.length co19)) (fun _ hk => hk.2) (.slice Ao20 t394.length co20)) (fun _ hk => ⟨hk.1.1.1, hk.1.1.2⟩), by (with_reducible repeat (first | apply Kd.R_alloc | apply Kd.R_drewN | apply Kd.R_drew)); exact Kd.R_mono (Kd.R_far (p := ⟨gb382, 4, none⟩) (Kd.R_far (p := ⟨gb382, 3, none⟩) (Kd.R_far (p := ⟨gb382, 2, none⟩) (Kd.R_far (p := ⟨gb382, 1, none⟩) (Kd.R_far (p := ⟨gb382, 0, none⟩) (Kd.R_far (p := ⟨gb397, 4, none⟩) (Kd.R_far (p := ⟨gb397, 3, none⟩) (Kd.R_far (p := ⟨gb397, 2, none⟩) (Kd.R_far (p := ⟨gb397, 1, none⟩) (Kd.R_far (p := ⟨gb397, 0, none⟩) (Kd.R_types (Kd.R_types HO393.out BK397.out (by decide)) BK382.out (by decide)) (fun _ hk => hk.1.2) (.slice Ao14 t384.length co14)) (fun _ hk => hk.1.2) (.int .i64 t387)) (fun _ hk => hk.1.2) (.slice Ao18 t388.length co18)) (fun _ hk => hk.1.2) (.slice Ao19 t391.length co19)) (fun _ hk => hk.1.2) (.slice Ao20 t394.length co20)) (fun _ hk => hk.2) (.slice Ao14 t384.length co14)) (fun _ hk => hk.2) (.int .i64 t387)) (fun _ hk => hk.2) (.slice Ao18 t388.length co18)) (fun _ hk => hk.2) (.slice Ao19 t391.length co19)) (fun _ hk => hk.2) (.slice Ao20 t394.length co20)) (fun _ hk => trivial), by (with_reducible repeat (first | apply Kd.R_alloc | apply Kd.R_drewN | apply Kd.R_drew)); exact Kd.R_mono (Kd.R_far (p := ⟨gb382, 4, none⟩) (Kd.R_far (p := ⟨gb382, 3, none⟩) (Kd.R_far (p := ⟨gb382, 2, none⟩) (Kd.R_far (p := ⟨gb382, 1, none⟩) (Kd.R_far (p := ⟨gb382, 0, none⟩) (Kd.R_far (p := ⟨gb397, 4, none⟩) (Kd.R_far (p := ⟨gb397, 3, none⟩) (Kd.R_far (p := ⟨gb397, 2, none⟩) (Kd.R_far (p := ⟨gb397, 1, none⟩) (Kd.R_far (p := ⟨gb397, 0, none⟩) (Kd.R_types (Kd.R_types HO396.out BK397.out (by decide)) BK382.out (by decide)) (fun _ hk => hk.1.2) (.slice Ao14 t384.length co14)) (fun _ hk => hk.1.2) (.int .i64 t387)) (fun _ hk => hk.1.2) (.slice Ao18 t388.length co18)) (fun _ hk => hk.1.2) (.slice Ao19 t391.length co19)) (fun _ hk => hk.1.2) (.slice Ao20 t394.length co20)) (fun _ hk => hk.2) (.slice Ao14 t384.length co14)) (fun _ hk => hk.2) (.int .i64 t387)) (fun _ hk => hk.2) (.slice Ao18 t388.length co18)) (fun _ hk => hk.2) (.slice Ao19 t391.length co19)) (fun _ hk => hk.2) (.slice Ao20 t394.length co20)) (fun _ hk => ⟨hk.1.1.1, hk.1.1.2⟩), be3 HB GE381 GE382 GE397⟩
  rw [if_neg c5] at H
  have c5b0 : ((l0_0.length : Int) == 0) = false := beq_eq_false_iff_ne.mpr c5
  have c5b1 : ((l0_0.length : Int) != 0) = true := bne_iff_ne.mpr c5
  have c5b2 : ¬ (l0_0 = []) := fun h_ => c5 (by rw [h_]; rfl)
  by_cases c23 : 1 ≤ (t384.length : Int)
  ·rw [if_pos c23] at H
   have c23b0 := eq_true c23
   have c23b1 : decide (1 ≤ (t384.length : Int)) = true := decide_eq_true c23
   clear c23
   obtain ⟨y398, hy398⟩ : ∃ y_ : List Int, y_ = (t384.drop (1 : Int).toNat) := ⟨_, rfl⟩
   replace H : (if 0 < (l0_0.length : Int) then (if t394.length < 17592186044416 then ((slices_Sort_int_int.f k (t394 ++ [rd l0_0 0])).bind fun t405 => (some (y398, t387, t388, t391, t405, rd l0_0 0, true))) else (none)) else (none)) = some (r1, r2, r3, r4, r5, r6, r7) := by first | (rw [hy398]; with_reducible exact H) | (have H2_ := (Option.bind_some _ _).symm.trans H; rw [hy398]; with_reducible exact H2_) | (have H2_ := (Option.bind_some _ _).symm.trans H; with_reducible exact H2_) | with_reducible exact H | (rw [hy398]; exact H) | exact H
   have Ny398 := Aside0.mk hy398
   clear hy398
   by_cases c24 : 0 < (l0_0.length : Int)
   ·rw [if_pos c24] at H
    have c24b0 : decide (0 < (l0_0.length : Int)) = true := decide_eq_true c24
    have c24b1 : decide (0 < l0_0.length) = true := decide_eq_true (by omega)
    clear c24
    by_cases c25 : t394.length < 17592186044416
    ·rw [if_pos c25] at H
     have LMc25 := Aside0.mk c25
     clear c25
     obtain ⟨y402, hy402⟩ : ∃ y_ : List Int, y_ = (t394 ++ [rd l0_0 0]) := ⟨_, rfl⟩
     replace H : ((slices_Sort_int_int.f k y402).bind fun t405 => (some (y398, t387, t388, t391, t405, rd l0_0 0, true))) = some (r1, r2, r3, r4, r5, r6, r7) := by first | (rw [hy402]; with_reducible exact H) | (have H2_ := (Option.bind_some _ _).symm.trans H; rw [hy402]; with_reducible exact H2_) | (have H2_ := (Option.bind_some _ _).symm.trans H; with_reducible exact H2_) | with_reducible exact H | (rw [hy402]; exact H) | exact H
     have Ny402 := Aside0.mk hy402
     clear hy402
     replace H := Option.bind_eq_some_iff.mp H
     obtain ⟨t405, A260, H⟩ := H
     replace H : (some (y398, t387, t388, t391, t405, rd l0_0 0, true)) = some (r1, r2, r3, r4, r5, r6, r7) := H
     have A26 := Aside0.mk A260
     clear A260
     simp only [Option.some.injEq, Prod.mk.injEq] at H
     obtain ⟨rfl, rfl, rfl, rfl, rfl, rfl, rfl⟩ := H
     go_enter Try.func26, Try.ntmps26
     try go_wp2_with (first | ((with_reducible refine gate_dst (N := 1) rfl ?_); refine bx 1 #[.slice A0_0 l0_0.length c0_0, .int .i64 a0_1, .slice A0_2 l0_2.length c0_2, .slice A0_3 l0_3.length c0_3, .slice A0_4 l0_4.length c0_4] 27 ?_; intro gb381 hg w27 hbox hb; have BK381 := am hbox; have GW381 := gs0 hg HB; have GE381 := gs0 hg HB; replace HB := s0 HB hb; clear hb hbox hg) | ((with_reducible refine gate_dst (N := 2) rfl ?_); refine bx 2 #[.slice none 0 0, .int .i64 0, .slice none 0 0, .slice none 0 0, .slice none 0 0] 27 ?_; intro gb382 hg w28 hbox hb; have BK382 := am hbox; have GW382 := gs1 hg HB GE381; have GE382 := gs1 hg HB GE381; replace HB := Aside0.mk (below_step (be1 HB GE381) hb); have NB381_382 := Aside0.mk ((by rw [hg]; exact Nat.ne_of_lt (bl BK381) : gb381 ≠ gb382)); have NB382_381 := Aside0.mk ((by rw [hg]; exact Nat.ne_of_gt (bl BK381) : gb382 ≠ gb381)); replace BK381 := bb BK381 hb; clear hb hbox hg; have hnb29 := NB381_382.out; have hnc29 := NB382_381.out; have hcz30_0 := bz5 BK381) | ((with_reducible refine gate_callee (f := 22) rfl ?_); refine gl 7 Try.func22 #[.agg #[.slice A0_0 l0_0.length c0_0, .int .i64 a0_1, .slice A0_2 l0_2.length c0_2, .slice A0_3 l0_3.length c0_3, .slice A0_4 l0_4.length c0_4]] ?_; (with_reducible refine (impl_PoolOk.calls k _ _ l0_0 a0_1 _ _ l0_2 _ _ l0_3 _ _ l0_4 true _ (cb HR0_0 HB) HC0_0.out (cb HR0_2 HB) HC0_2.out (cb HR0_3 HB) HC0_3.out (cb HR0_4 HB) HC0_4.out A2.out).mono ?_); rintro e w31 ⟨rfl, hb⟩; refine ⟨_, rfl, ?_⟩; replace BK381 := bb BK381 hb; replace BK382 := bb BK382 hb; replace HB := Aside0.mk (below_step (be2 HB GE381 GE382) hb); (try clear hb); have hcz32_0 := bz5 BK381) | ((with_reducible refine gate_callee (f := 66) rfl ?_); refine gl 11 Try.func66 #[.agg #[.slice A0_0 l0_0.length c0_0, .int .i64 a0_1, .slice A0_2 l0_2.length c0_2, .slice A0_3 l0_3.length c0_3, .slice A0_4 l0_4.length c0_4]] ?_; (with_reducible refine (impl_copyPool.calls _ _ l0_0 a0_1 _ _ l0_2 _ _ l0_3 _ _ l0_4 t384 t387 t388 t391 t394 _ (cb HR0_0 HB) HC0_0.out (cb HR0_2 HB) HC0_2.out (cb HR0_3 HB) HC0_3.out (cb HR0_4 HB) HC0_4.out A4.out).mono ?_); rintro e w33 ⟨v385, v389, v392, v395, rfl, ho0, ho1, ho2, ho3, hb⟩; refine ⟨_, rfl, ?_⟩; have HO386 := Aside0.mk (Kd.R_lower ho0 (below_size (be2 HB GE381 GE382))); have HO390 := Aside0.mk (Kd.R_lower ho1 (below_size (be2 HB GE381 GE382))); have HO393 := Aside0.mk (Kd.R_lower ho2 (below_size (be2 HB GE381 GE382))); have HO396 := Aside0.mk (Kd.R_lower ho3 (below_size (be2 HB GE381 GE382))); replace BK381 := bb BK381 hb; replace BK382 := bb BK382 hb; replace HB := Aside0.mk (below_step (be2 HB GE381 GE382) hb); (try clear hb); (try clear ho0); (try clear ho1); (try clear ho2); (try clear ho3)) | ((with_reducible refine gate_dst (N := 5) rfl ?_); refine bx 5 #[.slice none 0 0, .int .i64 0, .slice none 0 0, .slice none 0 0, .slice none 0 0] 27 ?_; intro gb397 hg w34 hbox hb; replace HO386 := rb HO386 hb; replace HO390 := rb HO390 hb; replace HO393 := rb HO393 hb; replace HO396 := rb HO396 hb; have BK397 := am hbox; have GW397 := gs2 hg HB GE381 GE382; have GE397 := gs2 hg HB GE381 GE382; replace HB := Aside0.mk (below_step (be2 HB GE381 GE382) hb); have NB381_397 := Aside0.mk ((by rw [hg]; exact Nat.ne_of_lt (bl BK381) : gb381 ≠ gb397)); have NB397_381 := Aside0.mk ((by rw [hg]; exact Nat.ne_of_gt (bl BK381) : gb397 ≠ gb381)); replace BK381 := bb BK381 hb; have NB382_397 := Aside0.mk ((by rw [hg]; exact Nat.ne_of_lt (bl BK382) : gb382 ≠ gb397)); have NB397_382 := Aside0.mk ((by rw [hg]; exact Nat.ne_of_gt (bl BK382) : gb397 ≠ gb382)); replace BK382 := bb BK382 hb; clear hb hbox hg; obtain ⟨Ao35, co35, eo35⟩ := Kd.R_slice HO386.out; subst eo35; have hnb36 := NB397_381.out; have hnc36 := NB381_397.out; have hnb37 := NB397_382.out; have hnc37 := NB382_397.out; have hcz38_0 := bz5 BK397; obtain ⟨Ao39, co39, eo39⟩ := Kd.R_slice HO390.out; subst eo39; obtain ⟨Ao40, co40, eo40⟩ := Kd.R_slice HO393.out; subst eo40; obtain ⟨Ao41, co41, eo41⟩ := Kd.R_slice HO396.out; subst eo41) | ((with_reducible refine gate_store (t := 27) (p := 5) rfl ?_); refine store_event (t := 27) (p := 5) (v := ?vo_w42) (w1 := (((((w34.setCell ⟨gb397, 0, none⟩ (.slice Ao35 t384.length co35)).setCell ⟨gb397, 1, none⟩ (.int .i64 t387)).setCell ⟨gb397, 2, none⟩ (.slice Ao39 t388.length co39)).setCell ⟨gb397, 3, none⟩ (.slice Ao40 t391.length co40)).setCell ⟨gb397, 4, none⟩ (.slice Ao41 t394.length co41))) ?hg ?ho ?hn ?hr ?_; (case ho => rfl); (case hg => rfl); (case hn => rfl); (case hr => first | (go_simp; done) | (go_simp; rfl)); intro w42 hw; have n0_ : Aside0 (Kd.R (Kd.int .i64) 3 w42 w.heap.size (fun k_ => nb k_ Ao39 t388.length co39 ∧ nb k_ Ao41 t394.length co41) (.slice Ao35 t384.length co35) t384) := ⟨(by rw [hw]; exact (by (with_reducible repeat (first | apply Kd.R_alloc | apply Kd.R_drewN | apply Kd.R_drew)); exact Kd.R_mono (Kd.R_far (p := ⟨gb397, 4, none⟩) (Kd.R_far (p := ⟨gb397, 3, none⟩) (Kd.R_far (p := ⟨gb397, 2, none⟩) (Kd.R_far (p := ⟨gb397, 1, none⟩) (Kd.R_far (p := ⟨gb397, 0, none⟩) (Kd.R_types HO386.out BK397.out (by decide)) (fun _ hk => hk.2) (.slice Ao35 t384.length co35)) (fun _ hk => hk.2) (.int .i64 t387)) (fun _ hk => hk.2) (.slice Ao39 t388.length co39)) (fun _ hk => hk.2) (.slice Ao40 t391.length co40)) (fun _ hk => hk.2) (.slice Ao41 t394.length co41)) (fun _ hk => ⟨hk.1.1, hk.1.2⟩)))⟩; have n1_ : Aside0 (Kd.R (Kd.int .i64) 3 w42 w.heap.size (fun k_ => nb k_ Ao35 t384.length co35 ∧ nb k_ Ao41 t394.length co41) (.slice Ao39 t388.length co39) t388) := ⟨(by rw [hw]; exact (by (with_reducible repeat (first | apply Kd.R_alloc | apply Kd.R_drewN | apply Kd.R_drew)); exact Kd.R_mono (Kd.R_far (p := ⟨gb397, 4, none⟩) (Kd.R_far (p := ⟨gb397, 3, none⟩) (Kd.R_far (p := ⟨gb397, 2, none⟩) (Kd.R_far (p := ⟨gb397, 1, none⟩) (Kd.R_far (p := ⟨gb397, 0, none⟩) (Kd.R_types HO390.out BK397.out (by decide)) (fun _ hk => hk.2) (.slice Ao35 t384.length co35)) (fun _ hk => hk.2) (.int .i64 t387)) (fun _ hk => hk.2) (.slice Ao39 t388.length co39)) (fun _ hk => hk.2) (.slice Ao40 t391.length co40)) (fun _ hk => hk.2) (.slice Ao41 t394.length co41)) (fun _ hk => ⟨hk.1.1, hk.1.2⟩)))⟩; have n2_ : Aside0 (Kd.R k70 70 w42 w.heap.size (fun _ => True) (.slice Ao40 t391.length co40) t391) := ⟨(by rw [hw]; exact (by (with_reducible repeat (first | apply Kd.R_alloc | apply Kd.R_drewN | apply Kd.R_drew)); exact Kd.R_mono (Kd.R_far (p := ⟨gb397, 4, none⟩) (Kd.R_far (p := ⟨gb397, 3, none⟩) (Kd.R_far (p := ⟨gb397, 2, none⟩) (Kd.R_far (p := ⟨gb397, 1, none⟩) (Kd.R_far (p := ⟨gb397, 0, none⟩) (Kd.R_types HO393.out BK397.out (by decide)) (fun _ hk => hk.2) (.slice Ao35 t384.length co35)) (fun _ hk => hk.2) (.int .i64 t387)) (fun _ hk => hk.2) (.slice Ao39 t388.length co39)) (fun _ hk => hk.2) (.slice Ao40 t391.length co40)) (fun _ hk => hk.2) (.slice Ao41 t394.length co41)) (fun _ hk => trivial)))⟩; have n3_ : Aside0 (Kd.R (Kd.int .i64) 3 w42 w.heap.size (fun k_ => nb k_ Ao35 t384.length co35 ∧ nb k_ Ao39 t388.length co39) (.slice Ao41 t394.length co41) t394) := ⟨(by rw [hw]; exact (by (with_reducible repeat (first | apply Kd.R_alloc | apply Kd.R_drewN | apply Kd.R_drew)); exact Kd.R_mono (Kd.R_far (p := ⟨gb397, 4, none⟩) (Kd.R_far (p := ⟨gb397, 3, none⟩) (Kd.R_far (p := ⟨gb397, 2, none⟩) (Kd.R_far (p := ⟨gb397, 1, none⟩) (Kd.R_far (p := ⟨gb397, 0, none⟩) (Kd.R_types HO396.out BK397.out (by decide)) (fun _ hk => hk.2) (.slice Ao35 t384.length co35)) (fun _ hk => hk.2) (.int .i64 t387)) (fun _ hk => hk.2) (.slice Ao39 t388.length co39)) (fun _ hk => hk.2) (.slice Ao40 t391.length co40)) (fun _ hk => hk.2) (.slice Ao41 t394.length co41)) (fun _ hk => ⟨hk.1.1, hk.1.2⟩)))⟩; have n4_ : Aside0 (w42.heap[gb381]? = some (.cells #[.slice A0_0 l0_0.length c0_0, .int .i64 a0_1, .slice A0_2 l0_2.length c0_2, .slice A0_3 l0_3.length c0_3, .slice A0_4 l0_4.length c0_4] 27 (0, 0))) := ⟨(by rw [hw]; exact (bf1 BK381 NB381_397))⟩; have n5_ : Aside0 (w42.heap[gb382]? = some (.cells #[.slice none 0 0, .int .i64 0, .slice none 0 0, .slice none 0 0, .slice none 0 0] 27 (0, 0))) := ⟨(by rw [hw]; exact (bf1 BK382 NB382_397))⟩; have n6_ : Aside0 (w42.heap[gb397]? = some (.cells #[.slice Ao35 t384.length co35, .int .i64 t387, .slice Ao39 t388.length co39, .slice Ao40 t391.length co40, .slice Ao41 t394.length co41] 27 (0, 0))) := ⟨(by rw [hw]; exact (by (with_reducible repeat (first | refine blk_drewN ?_ _ | refine blk_drew ?_ | refine blk_alloc ?_ _)); refine blk_put (cs := #[.slice Ao35 t384.length co35, .int .i64 t387, .slice Ao39 t388.length co39, .slice Ao40 t391.length co40, .slice none 0 0]) ?_ 4 _ rfl; (with_reducible repeat (first | refine blk_drewN ?_ _ | refine blk_drew ?_ | refine blk_alloc ?_ _)); refine blk_put (cs := #[.slice Ao35 t384.length co35, .int .i64 t387, .slice Ao39 t388.length co39, .slice none 0 0, .slice none 0 0]) ?_ 3 _ rfl; (with_reducible repeat (first | refine blk_drewN ?_ _ | refine blk_drew ?_ | refine blk_alloc ?_ _)); refine blk_put (cs := #[.slice Ao35 t384.length co35, .int .i64 t387, .slice none 0 0, .slice none 0 0, .slice none 0 0]) ?_ 2 _ rfl; (with_reducible repeat (first | refine blk_drewN ?_ _ | refine blk_drew ?_ | refine blk_alloc ?_ _)); refine blk_put (cs := #[.slice Ao35 t384.length co35, .int .i64 0, .slice none 0 0, .slice none 0 0, .slice none 0 0]) ?_ 1 _ rfl; (with_reducible repeat (first | refine blk_drewN ?_ _ | refine blk_drew ?_ | refine blk_alloc ?_ _)); refine blk_put (cs := #[.slice none 0 0, .int .i64 0, .slice none 0 0, .slice none 0 0, .slice none 0 0]) ?_ 0 _ rfl; (with_reducible repeat (first | refine blk_drewN ?_ _ | refine blk_drew ?_ | refine blk_alloc ?_ _)); exact BK397.out))⟩; have n7_ : Aside0 (Below w.heap.size w w42) := ⟨(by rw [hw]; exact (be3 HB GE381 GE382 GE397))⟩; clear hw; clear HO386; clear HO390; clear HO393; clear HO396; clear BK381; clear BK382; clear BK397; clear HB; have HO386 := n0_; have HO390 := n1_; have HO393 := n2_; have HO396 := n3_; have BK381 := n4_; have BK382 := n5_; have BK397 := n6_; have HB := n7_; clear n0_ n1_ n2_ n3_ n4_ n5_ n6_ n7_; have hcz43_0 := bz5 BK381; have hcz44_0 := bz5 BK397; have q45 : (1 : Int) ≤ ((t384.length : Int) : Int) := od; obtain ⟨i045, hi045, _, hsz45, _⟩ := info_parts info3; have hcut45 := cut_from (P := Try.prog) 22 3 .i64 Try.underlying22 hi045 1 hsz45 Ao35 t384.length co35 1 (by omega) q45; have hr45 := Kd.Q_drop (k := (1 : Int).toNat) (Kd.Q_of_R HO386.out) (by omega); obtain ⟨A45, hA45⟩ : ∃ A1, A1 = (if co35 = (1 : Int).toNat then Ao35 else (Ao35 : Option Addr).map (·.add ((1 : Int).toNat * 1))) := ⟨_, rfl⟩; obtain ⟨c45, hc45⟩ : ∃ c1, c1 = co35 - (1 : Int).toNat := ⟨_, rfl⟩; have hy45 : y398.length = t384.length - (1 : Int).toNat := (by rw [Ny398.out, List.length_drop]); rw [← Ny398.out] at hr45; rw [← hy45, ← hA45, ← hc45] at hcut45; replace hr45 : Kd.Q (Kd.int .i64) 3 w42 w.heap.size (fun k_ => nb k_ Ao39 t388.length co39 ∧ nb k_ Ao41 t394.length co41) (.slice A45 y398.length c45) y398 := (by rw [hA45, hc45, hy45]; exact hr45); have HE45 : Aside0 ((Value.slice A45 y398.length c45).ownBlock = (.slice Ao35 t384.length co35 : Value).ownBlock) := ⟨by rw [hA45]; split <;> (cases (Ao35 : Option Addr) <;> rfl)⟩; clear hy45 hi045 hsz45 HO386 hA45 hc45; have HO400 := Aside0.mk hr45; clear hr45; replace q45 := eq_true q45; have n_ := Aside0.mk (Kd.R_mono (ok' := fun k_ => (nb k_ A45 y398.length c45 ∧ nb k_ Ao41 t394.length co41)) HO390.out (fun k_ hk => ⟨(fun e_ => hk.1 (e_.trans HE45.out)), hk.2⟩)); clear HO390; have HO390 := n_; clear n_; have n_ := Aside0.mk (Kd.R_mono (ok' := fun k_ => (nb k_ A45 y398.length c45 ∧ nb k_ Ao39 t388.length co39)) HO396.out (fun k_ hk => ⟨(fun e_ => hk.1 (e_.trans HE45.out)), hk.2⟩)); clear HO396; have HO396 := n_; clear n_))
     have n0_ : Aside0 (Kd.Q (Kd.int .i64) 3 (w42.setCell ⟨gb397, 0, none⟩ (.slice A45 y398.length c45)) w.heap.size (fun k_ => nb k_ Ao39 t388.length co39 ∧ nb k_ Ao41 t394.length co41) (.slice A45 y398.length c45) y398) := ⟨by (with_reducible repeat (first | apply Kd.Q_alloc | apply Kd.Q_drewN | apply Kd.Q_drew)); exact Kd.Q_mono (Kd.Q_far (p := ⟨gb397, 0, none⟩) (Kd.Q_types HO400.out BK397.out (by decide)) (fun _ hk => hk.2) (.slice A45 y398.length c45)) (fun _ hk => ⟨hk.1.1, hk.1.2⟩)⟩
     have n1_ : Aside0 (Kd.R (Kd.int .i64) 3 (w42.setCell ⟨gb397, 0, none⟩ (.slice A45 y398.length c45)) w.heap.size (fun k_ => nb k_ A45 y398.length c45 ∧ nb k_ Ao41 t394.length co41) (.slice Ao39 t388.length co39) t388) := ⟨by (with_reducible repeat (first | apply Kd.R_alloc | apply Kd.R_drewN | apply Kd.R_drew)); exact Kd.R_mono (Kd.R_far (p := ⟨gb397, 0, none⟩) (Kd.R_types HO390.out BK397.out (by decide)) (fun _ hk => hk.2) (.slice A45 y398.length c45)) (fun _ hk => ⟨hk.1.1, hk.1.2⟩)⟩
     have n2_ : Aside0 (Kd.R k70 70 (w42.setCell ⟨gb397, 0, none⟩ (.slice A45 y398.length c45)) w.heap.size (fun _ => True) (.slice Ao40 t391.length co40) t391) := ⟨by (with_reducible repeat (first | apply Kd.R_alloc | apply Kd.R_drewN | apply Kd.R_drew)); exact Kd.R_mono (Kd.R_far (p := ⟨gb397, 0, none⟩) (Kd.R_types HO393.out BK397.out (by decide)) (fun _ hk => hk.2) (.slice A45 y398.length c45)) (fun _ hk => trivial)⟩
     have n3_ : Aside0 (Kd.R (Kd.int .i64) 3 (w42.setCell ⟨gb397, 0, none⟩ (.slice A45 y398.length c45)) w.heap.size (fun k_ => nb k_ A45 y398.length c45 ∧ nb k_ Ao39 t388.length co39) (.slice Ao41 t394.length co41) t394) := ⟨by (with_reducible repeat (first | apply Kd.R_alloc | apply Kd.R_drewN | apply Kd.R_drew)); exact Kd.R_mono (Kd.R_far (p := ⟨gb397, 0, none⟩) (Kd.R_types HO396.out BK397.out (by decide)) (fun _ hk => hk.2) (.slice A45 y398.length c45)) (fun _ hk => ⟨hk.1.1, hk.1.2⟩)⟩
     have n4_ : Aside0 ((w42.setCell ⟨gb397, 0, none⟩ (.slice A45 y398.length c45)).heap[gb381]? = some (.cells #[.slice A0_0 l0_0.length c0_0, .int .i64 a0_1, .slice A0_2 l0_2.length c0_2, .slice A0_3 l0_3.length c0_3, .slice A0_4 l0_4.length c0_4] 27 (0, 0))) := ⟨by (with_reducible repeat (first | refine blk_drewN ?_ _ | refine blk_drew ?_ | refine blk_alloc ?_ _)); refine blk_far ?_ NB381_397.out _; (with_reducible repeat (first | refine blk_drewN ?_ _ | refine blk_drew ?_ | refine blk_alloc ?_ _)); exact BK381.out⟩
     have n5_ : Aside0 ((w42.setCell ⟨gb397, 0, none⟩ (.slice A45 y398.length c45)).heap[gb382]? = some (.cells #[.slice none 0 0, .int .i64 0, .slice none 0 0, .slice none 0 0, .slice none 0 0] 27 (0, 0))) := ⟨by (with_reducible repeat (first | refine blk_drewN ?_ _ | refine blk_drew ?_ | refine blk_alloc ?_ _)); refine blk_far ?_ NB382_397.out _; (with_reducible repeat (first | refine blk_drewN ?_ _ | refine blk_drew ?_ | refine blk_alloc ?_ _)); exact BK382.out⟩
     have n6_ : Aside0 ((w42.setCell ⟨gb397, 0, none⟩ (.slice A45 y398.length c45)).heap[gb397]? = some (.cells #[.slice A45 y398.length c45, .int .i64 t387, .slice Ao39 t388.length co39, .slice Ao40 t391.length co40, .slice Ao41 t394.length co41] 27 (0, 0))) := ⟨by (with_reducible repeat (first | refine blk_drewN ?_ _ | refine blk_drew ?_ | refine blk_alloc ?_ _)); refine blk_put (cs := #[.slice Ao35 t384.length co35, .int .i64 t387, .slice Ao39 t388.length co39, .slice Ao40 t391.length co40, .slice Ao41 t394.length co41]) ?_ 0 _ rfl; (with_reducible repeat (first | refine blk_drewN ?_ _ | refine blk_drew ?_ | refine blk_alloc ?_ _)); exact BK397.out⟩
     have n7_ : Aside0 (Below w.heap.size w (w42.setCell ⟨gb397, 0, none⟩ (.slice A45 y398.length c45))) := ⟨be3 HB GE381 GE382 GE397⟩
     (try clear HO400)
     (try clear HO390)
     (try clear HO393)
     (try clear HO396)
     (try clear BK381)
     (try clear BK382)
     (try clear BK397)
     (try clear HB)
     generalize (w42.setCell ⟨gb397, 0, none⟩ (.slice A45 y398.length c45)) = w46 at n0_ n1_ n2_ n3_ n4_ n5_ n6_ n7_ ⊢
     have HO400 := n0_
     have HO390 := n1_
     have HO393 := n2_
     have HO396 := n3_
     have BK381 := n4_
     have BK382 := n5_
     have BK397 := n6_
     have HB := n7_
     clear n0_ n1_ n2_ n3_ n4_ n5_ n6_ n7_
     have n0_ := Aside0.mk (Kd.Q_drew HO400.out)
     have n1_ := Aside0.mk (Kd.R_drew HO390.out)
     have n2_ := Aside0.mk (Kd.R_drew HO393.out)
     have n3_ := Aside0.mk (Kd.R_drew HO396.out)
     have n4_ := Aside0.mk (blk_drew BK381.out)
     have n5_ := Aside0.mk (blk_drew BK382.out)
     have n6_ := Aside0.mk (blk_drew BK397.out)
     have n7_ := Aside0.mk (below_drew1 HB.out)
     clear HO400
     clear HO390
     clear HO393
     clear HO396
     clear BK381
     clear BK382
     clear BK397
     clear HB
     have HO400 := n0_
     have HO390 := n1_
     have HO393 := n2_
     have HO396 := n3_
     have BK381 := n4_
     have BK382 := n5_
     have BK397 := n6_
     have HB := n7_
     clear n0_ n1_ n2_ n3_ n4_ n5_ n6_ n7_
     have p401 : 0 ≤ (0 : Int) := (by omega)
     have q401 : 0 < (l0_0.length : Int) := od
     obtain ⟨ad401, e401, hx401_0⟩ := Kd.at_int HR0_0.out 0 p401 q401
     have hw401_0 := hx401_0
     (try rw [show ((0 : Int)).toNat = 0 from rfl] at hw401_0)
     (try rw [show 0 * 1 = 0 from rfl] at hw401_0)
     (try rw [Addr.add_zero'] at hw401_0)
     cases e401
     have qi401 : (0 < l0_0.length) = True := eq_true (by omega)
     (try rw [show ((0 : Int)).toNat = 0 from rfl] at hx401_0)
     (try rw [Addr.add_zero'] at hx401_0)
     replace hx401_0 := hc HB hx401_0
     replace p401 := eq_true p401
     replace q401 := eq_true q401
     refine start_ (n := 10) (S := fun w' => w'.cell? ⟨gb397, 0, none⟩ = some (.slice A45 y398.length c45) ∧ w'.cell? ⟨gb397, 1, none⟩ = some (.int .i64 t387) ∧ w'.cell? ⟨gb397, 2, none⟩ = some (.slice Ao39 t388.length co39) ∧ w'.cell? ⟨gb397, 3, none⟩ = some (.slice Ao40 t391.length co40) ∧ w'.cell? ⟨gb397, 4, none⟩ = some (.slice Ao41 t394.length co41) ∧ w'.cell? ⟨gb381, 0, none⟩ = some (.slice (some ad401) l0_0.length c0_0) ∧ w'.cell? ⟨gb381, 1, none⟩ = some (.int .i64 a0_1) ∧ w'.cell? ⟨gb381, 2, none⟩ = some (.slice A0_2 l0_2.length c0_2) ∧ w'.cell? ⟨gb381, 3, none⟩ = some (.slice A0_3 l0_3.length c0_3) ∧ w'.cell? ⟨gb381, 4, none⟩ = some (.slice A0_4 l0_4.length c0_4) ∧ w'.cell? ad401 = some (.int .i64 (rd l0_0 0))) (ds := [9]) (bv 10 0x0) (by kernel_rfl) rfl rfl ⟨bc0 BK397, bc1 BK397, bc2 BK397, bc3 BK397, bc4 BK397, bc0 BK381, bc1 BK381, bc2 BK381, bc3 BK381, bc4 BK381, ((HB.out.cell (World.block_lt_of_cell? w _ hw401_0)).trans hw401_0)⟩ (fun hHeld => ?_); refine with_tabW impl_Alloc.tab7 impl_Alloc.bits7 (fun HT_ HW_ => ?_)
     generalize w46.drew = w47 at HO400 HO390 HO393 HO396 BK381 BK382 BK397 HB hx401_0 hHeld ⊢
     refine py HT_ 0 21 (bv 10 0x1) ?_
     refine py HT_ 2 23 (bv 10 0x5) ?_
     refine tk HT_ HW_ hHeld 1 22 (bv 10 0x7) ?_
     refine tk HT_ HW_ hHeld 3 24 (bv 10 0xf) ?_
     refine py HT_ 4 25 (bv 10 0x1f) ?_
     refine tk HT_ HW_ hHeld 5 26 (bv 10 0x3f) ?_
     refine one_ (i := 6) (N := some 27) (bv 10 0x7f) rfl rfl (one_of HT_.out (by kernel_rfl)) (by decide) (fun K hK => ?_)
     refine value_ (w1 := ?_) (v := ?_) (by rfl) rfl ?_ ?_
     rotate_left 2
     ·go_simp
      constructor
      ·rfl
      ·rfl
     refine hK.out _ _ ⟨(blk_cell (blk_alloc BK397.out _) 0).trans rfl, (blk_cell (blk_alloc BK397.out _) 1).trans rfl, (blk_cell (blk_alloc BK397.out _) 2).trans rfl, (blk_cell (blk_alloc BK397.out _) 3).trans rfl, (blk_cell (blk_alloc BK397.out _) 4).trans rfl, (blk_cell (blk_alloc BK381.out _) 0).trans rfl, (blk_cell (blk_alloc BK381.out _) 1).trans rfl, (blk_cell (blk_alloc BK381.out _) 2).trans rfl, (blk_cell (blk_alloc BK381.out _) 3).trans rfl, (blk_cell (blk_alloc BK381.out _) 4).trans rfl, (World.cell?_alloc_lt _ _ _ (World.block_lt_of_cell? _ _ (((HB.out.cell (World.block_lt_of_cell? w _ hw401_0)).trans hw401_0)))).trans (((HB.out.cell (World.block_lt_of_cell? w _ hw401_0)).trans hw401_0))⟩ (fun hHeld => ?_)
     clear hK K
     refine norm_ (a' := ?_) ?_ ?_
     rotate_left
     ·show Act.put _ (some 27) _ = _
      simp only [aP]
      rfl
     refine one_ (i := 7) (N := some 28) (bv 10 0xff) rfl rfl (one_of HT_.out (by kernel_rfl)) (by decide) (fun K hK => ?_)
     refine Kd.R_append_step (Kd.int .i64) (w0 := w) w.heap.size (by rfl) (.tmp 22) (.tmp 27) 22 3 (.int .i64 0) 8 rfl Try.underlying22 info3 rfl (by decide) (by omega) (.slice Ao41 t394.length co41) t394 (rd l0_0 0) [.int .i64 (rd l0_0 0)] (fun k_ => nb k_ A45 y398.length c45 ∧ nb k_ Ao39 t388.length co39) (fun _ => False) rfl rfl ?aP (fun _ hk => hk.elim) ?aF ?aO ?aB ?aS ?aL ?_
     (case aP => exact rfl)
     (case aB => exact (be3 HB GE381 GE382 GE397))
     (case aF => exact (fun k_ hk => ⟨Kd.fresh' (Kd.Q_lt (by (with_reducible repeat (first | apply Kd.Q_alloc | apply Kd.Q_drewN | apply Kd.Q_drew)); exact HO400.out)) k_ hk, Kd.fresh' (Kd.R_lt (ro HO390)) k_ hk⟩))
     (case aO => exact (ro HO396))
     (case aS => exact (below_size (be3 HB GE381 GE382 GE397)))
     (case aL => have := LMc25.out; omega)
     intro v403 w48 ho hb hg hat
     rw [← Ny402.out] at ho
     have n0_ := Aside0.mk (blk_grown (g := gb381) (o := .cells #[.slice (some ad401) l0_0.length c0_0, .int .i64 a0_1, .slice A0_2 l0_2.length c0_2, .slice A0_3 l0_3.length c0_3, .slice A0_4 l0_4.length c0_4] 27 (0, 0)) (bk BK381) hg (Kd.R_ne HO396.out BK381.out (by decide)))
     have n1_ := Aside0.mk (blk_grown (g := gb382) (o := .cells #[.slice none 0 0, .int .i64 0, .slice none 0 0, .slice none 0 0, .slice none 0 0] 27 (0, 0)) (bk BK382) hg (Kd.R_ne HO396.out BK382.out (by decide)))
     have n2_ := Aside0.mk (Kd.Q_after (ok := (fun k_ => nb k_ Ao39 t388.length co39)) (by (with_reducible repeat (first | apply Kd.Q_alloc | apply Kd.Q_drewN | apply Kd.Q_drew)); exact HO400.out) hg hat)
     have n3_ := Aside0.mk (Kd.R_after (ok := (fun k_ => nb k_ A45 y398.length c45)) (ro HO390) hg hat)
     have n4_ := Aside0.mk (Kd.R_over' (ro HO393) (Kd.R_typed (ro HO396)) (by decide) hg)
     have n5_ := Aside0.mk (blk_grown (g := gb397) (o := .cells #[.slice A45 y398.length c45, .int .i64 t387, .slice Ao39 t388.length co39, .slice Ao40 t391.length co40, .slice Ao41 t394.length co41] 27 (0, 0)) (bk BK397) hg (Kd.R_ne HO396.out BK397.out (by decide)))
     have n6_ := Aside0.mk (hb)
     have n7_ := Aside0.mk (ho)
     clear BK381
     clear BK382
     clear HO400
     clear HO390
     clear HO393
     clear BK397
     clear HB
     clear HO396
     have BK381 := n0_
     have BK382 := n1_
     have HO400 := n2_
     have HO390 := n3_
     have HO393 := n4_
     have BK397 := n5_
     have HB := n6_
     have HO404 := n7_
     clear n0_ n1_ n2_ n3_ n4_ n5_ n6_ n7_
     clear ho hb hg hat
     obtain ⟨Ao49, co49, eo49⟩ := Kd.R_slice HO404.out
     (first | subst eo49 | (injection eo49 with f1_ f2_ f3_; have f4_ := f1_.symm; have f5_ := f3_.symm; clear f1_ f2_ f3_; subst f4_; subst f5_))
     refine hK.out _ _ ⟨bc0 BK397, bc1 BK397, bc2 BK397, bc3 BK397, bc4 BK397, bc0 BK381, bc1 BK381, bc2 BK381, bc3 BK381, bc4 BK381, ((HB.out.cell (World.block_lt_of_cell? w _ hw401_0)).trans hw401_0)⟩ (fun hHeld => ?_)
     clear hK K
     refine norm_ (a' := ?_) ?_ ?_
     rotate_left
     ·show Act.put _ (some 28) _ = _
      simp only [aP]
      rfl
     refine py HT_ 8 29 (bv 10 0x1ff) ?_
     refine last_ (i := 9) (N := none) (bv 10 0x3ff) rfl rfl (one_of HT_.out (by kernel_rfl)) (by decide) (fun K hK => ?_)
     have hs50 : w48.cell? ⟨gb397, 4, none⟩ = some (.slice Ao41 t394.length co41) := bc4 BK397
     have hfs50 := blk_frozen BK397.out 4
     have hns50_0 := NB381_397.out
     have hns50_1 := NB382_397.out
     have hms50_0 := NB397_381.out
     have hms50_1 := NB397_382.out
     refine skip_ (w1 := ?_) (by rfl) rfl ?_ ?_
     rotate_left
     ·go_simp
      rfl
     refine hK.out _ _ ?_
     clear hK K
     refine done_ (done_of HT_.out (by kernel_rfl)) ?_
     have n0_ : Aside0 (Kd.Q (Kd.int .i64) 3 (w48.setCell ⟨gb397, 4, none⟩ (.slice Ao49 y402.length co49)) w.heap.size (fun k_ => nb k_ Ao39 t388.length co39 ∧ nb k_ Ao49 y402.length co49) (.slice A45 y398.length c45) y398) := ⟨by (with_reducible repeat (first | apply Kd.Q_alloc | apply Kd.Q_drewN | apply Kd.Q_drew)); exact Kd.Q_mono (Kd.Q_far (p := ⟨gb397, 4, none⟩) (Kd.Q_types HO400.out BK397.out (by decide)) (fun _ hk => hk.2) (.slice Ao49 y402.length co49)) (fun _ hk => ⟨hk.1.1, hk.1.2⟩)⟩
     have n1_ : Aside0 (Kd.R (Kd.int .i64) 3 (w48.setCell ⟨gb397, 4, none⟩ (.slice Ao49 y402.length co49)) w.heap.size (fun k_ => nb k_ A45 y398.length c45 ∧ nb k_ Ao49 y402.length co49) (.slice Ao39 t388.length co39) t388) := ⟨by (with_reducible repeat (first | apply Kd.R_alloc | apply Kd.R_drewN | apply Kd.R_drew)); exact Kd.R_mono (Kd.R_far (p := ⟨gb397, 4, none⟩) (Kd.R_types HO390.out BK397.out (by decide)) (fun _ hk => hk.2) (.slice Ao49 y402.length co49)) (fun _ hk => ⟨hk.1.1, hk.1.2⟩)⟩
     have n2_ : Aside0 (Kd.R k70 70 (w48.setCell ⟨gb397, 4, none⟩ (.slice Ao49 y402.length co49)) w.heap.size (fun _ => True) (.slice Ao40 t391.length co40) t391) := ⟨by (with_reducible repeat (first | apply Kd.R_alloc | apply Kd.R_drewN | apply Kd.R_drew)); exact Kd.R_mono (Kd.R_far (p := ⟨gb397, 4, none⟩) (Kd.R_types HO393.out BK397.out (by decide)) (fun _ hk => hk.2) (.slice Ao49 y402.length co49)) (fun _ hk => trivial)⟩
     have n3_ : Aside0 (Kd.R (Kd.int .i64) 3 (w48.setCell ⟨gb397, 4, none⟩ (.slice Ao49 y402.length co49)) w.heap.size (fun k_ => nb k_ A45 y398.length c45 ∧ nb k_ Ao39 t388.length co39) (.slice Ao49 y402.length co49) y402) := ⟨by (with_reducible repeat (first | apply Kd.R_alloc | apply Kd.R_drewN | apply Kd.R_drew)); exact Kd.R_mono (Kd.R_far (p := ⟨gb397, 4, none⟩) (Kd.R_types HO404.out BK397.out (by decide)) (fun _ hk => hk.2) (.slice Ao49 y402.length co49)) (fun _ hk => ⟨hk.1.1, hk.1.2⟩)⟩
     have n4_ : Aside0 ((w48.setCell ⟨gb397, 4, none⟩ (.slice Ao49 y402.length co49)).heap[gb381]? = some (.cells #[.slice (some ad401) l0_0.length c0_0, .int .i64 a0_1, .slice A0_2 l0_2.length c0_2, .slice A0_3 l0_3.length c0_3, .slice A0_4 l0_4.length c0_4] 27 (0, 0))) := ⟨by (with_reducible repeat (first | refine blk_drewN ?_ _ | refine blk_drew ?_ | refine blk_alloc ?_ _)); refine blk_far ?_ NB381_397.out _; (with_reducible repeat (first | refine blk_drewN ?_ _ | refine blk_drew ?_ | refine blk_alloc ?_ _)); exact BK381.out⟩
     have n5_ : Aside0 ((w48.setCell ⟨gb397, 4, none⟩ (.slice Ao49 y402.length co49)).heap[gb382]? = some (.cells #[.slice none 0 0, .int .i64 0, .slice none 0 0, .slice none 0 0, .slice none 0 0] 27 (0, 0))) := ⟨by (with_reducible repeat (first | refine blk_drewN ?_ _ | refine blk_drew ?_ | refine blk_alloc ?_ _)); refine blk_far ?_ NB382_397.out _; (with_reducible repeat (first | refine blk_drewN ?_ _ | refine blk_drew ?_ | refine blk_alloc ?_ _)); exact BK382.out⟩
     have n6_ : Aside0 ((w48.setCell ⟨gb397, 4, none⟩ (.slice Ao49 y402.length co49)).heap[gb397]? = some (.cells #[.slice A45 y398.length c45, .int .i64 t387, .slice Ao39 t388.length co39, .slice Ao40 t391.length co40, .slice Ao49 y402.length co49] 27 (0, 0))) := ⟨by (with_reducible repeat (first | refine blk_drewN ?_ _ | refine blk_drew ?_ | refine blk_alloc ?_ _)); refine blk_put (cs := #[.slice A45 y398.length c45, .int .i64 t387, .slice Ao39 t388.length co39, .slice Ao40 t391.length co40, .slice Ao41 t394.length co41]) ?_ 4 _ rfl; (with_reducible repeat (first | refine blk_drewN ?_ _ | refine blk_drew ?_ | refine blk_alloc ?_ _)); exact BK397.out⟩
     have n7_ : Aside0 (Below w.heap.size w (w48.setCell ⟨gb397, 4, none⟩ (.slice Ao49 y402.length co49))) := ⟨be3 HB GE381 GE382 GE397⟩
     (try clear HO400)
     (try clear HO390)
     (try clear HO393)
     (try clear HO404)
     (try clear BK381)
     (try clear BK382)
     (try clear BK397)
     (try clear HB)
     generalize (w48.setCell ⟨gb397, 4, none⟩ (.slice Ao49 y402.length co49)) = w51 at n0_ n1_ n2_ n3_ n4_ n5_ n6_ n7_ ⊢
     have HO400 := n0_
     have HO390 := n1_
     have HO393 := n2_
     have HO404 := n3_
     have BK381 := n4_
     have BK382 := n5_
     have BK397 := n6_
     have HB := n7_
     clear n0_ n1_ n2_ n3_ n4_ n5_ n6_ n7_
     have hcz52_0 := bz5 BK397
     try go_wp2_with (first | ((with_reducible refine gate_callee (f := 58) rfl ?_); refine gl 32 Try.func58 #[.slice Ao49 y402.length co49] ?_; (with_reducible refine (slices_Sort_int_int.calls k (fun k_ => some k_ = (.slice Ao49 y402.length co49 : Value).ownBlock) (.slice Ao49 y402.length co49) y402 t405 w _ ?side1 ?side2 A26.out).mono ?_); (case side1 => repeat (first | (with_reducible first | exact HB.out | apply below_alloc | apply pw_below_drewN | apply below_drew1 | refine below_set ?_ GE381.out | refine below_set ?_ GE382.out | refine below_set ?_ GE397.out) | exact HB.out)); (case side2 => exact Kd.R_tight rfl HO404.out); rintro e w53 ⟨rfl, hy0, hb, hkp⟩; refine ⟨_, rfl, ?_⟩; replace BK381 := Aside0.mk (blk_kept (bk BK381) hkp (fun hs_ => (fun e_ => (Kd.R_ne HO404.out BK381.out (by decide)) e_) hs_)); replace BK382 := Aside0.mk (blk_kept (bk BK382) hkp (fun hs_ => (fun e_ => (Kd.R_ne HO404.out BK382.out (by decide)) e_) hs_)); replace HO400 := Aside0.mk (Kd.Q_mono (ok' := fun k_ => nb k_ Ao39 t388.length co39 ∧ nb k_ Ao49 y402.length co49) (Kd.Q_keptB (HO400.out) hkp (fun k_ hk_ hs_ => by first | exact hk_.2 hs_ | exact hk_ hs_ | exact hk_.1 hs_ | exact hk_.2 hs_ | exact hk_.1.1 hs_ | exact hk_.1.2 hs_ | exact hk_.2.1 hs_ | exact hk_.2.2 hs_ | exact hk_.1.1.1 hs_ | exact hk_.1.1.2 hs_ | exact hk_.1.2.1 hs_ | exact hk_.1.2.2 hs_ | exact hk_.2.1.1 hs_ | exact hk_.2.1.2 hs_ | exact hk_.2.2.1 hs_ | exact hk_.2.2.2 hs_ | exact hk_.1.1.1.1 hs_ | exact hk_.1.1.1.2 hs_ | exact hk_.1.1.2.1 hs_ | exact hk_.1.1.2.2 hs_ | exact hk_.1.2.1.1 hs_ | exact hk_.1.2.1.2 hs_ | exact hk_.1.2.2.1 hs_ | exact hk_.1.2.2.2 hs_ | exact hk_.2.1.1.1 hs_ | exact hk_.2.1.1.2 hs_ | exact hk_.2.1.2.1 hs_ | exact hk_.2.1.2.2 hs_ | exact hk_.2.2.1.1 hs_ | exact hk_.2.2.1.2 hs_ | exact hk_.2.2.2.1 hs_ | exact hk_.2.2.2.2 hs_)) cj); replace HO390 := Aside0.mk (Kd.R_mono (ok' := fun k_ => nb k_ A45 y398.length c45 ∧ nb k_ Ao49 y402.length co49) (Kd.R_keptB (HO390.out) hkp (fun k_ hk_ hs_ => by first | exact hk_.2 hs_ | exact hk_ hs_ | exact hk_.1 hs_ | exact hk_.2 hs_ | exact hk_.1.1 hs_ | exact hk_.1.2 hs_ | exact hk_.2.1 hs_ | exact hk_.2.2 hs_ | exact hk_.1.1.1 hs_ | exact hk_.1.1.2 hs_ | exact hk_.1.2.1 hs_ | exact hk_.1.2.2 hs_ | exact hk_.2.1.1 hs_ | exact hk_.2.1.2 hs_ | exact hk_.2.2.1 hs_ | exact hk_.2.2.2 hs_ | exact hk_.1.1.1.1 hs_ | exact hk_.1.1.1.2 hs_ | exact hk_.1.1.2.1 hs_ | exact hk_.1.1.2.2 hs_ | exact hk_.1.2.1.1 hs_ | exact hk_.1.2.1.2 hs_ | exact hk_.1.2.2.1 hs_ | exact hk_.1.2.2.2 hs_ | exact hk_.2.1.1.1 hs_ | exact hk_.2.1.1.2 hs_ | exact hk_.2.1.2.1 hs_ | exact hk_.2.1.2.2 hs_ | exact hk_.2.2.1.1 hs_ | exact hk_.2.2.1.2 hs_ | exact hk_.2.2.2.1 hs_ | exact hk_.2.2.2.2 hs_)) cj); replace HO393 := Aside0.mk (Kd.R_mono (ok' := fun k_ => True) (Kd.R_keptB ((Kd.R_apart' HO393.out (Kd.R_typed HO404.out) (by decide))) hkp (fun k_ hk_ hs_ => by first | exact hk_.2 hs_ | exact hk_ hs_ | exact hk_.1 hs_ | exact hk_.2 hs_ | exact hk_.1.1 hs_ | exact hk_.1.2 hs_ | exact hk_.2.1 hs_ | exact hk_.2.2 hs_ | exact hk_.1.1.1 hs_ | exact hk_.1.1.2 hs_ | exact hk_.1.2.1 hs_ | exact hk_.1.2.2 hs_ | exact hk_.2.1.1 hs_ | exact hk_.2.1.2 hs_ | exact hk_.2.2.1 hs_ | exact hk_.2.2.2 hs_ | exact hk_.1.1.1.1 hs_ | exact hk_.1.1.1.2 hs_ | exact hk_.1.1.2.1 hs_ | exact hk_.1.1.2.2 hs_ | exact hk_.1.2.1.1 hs_ | exact hk_.1.2.1.2 hs_ | exact hk_.1.2.2.1 hs_ | exact hk_.1.2.2.2 hs_ | exact hk_.2.1.1.1 hs_ | exact hk_.2.1.1.2 hs_ | exact hk_.2.1.2.1 hs_ | exact hk_.2.1.2.2 hs_ | exact hk_.2.2.1.1 hs_ | exact hk_.2.2.1.2 hs_ | exact hk_.2.2.2.1 hs_ | exact hk_.2.2.2.2 hs_)) (fun k_ hk_ => trivial)); replace BK397 := Aside0.mk (blk_kept (bk BK397) hkp (fun hs_ => (fun e_ => (Kd.R_ne HO404.out BK397.out (by decide)) e_) hs_)); replace HO404 := Aside0.mk (Kd.R_reok rfl hy0 (fun k_ e_ => HO404.out.1 k_ e_)); replace HB := Aside0.mk (hb); (try clear hb); (try clear hkp); (try clear hy0)))
     have n0_ := Aside0.mk (Kd.Q_drew HO400.out)
     have n1_ := Aside0.mk (Kd.R_drew HO390.out)
     have n2_ := Aside0.mk (Kd.R_drew HO393.out)
     have n3_ := Aside0.mk (Kd.R_drew HO404.out)
     have n4_ := Aside0.mk (blk_drew BK381.out)
     have n5_ := Aside0.mk (blk_drew BK382.out)
     have n6_ := Aside0.mk (blk_drew BK397.out)
     have n7_ := Aside0.mk (below_drew1 HB.out)
     clear HO400
     clear HO390
     clear HO393
     clear HO404
     clear BK381
     clear BK382
     clear BK397
     clear HB
     have HO400 := n0_
     have HO390 := n1_
     have HO393 := n2_
     have HO404 := n3_
     have BK381 := n4_
     have BK382 := n5_
     have BK397 := n6_
     have HB := n7_
     clear n0_ n1_ n2_ n3_ n4_ n5_ n6_ n7_
     have p406 : 0 ≤ (0 : Int) := (by omega)
     have q406 : 0 < (l0_0.length : Int) := od
     obtain ⟨ad406, e406, hx406_0⟩ := Kd.at_int HR0_0.out 0 p406 q406
     have hw406_0 := hx406_0
     (try rw [show ((0 : Int)).toNat = 0 from rfl] at hw406_0)
     (try rw [show 0 * 1 = 0 from rfl] at hw406_0)
     (try rw [Addr.add_zero'] at hw406_0)
     obtain rfl : ad401 = ad406 := (by injection e406)
     have qi406 : (0 < l0_0.length) = True := eq_true (by omega)
     (try rw [show ((0 : Int)).toNat = 0 from rfl] at hx406_0)
     (try rw [Addr.add_zero'] at hx406_0)
     replace hx406_0 := hc HB hx406_0
     replace p406 := eq_true p406
     replace q406 := eq_true q406
     refine start_ (n := 8) (S := fun w' => w'.cell? ⟨gb397, 0, none⟩ = some (.slice A45 y398.length c45) ∧ w'.cell? ⟨gb397, 1, none⟩ = some (.int .i64 t387) ∧ w'.cell? ⟨gb397, 2, none⟩ = some (.slice Ao39 t388.length co39) ∧ w'.cell? ⟨gb397, 3, none⟩ = some (.slice Ao40 t391.length co40) ∧ w'.cell? ⟨gb397, 4, none⟩ = some (.slice Ao49 y402.length co49) ∧ w'.cell? ⟨gb381, 0, none⟩ = some (.slice (some ad401) l0_0.length c0_0) ∧ w'.cell? ⟨gb381, 1, none⟩ = some (.int .i64 a0_1) ∧ w'.cell? ⟨gb381, 2, none⟩ = some (.slice A0_2 l0_2.length c0_2) ∧ w'.cell? ⟨gb381, 3, none⟩ = some (.slice A0_3 l0_3.length c0_3) ∧ w'.cell? ⟨gb381, 4, none⟩ = some (.slice A0_4 l0_4.length c0_4) ∧ w'.cell? ad401 = some (.int .i64 (rd l0_0 0))) (ds := []) (bv 8 0x0) (by kernel_rfl) rfl rfl ⟨bc0 BK397, bc1 BK397, bc2 BK397, bc3 BK397, bc4 BK397, bc0 BK381, bc1 BK381, bc2 BK381, bc3 BK381, bc4 BK381, ((HB.out.cell (World.block_lt_of_cell? w _ hw406_0)).trans hw406_0)⟩ (fun hHeld => ?_); refine with_tabW impl_Alloc.tab9 impl_Alloc.bits9 (fun HT_ HW_ => ?_)
     generalize w53.drew = w54 at HO400 HO390 HO393 HO404 BK381 BK382 BK397 HB hx406_0 hHeld ⊢
     refine py HT_ 1 34 (bv 8 0x2) ?_
     refine tk HT_ HW_ hHeld 0 33 (bv 8 0x3) ?_
     refine tk HT_ HW_ hHeld 2 35 (bv 8 0x7) ?_
     refine py HT_ 3 36 (bv 8 0xf) ?_
     refine tk HT_ HW_ hHeld 4 37 (bv 8 0x1f) ?_
     refine one_ (i := 5) (N := none) (bv 8 0x3f) rfl rfl (one_of HT_.out (by kernel_rfl)) (by decide) (fun K hK => ?_)
     have hs55 : w54.cell? ⟨gb382, 0, none⟩ = some (.slice none 0 0) := bc0 BK382
     have hfs55 := blk_frozen BK382.out 0
     have hns55_0 := NB381_382.out
     have hns55_2 := NB397_382.out
     have hms55_0 := NB382_381.out
     have hms55_2 := NB382_397.out
     have hs56 : w54.cell? ⟨gb382, 1, none⟩ = some (.int .i64 0) := bc1 BK382
     have hfs56 := blk_frozen BK382.out 1
     have hns56_0 := NB381_382.out
     have hns56_2 := NB397_382.out
     have hms56_0 := NB382_381.out
     have hms56_2 := NB382_397.out
     have hs57 : w54.cell? ⟨gb382, 2, none⟩ = some (.slice none 0 0) := bc2 BK382
     have hfs57 := blk_frozen BK382.out 2
     have hns57_0 := NB381_382.out
     have hns57_2 := NB397_382.out
     have hms57_0 := NB382_381.out
     have hms57_2 := NB382_397.out
     have hs58 : w54.cell? ⟨gb382, 3, none⟩ = some (.slice none 0 0) := bc3 BK382
     have hfs58 := blk_frozen BK382.out 3
     have hns58_0 := NB381_382.out
     have hns58_2 := NB397_382.out
     have hms58_0 := NB382_381.out
     have hms58_2 := NB382_397.out
     have hs59 : w54.cell? ⟨gb382, 4, none⟩ = some (.slice none 0 0) := bc4 BK382
     have hfs59 := blk_frozen BK382.out 4
     have hns59_0 := NB381_382.out
     have hns59_2 := NB397_382.out
     have hms59_0 := NB382_381.out
     have hms59_2 := NB382_397.out
     refine skip_ (w1 := ?_) (by rfl) rfl ?_ ?_
     rotate_left
     ·go_simp
      rfl
     refine hK.out _ _ ⟨((cell_far (p := ⟨gb382, _, none⟩) NB397_382.out _).trans (((cell_far (p := ⟨gb382, _, none⟩) NB397_382.out _).trans (((cell_far (p := ⟨gb382, _, none⟩) NB397_382.out _).trans (((cell_far (p := ⟨gb382, _, none⟩) NB397_382.out _).trans (((cell_far (p := ⟨gb382, _, none⟩) NB397_382.out _).trans (hHeld.1)))))))))), ((cell_far (p := ⟨gb382, _, none⟩) NB397_382.out _).trans (((cell_far (p := ⟨gb382, _, none⟩) NB397_382.out _).trans (((cell_far (p := ⟨gb382, _, none⟩) NB397_382.out _).trans (((cell_far (p := ⟨gb382, _, none⟩) NB397_382.out _).trans (((cell_far (p := ⟨gb382, _, none⟩) NB397_382.out _).trans (hHeld.2.1)))))))))), ((cell_far (p := ⟨gb382, _, none⟩) NB397_382.out _).trans (((cell_far (p := ⟨gb382, _, none⟩) NB397_382.out _).trans (((cell_far (p := ⟨gb382, _, none⟩) NB397_382.out _).trans (((cell_far (p := ⟨gb382, _, none⟩) NB397_382.out _).trans (((cell_far (p := ⟨gb382, _, none⟩) NB397_382.out _).trans (hHeld.2.2.1)))))))))), ((cell_far (p := ⟨gb382, _, none⟩) NB397_382.out _).trans (((cell_far (p := ⟨gb382, _, none⟩) NB397_382.out _).trans (((cell_far (p := ⟨gb382, _, none⟩) NB397_382.out _).trans (((cell_far (p := ⟨gb382, _, none⟩) NB397_382.out _).trans (((cell_far (p := ⟨gb382, _, none⟩) NB397_382.out _).trans (hHeld.2.2.2.1)))))))))), ((cell_far (p := ⟨gb382, _, none⟩) NB397_382.out _).trans (((cell_far (p := ⟨gb382, _, none⟩) NB397_382.out _).trans (((cell_far (p := ⟨gb382, _, none⟩) NB397_382.out _).trans (((cell_far (p := ⟨gb382, _, none⟩) NB397_382.out _).trans (((cell_far (p := ⟨gb382, _, none⟩) NB397_382.out _).trans (hHeld.2.2.2.2.1)))))))))), ((cell_far (p := ⟨gb382, _, none⟩) NB381_382.out _).trans (((cell_far (p := ⟨gb382, _, none⟩) NB381_382.out _).trans (((cell_far (p := ⟨gb382, _, none⟩) NB381_382.out _).trans (((cell_far (p := ⟨gb382, _, none⟩) NB381_382.out _).trans (((cell_far (p := ⟨gb382, _, none⟩) NB381_382.out _).trans (hHeld.2.2.2.2.2.1)))))))))), ((cell_far (p := ⟨gb382, _, none⟩) NB381_382.out _).trans (((cell_far (p := ⟨gb382, _, none⟩) NB381_382.out _).trans (((cell_far (p := ⟨gb382, _, none⟩) NB381_382.out _).trans (((cell_far (p := ⟨gb382, _, none⟩) NB381_382.out _).trans (((cell_far (p := ⟨gb382, _, none⟩) NB381_382.out _).trans (hHeld.2.2.2.2.2.2.1)))))))))), ((cell_far (p := ⟨gb382, _, none⟩) NB381_382.out _).trans (((cell_far (p := ⟨gb382, _, none⟩) NB381_382.out _).trans (((cell_far (p := ⟨gb382, _, none⟩) NB381_382.out _).trans (((cell_far (p := ⟨gb382, _, none⟩) NB381_382.out _).trans (((cell_far (p := ⟨gb382, _, none⟩) NB381_382.out _).trans (hHeld.2.2.2.2.2.2.2.1)))))))))), ((cell_far (p := ⟨gb382, _, none⟩) NB381_382.out _).trans (((cell_far (p := ⟨gb382, _, none⟩) NB381_382.out _).trans (((cell_far (p := ⟨gb382, _, none⟩) NB381_382.out _).trans (((cell_far (p := ⟨gb382, _, none⟩) NB381_382.out _).trans (((cell_far (p := ⟨gb382, _, none⟩) NB381_382.out _).trans (hHeld.2.2.2.2.2.2.2.2.1)))))))))), ((cell_far (p := ⟨gb382, _, none⟩) NB381_382.out _).trans (((cell_far (p := ⟨gb382, _, none⟩) NB381_382.out _).trans (((cell_far (p := ⟨gb382, _, none⟩) NB381_382.out _).trans (((cell_far (p := ⟨gb382, _, none⟩) NB381_382.out _).trans (((cell_far (p := ⟨gb382, _, none⟩) NB381_382.out _).trans (hHeld.2.2.2.2.2.2.2.2.2.1)))))))))), ((cell_far (p := ⟨gb382, _, none⟩) (by first | exact Nat.ne_of_lt (Nat.lt_of_lt_of_le (by have := World.block_lt_of_cell? _ _ hw406_0; first | rwa [add_block] at this | exact this) GW382.out) | (rw [add_block]; exact Nat.ne_of_lt (Nat.lt_of_lt_of_le (by have := World.block_lt_of_cell? _ _ hw406_0; first | rwa [add_block] at this | exact this) GW382.out)) | (show (Addr.add _ _).block ≠ _; rw [add_block]; exact Nat.ne_of_lt (Nat.lt_of_lt_of_le (by have := World.block_lt_of_cell? _ _ hw406_0; first | rwa [add_block] at this | exact this) GW382.out)) | (dsimp only; exact Nat.ne_of_lt (Nat.lt_of_lt_of_le (by have := World.block_lt_of_cell? _ _ hw406_0; first | rwa [add_block] at this | exact this) GW382.out))) _).trans (((cell_far (p := ⟨gb382, _, none⟩) (by first | exact Nat.ne_of_lt (Nat.lt_of_lt_of_le (by have := World.block_lt_of_cell? _ _ hw406_0; first | rwa [add_block] at this | exact this) GW382.out) | (rw [add_block]; exact Nat.ne_of_lt (Nat.lt_of_lt_of_le (by have := World.block_lt_of_cell? _ _ hw406_0; first | rwa [add_block] at this | exact this) GW382.out)) | (show (Addr.add _ _).block ≠ _; rw [add_block]; exact Nat.ne_of_lt (Nat.lt_of_lt_of_le (by have := World.block_lt_of_cell? _ _ hw406_0; first | rwa [add_block] at this | exact this) GW382.out)) | (dsimp only; exact Nat.ne_of_lt (Nat.lt_of_lt_of_le (by have := World.block_lt_of_cell? _ _ hw406_0; first | rwa [add_block] at this | exact this) GW382.out))) _).trans (((cell_far (p := ⟨gb382, _, none⟩) (by first | exact Nat.ne_of_lt (Nat.lt_of_lt_of_le (by have := World.block_lt_of_cell? _ _ hw406_0; first | rwa [add_block] at this | exact this) GW382.out) | (rw [add_block]; exact Nat.ne_of_lt (Nat.lt_of_lt_of_le (by have := World.block_lt_of_cell? _ _ hw406_0; first | rwa [add_block] at this | exact this) GW382.out)) | (show (Addr.add _ _).block ≠ _; rw [add_block]; exact Nat.ne_of_lt (Nat.lt_of_lt_of_le (by have := World.block_lt_of_cell? _ _ hw406_0; first | rwa [add_block] at this | exact this) GW382.out)) | (dsimp only; exact Nat.ne_of_lt (Nat.lt_of_lt_of_le (by have := World.block_lt_of_cell? _ _ hw406_0; first | rwa [add_block] at this | exact this) GW382.out))) _).trans (((cell_far (p := ⟨gb382, _, none⟩) (by first | exact Nat.ne_of_lt (Nat.lt_of_lt_of_le (by have := World.block_lt_of_cell? _ _ hw406_0; first | rwa [add_block] at this | exact this) GW382.out) | (rw [add_block]; exact Nat.ne_of_lt (Nat.lt_of_lt_of_le (by have := World.block_lt_of_cell? _ _ hw406_0; first | rwa [add_block] at this | exact this) GW382.out)) | (show (Addr.add _ _).block ≠ _; rw [add_block]; exact Nat.ne_of_lt (Nat.lt_of_lt_of_le (by have := World.block_lt_of_cell? _ _ hw406_0; first | rwa [add_block] at this | exact this) GW382.out)) | (dsimp only; exact Nat.ne_of_lt (Nat.lt_of_lt_of_le (by have := World.block_lt_of_cell? _ _ hw406_0; first | rwa [add_block] at this | exact this) GW382.out))) _).trans (((cell_far (p := ⟨gb382, _, none⟩) (by first | exact Nat.ne_of_lt (Nat.lt_of_lt_of_le (by have := World.block_lt_of_cell? _ _ hw406_0; first | rwa [add_block] at this | exact this) GW382.out) | (rw [add_block]; exact Nat.ne_of_lt (Nat.lt_of_lt_of_le (by have := World.block_lt_of_cell? _ _ hw406_0; first | rwa [add_block] at this | exact this) GW382.out)) | (show (Addr.add _ _).block ≠ _; rw [add_block]; exact Nat.ne_of_lt (Nat.lt_of_lt_of_le (by have := World.block_lt_of_cell? _ _ hw406_0; first | rwa [add_block] at this | exact this) GW382.out)) | (dsimp only; exact Nat.ne_of_lt (Nat.lt_of_lt_of_le (by have := World.block_lt_of_cell? _ _ hw406_0; first | rwa [add_block] at this | exact this) GW382.out))) _).trans (hHeld.2.2.2.2.2.2.2.2.2.2))))))))))⟩ (fun hHeld => ?_)
     clear hK K
     refine py HT_ 6 3 (bv 8 0x7f) ?_
     refine py HT_ 7 4 (bv 8 0xff) ?_
     refine done_ (done_of HT_.out (by kernel_rfl)) ?_
     try go_wp2
     refine bodyPost_ret (results_ctt rfl _ _ gb382 27 #[.slice A45 y398.length c45, .int .i64 t387, .slice Ao39 t388.length co39, .slice Ao40 t391.length co40, .slice Ao49 y402.length co49] (0, 0) _ rfl (by (with_reducible repeat (first | refine blk_drewN ?_ _ | refine blk_drew ?_ | refine blk_alloc ?_ _)); refine blk_put (cs := #[.slice A45 y398.length c45, .int .i64 t387, .slice Ao39 t388.length co39, .slice Ao40 t391.length co40, .slice none 0 0]) ?_ 4 _ rfl; (with_reducible repeat (first | refine blk_drewN ?_ _ | refine blk_drew ?_ | refine blk_alloc ?_ _)); refine blk_put (cs := #[.slice A45 y398.length c45, .int .i64 t387, .slice Ao39 t388.length co39, .slice none 0 0, .slice none 0 0]) ?_ 3 _ rfl; (with_reducible repeat (first | refine blk_drewN ?_ _ | refine blk_drew ?_ | refine blk_alloc ?_ _)); refine blk_put (cs := #[.slice A45 y398.length c45, .int .i64 t387, .slice none 0 0, .slice none 0 0, .slice none 0 0]) ?_ 2 _ rfl; (with_reducible repeat (first | refine blk_drewN ?_ _ | refine blk_drew ?_ | refine blk_alloc ?_ _)); refine blk_put (cs := #[.slice A45 y398.length c45, .int .i64 0, .slice none 0 0, .slice none 0 0, .slice none 0 0]) ?_ 1 _ rfl; (with_reducible repeat (first | refine blk_drewN ?_ _ | refine blk_drew ?_ | refine blk_alloc ?_ _)); refine blk_put (cs := #[.slice none 0 0, .int .i64 0, .slice none 0 0, .slice none 0 0, .slice none 0 0]) ?_ 0 _ rfl; (with_reducible repeat (first | refine blk_drewN ?_ _ | refine blk_drew ?_ | refine blk_alloc ?_ _)); exact BK382.out) Try.underlying27 rfl (by kernel_rfl)) rfl ?_
     exact ⟨_, _, _, _, er, by (with_reducible repeat (first | apply Kd.Q_alloc | apply Kd.Q_drewN | apply Kd.Q_drew)); exact Kd.Q_mono (Kd.Q_far (p := ⟨gb382, 4, none⟩) (Kd.Q_far (p := ⟨gb382, 3, none⟩) (Kd.Q_far (p := ⟨gb382, 2, none⟩) (Kd.Q_far (p := ⟨gb382, 1, none⟩) (Kd.Q_far (p := ⟨gb382, 0, none⟩) (Kd.Q_types HO400.out BK382.out (by decide)) (fun _ hk => hk.2) (.slice A45 y398.length c45)) (fun _ hk => hk.2) (.int .i64 t387)) (fun _ hk => hk.2) (.slice Ao39 t388.length co39)) (fun _ hk => hk.2) (.slice Ao40 t391.length co40)) (fun _ hk => hk.2) (.slice Ao49 y402.length co49)) (fun _ hk => ⟨hk.1.1, hk.1.2⟩), by (with_reducible repeat (first | apply Kd.R_alloc | apply Kd.R_drewN | apply Kd.R_drew)); exact Kd.R_mono (Kd.R_far (p := ⟨gb382, 4, none⟩) (Kd.R_far (p := ⟨gb382, 3, none⟩) (Kd.R_far (p := ⟨gb382, 2, none⟩) (Kd.R_far (p := ⟨gb382, 1, none⟩) (Kd.R_far (p := ⟨gb382, 0, none⟩) (Kd.R_types HO390.out BK382.out (by decide)) (fun _ hk => hk.2) (.slice A45 y398.length c45)) (fun _ hk => hk.2) (.int .i64 t387)) (fun _ hk => hk.2) (.slice Ao39 t388.length co39)) (fun _ hk => hk.2) (.slice Ao40 t391.length co40)) (fun _ hk => hk.2) (.slice Ao49 y402.length co49)) (fun _ hk => ⟨hk.1.1, hk.1.2⟩), by (with_reducible repeat (first | apply Kd.R_alloc | apply Kd.R_drewN | apply Kd.R_drew)); exact Kd.R_mono (Kd.R_far (p := ⟨gb382, 4, none⟩) (Kd.R_far (p := ⟨gb382, 3, none⟩) (Kd.R_far (p := ⟨gb382, 2, none⟩) (Kd.R_far (p := ⟨gb382, 1, none⟩) (Kd.R_far (p := ⟨gb382, 0, none⟩) (Kd.R_types HO393.out BK382.out (by decide)) (fun _ hk => hk.2) (.slice A45 y398.length c45)) (fun _ hk => hk.2) (.int .i64 t387)) (fun _ hk => hk.2) (.slice Ao39 t388.length co39)) (fun _ hk => hk.2) (.slice Ao40 t391.length co40)) (fun _ hk => hk.2) (.slice Ao49 y402.length co49)) (fun _ hk => trivial), by (with_reducible repeat (first | apply Kd.R_alloc | apply Kd.R_drewN | apply Kd.R_drew)); exact Kd.R_mono (Kd.R_far (p := ⟨gb382, 4, none⟩) (Kd.R_far (p := ⟨gb382, 3, none⟩) (Kd.R_far (p := ⟨gb382, 2, none⟩) (Kd.R_far (p := ⟨gb382, 1, none⟩) (Kd.R_far (p := ⟨gb382, 0, none⟩) (Kd.R_types HO404.out BK382.out (by decide)) (fun _ hk => hk.2) (.slice A45 y398.length c45)) (fun _ hk => hk.2) (.int .i64 t387)) (fun _ hk => hk.2) (.slice Ao39 t388.length co39)) (fun _ hk => hk.2) (.slice Ao40 t391.length co40)) (fun _ hk => hk.2) (.slice Ao49 y402.length co49)) (fun _ hk => ⟨hk.1.1, hk.1.2⟩), be3 HB GE381 GE382 GE397⟩
    rw [if_neg c25] at H
    exact absurd H (by simp)
   rw [if_neg c24] at H
   exact absurd H (by simp)
  rw [if_neg c23] at H
  exact absurd H (by simp)
 replace c3 := Bool.eq_false_iff.mpr c3
 subst c3
 have H1 : (some (([] : List Int), 0, ([] : List Int), ([] : List (S70)), ([] : List Int), 0, false)) = some (r1, r2, r3, r4, r5, r6, r7) := by rw [if_neg (show ¬ (false = true) by decide)] at H; exact H
 clear H
 have H := H1
 clear H1
 simp only [Option.some.injEq, Prod.mk.injEq] at H
 obtain ⟨rfl, rfl, rfl, rfl, rfl, rfl, rfl⟩ := H
 go_enter Try.func26, Try.ntmps26
 go_wp2_with (first | ((with_reducible refine gate_dst (N := 1) rfl ?_); refine bx 1 #[.slice A0_0 l0_0.length c0_0, .int .i64 a0_1, .slice A0_2 l0_2.length c0_2, .slice A0_3 l0_3.length c0_3, .slice A0_4 l0_4.length c0_4] 27 ?_; intro gb381 hg w60 hbox hb; have BK381 := am hbox; have GW381 := gs0 hg HB; have GE381 := gs0 hg HB; replace HB := s0 HB hb; clear hb hbox hg) | ((with_reducible refine gate_dst (N := 2) rfl ?_); refine bx 2 #[.slice none 0 0, .int .i64 0, .slice none 0 0, .slice none 0 0, .slice none 0 0] 27 ?_; intro gb382 hg w61 hbox hb; have BK382 := am hbox; have GW382 := gs1 hg HB GE381; have GE382 := gs1 hg HB GE381; replace HB := Aside0.mk (below_step (be1 HB GE381) hb); have NB381_382 := Aside0.mk ((by rw [hg]; exact Nat.ne_of_lt (bl BK381) : gb381 ≠ gb382)); have NB382_381 := Aside0.mk ((by rw [hg]; exact Nat.ne_of_gt (bl BK381) : gb382 ≠ gb381)); replace BK381 := bb BK381 hb; clear hb hbox hg; have hnb62 := NB381_382.out; have hnc62 := NB382_381.out; have hcz63_0 := bz5 BK381) | ((with_reducible refine gate_callee (f := 22) rfl ?_); refine gl 7 Try.func22 #[.agg #[.slice A0_0 l0_0.length c0_0, .int .i64 a0_1, .slice A0_2 l0_2.length c0_2, .slice A0_3 l0_3.length c0_3, .slice A0_4 l0_4.length c0_4]] ?_; (with_reducible refine (impl_PoolOk.calls k _ _ l0_0 a0_1 _ _ l0_2 _ _ l0_3 _ _ l0_4 false _ (cb HR0_0 HB) HC0_0.out (cb HR0_2 HB) HC0_2.out (cb HR0_3 HB) HC0_3.out (cb HR0_4 HB) HC0_4.out A2.out).mono ?_); rintro e w64 ⟨rfl, hb⟩; refine ⟨_, rfl, ?_⟩; replace BK381 := bb BK381 hb; replace BK382 := bb BK382 hb; replace HB := Aside0.mk (below_step (be2 HB GE381 GE382) hb); (try clear hb); have hcz65_0 := bz5 BK382))
 refine bodyPost_ret (results_ctt rfl _ _ gb382 27 #[.slice none 0 0, .int .i64 0, .slice none 0 0, .slice none 0 0, .slice none 0 0] (0, 0) _ rfl (by (with_reducible repeat (first | refine blk_drewN ?_ _ | refine blk_drew ?_ | refine blk_alloc ?_ _)); refine blk_put (cs := #[.slice none 0 0, .int .i64 0, .slice none 0 0, .slice none 0 0, .slice none 0 0]) ?_ 4 _ rfl; (with_reducible repeat (first | refine blk_drewN ?_ _ | refine blk_drew ?_ | refine blk_alloc ?_ _)); refine blk_put (cs := #[.slice none 0 0, .int .i64 0, .slice none 0 0, .slice none 0 0, .slice none 0 0]) ?_ 3 _ rfl; (with_reducible repeat (first | refine blk_drewN ?_ _ | refine blk_drew ?_ | refine blk_alloc ?_ _)); refine blk_put (cs := #[.slice none 0 0, .int .i64 0, .slice none 0 0, .slice none 0 0, .slice none 0 0]) ?_ 2 _ rfl; (with_reducible repeat (first | refine blk_drewN ?_ _ | refine blk_drew ?_ | refine blk_alloc ?_ _)); refine blk_put (cs := #[.slice none 0 0, .int .i64 0, .slice none 0 0, .slice none 0 0, .slice none 0 0]) ?_ 1 _ rfl; (with_reducible repeat (first | refine blk_drewN ?_ _ | refine blk_drew ?_ | refine blk_alloc ?_ _)); refine blk_put (cs := #[.slice none 0 0, .int .i64 0, .slice none 0 0, .slice none 0 0, .slice none 0 0]) ?_ 0 _ rfl; (with_reducible repeat (first | refine blk_drewN ?_ _ | refine blk_drew ?_ | refine blk_alloc ?_ _)); exact BK382.out) Try.underlying27 rfl (by kernel_rfl)) rfl ?_
 exact ⟨_, _, _, _, er, Kd.Q_of_R (by first | exact Kd.R_nil _ _ _ _ _ | exact Kd.N_nil _ _ _ _ _ | exact Kd.V_nil _ _ _ _ _ | exact Kd.Q_nil _ _ _ _ _ | exact Kd.S_nil _ _ _ _ _), by first | exact Kd.R_nil _ _ _ _ _ | exact Kd.N_nil _ _ _ _ _ | exact Kd.V_nil _ _ _ _ _ | exact Kd.Q_nil _ _ _ _ _ | exact Kd.S_nil _ _ _ _ _, by first | exact Kd.R_nil _ _ _ _ _ | exact Kd.N_nil _ _ _ _ _ | exact Kd.V_nil _ _ _ _ _ | exact Kd.Q_nil _ _ _ _ _ | exact Kd.S_nil _ _ _ _ _, by first | exact Kd.R_nil _ _ _ _ _ | exact Kd.N_nil _ _ _ _ _ | exact Kd.V_nil _ _ _ _ _ | exact Kd.Q_nil _ _ _ _ _ | exact Kd.S_nil _ _ _ _ _, be2 HB GE381 GE382⟩

end Go.Proofs.Ytdgpidhlbpaolaa.QFnExactAlloc
