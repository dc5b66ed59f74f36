-- made by a program of this session (myprint.py)
import Derived.Test.YtdgpidhlbpaolaaQFnExactReclaimx0
import Derived.Test.YtdgpidhlbpaolaaQFnExactReclaimx9
import Derived.Test.YtdgpidhlbpaolaaQFnExactReclaimx10
import Derived.Test.YtdgpidhlbpaolaaQFnExactReclaimx11
namespace Go.Proofs.Ytdgpidhlbpaolaa.QFnExactReclaim
open Go.RowKit Go.Proofs.YtdgpidhlbpaolaaW.PrintWords Go.Proofs.YtdgpidhlbpaolaaW.PrintLast Go.Proofs.YtdgpidhlbpaolaaW.PrintMore
attribute [local go_sem] max2_int min2_int max_two min_two max_three min_three max_four min_four   -- for this text's walks alone
set_option linter.unusedVariables false
set_option linter.unusedSimpArgs false

/-! ### impl_copyPool: function 66 -/
def impl_copyPool.f (l0_0 : List Int) (a0_1 : Int) (l0_2 : List Int) (l0_3 : List (S70)) (l0_4 : List Int) : Option (List Int × Int × List Int × (List (S70)) × List Int) := (impl_copyInts.f l0_0).bind fun t382 => ((impl_copyAges.f a0_1 l0_2 l0_3).bind fun bt385 => ((impl_copyInts.f l0_4).bind fun t392 => (some (t382, bt385.1, bt385.2.1, bt385.2.2, t392))))
def impl_copyPool.T1 : Bool × List (List Nat × List Nat) := (true, [([], []), ([0], [0]), ([1], [1]), ([], []), ([3], [3]), ([4, 2], [4]), ([], []), ([6], [6]), ([7, 5], [7]), ([2, 5, 8], [2, 5, 8]), ([9, 8, 0, 1, 2, 3, 4, 5, 6, 7, 8, 9], [9])])
def impl_copyPool.B1 : List Nat := [0, 1, 3, 0, 8, 31, 0, 64, 255, 511, 1023]
theorem impl_copyPool.tab1 : rtab .any (opsOf Try.f66 1) = impl_copyPool.T1 := by kernel_rfl
theorem impl_copyPool.bits1 : waitsOk impl_copyPool.T1.2 impl_copyPool.B1 = true := by kernel_rfl
set_option maxHeartbeats 8000000 in
set_option maxRecDepth 100000 in
theorem impl_copyPool.calls (A0_0 : Option Addr) (c0_0 : Nat) (l0_0 : List Int) (a0_1 : Int) (A0_2 : Option Addr) (c0_2 : Nat) (l0_2 : List Int) (A0_3 : Option Addr) (c0_3 : Nat) (l0_3 : List (S70)) (A0_4 : Option Addr) (c0_4 : Nat) (l0_4 : List Int) (r1 : List Int) (r2 : Int) (r3 : List Int) (r4 : List (S70)) (r5 : List Int) (w : World) (hr0_0 : Kd.C (Kd.int .i64) w A0_0 l0_0.length l0_0) (hc0_0 : l0_0.length ≤ c0_0) (hr0_2 : Kd.C (Kd.int .i64) w A0_2 l0_2.length l0_2) (hc0_2 : l0_2.length ≤ c0_2) (hr0_3 : Kd.C k70 w A0_3 l0_3.length l0_3) (hc0_3 : l0_3.length ≤ c0_3) (hr0_4 : Kd.C (Kd.int .i64) w A0_4 l0_4.length l0_4) (hc0_4 : l0_4.length ≤ c0_4) (h : impl_copyPool.f l0_0 a0_1 l0_2 l0_3 l0_4 = some (r1, r2, r3, r4, r5)) :
  Calls Try.prog 66 #[.agg #[.slice A0_0 l0_0.length c0_0, .int .i64 a0_1, .slice A0_2 l0_2.length c0_2, .slice A0_3 l0_3.length c0_3, .slice A0_4 l0_4.length c0_4]] w fun e w' => ∃ v0_ v2_ v3_ v4_ : Value, e = .returned (.agg #[v0_, .int .i64 r2, v2_, v3_, v4_]) ∧ Kd.R (Kd.int .i64) 3 w' w.heap.size (fun k_ => some k_ ≠ (v2_ : Value).ownBlock ∧ some k_ ≠ (v4_ : Value).ownBlock) v0_ r1 ∧ Kd.R (Kd.int .i64) 3 w' w.heap.size (fun k_ => some k_ ≠ (v0_ : Value).ownBlock ∧ some k_ ≠ (v4_ : Value).ownBlock) v2_ r3 ∧ Kd.R k70 70 w' w.heap.size (fun _ => True) v3_ r4 ∧ Kd.R (Kd.int .i64) 3 w' w.heap.size (fun k_ => some k_ ≠ (v0_ : Value).ownBlock ∧ some k_ ≠ (v2_ : Value).ownBlock) v4_ r5 ∧ Below w.heap.size w w' := by
 have hu27 := Try.underlying27
 have hu25 := Try.underlying25
 have HR0_0 := Aside0.mk hr0_0
 have HC0_0 := Aside0.mk hc0_0
 clear hr0_0 hc0_0
 have HR0_2 := Aside0.mk hr0_2
 have HC0_2 := Aside0.mk hc0_2
 clear hr0_2 hc0_2
 have HR0_3 := Aside0.mk hr0_3
 have HC0_3 := Aside0.mk hc0_3
 clear hr0_3 hc0_3
 have HR0_4 := Aside0.mk hr0_4
 have HC0_4 := Aside0.mk hc0_4
 clear hr0_4 hc0_4
 have HB := Aside0.mk (Below.refl w.heap.size w)
 have H : ((impl_copyInts.f l0_0).bind fun t382 => ((impl_copyAges.f a0_1 l0_2 l0_3).bind fun bt385 => ((impl_copyInts.f l0_4).bind fun t392 => (some (t382, bt385.1, bt385.2.1, bt385.2.2, t392))))) = some (r1, r2, r3, r4, r5) := h
 clear h
 replace H := Option.bind_eq_some_iff.mp H
 obtain ⟨t382, A20, H⟩ := H
 replace H : ((impl_copyAges.f a0_1 l0_2 l0_3).bind fun bt385 => ((impl_copyInts.f l0_4).bind fun t392 => (some (t382, bt385.1, bt385.2.1, bt385.2.2, t392)))) = some (r1, r2, r3, r4, r5) := H
 have A2 := Aside0.mk A20
 clear A20
 replace H := Option.bind_eq_some_iff.mp H
 obtain ⟨⟨t385, t386, t389⟩, A30, H⟩ := H
 replace H : ((impl_copyInts.f l0_4).bind fun t392 => (some (t382, t385, t386, t389, t392))) = some (r1, r2, r3, r4, r5) := H
 have A3 := Aside0.mk A30
 clear A30
 replace H := Option.bind_eq_some_iff.mp H
 obtain ⟨t392, A40, H⟩ := H
 replace H : (some (t382, t385, t386, t389, t392)) = some (r1, r2, r3, r4, r5) := H
 have A4 := Aside0.mk A40
 clear A40
 simp only [Option.some.injEq, Prod.mk.injEq] at H
 obtain ⟨rfl, rfl, rfl, rfl, rfl⟩ := H
 go_enter Try.func66, Try.ntmps66
 try go_wp2_with (first | ((with_reducible refine gate_dst (N := 1) rfl ?_); refine bx 1 #[.slice A0_0 l0_0.length c0_0, .int .i64 a0_1, .slice A0_2 l0_2.length c0_2, .slice A0_3 l0_3.length c0_3, .slice A0_4 l0_4.length c0_4] 27 ?_; intro gb380 hg w5 hbox hb; have BK380 := am hbox; have GW380 := gs0 hg HB; have GE380 := gs0 hg HB; replace HB := s0 HB hb; clear hb hbox hg) | ((with_reducible refine gate_dst (N := 2) rfl ?_); refine bx 2 #[.slice none 0 0, .int .i64 0, .slice none 0 0, .slice none 0 0, .slice none 0 0] 27 ?_; intro gb381 hg w6 hbox hb; have BK381 := am hbox; have GW381 := gs1 hg HB GE380; have GE381 := gs1 hg HB GE380; replace HB := Aside0.mk (below_step (be1 HB GE380) hb); have NB380_381 := Aside0.mk ((by rw [hg]; exact Nat.ne_of_lt (bl BK380) : gb380 ≠ gb381)); have NB381_380 := Aside0.mk ((by rw [hg]; exact Nat.ne_of_gt (bl BK380) : gb381 ≠ gb380)); replace BK380 := bb BK380 hb; clear hb hbox hg))
 have n0_ := Aside0.mk (blk_drew BK380.out)
 have n1_ := Aside0.mk (blk_drew BK381.out)
 have n2_ := Aside0.mk (below_drew1 HB.out)
 clear BK380
 clear BK381
 clear HB
 have BK380 := n0_
 have BK381 := n1_
 have HB := n2_
 clear n0_ n1_ n2_
 refine start_ (n := 11) (S := fun w' => w'.cell? ⟨gb380, 0, none⟩ = some (.slice A0_0 l0_0.length c0_0) ∧ w'.cell? ⟨gb380, 1, none⟩ = some (.int .i64 a0_1) ∧ w'.cell? ⟨gb380, 2, none⟩ = some (.slice A0_2 l0_2.length c0_2) ∧ w'.cell? ⟨gb380, 3, none⟩ = some (.slice A0_3 l0_3.length c0_3) ∧ w'.cell? ⟨gb380, 4, none⟩ = some (.slice A0_4 l0_4.length c0_4)) (ds := []) (bv 11 0x0) (by kernel_rfl) rfl rfl ⟨bc0 BK380, bc1 BK380, bc2 BK380, bc3 BK380, bc4 BK380⟩ (fun hHeld => ?_); refine with_tabW impl_copyPool.tab1 impl_copyPool.bits1 (fun HT_ HW_ => ?_)
 generalize w6.drew = w7 at BK380 BK381 HB hHeld ⊢
 refine py HT_ 0 3 (bv 11 0x1) ?_
 refine py HT_ 3 6 (bv 11 0x9) ?_
 refine py HT_ 6 9 (bv 11 0x49) ?_
 refine tk HT_ HW_ hHeld 1 4 (bv 11 0x4b) ?_
 refine tk HT_ HW_ hHeld 4 7 (bv 11 0x5b) ?_
 refine tk HT_ HW_ hHeld 7 10 (bv 11 0xdb) ?_
 refine one_ (i := 2) (N := some 5) (bv 11 0xdf) rfl rfl (one_of HT_.out (by kernel_rfl)) (by decide) (fun K hK => ?_)
 refine goes_ Try.func57 (by kernel_rfl) rfl #[.slice A0_0 l0_0.length c0_0] (by rfl) rfl rfl ml ?_
 with_reducible refine (impl_copyInts.calls _ _ l0_0 t382 _ ?side1 ?side2 A2.out).mono ?_
 (case side1 => exact cb HR0_0 HB)
 (case side2 => exact HC0_0.out)
 rintro e w8 ⟨v383, rfl, ho0, hb⟩
 refine ⟨_, rfl, ?_⟩
 have n0_ := Aside0.mk (Kd.R_lower ho0 (below_size (be2 HB GE380 GE381)))
 have n1_ := bb BK380 hb
 have n2_ := bb BK381 hb
 have n3_ := Aside0.mk (below_step (be2 HB GE380 GE381) hb)
 clear BK380
 clear BK381
 clear HB
 have HO384 := n0_
 have BK380 := n1_
 have BK381 := n2_
 have HB := n3_
 clear n0_ n1_ n2_ n3_
 (try clear hb)
 (try clear hb2)
 (try clear hk)
 (try clear hi)
 (try clear ho0)
 refine hK.out _ _ ⟨bc0 BK380, bc1 BK380, bc2 BK380, bc3 BK380, bc4 BK380⟩ (fun hHeld => ?_)
 clear hK K
 refine norm_ (a' := ?_) ?_ ?_
 rotate_left
 ·show Act.put _ (some 5) _ = _
  simp only [aP]
  rfl
 refine one_ (i := 5) (N := some 8) (bv 11 0xff) rfl rfl (one_of HT_.out (by kernel_rfl)) (by decide) (fun K hK => ?_)
 refine goes_ Try.func96 (by kernel_rfl) rfl #[.agg #[.int .i64 a0_1, .slice A0_2 l0_2.length c0_2, .slice A0_3 l0_3.length c0_3]] (by rfl) rfl rfl ml ?_
 with_reducible refine (impl_copyAges.calls a0_1 _ _ l0_2 _ _ l0_3 t385 t386 t389 _ ?side1 ?side2 ?side3 ?side4 A3.out).mono ?_
 (case side1 => exact cb HR0_2 HB)
 (case side2 => exact HC0_2.out)
 (case side3 => exact cb HR0_3 HB)
 (case side4 => exact HC0_3.out)
 rintro e w9 ⟨v387, v390, rfl, ho0, ho1, hb⟩
 refine ⟨_, rfl, ?_⟩
 have n0_ := Aside0.mk (Kd.R_elder' (ro HO384) (Kd.R_base ho0) hb)
 have n1_ := Aside0.mk (Kd.R_lower (nw ho0 HO384) (below_size (be2 HB GE380 GE381)))
 have n2_ := Aside0.mk (Kd.R_lower ho1 (below_size (be2 HB GE380 GE381)))
 have n3_ := bb BK380 hb
 have n4_ := bb BK381 hb
 have n5_ := Aside0.mk (below_step (be2 HB GE380 GE381) hb)
 clear HO384
 clear BK380
 clear BK381
 clear HB
 have HO384 := n0_
 have HO388 := n1_
 have HO391 := n2_
 have BK380 := n3_
 have BK381 := n4_
 have HB := n5_
 clear n0_ n1_ n2_ n3_ n4_ n5_
 (try clear hb)
 (try clear hb2)
 (try clear hk)
 (try clear hi)
 (try clear ho0)
 (try clear ho1)
 refine hK.out _ _ ⟨bc0 BK380, bc1 BK380, bc2 BK380, bc3 BK380, bc4 BK380⟩ (fun hHeld => ?_)
 clear hK K
 refine norm_ (a' := ?_) ?_ ?_
 rotate_left
 ·show Act.put _ (some 8) _ = _
  simp only [aP]
  rfl
 refine one_ (i := 8) (N := some 11) (bv 11 0x1ff) rfl rfl (one_of HT_.out (by kernel_rfl)) (by decide) (fun K hK => ?_)
 refine goes_ Try.func57 (by kernel_rfl) rfl #[.slice A0_4 l0_4.length c0_4] (by rfl) rfl rfl ml ?_
 with_reducible refine (impl_copyInts.calls _ _ l0_4 t392 _ ?side1 ?side2 A4.out).mono ?_
 (case side1 => exact cb HR0_4 HB)
 (case side2 => exact HC0_4.out)
 rintro e w10 ⟨v393, rfl, ho0, hb⟩
 refine ⟨_, rfl, ?_⟩
 have n0_ := Aside0.mk (Kd.R_elder' (ro HO384) (Kd.R_base ho0) hb)
 have n1_ := Aside0.mk (Kd.R_elder' (ro HO388) (Kd.R_base ho0) hb)
 have n2_ := rb HO391 hb
 have n3_ := Aside0.mk (Kd.R_lower (nw (nw ho0 HO384) HO388) (below_size (be2 HB GE380 GE381)))
 have n4_ := bb BK380 hb
 have n5_ := bb BK381 hb
 have n6_ := Aside0.mk (below_step (be2 HB GE380 GE381) hb)
 clear HO384
 clear HO388
 clear HO391
 clear BK380
 clear BK381
 clear HB
 have HO384 := n0_
 have HO388 := n1_
 have HO391 := n2_
 have HO394 := n3_
 have BK380 := n4_
 have BK381 := n5_
 have HB := n6_
 clear n0_ n1_ n2_ n3_ n4_ n5_ n6_
 (try clear hb)
 (try clear hb2)
 (try clear hk)
 (try clear hi)
 (try clear ho0)
 obtain ⟨Ao11, co11, eo11⟩ := Kd.R_slice HO394.out
 (first | subst eo11 | (injection eo11 with f1_ f2_ f3_; have f4_ := f1_.symm; have f5_ := f3_.symm; clear f1_ f2_ f3_; subst f4_; subst f5_))
 obtain ⟨Ao12, co12, eo12⟩ := Kd.R_slice HO391.out
 (first | subst eo12 | (injection eo12 with f1_ f2_ f3_; have f4_ := f1_.symm; have f5_ := f3_.symm; clear f1_ f2_ f3_; subst f4_; subst f5_))
 obtain ⟨Ao13, co13, eo13⟩ := Kd.R_slice HO388.out
 (first | subst eo13 | (injection eo13 with f1_ f2_ f3_; have f4_ := f1_.symm; have f5_ := f3_.symm; clear f1_ f2_ f3_; subst f4_; subst f5_))
 obtain ⟨Ao14, co14, eo14⟩ := Kd.R_slice HO384.out
 (first | subst eo14 | (injection eo14 with f1_ f2_ f3_; have f4_ := f1_.symm; have f5_ := f3_.symm; clear f1_ f2_ f3_; subst f4_; subst f5_))
 refine hK.out _ _ ⟨bc0 BK380, bc1 BK380, bc2 BK380, bc3 BK380, bc4 BK380⟩ (fun hHeld => ?_)
 clear hK K
 refine norm_ (a' := ?_) ?_ ?_
 rotate_left
 ·show Act.put _ (some 11) _ = _
  simp only [aP]
  rfl
 refine py HT_ 9 12 (bv 11 0x3ff) ?_
 refine one_ (i := 10) (N := none) (bv 11 0x7ff) rfl rfl (one_of HT_.out (by kernel_rfl)) (by decide) (fun K hK => ?_)
 have hs15 : w10.cell? ⟨gb381, 0, none⟩ = some (.slice none 0 0) := bc0 BK381
 have hfs15 := blk_frozen BK381.out 0
 have hns15_0 := NB380_381.out
 have hms15_0 := NB381_380.out
 have hs16 : w10.cell? ⟨gb381, 1, none⟩ = some (.int .i64 0) := bc1 BK381
 have hfs16 := blk_frozen BK381.out 1
 have hns16_0 := NB380_381.out
 have hms16_0 := NB381_380.out
 have hs17 : w10.cell? ⟨gb381, 2, none⟩ = some (.slice none 0 0) := bc2 BK381
 have hfs17 := blk_frozen BK381.out 2
 have hns17_0 := NB380_381.out
 have hms17_0 := NB381_380.out
 have hs18 : w10.cell? ⟨gb381, 3, none⟩ = some (.slice none 0 0) := bc3 BK381
 have hfs18 := blk_frozen BK381.out 3
 have hns18_0 := NB380_381.out
 have hms18_0 := NB381_380.out
 have hs19 : w10.cell? ⟨gb381, 4, none⟩ = some (.slice none 0 0) := bc4 BK381
 have hfs19 := blk_frozen BK381.out 4
 have hns19_0 := NB380_381.out
 have hms19_0 := NB381_380.out
 refine skip_ (w1 := ?_) (by rfl) rfl ?_ ?_
 rotate_left
 ·go_simp
  rfl
 refine hK.out _ _ ⟨((cell_far (p := ⟨gb381, _, none⟩) NB380_381.out _).trans (((cell_far (p := ⟨gb381, _, none⟩) NB380_381.out _).trans (((cell_far (p := ⟨gb381, _, none⟩) NB380_381.out _).trans (((cell_far (p := ⟨gb381, _, none⟩) NB380_381.out _).trans (((cell_far (p := ⟨gb381, _, none⟩) NB380_381.out _).trans (hHeld.1)))))))))), ((cell_far (p := ⟨gb381, _, none⟩) NB380_381.out _).trans (((cell_far (p := ⟨gb381, _, none⟩) NB380_381.out _).trans (((cell_far (p := ⟨gb381, _, none⟩) NB380_381.out _).trans (((cell_far (p := ⟨gb381, _, none⟩) NB380_381.out _).trans (((cell_far (p := ⟨gb381, _, none⟩) NB380_381.out _).trans (hHeld.2.1)))))))))), ((cell_far (p := ⟨gb381, _, none⟩) NB380_381.out _).trans (((cell_far (p := ⟨gb381, _, none⟩) NB380_381.out _).trans (((cell_far (p := ⟨gb381, _, none⟩) NB380_381.out _).trans (((cell_far (p := ⟨gb381, _, none⟩) NB380_381.out _).trans (((cell_far (p := ⟨gb381, _, none⟩) NB380_381.out _).trans (hHeld.2.2.1)))))))))), ((cell_far (p := ⟨gb381, _, none⟩) NB380_381.out _).trans (((cell_far (p := ⟨gb381, _, none⟩) NB380_381.out _).trans (((cell_far (p := ⟨gb381, _, none⟩) NB380_381.out _).trans (((cell_far (p := ⟨gb381, _, none⟩) NB380_381.out _).trans (((cell_far (p := ⟨gb381, _, none⟩) NB380_381.out _).trans (hHeld.2.2.2.1)))))))))), ((cell_far (p := ⟨gb381, _, none⟩) NB380_381.out _).trans (((cell_far (p := ⟨gb381, _, none⟩) NB380_381.out _).trans (((cell_far (p := ⟨gb381, _, none⟩) NB380_381.out _).trans (((cell_far (p := ⟨gb381, _, none⟩) NB380_381.out _).trans (((cell_far (p := ⟨gb381, _, none⟩) NB380_381.out _).trans (hHeld.2.2.2.2))))))))))⟩ (fun hHeld => ?_)
 clear hK K
 refine done_ (done_of HT_.out (by kernel_rfl)) ?_
 try go_wp2
 refine bodyPost_ret (results_cell_row rfl _ _ gb381 27 #[.slice Ao14 t382.length co14, .int .i64 t385, .slice Ao13 t386.length co13, .slice Ao12 t389.length co12, .slice Ao11 t392.length co11] (0, 0) _ rfl (by (with_reducible repeat (first | refine blk_drewN ?_ _ | refine blk_drew ?_ | refine blk_alloc ?_ _)); refine blk_put (cs := #[.slice Ao14 t382.length co14, .int .i64 t385, .slice Ao13 t386.length co13, .slice Ao12 t389.length co12, .slice none 0 0]) ?_ 4 _ rfl; (with_reducible repeat (first | refine blk_drewN ?_ _ | refine blk_drew ?_ | refine blk_alloc ?_ _)); refine blk_put (cs := #[.slice Ao14 t382.length co14, .int .i64 t385, .slice Ao13 t386.length co13, .slice none 0 0, .slice none 0 0]) ?_ 3 _ rfl; (with_reducible repeat (first | refine blk_drewN ?_ _ | refine blk_drew ?_ | refine blk_alloc ?_ _)); refine blk_put (cs := #[.slice Ao14 t382.length co14, .int .i64 t385, .slice none 0 0, .slice none 0 0, .slice none 0 0]) ?_ 2 _ rfl; (with_reducible repeat (first | refine blk_drewN ?_ _ | refine blk_drew ?_ | refine blk_alloc ?_ _)); refine blk_put (cs := #[.slice Ao14 t382.length co14, .int .i64 0, .slice none 0 0, .slice none 0 0, .slice none 0 0]) ?_ 1 _ rfl; (with_reducible repeat (first | refine blk_drewN ?_ _ | refine blk_drew ?_ | refine blk_alloc ?_ _)); refine blk_put (cs := #[.slice none 0 0, .int .i64 0, .slice none 0 0, .slice none 0 0, .slice none 0 0]) ?_ 0 _ rfl; (with_reducible repeat (first | refine blk_drewN ?_ _ | refine blk_drew ?_ | refine blk_alloc ?_ _)); exact BK381.out) Try.underlying27 rfl (by kernel_rfl)) rfl ?_
 exact ⟨_, _, _, _, er, by (with_reducible repeat (first | apply Kd.R_alloc | apply Kd.R_drewN | apply Kd.R_drew)); exact Kd.R_mono (Kd.R_far (p := ⟨gb381, 4, none⟩) (Kd.R_far (p := ⟨gb381, 3, none⟩) (Kd.R_far (p := ⟨gb381, 2, none⟩) (Kd.R_far (p := ⟨gb381, 1, none⟩) (Kd.R_far (p := ⟨gb381, 0, none⟩) (Kd.R_types HO384.out BK381.out (by decide)) (fun _ hk => hk.2) (.slice Ao14 t382.length co14)) (fun _ hk => hk.2) (.int .i64 t385)) (fun _ hk => hk.2) (.slice Ao13 t386.length co13)) (fun _ hk => hk.2) (.slice Ao12 t389.length co12)) (fun _ hk => hk.2) (.slice Ao11 t392.length co11)) (fun _ hk => ⟨hk.1.1.2, hk.1.2⟩), by (with_reducible repeat (first | apply Kd.R_alloc | apply Kd.R_drewN | apply Kd.R_drew)); exact Kd.R_mono (Kd.R_far (p := ⟨gb381, 4, none⟩) (Kd.R_far (p := ⟨gb381, 3, none⟩) (Kd.R_far (p := ⟨gb381, 2, none⟩) (Kd.R_far (p := ⟨gb381, 1, none⟩) (Kd.R_far (p := ⟨gb381, 0, none⟩) (Kd.R_types HO388.out BK381.out (by decide)) (fun _ hk => hk.2) (.slice Ao14 t382.length co14)) (fun _ hk => hk.2) (.int .i64 t385)) (fun _ hk => hk.2) (.slice Ao13 t386.length co13)) (fun _ hk => hk.2) (.slice Ao12 t389.length co12)) (fun _ hk => hk.2) (.slice Ao11 t392.length co11)) (fun _ hk => ⟨hk.1.1.2, hk.1.2⟩), by (with_reducible repeat (first | apply Kd.R_alloc | apply Kd.R_drewN | apply Kd.R_drew)); exact Kd.R_mono (Kd.R_far (p := ⟨gb381, 4, none⟩) (Kd.R_far (p := ⟨gb381, 3, none⟩) (Kd.R_far (p := ⟨gb381, 2, none⟩) (Kd.R_far (p := ⟨gb381, 1, none⟩) (Kd.R_far (p := ⟨gb381, 0, none⟩) (Kd.R_types HO391.out BK381.out (by decide)) (fun _ hk => hk.2) (.slice Ao14 t382.length co14)) (fun _ hk => hk.2) (.int .i64 t385)) (fun _ hk => hk.2) (.slice Ao13 t386.length co13)) (fun _ hk => hk.2) (.slice Ao12 t389.length co12)) (fun _ hk => hk.2) (.slice Ao11 t392.length co11)) (fun _ hk => trivial), by (with_reducible repeat (first | apply Kd.R_alloc | apply Kd.R_drewN | apply Kd.R_drew)); exact Kd.R_mono (Kd.R_far (p := ⟨gb381, 4, none⟩) (Kd.R_far (p := ⟨gb381, 3, none⟩) (Kd.R_far (p := ⟨gb381, 2, none⟩) (Kd.R_far (p := ⟨gb381, 1, none⟩) (Kd.R_far (p := ⟨gb381, 0, none⟩) (Kd.R_types HO394.out BK381.out (by decide)) (fun _ hk => hk.2) (.slice Ao14 t382.length co14)) (fun _ hk => hk.2) (.int .i64 t385)) (fun _ hk => hk.2) (.slice Ao13 t386.length co13)) (fun _ hk => hk.2) (.slice Ao12 t389.length co12)) (fun _ hk => hk.2) (.slice Ao11 t392.length co11)) (fun _ hk => ⟨hk.1.1.2, hk.1.2⟩), be2 HB GE380 GE381⟩

/-! ### impl_Collect: function 74 -/
def impl_Collect.l0 : Nat → List Int → List (S70) → Int → Int → Int → List Int → List (S70) → Int → List Int → List (S70) → Option (Int × List Int × (List (S70)) × List Int)
 | 0, _, _, _, _, _, _, _, _, _, _ => none
 | k + 1, x5, x17, x18, x19, x396000, x396001, x396002, x406000, x406001, x406002 => if x19 < x18 then (if 0 ≤ x19 then (if x19 < (x17.length : Int) then (if ((rd_T70 x17 x19).f1) ≤ (wrap64 (x396000 - 2)) then (if x5.length < 17592186044416 then (impl_Collect.l0 k (x5 ++ [(rd_T70 x17 x19).f0]) x17 x18 (wrap64 (x19 + 1)) x396000 x396001 x396002 x406000 x406001 x406002) else (none)) else (if x406002.length < 8796093022208 then (impl_Collect.l0 k x5 x17 x18 (wrap64 (x19 + 1)) x396000 x396001 x396002 x406000 x406001 (x406002 ++ [(⟨(rd_T70 x17 x19).f0, (rd_T70 x17 x19).f1⟩ : S70)])) else (none))) else (none)) else (none)) else (some (x406000, x406001, x406002, x5))
def impl_Collect.f (k : Nat) (a0_0 : Int) (l0_1 : List Int) (l0_2 : List (S70)) : Option (Int × List Int × (List (S70)) × List Int) := (impl_AgesOk.f k a0_0 l0_1 l0_2).bind fun t397 => (if t397 = true then ((impl_copyAges.f a0_0 l0_1 l0_2).bind fun bt398 => (impl_Collect.l0 k (([] : List Int)) l0_2 (l0_2.length : Int) 0 a0_0 l0_1 l0_2 bt398.1 bt398.2.1 ([] : List (S70)))) else (some (0, ([] : List Int), ([] : List (S70)), ([] : List Int))))
theorem impl_Collect.mono_l : ∀ k, (∀ y0 y1 y2 y3 y4 y5 y6 y7 y8 y9, LeO (impl_Collect.l0 k y0 y1 y2 y3 y4 y5 y6 y7 y8 y9) (impl_Collect.l0 (k + 1) y0 y1 y2 y3 y4 y5 y6 y7 y8 y9))
 | 0 => fun _ _ _ _ _ _ _ _ _ _ r h => by simp [impl_Collect.l0] at h
 | k + 1 => by
  have ih0 := impl_Collect.mono_l k
  ·intro y0 y1 y2 y3 y4 y5 y6 y7 y8 y9
   unfold impl_Collect.l0
   repeat' first
   | (with_reducible exact ih0 _ _ _ _ _ _ _ _ _ _)
   | (with_reducible exact impl_AgesOk.mono _ _ _ _)
   | (with_reducible exact LeO.refl _)
   | (with_reducible exact LeO.none _)
   | (with_reducible refine LeO.ite ?_ ?_)
   | (with_reducible refine LeO.bind ?_ (fun _ => ?_))
   | exact ih0 _ _ _ _ _ _ _ _ _ _
   | exact impl_AgesOk.mono _ _ _ _
   | exact LeO.none _
   | refine LeO.ite ?_ ?_
   | refine LeO.bind ?_ (fun _ => ?_)
theorem impl_Collect.mono : ∀ a0 a1 a2 k, LeO (impl_Collect.f k a0 a1 a2) (impl_Collect.f (k + 1) a0 a1 a2) := by
 intro a0 a1 a2 k
 have ih0 := impl_Collect.mono_l k
 unfold impl_Collect.f
 repeat' first
   | (with_reducible exact ih0 _ _ _ _ _ _ _ _ _ _)
   | (with_reducible exact impl_AgesOk.mono _ _ _ _)
   | (with_reducible exact LeO.refl _)
   | (with_reducible exact LeO.none _)
   | (with_reducible refine LeO.ite ?_ ?_)
   | (with_reducible refine LeO.bind ?_ (fun _ => ?_))
   | exact ih0 _ _ _ _ _ _ _ _ _ _
   | exact impl_AgesOk.mono _ _ _ _
   | exact LeO.none _
   | refine LeO.ite ?_ ?_
   | refine LeO.bind ?_ (fun _ => ?_)
set_option maxHeartbeats 8000000 in
set_option maxRecDepth 100000 in
theorem impl_Collect.calls (k : Nat) (a0_0 : Int) (A0_1 : Option Addr) (c0_1 : Nat) (l0_1 : List Int) (A0_2 : Option Addr) (c0_2 : Nat) (l0_2 : List (S70)) (r1 : Int) (r2 : List Int) (r3 : List (S70)) (r4 : List Int) (w : World) (hr0_1 : Kd.C (Kd.int .i64) w A0_1 l0_1.length l0_1) (hc0_1 : l0_1.length ≤ c0_1) (hr0_2 : Kd.C k70 w A0_2 l0_2.length l0_2) (hc0_2 : l0_2.length ≤ c0_2) (h : impl_Collect.f k a0_0 l0_1 l0_2 = some (r1, r2, r3, r4)) :
  Calls Try.prog 74 #[.agg #[.int .i64 a0_0, .slice A0_1 l0_1.length c0_1, .slice A0_2 l0_2.length c0_2]] w fun e w' => ∃ v1_ v2_ v3_ : Value, e = .returned (.tuple #[.agg #[.int .i64 r1, v1_, v2_], v3_]) ∧ Kd.R (Kd.int .i64) 3 w' w.heap.size (fun k_ => some k_ ≠ (v3_ : Value).ownBlock) v1_ r2 ∧ Kd.R k70 70 w' w.heap.size (fun _ => True) v2_ r3 ∧ Kd.R (Kd.int .i64) 3 w' w.heap.size (fun k_ => some k_ ≠ (v1_ : Value).ownBlock) v3_ r4 ∧ Below w.heap.size w w' := by
 have hu25 := Try.underlying25
 have hu70 := Try.underlying70
 have HR0_1 := Aside0.mk hr0_1
 have HC0_1 := Aside0.mk hc0_1
 clear hr0_1 hc0_1
 have HR0_2 := Aside0.mk hr0_2
 have HC0_2 := Aside0.mk hc0_2
 clear hr0_2 hc0_2
 have HB := Aside0.mk (Below.refl w.heap.size w)
 have H : ((impl_AgesOk.f k a0_0 l0_1 l0_2).bind fun t397 => (if t397 = true then ((impl_copyAges.f a0_0 l0_1 l0_2).bind fun bt398 => (impl_Collect.l0 k (([] : List Int)) l0_2 (l0_2.length : Int) 0 a0_0 l0_1 l0_2 bt398.1 bt398.2.1 ([] : List (S70)))) else (some (0, ([] : List Int), ([] : List (S70)), ([] : List Int))))) = some (r1, r2, r3, r4) := h
 clear h
 replace H := Option.bind_eq_some_iff.mp H
 obtain ⟨t397, A20, H⟩ := H
 replace H : (if t397 = true then ((impl_copyAges.f a0_0 l0_1 l0_2).bind fun bt398 => (impl_Collect.l0 k (([] : List Int)) l0_2 (l0_2.length : Int) 0 a0_0 l0_1 l0_2 bt398.1 bt398.2.1 ([] : List (S70)))) else (some (0, ([] : List Int), ([] : List (S70)), ([] : List Int)))) = some (r1, r2, r3, r4) := H
 have A2 := Aside0.mk A20
 clear A20
 by_cases c3 : t397 = true
 ·subst c3
  have H1 : ((impl_copyAges.f a0_0 l0_1 l0_2).bind fun bt398 => (impl_Collect.l0 k (([] : List Int)) l0_2 (l0_2.length : Int) 0 a0_0 l0_1 l0_2 bt398.1 bt398.2.1 ([] : List (S70)))) = some (r1, r2, r3, r4) := by rw [if_pos rfl] at H; exact H
  clear H
  have H := H1
  clear H1
  replace H := Option.bind_eq_some_iff.mp H
  obtain ⟨⟨t398, t399, t402⟩, A40, H⟩ := H
  replace H : (impl_Collect.l0 k (([] : List Int)) l0_2 (l0_2.length : Int) 0 a0_0 l0_1 l0_2 t398 t399 ([] : List (S70))) = some (r1, r2, r3, r4) := H
  have A4 := Aside0.mk A40
  clear A40
  obtain ⟨y406, hy406⟩ : ∃ y_ : List Int, y_ = (([] : List Int)) := ⟨_, rfl⟩
  replace H : (impl_Collect.l0 k y406 l0_2 (l0_2.length : Int) 0 a0_0 l0_1 l0_2 t398 t399 ([] : List (S70))) = some (r1, r2, r3, r4) := by first | (rw [hy406]; with_reducible exact H) | (have H2_ := (Option.bind_some _ _).symm.trans H; rw [hy406]; with_reducible exact H2_) | (have H2_ := (Option.bind_some _ _).symm.trans H; with_reducible exact H2_) | with_reducible exact H | (rw [hy406]; exact H) | exact H
  have Ny406 := Aside0.mk hy406
  clear hy406
  have H' := Aside0.mk H
  clear H
  go_enter Try.func74, Try.ntmps74
  go_wp2_with (first | ((with_reducible refine gate_dst (N := 1) rfl ?_); refine bx 1 #[.int .i64 a0_0, .slice A0_1 l0_1.length c0_1, .slice A0_2 l0_2.length c0_2] 25 ?_; intro gb395 hg w5 hbox hb; have BK395 := am hbox; have GW395 := gs0 hg HB; have GE395 := gs0 hg HB; replace HB := s0 HB hb; clear hb hbox hg) | ((with_reducible refine gate_dst (N := 2) rfl ?_); refine bx 2 #[.int .i64 0, .slice none 0 0, .slice none 0 0] 25 ?_; intro gb396 hg w6 hbox hb; have BK396 := am hbox; have GW396 := gs1 hg HB GE395; have GE396 := gs1 hg HB GE395; replace HB := Aside0.mk (below_step (be1 HB GE395) hb); have NB395_396 := Aside0.mk ((by rw [hg]; exact Nat.ne_of_lt (bl BK395) : gb395 ≠ gb396)); have NB396_395 := Aside0.mk ((by rw [hg]; exact Nat.ne_of_gt (bl BK395) : gb396 ≠ gb395)); replace BK395 := bb BK395 hb; clear hb hbox hg; have hnb7 := NB395_396.out; have hnc7 := NB396_395.out; have hcz8_0 := bz3 BK395) | ((with_reducible refine gate_callee (f := 59) rfl ?_); refine gl 9 Try.func59 #[.agg #[.int .i64 a0_0, .slice A0_1 l0_1.length c0_1, .slice A0_2 l0_2.length c0_2]] ?_; (with_reducible refine (impl_AgesOk.calls k a0_0 _ _ l0_1 _ _ l0_2 true _ (cb HR0_1 HB) HC0_1.out (cb HR0_2 HB) HC0_2.out A2.out).mono ?_); rintro e w9 ⟨rfl, hb⟩; refine ⟨_, rfl, ?_⟩; replace BK395 := bb BK395 hb; replace BK396 := bb BK396 hb; replace HB := Aside0.mk (below_step (be2 HB GE395 GE396) hb); (try clear hb); have hcz10_0 := bz3 BK395) | ((with_reducible refine gate_callee (f := 96) rfl ?_); refine gl 13 Try.func96 #[.agg #[.int .i64 a0_0, .slice A0_1 l0_1.length c0_1, .slice A0_2 l0_2.length c0_2]] ?_; (with_reducible refine (impl_copyAges.calls a0_0 _ _ l0_1 _ _ l0_2 t398 t399 t402 _ (cb HR0_1 HB) HC0_1.out (cb HR0_2 HB) HC0_2.out A4.out).mono ?_); rintro e w11 ⟨v400, v403, rfl, ho0, ho1, hb⟩; refine ⟨_, rfl, ?_⟩; have HO401 := Aside0.mk (Kd.R_lower ho0 (below_size (be2 HB GE395 GE396))); have HO404 := Aside0.mk (Kd.R_lower ho1 (below_size (be2 HB GE395 GE396))); replace BK395 := bb BK395 hb; replace BK396 := bb BK396 hb; replace HB := Aside0.mk (below_step (be2 HB GE395 GE396) hb); (try clear hb); (try clear ho0); (try clear ho1)) | ((with_reducible refine gate_dst (N := 4) rfl ?_); refine bx 4 #[.int .i64 0, .slice none 0 0, .slice none 0 0] 25 ?_; intro gb405 hg w12 hbox hb; replace HO401 := rb HO401 hb; replace HO404 := rb HO404 hb; have BK405 := am hbox; have GW405 := gs2 hg HB GE395 GE396; have GE405 := gs2 hg HB GE395 GE396; replace HB := Aside0.mk (below_step (be2 HB GE395 GE396) hb); have NB395_405 := Aside0.mk ((by rw [hg]; exact Nat.ne_of_lt (bl BK395) : gb395 ≠ gb405)); have NB405_395 := Aside0.mk ((by rw [hg]; exact Nat.ne_of_gt (bl BK395) : gb405 ≠ gb395)); replace BK395 := bb BK395 hb; have NB396_405 := Aside0.mk ((by rw [hg]; exact Nat.ne_of_lt (bl BK396) : gb396 ≠ gb405)); have NB405_396 := Aside0.mk ((by rw [hg]; exact Nat.ne_of_gt (bl BK396) : gb405 ≠ gb396)); replace BK396 := bb BK396 hb; clear hb hbox hg; have hnb13 := NB405_395.out; have hnc13 := NB395_405.out; have hnb14 := NB405_396.out; have hnc14 := NB396_405.out; have hcz15_0 := bz3 BK405; obtain ⟨Ao16, co16, eo16⟩ := Kd.R_slice HO401.out; subst eo16; obtain ⟨Ao17, co17, eo17⟩ := Kd.R_slice HO404.out; subst eo17; have hys77_1 := st3 BK405 (.int .i64 t398) (.slice Ao16 t399.length co16) (.slice Ao17 t402.length co17)) | ((with_reducible refine gate_dst (N := 15) rfl ?_); refine Kd.R_lit (Kd.int .i64) _ 3 ?hg (N := 15) ?hd (xs := ([] : List Int)) (inner := []) (ok := fun _ => True) (okp := fun _ => True) ?hr ?hp (fun _ hk => hk) trivial (Below.refl _ _) (Nat.le_refl _) (by simp) ?_; (case hd => rfl); (case hg => rfl); (case hr => first | (go_simp; done) | (go_simp; rfl)); (case hp => exact (Reps.none _ _)); intro v407 w18 ho19 hb hg_ hnew_; clear hg_ hnew_; (first | rw [← Ny406.out] at ho19 | (simp only [Int.reduceToNat] at ho19; rw [← Ny406.out] at ho19)); replace HO404 := Aside0.mk (Kd.R_below (rf HO404 BK405) hb); have HO408 := Aside0.mk (Kd.R_lower (Kd.R_new' ho19 (Kd.R_lt (rf HO401 BK405))) (below_size (be3 HB GE395 GE396 GE405))); replace HO401 := Aside0.mk (Kd.R_elder' (rf HO401 BK405) (Kd.R_base ho19) hb); replace BK395 := Aside0.mk (blk_below (g := gb395) (o := .cells #[.int .i64 a0_0, .slice A0_1 l0_1.length c0_1, .slice A0_2 l0_2.length c0_2] 25 (0, 0)) (bf1 BK395 NB395_405) hb); replace BK396 := Aside0.mk (blk_below (g := gb396) (o := .cells #[.int .i64 0, .slice none 0 0, .slice none 0 0] 25 (0, 0)) (bf1 BK396 NB396_405) hb); replace BK405 := Aside0.mk (blk_below (g := gb405) (o := .cells #[.int .i64 t398, .slice Ao16 t399.length co16, .slice none 0 0] 25 (0, 0)) (by (with_reducible repeat (first | refine blk_drewN ?_ _ | refine blk_drew ?_ | refine blk_alloc ?_ _)); refine blk_put (cs := #[.int .i64 t398, .slice Ao16 t399.length co16, .slice Ao17 t402.length co17]) ?_ 2 _ rfl; (with_reducible repeat (first | refine blk_drewN ?_ _ | refine blk_drew ?_ | refine blk_alloc ?_ _)); refine blk_put (cs := #[.int .i64 t398, .slice Ao16 t399.length co16, .slice none 0 0]) ?_ 2 _ rfl; (with_reducible repeat (first | refine blk_drewN ?_ _ | refine blk_drew ?_ | refine blk_alloc ?_ _)); refine blk_put (cs := #[.int .i64 t398, .slice none 0 0, .slice none 0 0]) ?_ 1 _ rfl; (with_reducible repeat (first | refine blk_drewN ?_ _ | refine blk_drew ?_ | refine blk_alloc ?_ _)); refine blk_put (cs := #[.int .i64 0, .slice none 0 0, .slice none 0 0]) ?_ 0 _ rfl; (with_reducible repeat (first | refine blk_drewN ?_ _ | refine blk_drew ?_ | refine blk_alloc ?_ _)); exact BK405.out) hb); replace HB := Aside0.mk (below_step (be3 HB GE395 GE396 GE405) hb); clear hb ho19; have hcz20_0 := bz3 BK395))
  go_loopg [5, 19] k (fun kq v5 v19 w' => ∃ (x5_1 : List Int) (x19_1 : Int) (x406002_1 : List (S70)) (u406002 : Value), v19 = .int .i64 x19_1 ∧ Aside0 (impl_Collect.l0 kq x5_1 l0_2 (l0_2.length : Int) x19_1 a0_0 l0_1 l0_2 t398 t399 x406002_1 = some (r1, r2, r3, r4)) ∧ Aside0 (kq ≤ k) ∧ Aside0 (Kd.R (Kd.int .i64) 3 w' w.heap.size (fun k_ => nb k_ Ao16 t399.length co16) v5 x5_1) ∧ Aside0 (Kd.R (Kd.int .i64) 3 w' w.heap.size (fun k_ => some k_ ≠ (v5 : Value).ownBlock) (.slice Ao16 t399.length co16) t399) ∧ Aside0 (Kd.R k70 70 w' w.heap.size (fun _ => True) u406002 x406002_1) ∧ Aside0 (w'.heap[gb395]? = some (.cells #[.int .i64 a0_0, (.slice A0_1 l0_1.length c0_1), (.slice A0_2 l0_2.length c0_2)] 25 (0, 0))) ∧ Aside0 (w'.heap[gb396]? = some (.cells #[.int .i64 0, (.slice none 0 0), (.slice none 0 0)] 25 (0, 0))) ∧ Aside0 (w'.heap[gb405]? = some (.cells #[.int .i64 t398, (.slice Ao16 t399.length co16), u406002] 25 (0, 0))) ∧ Aside0 (Below w.heap.size w w'))
  case atStart => exact ⟨(y406), (0), (([] : List (S70))), (.slice none 0 0), rs, H', ⟨Nat.le_refl _⟩, ⟨by (with_reducible repeat (first | apply Kd.R_alloc | apply Kd.R_drewN | apply Kd.R_drew)); exact Kd.R_mono HO408.out (fun _ hk => hk.2)⟩, ⟨by (with_reducible repeat (first | apply Kd.R_alloc | apply Kd.R_drewN | apply Kd.R_drew)); exact Kd.R_mono HO401.out (fun _ hk => hk.2)⟩, ⟨by first | exact Kd.R_nil _ _ _ _ _ | exact Kd.N_nil _ _ _ _ _ | exact Kd.V_nil _ _ _ _ _ | exact Kd.Q_nil _ _ _ _ _ | exact Kd.S_nil _ _ _ _ _⟩, ⟨bk BK395⟩, ⟨bk BK396⟩, ⟨bk BK405⟩, ⟨be3 HB GE395 GE396 GE405⟩⟩
  case round =>
   clear H'
   try clear c1; try clear p2; try clear c3; try clear c5; try clear c7; try clear c9; try clear c13; try clear c14; try clear hcz10_0; try clear hcz15_0; try clear hcz20_0; try clear hcz8_0
   obtain ⟨x5_1, x19_1, x406002_1, u406002, rfl, HA, HK1, HO_5, HO_406001, HO_406002, BK395, BK396, BK405, HB⟩ := hrel
   cases gk with
   | zero => exact absurd HA.out (by simp [impl_Collect.l0])
   | succ k1 =>
    have H := HA.out
    clear HA
    simp only [impl_Collect.l0] at H
    by_cases c21 : x19_1 < (l0_2.length : Int)
    ·rw [if_pos c21] at H
     have c21b0 : decide (x19_1 < (l0_2.length : Int)) = true := decide_eq_true c21
     clear c21
     by_cases c22 : 0 ≤ x19_1
     ·rw [if_pos c22] at H
      have c22b0 : decide (0 ≤ x19_1) = true := decide_eq_true c22
      clear c22
      by_cases c23 : x19_1 < (l0_2.length : Int)
      ·rw [if_pos c23] at H
       have c23b0 : decide (x19_1 < (l0_2.length : Int)) = true := decide_eq_true c23
       clear c23
       by_cases c24 : ((rd_T70 l0_2 x19_1).f1) ≤ (wrap64 (a0_0 - 2))
       ·rw [if_pos c24] at H
        have c24b0 : decide (((rd_T70 l0_2 x19_1).f1) ≤ (wrap64 (a0_0 - 2))) = true := decide_eq_true c24
        clear c24
        by_cases c25 : x5_1.length < 17592186044416
        ·rw [if_pos c25] at H
         have LMc25 := Aside0.mk c25
         clear c25
         obtain ⟨y411, hy411⟩ : ∃ y_ : List Int, y_ = (x5_1 ++ [(rd_T70 l0_2 x19_1).f0]) := ⟨_, rfl⟩
         replace H : (impl_Collect.l0 k1 y411 l0_2 (l0_2.length : Int) (wrap64 (x19_1 + 1)) a0_0 l0_1 l0_2 t398 t399 x406002_1) = some (r1, r2, r3, r4) := by first | (rw [hy411]; with_reducible exact H) | (have H2_ := (Option.bind_some _ _).symm.trans H; rw [hy411]; with_reducible exact H2_) | (have H2_ := (Option.bind_some _ _).symm.trans H; with_reducible exact H2_) | with_reducible exact H | (rw [hy411]; exact H) | exact H
         have Ny411 := Aside0.mk hy411
         clear hy411
         have H' := Aside0.mk H
         clear H
         have p409 : 0 ≤ (x19_1 : Int) := od
         have q409 : x19_1 < (l0_2.length : Int) := od
         obtain ⟨ad409, e409, hx409_0, hx409_1⟩ := at_T70 HR0_2.out x19_1 p409 q409
         cases e409
         replace hx409_0 := hc HB hx409_0
         replace hx409_1 := hc HB hx409_1
         replace p409 := eq_true p409
         replace q409 := eq_true q409
         go_wp2_with (first | ((with_reducible refine gate_dst (N := 7) rfl ?_); refine bx 7 #[.int .i64 0, .int .i64 0] 70 ?_; intro gb410 hg w26 hbox hb; replace HO_5 := rb HO_5 hb; replace HO_406001 := rb HO_406001 hb; replace HO_406002 := Aside0.mk (Kd.R_below (Kd.R_elderB (ro HO_406002) gb410 (Nat.le_of_eq hg.symm)) hb); have BK410 := am hbox; have GW410 := Aside0.mk ((by rw [hg]; exact (below_size (be3 HB GE395 GE396 GE405)) : w.heap.size ≤ gb410)); have GE410 := Aside0.mk ((by rw [hg]; exact (below_size (be3 HB GE395 GE396 GE405)) : w.heap.size ≤ gb410)); replace HB := Aside0.mk (below_step (be3 HB GE395 GE396 GE405) hb); have NB395_410 := Aside0.mk ((by rw [hg]; exact Nat.ne_of_lt (bl BK395) : gb395 ≠ gb410)); have NB410_395 := Aside0.mk ((by rw [hg]; exact Nat.ne_of_gt (bl BK395) : gb410 ≠ gb395)); replace BK395 := bb BK395 hb; have NB396_410 := Aside0.mk ((by rw [hg]; exact Nat.ne_of_lt (bl BK396) : gb396 ≠ gb410)); have NB410_396 := Aside0.mk ((by rw [hg]; exact Nat.ne_of_gt (bl BK396) : gb410 ≠ gb396)); replace BK396 := bb BK396 hb; have NB405_410 := Aside0.mk ((by rw [hg]; exact Nat.ne_of_lt (bl BK405) : gb405 ≠ gb410)); have NB410_405 := Aside0.mk ((by rw [hg]; exact Nat.ne_of_gt (bl BK405) : gb410 ≠ gb405)); replace BK405 := bb BK405 hb; clear hb hbox hg; have hnb27 := NB410_395.out; have hnc27 := NB395_410.out; have hnb28 := NB410_396.out; have hnc28 := NB396_410.out; have hnb29 := NB410_405.out; have hnc29 := NB405_410.out; have hcz30_0 := bz2 BK410; have hnb31 := NB395_396.out; have hnc31 := NB396_395.out; have hnb32 := NB395_405.out; have hnc32 := NB405_395.out; have hcz33_0 := bz3 BK395) | ((with_reducible refine gate_builtin (b := .append) (xs := #[.tmp 29, .tmp 32]) rfl ?_); at_builtin; refine Kd.R_append (Kd.int .i64) (w0 := w) w.heap.size rfl (.tmp 29) (.tmp 32) 22 3 (.int .i64 0) 8 rfl Try.underlying22 info3 rfl (by decide) (by omega) u5 x5_1 ((rd_T70 l0_2 x19_1).f0) [.int .i64 ((rd_T70 l0_2 x19_1).f0)] (fun k_ => nb k_ Ao16 t399.length co16) (fun _ => False) rfl (by first | (go_simp; done) | (go_simp; rfl)) ?aP (fun _ hk => hk.elim) ?aF ?aO ?aB ?aS ?aL ?_; (case aP => exact rfl); (case aB => exact (be4 HB GE395 GE396 GE405 GE410)); (case aF => exact (fun k_ hk => Kd.fresh' (Kd.R_lt (by (with_reducible repeat (first | apply Kd.R_alloc | apply Kd.R_drewN | apply Kd.R_drew)); exact (Kd.R_mono (Kd.R_far (p := ⟨gb410, 1, none⟩) (Kd.R_far (p := ⟨gb410, 0, none⟩) (Kd.R_types HO_406001.out BK410.out (by decide)) (fun _ hk => hk.2) (.int .i64 ((rd_T70 l0_2 x19_1).f0))) (fun _ hk => hk.2) (.int .i64 ((rd_T70 l0_2 x19_1).f1))) (fun _ h_ => h_.1)))) k_ hk)); (case aO => exact (by (with_reducible repeat (first | apply Kd.R_alloc | apply Kd.R_drewN | apply Kd.R_drew)); exact Kd.R_mono (Kd.R_far (p := ⟨gb410, 1, none⟩) (Kd.R_far (p := ⟨gb410, 0, none⟩) (Kd.R_types HO_5.out BK410.out (by decide)) (fun _ hk => hk.2) (.int .i64 ((rd_T70 l0_2 x19_1).f0))) (fun _ hk => hk.2) (.int .i64 ((rd_T70 l0_2 x19_1).f1))) (fun _ hk => hk.1))); (case aS => exact (below_size (be4 HB GE395 GE396 GE405 GE410))); (case aL => have := LMc25.out; omega); intro v412 w34 ho hb hg hat; rw [← Ny411.out] at ho; replace HO_406001 := Aside0.mk (Kd.R_after (ok := (fun _ => True)) (by (with_reducible repeat (first | apply Kd.R_alloc | apply Kd.R_drewN | apply Kd.R_drew)); exact Kd.R_mono (Kd.R_far (p := ⟨gb410, 1, none⟩) (Kd.R_far (p := ⟨gb410, 0, none⟩) (Kd.R_types HO_406001.out BK410.out (by decide)) (fun _ hk => hk.2) (.int .i64 ((rd_T70 l0_2 x19_1).f0))) (fun _ hk => hk.2) (.int .i64 ((rd_T70 l0_2 x19_1).f1))) (fun _ hk => ⟨trivial, hk.1⟩)) hg hat); replace HO_406002 := Aside0.mk (Kd.R_over' (by (with_reducible repeat (first | apply Kd.R_alloc | apply Kd.R_drewN | apply Kd.R_drew)); exact (Kd.R_mono (Kd.R_far (p := ⟨gb410, 1, none⟩) (Kd.R_far (p := ⟨gb410, 0, none⟩) (Kd.R_mono HO_406002.out (fun k_ hk => (⟨hk, hk.2⟩ : _ ∧ k_ ≠ gb410))) (fun _ hk => hk.2) (.int .i64 ((rd_T70 l0_2 x19_1).f0))) (fun _ hk => hk.2) (.int .i64 ((rd_T70 l0_2 x19_1).f1))) (fun _ h_ => h_.1))) (Kd.R_typed (by (with_reducible repeat (first | apply Kd.R_alloc | apply Kd.R_drewN | apply Kd.R_drew)); exact (Kd.R_mono (Kd.R_far (p := ⟨gb410, 1, none⟩) (Kd.R_far (p := ⟨gb410, 0, none⟩) (Kd.R_types HO_5.out BK410.out (by decide)) (fun _ hk => hk.2) (.int .i64 ((rd_T70 l0_2 x19_1).f0))) (fun _ hk => hk.2) (.int .i64 ((rd_T70 l0_2 x19_1).f1))) (fun _ h_ => h_.1)))) (by decide) hg); replace BK395 := Aside0.mk (blk_grown (g := gb395) (o := .cells #[.int .i64 a0_0, .slice A0_1 l0_1.length c0_1, .slice (some ad409) l0_2.length c0_2] 25 (0, 0)) (bf1 BK395 NB395_410) hg (Kd.R_ne HO_5.out BK395.out (by decide))); replace BK396 := Aside0.mk (blk_grown (g := gb396) (o := .cells #[.int .i64 0, .slice none 0 0, .slice none 0 0] 25 (0, 0)) (bf1 BK396 NB396_410) hg (Kd.R_ne HO_5.out BK396.out (by decide))); replace BK405 := Aside0.mk (blk_grown (g := gb405) (o := .cells #[.int .i64 t398, .slice Ao16 t399.length co16, u406002] 25 (0, 0)) (bf1 BK405 NB405_410) hg (Kd.R_ne HO_5.out BK405.out (by decide))); replace BK410 := Aside0.mk (blk_grown (g := gb410) (o := .cells #[.int .i64 ((rd_T70 l0_2 x19_1).f0), .int .i64 ((rd_T70 l0_2 x19_1).f1)] 70 (0, 0)) (by (with_reducible repeat (first | refine blk_drewN ?_ _ | refine blk_drew ?_ | refine blk_alloc ?_ _)); refine blk_put (cs := #[.int .i64 ((rd_T70 l0_2 x19_1).f0), .int .i64 0]) ?_ 1 _ rfl; (with_reducible repeat (first | refine blk_drewN ?_ _ | refine blk_drew ?_ | refine blk_alloc ?_ _)); refine blk_put (cs := #[.int .i64 0, .int .i64 0]) ?_ 0 _ rfl; (with_reducible repeat (first | refine blk_drewN ?_ _ | refine blk_drew ?_ | refine blk_alloc ?_ _)); exact BK410.out) hg (Kd.R_ne HO_5.out BK410.out (by decide))); replace HB := Aside0.mk (hb); have HO413 := Aside0.mk (ho); clear HO_5; clear ho hb hg hat))
         go_roundg k1
         case measure => have := HK1.out; omega
         case rel => exact ⟨(y411), (wrap64 (x19_1 + 1)), (x406002_1), (u406002), rs, H', ⟨by have := HK1.out; omega⟩, ⟨ro HO413⟩, ⟨by (with_reducible repeat (first | apply Kd.R_alloc | apply Kd.R_drewN | apply Kd.R_drew)); exact Kd.R_mono HO_406001.out (fun _ hk => hk.2)⟩, ⟨by (with_reducible repeat (first | apply Kd.R_alloc | apply Kd.R_drewN | apply Kd.R_drew)); exact Kd.R_mono HO_406002.out (fun _ hk => trivial)⟩, ⟨bk BK395⟩, ⟨bk BK396⟩, ⟨bk BK405⟩, ⟨be4 HB GE395 GE396 GE405 GE410⟩⟩
        rw [if_neg c25] at H
        exact absurd H (by simp)
       rw [if_neg c24] at H
       have c24b0 : decide (((rd_T70 l0_2 x19_1).f1) ≤ (wrap64 (a0_0 - 2))) = false := decide_eq_false c24
       clear c24
       by_cases c35 : x406002_1.length < 8796093022208
       ·rw [if_pos c35] at H
        have LMc35 := Aside0.mk c35
        clear c35
        obtain ⟨y414, hy414⟩ : ∃ y_ : List (S70), y_ = (x406002_1 ++ [(⟨(rd_T70 l0_2 x19_1).f0, (rd_T70 l0_2 x19_1).f1⟩ : S70)]) := ⟨_, rfl⟩
        replace H : (impl_Collect.l0 k1 x5_1 l0_2 (l0_2.length : Int) (wrap64 (x19_1 + 1)) a0_0 l0_1 l0_2 t398 t399 y414) = some (r1, r2, r3, r4) := by first | (rw [hy414]; with_reducible exact H) | (have H2_ := (Option.bind_some _ _).symm.trans H; rw [hy414]; with_reducible exact H2_) | (have H2_ := (Option.bind_some _ _).symm.trans H; with_reducible exact H2_) | with_reducible exact H | (rw [hy414]; exact H) | exact H
        have Ny414 := Aside0.mk hy414
        clear hy414
        have H' := Aside0.mk H
        clear H
        have p409 : 0 ≤ (x19_1 : Int) := od
        have q409 : x19_1 < (l0_2.length : Int) := od
        obtain ⟨ad409, e409, hx409_0, hx409_1⟩ := at_T70 HR0_2.out x19_1 p409 q409
        cases e409
        replace hx409_0 := hc HB hx409_0
        replace hx409_1 := hc HB hx409_1
        replace p409 := eq_true p409
        replace q409 := eq_true q409
        go_wp2_with (first | ((with_reducible refine gate_dst (N := 7) rfl ?_); refine bx 7 #[.int .i64 0, .int .i64 0] 70 ?_; intro gb410 hg w36 hbox hb; replace HO_5 := rb HO_5 hb; replace HO_406001 := rb HO_406001 hb; replace HO_406002 := Aside0.mk (Kd.R_below (Kd.R_elderB (ro HO_406002) gb410 (Nat.le_of_eq hg.symm)) hb); have BK410 := am hbox; have GW410 := Aside0.mk ((by rw [hg]; exact (below_size (be3 HB GE395 GE396 GE405)) : w.heap.size ≤ gb410)); have GE410 := Aside0.mk ((by rw [hg]; exact (below_size (be3 HB GE395 GE396 GE405)) : w.heap.size ≤ gb410)); replace HB := Aside0.mk (below_step (be3 HB GE395 GE396 GE405) hb); have NB395_410 := Aside0.mk ((by rw [hg]; exact Nat.ne_of_lt (bl BK395) : gb395 ≠ gb410)); have NB410_395 := Aside0.mk ((by rw [hg]; exact Nat.ne_of_gt (bl BK395) : gb410 ≠ gb395)); replace BK395 := bb BK395 hb; have NB396_410 := Aside0.mk ((by rw [hg]; exact Nat.ne_of_lt (bl BK396) : gb396 ≠ gb410)); have NB410_396 := Aside0.mk ((by rw [hg]; exact Nat.ne_of_gt (bl BK396) : gb410 ≠ gb396)); replace BK396 := bb BK396 hb; have NB405_410 := Aside0.mk ((by rw [hg]; exact Nat.ne_of_lt (bl BK405) : gb405 ≠ gb410)); have NB410_405 := Aside0.mk ((by rw [hg]; exact Nat.ne_of_gt (bl BK405) : gb410 ≠ gb405)); replace BK405 := bb BK405 hb; clear hb hbox hg; have hnb37 := NB410_395.out; have hnc37 := NB395_410.out; have hnb38 := NB410_396.out; have hnc38 := NB396_410.out; have hnb39 := NB410_405.out; have hnc39 := NB405_410.out; have hcz40_0 := bz2 BK410; have hnb41 := NB395_396.out; have hnc41 := NB396_395.out; have hnb42 := NB395_405.out; have hnc42 := NB405_395.out; have hcz43_0 := bz3 BK395; have hnb44 := NB405_396.out; have hnc44 := NB396_405.out; have hcz45_0 := bz3 BK405) | ((with_reducible refine gate_builtin (b := .append) (xs := #[.tmp 35, .tmp 37]) rfl ?_); at_builtin; refine Kd.R_append k70 (w0 := w) w.heap.size rfl (.tmp 35) (.tmp 37) 23 70 (.agg #[(.int .i64 0), (.int .i64 0)]) 16 rfl Try.underlying23 info70 rfl (by decide) (by omega) u406002 x406002_1 (⟨(rd_T70 l0_2 x19_1).f0, (rd_T70 l0_2 x19_1).f1⟩ : S70) [.int .i64 ((rd_T70 l0_2 x19_1).f0), .int .i64 ((rd_T70 l0_2 x19_1).f1)] (fun k_ => k_ ≠ gb410) (fun _ => False) rfl (by first | (go_simp; done) | (go_simp; rfl)) ?aP (fun _ hk => hk.elim) ?aF ?aO ?aB ?aS ?aL ?_; (case aP => exact k70_mkM _ _ _ (⟨(rd_T70 l0_2 x19_1).f0, (rd_T70 l0_2 x19_1).f1⟩ : S70)); (case aB => exact (be4 HB GE395 GE396 GE405 GE410)); (case aF => exact (fun k_ hk => Kd.freshB (g := gb410) (o := .cells #[.int .i64 ((rd_T70 l0_2 x19_1).f0), .int .i64 ((rd_T70 l0_2 x19_1).f1)] 70 (0, 0)) (by (with_reducible repeat (first | refine blk_drewN ?_ _ | refine blk_drew ?_ | refine blk_alloc ?_ _)); refine blk_put (cs := #[.int .i64 ((rd_T70 l0_2 x19_1).f0), .int .i64 0]) ?_ 1 _ rfl; (with_reducible repeat (first | refine blk_drewN ?_ _ | refine blk_drew ?_ | refine blk_alloc ?_ _)); refine blk_put (cs := #[.int .i64 0, .int .i64 0]) ?_ 0 _ rfl; (with_reducible repeat (first | refine blk_drewN ?_ _ | refine blk_drew ?_ | refine blk_alloc ?_ _)); exact BK410.out) k_ hk)); (case aO => exact (by (with_reducible repeat (first | apply Kd.R_alloc | apply Kd.R_drewN | apply Kd.R_drew)); exact Kd.R_mono (Kd.R_far (p := ⟨gb410, 1, none⟩) (Kd.R_far (p := ⟨gb410, 0, none⟩) (Kd.R_mono HO_406002.out (fun k_ hk => (⟨hk, hk.2⟩ : _ ∧ k_ ≠ gb410))) (fun _ hk => hk.2) (.int .i64 ((rd_T70 l0_2 x19_1).f0))) (fun _ hk => hk.2) (.int .i64 ((rd_T70 l0_2 x19_1).f1))) (fun _ hk => hk.1.2))); (case aS => exact (below_size (be4 HB GE395 GE396 GE405 GE410))); (case aL => have := LMc35.out; omega); intro v415 w46 ho hb hg hat; rw [← Ny414.out] at ho; replace HO_5 := Aside0.mk (Kd.R_over' (by (with_reducible repeat (first | apply Kd.R_alloc | apply Kd.R_drewN | apply Kd.R_drew)); exact (Kd.R_mono (Kd.R_far (p := ⟨gb410, 1, none⟩) (Kd.R_far (p := ⟨gb410, 0, none⟩) (Kd.R_types HO_5.out BK410.out (by decide)) (fun _ hk => hk.2) (.int .i64 ((rd_T70 l0_2 x19_1).f0))) (fun _ hk => hk.2) (.int .i64 ((rd_T70 l0_2 x19_1).f1))) (fun _ h_ => h_.1))) (Kd.R_typed (by (with_reducible repeat (first | apply Kd.R_alloc | apply Kd.R_drewN | apply Kd.R_drew)); exact (Kd.R_mono (Kd.R_far (p := ⟨gb410, 1, none⟩) (Kd.R_far (p := ⟨gb410, 0, none⟩) (Kd.R_mono HO_406002.out (fun k_ hk => (⟨hk, hk.2⟩ : _ ∧ k_ ≠ gb410))) (fun _ hk => hk.2) (.int .i64 ((rd_T70 l0_2 x19_1).f0))) (fun _ hk => hk.2) (.int .i64 ((rd_T70 l0_2 x19_1).f1))) (fun _ h_ => h_.1)))) (by decide) hg); replace HO_406001 := Aside0.mk (Kd.R_over' (by (with_reducible repeat (first | apply Kd.R_alloc | apply Kd.R_drewN | apply Kd.R_drew)); exact (Kd.R_mono (Kd.R_far (p := ⟨gb410, 1, none⟩) (Kd.R_far (p := ⟨gb410, 0, none⟩) (Kd.R_types HO_406001.out BK410.out (by decide)) (fun _ hk => hk.2) (.int .i64 ((rd_T70 l0_2 x19_1).f0))) (fun _ hk => hk.2) (.int .i64 ((rd_T70 l0_2 x19_1).f1))) (fun _ h_ => h_.1))) (Kd.R_typed (by (with_reducible repeat (first | apply Kd.R_alloc | apply Kd.R_drewN | apply Kd.R_drew)); exact (Kd.R_mono (Kd.R_far (p := ⟨gb410, 1, none⟩) (Kd.R_far (p := ⟨gb410, 0, none⟩) (Kd.R_mono HO_406002.out (fun k_ hk => (⟨hk, hk.2⟩ : _ ∧ k_ ≠ gb410))) (fun _ hk => hk.2) (.int .i64 ((rd_T70 l0_2 x19_1).f0))) (fun _ hk => hk.2) (.int .i64 ((rd_T70 l0_2 x19_1).f1))) (fun _ h_ => h_.1)))) (by decide) hg); replace BK395 := Aside0.mk (blk_grown (g := gb395) (o := .cells #[.int .i64 a0_0, .slice A0_1 l0_1.length c0_1, .slice (some ad409) l0_2.length c0_2] 25 (0, 0)) (bf1 BK395 NB395_410) hg (Kd.R_ne HO_406002.out BK395.out (by decide))); replace BK396 := Aside0.mk (blk_grown (g := gb396) (o := .cells #[.int .i64 0, .slice none 0 0, .slice none 0 0] 25 (0, 0)) (bf1 BK396 NB396_410) hg (Kd.R_ne HO_406002.out BK396.out (by decide))); replace BK405 := Aside0.mk (blk_grown (g := gb405) (o := .cells #[.int .i64 t398, .slice Ao16 t399.length co16, u406002] 25 (0, 0)) (bf1 BK405 NB405_410) hg (Kd.R_ne HO_406002.out BK405.out (by decide))); replace BK410 := Aside0.mk (blk_grown (g := gb410) (o := .cells #[.int .i64 ((rd_T70 l0_2 x19_1).f0), .int .i64 ((rd_T70 l0_2 x19_1).f1)] 70 (0, 0)) (by (with_reducible repeat (first | refine blk_drewN ?_ _ | refine blk_drew ?_ | refine blk_alloc ?_ _)); refine blk_put (cs := #[.int .i64 ((rd_T70 l0_2 x19_1).f0), .int .i64 0]) ?_ 1 _ rfl; (with_reducible repeat (first | refine blk_drewN ?_ _ | refine blk_drew ?_ | refine blk_alloc ?_ _)); refine blk_put (cs := #[.int .i64 0, .int .i64 0]) ?_ 0 _ rfl; (with_reducible repeat (first | refine blk_drewN ?_ _ | refine blk_drew ?_ | refine blk_alloc ?_ _)); exact BK410.out) hg (Kd.R_away HO_406002.out (fun _ hk => hk.2))); replace HB := Aside0.mk (hb); have HO416 := Aside0.mk (ho); clear HO_406002; clear ho hb hg hat; obtain ⟨Ao47, co47, eo47⟩ := Kd.R_slice HO416.out; subst eo47; have hcz48_0 := bz3 BK405))
        go_roundg k1
        case measure => have := HK1.out; omega
        case rel => exact ⟨(x5_1), (wrap64 (x19_1 + 1)), (y414), (.slice Ao47 y414.length co47), rs, H', ⟨by have := HK1.out; omega⟩, ⟨by (with_reducible repeat (first | apply Kd.R_alloc | apply Kd.R_drewN | apply Kd.R_drew)); exact Kd.R_mono (Kd.R_far (p := ⟨gb405, 2, none⟩) (Kd.R_types HO_5.out BK405.out (by decide)) (fun _ hk => hk.2) (.slice Ao47 y414.length co47)) (fun _ hk => hk.1)⟩, ⟨by (with_reducible repeat (first | apply Kd.R_alloc | apply Kd.R_drewN | apply Kd.R_drew)); exact Kd.R_mono (Kd.R_far (p := ⟨gb405, 2, none⟩) (Kd.R_types HO_406001.out BK405.out (by decide)) (fun _ hk => hk.2) (.slice Ao47 y414.length co47)) (fun _ hk => hk.1)⟩, ⟨by (with_reducible repeat (first | apply Kd.R_alloc | apply Kd.R_drewN | apply Kd.R_drew)); exact Kd.R_mono (Kd.R_far (p := ⟨gb405, 2, none⟩) (Kd.R_types HO416.out BK405.out (by decide)) (fun _ hk => hk.2) (.slice Ao47 y414.length co47)) (fun _ hk => trivial)⟩, ⟨by (with_reducible repeat (first | refine blk_drewN ?_ _ | refine blk_drew ?_ | refine blk_alloc ?_ _)); refine blk_far ?_ NB395_405.out _; (with_reducible repeat (first | refine blk_drewN ?_ _ | refine blk_drew ?_ | refine blk_alloc ?_ _)); exact BK395.out⟩, ⟨by (with_reducible repeat (first | refine blk_drewN ?_ _ | refine blk_drew ?_ | refine blk_alloc ?_ _)); refine blk_far ?_ NB396_405.out _; (with_reducible repeat (first | refine blk_drewN ?_ _ | refine blk_drew ?_ | refine blk_alloc ?_ _)); exact BK396.out⟩, ⟨by (with_reducible repeat (first | refine blk_drewN ?_ _ | refine blk_drew ?_ | refine blk_alloc ?_ _)); refine blk_put (cs := #[.int .i64 t398, .slice Ao16 t399.length co16, u406002]) ?_ 2 _ rfl; (with_reducible repeat (first | refine blk_drewN ?_ _ | refine blk_drew ?_ | refine blk_alloc ?_ _)); exact BK405.out⟩, ⟨be4 HB GE395 GE396 GE405 GE410⟩⟩
       rw [if_neg c35] at H
       exact absurd H (by simp)
      rw [if_neg c23] at H
      exact absurd H (by simp)
     rw [if_neg c22] at H
     exact absurd H (by simp)
    rw [if_neg c21] at H
    have c21b0 : decide (x19_1 < (l0_2.length : Int)) = false := decide_eq_false c21
    clear c21
    simp only [Option.some.injEq, Prod.mk.injEq] at H
    obtain ⟨rfl, rfl, rfl, rfl⟩ := H
    have hnb49 := NB405_395.out
    have hnc49 := NB395_405.out
    have hnb50 := NB405_396.out
    have hnc50 := NB396_405.out
    have hcz51_0 := bz3 BK405
    have hnb52 := NB396_395.out
    have hnc52 := NB395_396.out
    have hcz53_0 := bz3 BK396
    obtain ⟨Ao54, co54, eo54⟩ := Kd.R_slice HO_406002.out
    subst eo54
    go_wp2
    refine bodyPost_ret (results_ct rfl _ _ gb396 25 #[.int .i64 t398, .slice Ao16 t399.length co16, .slice Ao54 x406002_1.length co54] (0, 0) _ rfl (by (with_reducible repeat (first | refine blk_drewN ?_ _ | refine blk_drew ?_ | refine blk_alloc ?_ _)); refine blk_put (cs := #[.int .i64 t398, .slice Ao16 t399.length co16, .slice none 0 0]) ?_ 2 _ rfl; (with_reducible repeat (first | refine blk_drewN ?_ _ | refine blk_drew ?_ | refine blk_alloc ?_ _)); refine blk_put (cs := #[.int .i64 t398, .slice none 0 0, .slice none 0 0]) ?_ 1 _ rfl; (with_reducible repeat (first | refine blk_drewN ?_ _ | refine blk_drew ?_ | refine blk_alloc ?_ _)); refine blk_put (cs := #[.int .i64 0, .slice none 0 0, .slice none 0 0]) ?_ 0 _ rfl; (with_reducible repeat (first | refine blk_drewN ?_ _ | refine blk_drew ?_ | refine blk_alloc ?_ _)); exact BK396.out) Try.underlying25 rfl (by kernel_rfl)) rfl ?_
    exact ⟨_, _, _, er, by (with_reducible repeat (first | apply Kd.R_alloc | apply Kd.R_drewN | apply Kd.R_drew)); exact Kd.R_mono (Kd.R_far (p := ⟨gb396, 2, none⟩) (Kd.R_far (p := ⟨gb396, 1, none⟩) (Kd.R_far (p := ⟨gb396, 0, none⟩) (Kd.R_types HO_406001.out BK396.out (by decide)) (fun _ hk => hk.2) (.int .i64 t398)) (fun _ hk => hk.2) (.slice Ao16 t399.length co16)) (fun _ hk => hk.2) (.slice Ao54 x406002_1.length co54)) (fun _ hk => hk.1), by (with_reducible repeat (first | apply Kd.R_alloc | apply Kd.R_drewN | apply Kd.R_drew)); exact Kd.R_mono (Kd.R_far (p := ⟨gb396, 2, none⟩) (Kd.R_far (p := ⟨gb396, 1, none⟩) (Kd.R_far (p := ⟨gb396, 0, none⟩) (Kd.R_types HO_406002.out BK396.out (by decide)) (fun _ hk => hk.2) (.int .i64 t398)) (fun _ hk => hk.2) (.slice Ao16 t399.length co16)) (fun _ hk => hk.2) (.slice Ao54 x406002_1.length co54)) (fun _ hk => trivial), by (with_reducible repeat (first | apply Kd.R_alloc | apply Kd.R_drewN | apply Kd.R_drew)); exact Kd.R_mono (Kd.R_far (p := ⟨gb396, 2, none⟩) (Kd.R_far (p := ⟨gb396, 1, none⟩) (Kd.R_far (p := ⟨gb396, 0, none⟩) (Kd.R_types HO_5.out BK396.out (by decide)) (fun _ hk => hk.2) (.int .i64 t398)) (fun _ hk => hk.2) (.slice Ao16 t399.length co16)) (fun _ hk => hk.2) (.slice Ao54 x406002_1.length co54)) (fun _ hk => hk.1), be3 HB GE395 GE396 GE405⟩
 replace c3 := Bool.eq_false_iff.mpr c3
 subst c3
 have H1 : (some (0, ([] : List Int), ([] : List (S70)), ([] : List Int))) = some (r1, r2, r3, r4) := by rw [if_neg (show ¬ (false = true) by decide)] at H; exact H
 clear H
 have H := H1
 clear H1
 simp only [Option.some.injEq, Prod.mk.injEq] at H
 obtain ⟨rfl, rfl, rfl, rfl⟩ := H
 go_enter Try.func74, Try.ntmps74
 go_wp2_with (first | ((with_reducible refine gate_dst (N := 1) rfl ?_); refine bx 1 #[.int .i64 a0_0, .slice A0_1 l0_1.length c0_1, .slice A0_2 l0_2.length c0_2] 25 ?_; intro gb395 hg w55 hbox hb; have BK395 := am hbox; have GW395 := gs0 hg HB; have GE395 := gs0 hg HB; replace HB := s0 HB hb; clear hb hbox hg) | ((with_reducible refine gate_dst (N := 2) rfl ?_); refine bx 2 #[.int .i64 0, .slice none 0 0, .slice none 0 0] 25 ?_; intro gb396 hg w56 hbox hb; have BK396 := am hbox; have GW396 := gs1 hg HB GE395; have GE396 := gs1 hg HB GE395; replace HB := Aside0.mk (below_step (be1 HB GE395) hb); have NB395_396 := Aside0.mk ((by rw [hg]; exact Nat.ne_of_lt (bl BK395) : gb395 ≠ gb396)); have NB396_395 := Aside0.mk ((by rw [hg]; exact Nat.ne_of_gt (bl BK395) : gb396 ≠ gb395)); replace BK395 := bb BK395 hb; clear hb hbox hg; have hnb57 := NB395_396.out; have hnc57 := NB396_395.out; have hcz58_0 := bz3 BK395) | ((with_reducible refine gate_callee (f := 59) rfl ?_); refine gl 9 Try.func59 #[.agg #[.int .i64 a0_0, .slice A0_1 l0_1.length c0_1, .slice A0_2 l0_2.length c0_2]] ?_; (with_reducible refine (impl_AgesOk.calls k a0_0 _ _ l0_1 _ _ l0_2 false _ (cb HR0_1 HB) HC0_1.out (cb HR0_2 HB) HC0_2.out A2.out).mono ?_); rintro e w59 ⟨rfl, hb⟩; refine ⟨_, rfl, ?_⟩; replace BK395 := bb BK395 hb; replace BK396 := bb BK396 hb; replace HB := Aside0.mk (below_step (be2 HB GE395 GE396) hb); (try clear hb); have hcz60_0 := bz3 BK396))
 refine bodyPost_ret (results_ct rfl _ _ gb396 25 #[.int .i64 0, .slice none 0 0, .slice none 0 0] (0, 0) _ rfl (by (with_reducible repeat (first | refine blk_drewN ?_ _ | refine blk_drew ?_ | refine blk_alloc ?_ _)); refine blk_put (cs := #[.int .i64 0, .slice none 0 0, .slice none 0 0]) ?_ 2 _ rfl; (with_reducible repeat (first | refine blk_drewN ?_ _ | refine blk_drew ?_ | refine blk_alloc ?_ _)); refine blk_put (cs := #[.int .i64 0, .slice none 0 0, .slice none 0 0]) ?_ 1 _ rfl; (with_reducible repeat (first | refine blk_drewN ?_ _ | refine blk_drew ?_ | refine blk_alloc ?_ _)); refine blk_put (cs := #[.int .i64 0, .slice none 0 0, .slice none 0 0]) ?_ 0 _ rfl; (with_reducible repeat (first | refine blk_drewN ?_ _ | refine blk_drew ?_ | refine blk_alloc ?_ _)); exact BK396.out) Try.underlying25 rfl (by kernel_rfl)) rfl ?_
 exact ⟨_, _, _, er, by first | exact Kd.R_nil _ _ _ _ _ | exact Kd.N_nil _ _ _ _ _ | exact Kd.V_nil _ _ _ _ _ | exact Kd.Q_nil _ _ _ _ _ | exact Kd.S_nil _ _ _ _ _, by first | exact Kd.R_nil _ _ _ _ _ | exact Kd.N_nil _ _ _ _ _ | exact Kd.V_nil _ _ _ _ _ | exact Kd.Q_nil _ _ _ _ _ | exact Kd.S_nil _ _ _ _ _, by first | exact Kd.R_nil _ _ _ _ _ | exact Kd.N_nil _ _ _ _ _ | exact Kd.V_nil _ _ _ _ _ | exact Kd.Q_nil _ _ _ _ _ | exact Kd.S_nil _ _ _ _ _, be2 HB GE395 GE396⟩

/-! ### impl_Reclaim: function 32 -/
def impl_Reclaim.f (k : Nat) (l0_0 : List Int) (a0_1 : Int) (l0_2 : List Int) (l0_3 : List (S70)) (l0_4 : List Int) : Option (List Int × Int × List Int × (List (S70)) × List Int × List Int) := (impl_PoolOk.f k l0_0 a0_1 l0_2 l0_3 l0_4).bind fun t419 => (if t419 = true then ((impl_copyPool.f l0_0 a0_1 l0_2 l0_3 l0_4).bind fun bt420 => ((impl_Collect.f k a0_1 l0_2 l0_3).bind fun bt434 => ((impl_copyInts.f bt434.2.2.2).bind fun t445 => (if t445.length + l0_0.length < 17592186044416 then (some ((t445 ++ l0_0), bt434.1, bt434.2.1, bt434.2.2.1, bt420.2.2.2.2, bt434.2.2.2)) else (none))))) else (some (([] : List Int), 0, ([] : List Int), ([] : List (S70)), ([] : List Int), ([] : List Int))))
theorem impl_Reclaim.mono : ∀ a0 a1 a2 a3 a4 k, LeO (impl_Reclaim.f k a0 a1 a2 a3 a4) (impl_Reclaim.f (k + 1) a0 a1 a2 a3 a4) := by
 intro a0 a1 a2 a3 a4 k
 unfold impl_Reclaim.f
 repeat' first
   | (with_reducible exact impl_Collect.mono _ _ _ _)
   | (with_reducible exact impl_PoolOk.mono _ _ _ _ _ _)
   | (with_reducible exact LeO.refl _)
   | (with_reducible exact LeO.none _)
   | (with_reducible refine LeO.ite ?_ ?_)
   | (with_reducible refine LeO.bind ?_ (fun _ => ?_))
   | exact impl_Collect.mono _ _ _ _
   | exact impl_PoolOk.mono _ _ _ _ _ _
   | exact LeO.none _
   | refine LeO.ite ?_ ?_
   | refine LeO.bind ?_ (fun _ => ?_)
set_option maxHeartbeats 8000000 in
set_option maxRecDepth 100000 in
theorem impl_Reclaim.calls (k : Nat) (A0_0 : Option Addr) (c0_0 : Nat) (l0_0 : List Int) (a0_1 : Int) (A0_2 : Option Addr) (c0_2 : Nat) (l0_2 : List Int) (A0_3 : Option Addr) (c0_3 : Nat) (l0_3 : List (S70)) (A0_4 : Option Addr) (c0_4 : Nat) (l0_4 : List Int) (r1 : List Int) (r2 : Int) (r3 : List Int) (r4 : List (S70)) (r5 : List Int) (r6 : List Int) (w : World) (hr0_0 : Kd.C (Kd.int .i64) w A0_0 l0_0.length l0_0) (hc0_0 : l0_0.length ≤ c0_0) (hr0_2 : Kd.C (Kd.int .i64) w A0_2 l0_2.length l0_2) (hc0_2 : l0_2.length ≤ c0_2) (hr0_3 : Kd.C k70 w A0_3 l0_3.length l0_3) (hc0_3 : l0_3.length ≤ c0_3) (hr0_4 : Kd.C (Kd.int .i64) w A0_4 l0_4.length l0_4) (hc0_4 : l0_4.length ≤ c0_4) (h : impl_Reclaim.f k l0_0 a0_1 l0_2 l0_3 l0_4 = some (r1, r2, r3, r4, r5, r6)) :
  Calls Try.prog 32 #[.agg #[.slice A0_0 l0_0.length c0_0, .int .i64 a0_1, .slice A0_2 l0_2.length c0_2, .slice A0_3 l0_3.length c0_3, .slice A0_4 l0_4.length c0_4]] w fun e w' => ∃ v0_ v2_ v3_ v4_ v5_ : Value, e = .returned (.tuple #[.agg #[v0_, .int .i64 r2, v2_, v3_, v4_], v5_]) ∧ Kd.R (Kd.int .i64) 3 w' w.heap.size (fun k_ => some k_ ≠ (v2_ : Value).ownBlock ∧ some k_ ≠ (v4_ : Value).ownBlock ∧ some k_ ≠ (v5_ : Value).ownBlock) v0_ r1 ∧ Kd.R (Kd.int .i64) 3 w' w.heap.size (fun k_ => some k_ ≠ (v0_ : Value).ownBlock ∧ some k_ ≠ (v4_ : Value).ownBlock ∧ some k_ ≠ (v5_ : Value).ownBlock) v2_ r3 ∧ Kd.R k70 70 w' w.heap.size (fun _ => True) v3_ r4 ∧ Kd.R (Kd.int .i64) 3 w' w.heap.size (fun k_ => some k_ ≠ (v0_ : Value).ownBlock ∧ some k_ ≠ (v2_ : Value).ownBlock ∧ some k_ ≠ (v5_ : Value).ownBlock) v4_ r5 ∧ Kd.R (Kd.int .i64) 3 w' w.heap.size (fun k_ => some k_ ≠ (v0_ : Value).ownBlock ∧ some k_ ≠ (v2_ : Value).ownBlock ∧ some k_ ≠ (v4_ : Value).ownBlock) v5_ r6 ∧ Below w.heap.size w w' := by
 have hu27 := Try.underlying27
 have hu25 := Try.underlying25
 have HR0_0 := Aside0.mk hr0_0
 have HC0_0 := Aside0.mk hc0_0
 clear hr0_0 hc0_0
 have HR0_2 := Aside0.mk hr0_2
 have HC0_2 := Aside0.mk hc0_2
 clear hr0_2 hc0_2
 have HR0_3 := Aside0.mk hr0_3
 have HC0_3 := Aside0.mk hc0_3
 clear hr0_3 hc0_3
 have HR0_4 := Aside0.mk hr0_4
 have HC0_4 := Aside0.mk hc0_4
 clear hr0_4 hc0_4
 have HB := Aside0.mk (Below.refl w.heap.size w)
 have H : ((impl_PoolOk.f k l0_0 a0_1 l0_2 l0_3 l0_4).bind fun t419 => (if t419 = true then ((impl_copyPool.f l0_0 a0_1 l0_2 l0_3 l0_4).bind fun bt420 => ((impl_Collect.f k a0_1 l0_2 l0_3).bind fun bt434 => ((impl_copyInts.f bt434.2.2.2).bind fun t445 => (if t445.length + l0_0.length < 17592186044416 then (some ((t445 ++ l0_0), bt434.1, bt434.2.1, bt434.2.2.1, bt420.2.2.2.2, bt434.2.2.2)) else (none))))) else (some (([] : List Int), 0, ([] : List Int), ([] : List (S70)), ([] : List Int), ([] : List Int))))) = some (r1, r2, r3, r4, r5, r6) := h
 clear h
 replace H := Option.bind_eq_some_iff.mp H
 obtain ⟨t419, A20, H⟩ := H
 replace H : (if t419 = true then ((impl_copyPool.f l0_0 a0_1 l0_2 l0_3 l0_4).bind fun bt420 => ((impl_Collect.f k a0_1 l0_2 l0_3).bind fun bt434 => ((impl_copyInts.f bt434.2.2.2).bind fun t445 => (if t445.length + l0_0.length < 17592186044416 then (some ((t445 ++ l0_0), bt434.1, bt434.2.1, bt434.2.2.1, bt420.2.2.2.2, bt434.2.2.2)) else (none))))) else (some (([] : List Int), 0, ([] : List Int), ([] : List (S70)), ([] : List Int), ([] : List Int)))) = some (r1, r2, r3, r4, r5, r6) := H
 have A2 := Aside0.mk A20
 clear A20
 by_cases c3 : t419 = true
 ·subst c3
  have H1 : ((impl_copyPool.f l0_0 a0_1 l0_2 l0_3 l0_4).bind fun bt420 => ((impl_Collect.f k a0_1 l0_2 l0_3).bind fun bt434 => ((impl_copyInts.f bt434.2.2.2).bind fun t445 => (if t445.length + l0_0.length < 17592186044416 then (some ((t445 ++ l0_0), bt434.1, bt434.2.1, bt434.2.2.1, bt420.2.2.2.2, bt434.2.2.2)) else (none))))) = some (r1, r2, r3, r4, r5, r6) := by rw [if_pos rfl] at H; exact H
  clear H
  have H := H1
  clear H1
  replace H := Option.bind_eq_some_iff.mp H
  obtain ⟨⟨t420, t423, t424, t427, t430⟩, A40, H⟩ := H
  replace H : ((impl_Collect.f k a0_1 l0_2 l0_3).bind fun bt434 => ((impl_copyInts.f bt434.2.2.2).bind fun t445 => (if t445.length + l0_0.length < 17592186044416 then (some ((t445 ++ l0_0), bt434.1, bt434.2.1, bt434.2.2.1, t430, bt434.2.2.2)) else (none)))) = some (r1, r2, r3, r4, r5, r6) := H
  have A4 := Aside0.mk A40
  clear A40
  replace H := Option.bind_eq_some_iff.mp H
  obtain ⟨⟨t434, t435, t438, t441⟩, A50, H⟩ := H
  replace H : ((impl_copyInts.f t441).bind fun t445 => (if t445.length + l0_0.length < 17592186044416 then (some ((t445 ++ l0_0), t434, t435, t438, t430, t441)) else (none))) = some (r1, r2, r3, r4, r5, r6) := H
  have A5 := Aside0.mk A50
  clear A50
  replace H := Option.bind_eq_some_iff.mp H
  obtain ⟨t445, A60, H⟩ := H
  replace H : (if t445.length + l0_0.length < 17592186044416 then (some ((t445 ++ l0_0), t434, t435, t438, t430, t441)) else (none)) = some (r1, r2, r3, r4, r5, r6) := H
  have A6 := Aside0.mk A60
  clear A60
  by_cases c7 : t445.length + l0_0.length < 17592186044416
  ·rw [if_pos c7] at H
   have LMc7 := Aside0.mk c7
   clear c7
   obtain ⟨y448, hy448⟩ : ∃ y_ : List Int, y_ = (t445 ++ l0_0) := ⟨_, rfl⟩
   replace H : (some (y448, t434, t435, t438, t430, t441)) = some (r1, r2, r3, r4, r5, r6) := by first | (rw [hy448]; with_reducible exact H) | (have H2_ := (Option.bind_some _ _).symm.trans H; rw [hy448]; with_reducible exact H2_) | (have H2_ := (Option.bind_some _ _).symm.trans H; with_reducible exact H2_) | with_reducible exact H | (rw [hy448]; exact H) | exact H
   have Ny448 := Aside0.mk hy448
   clear hy448
   simp only [Option.some.injEq, Prod.mk.injEq] at H
   obtain ⟨rfl, rfl, rfl, rfl, rfl, rfl⟩ := H
   go_enter Try.func32, Try.ntmps32
   try go_wp2_with (first | ((with_reducible refine gate_dst (N := 1) rfl ?_); refine bx 1 #[.slice A0_0 l0_0.length c0_0, .int .i64 a0_1, .slice A0_2 l0_2.length c0_2, .slice A0_3 l0_3.length c0_3, .slice A0_4 l0_4.length c0_4] 27 ?_; intro gb417 hg w8 hbox hb; have BK417 := am hbox; have GW417 := gs0 hg HB; have GE417 := gs0 hg HB; replace HB := s0 HB hb; clear hb hbox hg) | ((with_reducible refine gate_dst (N := 2) rfl ?_); refine bx 2 #[.slice none 0 0, .int .i64 0, .slice none 0 0, .slice none 0 0, .slice none 0 0] 27 ?_; intro gb418 hg w9 hbox hb; have BK418 := am hbox; have GW418 := gs1 hg HB GE417; have GE418 := gs1 hg HB GE417; replace HB := Aside0.mk (below_step (be1 HB GE417) hb); have NB417_418 := Aside0.mk ((by rw [hg]; exact Nat.ne_of_lt (bl BK417) : gb417 ≠ gb418)); have NB418_417 := Aside0.mk ((by rw [hg]; exact Nat.ne_of_gt (bl BK417) : gb418 ≠ gb417)); replace BK417 := bb BK417 hb; clear hb hbox hg; have hnb10 := NB417_418.out; have hnc10 := NB418_417.out; have hcz11_0 := bz5 BK417) | ((with_reducible refine gate_callee (f := 22) rfl ?_); refine gl 8 Try.func22 #[.agg #[.slice A0_0 l0_0.length c0_0, .int .i64 a0_1, .slice A0_2 l0_2.length c0_2, .slice A0_3 l0_3.length c0_3, .slice A0_4 l0_4.length c0_4]] ?_; (with_reducible refine (impl_PoolOk.calls k _ _ l0_0 a0_1 _ _ l0_2 _ _ l0_3 _ _ l0_4 true _ (cb HR0_0 HB) HC0_0.out (cb HR0_2 HB) HC0_2.out (cb HR0_3 HB) HC0_3.out (cb HR0_4 HB) HC0_4.out A2.out).mono ?_); rintro e w12 ⟨rfl, hb⟩; refine ⟨_, rfl, ?_⟩; replace BK417 := bb BK417 hb; replace BK418 := bb BK418 hb; replace HB := Aside0.mk (below_step (be2 HB GE417 GE418) hb); (try clear hb); have hcz13_0 := bz5 BK417) | ((with_reducible refine gate_callee (f := 66) rfl ?_); refine gl 12 Try.func66 #[.agg #[.slice A0_0 l0_0.length c0_0, .int .i64 a0_1, .slice A0_2 l0_2.length c0_2, .slice A0_3 l0_3.length c0_3, .slice A0_4 l0_4.length c0_4]] ?_; (with_reducible refine (impl_copyPool.calls _ _ l0_0 a0_1 _ _ l0_2 _ _ l0_3 _ _ l0_4 t420 t423 t424 t427 t430 _ (cb HR0_0 HB) HC0_0.out (cb HR0_2 HB) HC0_2.out (cb HR0_3 HB) HC0_3.out (cb HR0_4 HB) HC0_4.out A4.out).mono ?_); rintro e w14 ⟨v421, v425, v428, v431, rfl, ho0, ho1, ho2, ho3, hb⟩; refine ⟨_, rfl, ?_⟩; have HO422 := Aside0.mk (Kd.R_lower ho0 (below_size (be2 HB GE417 GE418))); have HO426 := Aside0.mk (Kd.R_lower ho1 (below_size (be2 HB GE417 GE418))); have HO429 := Aside0.mk (Kd.R_lower ho2 (below_size (be2 HB GE417 GE418))); have HO432 := Aside0.mk (Kd.R_lower ho3 (below_size (be2 HB GE417 GE418))); replace BK417 := bb BK417 hb; replace BK418 := bb BK418 hb; replace HB := Aside0.mk (below_step (be2 HB GE417 GE418) hb); (try clear hb); (try clear ho0); (try clear ho1); (try clear ho2); (try clear ho3)) | ((with_reducible refine gate_dst (N := 4) rfl ?_); refine bx 4 #[.slice none 0 0, .int .i64 0, .slice none 0 0, .slice none 0 0, .slice none 0 0] 27 ?_; intro gb433 hg w15 hbox hb; replace HO422 := rb HO422 hb; replace HO426 := rb HO426 hb; replace HO429 := rb HO429 hb; replace HO432 := rb HO432 hb; have BK433 := am hbox; have GW433 := gs2 hg HB GE417 GE418; have GE433 := gs2 hg HB GE417 GE418; replace HB := Aside0.mk (below_step (be2 HB GE417 GE418) hb); have NB417_433 := Aside0.mk ((by rw [hg]; exact Nat.ne_of_lt (bl BK417) : gb417 ≠ gb433)); have NB433_417 := Aside0.mk ((by rw [hg]; exact Nat.ne_of_gt (bl BK417) : gb433 ≠ gb417)); replace BK417 := bb BK417 hb; have NB418_433 := Aside0.mk ((by rw [hg]; exact Nat.ne_of_lt (bl BK418) : gb418 ≠ gb433)); have NB433_418 := Aside0.mk ((by rw [hg]; exact Nat.ne_of_gt (bl BK418) : gb433 ≠ gb418)); replace BK418 := bb BK418 hb; clear hb hbox hg; obtain ⟨Ao16, co16, eo16⟩ := Kd.R_slice HO422.out; subst eo16; have hnb17 := NB433_417.out; have hnc17 := NB417_433.out; have hnb18 := NB433_418.out; have hnc18 := NB418_433.out; have hcz19_0 := bz5 BK433; obtain ⟨Ao20, co20, eo20⟩ := Kd.R_slice HO426.out; subst eo20; obtain ⟨Ao21, co21, eo21⟩ := Kd.R_slice HO429.out; subst eo21; obtain ⟨Ao22, co22, eo22⟩ := Kd.R_slice HO432.out; subst eo22; have hcz23_0 := bz5 BK417) | ((with_reducible refine gate_callee (f := 74) rfl ?_); refine gl 16 Try.func74 #[.agg #[.int .i64 a0_1, .slice A0_2 l0_2.length c0_2, .slice A0_3 l0_3.length c0_3]] ?_; (with_reducible refine (impl_Collect.calls k a0_1 _ _ l0_2 _ _ l0_3 t434 t435 t438 t441 _ ?side1 HC0_2.out ?side3 HC0_3.out A5.out).mono ?_); (case side1 => exact Kd.C_below HR0_2.out (be3 HB GE417 GE418 GE433)); (case side3 => exact Kd.C_below HR0_3.out (be3 HB GE417 GE418 GE433)); rintro e w24 ⟨v436, v439, v442, rfl, ho0, ho1, ho2, hb⟩; refine ⟨_, rfl, ?_⟩; have HO437 := Aside0.mk (Kd.R_lower (Kd.R_new' (Kd.R_new' (Kd.R_new' ho0 (Kd.R_lt (rf HO422 BK433))) (Kd.R_lt (rf HO426 BK433))) (Kd.R_lt (rf HO432 BK433))) (below_size (be3 HB GE417 GE418 GE433))); have HO440 := Aside0.mk (Kd.R_lower (Kd.R_new' ho1 (Kd.R_lt (rf HO429 BK433))) (below_size (be3 HB GE417 GE418 GE433))); replace HO429 := Aside0.mk (Kd.R_elder' (rf HO429 BK433) (Kd.R_base ho1) hb); have HO443 := Aside0.mk (Kd.R_lower (Kd.R_new' (Kd.R_new' (Kd.R_new' ho2 (Kd.R_lt (rf HO422 BK433))) (Kd.R_lt (rf HO426 BK433))) (Kd.R_lt (rf HO432 BK433))) (below_size (be3 HB GE417 GE418 GE433))); replace HO422 := td2 (rf HO422 BK433) hb ho0 ho2; replace HO426 := td2 (rf HO426 BK433) hb ho0 ho2; replace HO432 := td2 (rf HO432 BK433) hb ho0 ho2; replace BK417 := Aside0.mk (blk_below (g := gb417) (o := .cells #[.slice A0_0 l0_0.length c0_0, .int .i64 a0_1, .slice A0_2 l0_2.length c0_2, .slice A0_3 l0_3.length c0_3, .slice A0_4 l0_4.length c0_4] 27 (0, 0)) (bf1 BK417 NB417_433) hb); replace BK418 := Aside0.mk (blk_below (g := gb418) (o := .cells #[.slice none 0 0, .int .i64 0, .slice none 0 0, .slice none 0 0, .slice none 0 0] 27 (0, 0)) (bf1 BK418 NB418_433) hb); replace BK433 := Aside0.mk (blk_below (g := gb433) (o := .cells #[.slice Ao16 t420.length co16, .int .i64 t423, .slice Ao20 t424.length co20, .slice Ao21 t427.length co21, .slice Ao22 t430.length co22] 27 (0, 0)) (by (with_reducible repeat (first | refine blk_drewN ?_ _ | refine blk_drew ?_ | refine blk_alloc ?_ _)); refine blk_put (cs := #[.slice Ao16 t420.length co16, .int .i64 t423, .slice Ao20 t424.length co20, .slice Ao21 t427.length co21, .slice none 0 0]) ?_ 4 _ rfl; (with_reducible repeat (first | refine blk_drewN ?_ _ | refine blk_drew ?_ | refine blk_alloc ?_ _)); refine blk_put (cs := #[.slice Ao16 t420.length co16, .int .i64 t423, .slice Ao20 t424.length co20, .slice none 0 0, .slice none 0 0]) ?_ 3 _ rfl; (with_reducible repeat (first | refine blk_drewN ?_ _ | refine blk_drew ?_ | refine blk_alloc ?_ _)); refine blk_put (cs := #[.slice Ao16 t420.length co16, .int .i64 t423, .slice none 0 0, .slice none 0 0, .slice none 0 0]) ?_ 2 _ rfl; (with_reducible repeat (first | refine blk_drewN ?_ _ | refine blk_drew ?_ | refine blk_alloc ?_ _)); refine blk_put (cs := #[.slice Ao16 t420.length co16, .int .i64 0, .slice none 0 0, .slice none 0 0, .slice none 0 0]) ?_ 1 _ rfl; (with_reducible repeat (first | refine blk_drewN ?_ _ | refine blk_drew ?_ | refine blk_alloc ?_ _)); refine blk_put (cs := #[.slice none 0 0, .int .i64 0, .slice none 0 0, .slice none 0 0, .slice none 0 0]) ?_ 0 _ rfl; (with_reducible repeat (first | refine blk_drewN ?_ _ | refine blk_drew ?_ | refine blk_alloc ?_ _)); exact BK433.out) hb); replace HB := Aside0.mk (below_step (be3 HB GE417 GE418 GE433) hb); (try clear hb); (try clear ho0); (try clear ho1); (try clear ho2)) | ((with_reducible refine gate_dst (N := 5) rfl ?_); refine bx 5 #[.int .i64 0, .slice none 0 0, .slice none 0 0] 25 ?_; intro gb444 hg w25 hbox hb; replace HO422 := rb HO422 hb; replace HO426 := rb HO426 hb; replace HO429 := rb HO429 hb; replace HO432 := rb HO432 hb; replace HO437 := rb HO437 hb; replace HO440 := rb HO440 hb; replace HO443 := rb HO443 hb; have BK444 := am hbox; have GW444 := Aside0.mk ((by rw [hg]; exact (below_size (be3 HB GE417 GE418 GE433)) : w.heap.size ≤ gb444)); have GE444 := Aside0.mk ((by rw [hg]; exact (below_size (be3 HB GE417 GE418 GE433)) : w.heap.size ≤ gb444)); replace HB := Aside0.mk (below_step (be3 HB GE417 GE418 GE433) hb); have NB417_444 := Aside0.mk ((by rw [hg]; exact Nat.ne_of_lt (bl BK417) : gb417 ≠ gb444)); have NB444_417 := Aside0.mk ((by rw [hg]; exact Nat.ne_of_gt (bl BK417) : gb444 ≠ gb417)); replace BK417 := bb BK417 hb; have NB418_444 := Aside0.mk ((by rw [hg]; exact Nat.ne_of_lt (bl BK418) : gb418 ≠ gb444)); have NB444_418 := Aside0.mk ((by rw [hg]; exact Nat.ne_of_gt (bl BK418) : gb444 ≠ gb418)); replace BK418 := bb BK418 hb; have NB433_444 := Aside0.mk ((by rw [hg]; exact Nat.ne_of_lt (bl BK433) : gb433 ≠ gb444)); have NB444_433 := Aside0.mk ((by rw [hg]; exact Nat.ne_of_gt (bl BK433) : gb444 ≠ gb433)); replace BK433 := bb BK433 hb; clear hb hbox hg; have hnb26 := NB444_417.out; have hnc26 := NB417_444.out; have hnb27 := NB444_418.out; have hnc27 := NB418_444.out; have hnb28 := NB444_433.out; have hnc28 := NB433_444.out; have hcz29_0 := bz3 BK444; obtain ⟨Ao30, co30, eo30⟩ := Kd.R_slice HO437.out; subst eo30; obtain ⟨Ao31, co31, eo31⟩ := Kd.R_slice HO440.out; subst eo31; have hcz32_0 := bz5 BK433))
   have n0_ : Aside0 (Kd.R (Kd.int .i64) 3 ((((((w25.setCell ⟨gb444, 0, none⟩ (.int .i64 t434)).setCell ⟨gb444, 1, none⟩ (.slice Ao30 t435.length co30)).setCell ⟨gb444, 2, none⟩ (.slice Ao31 t438.length co31)).setCell ⟨gb433, 1, none⟩ (.int .i64 t434)).setCell ⟨gb433, 2, none⟩ (.slice Ao30 t435.length co30)).setCell ⟨gb433, 3, none⟩ (.slice Ao31 t438.length co31)) w.heap.size (fun k_ => nb k_ Ao20 t424.length co20 ∧ nb k_ Ao22 t430.length co22 ∧ nb k_ Ao30 t435.length co30 ∧ some k_ ≠ (v442 : Value).ownBlock) (.slice Ao16 t420.length co16) t420) := ⟨by (with_reducible repeat (first | apply Kd.R_alloc | apply Kd.R_drewN | apply Kd.R_drew)); exact Kd.R_mono (Kd.R_far (p := ⟨gb433, 3, none⟩) (Kd.R_far (p := ⟨gb433, 2, none⟩) (Kd.R_far (p := ⟨gb433, 1, none⟩) (Kd.R_far (p := ⟨gb444, 2, none⟩) (Kd.R_far (p := ⟨gb444, 1, none⟩) (Kd.R_far (p := ⟨gb444, 0, none⟩) (Kd.R_types (Kd.R_types HO422.out BK444.out (by decide)) BK433.out (by decide)) (fun _ hk => hk.1.2) (.int .i64 t434)) (fun _ hk => hk.1.2) (.slice Ao30 t435.length co30)) (fun _ hk => hk.1.2) (.slice Ao31 t438.length co31)) (fun _ hk => hk.2) (.int .i64 t434)) (fun _ hk => hk.2) (.slice Ao30 t435.length co30)) (fun _ hk => hk.2) (.slice Ao31 t438.length co31)) (fun _ hk => ⟨hk.1.1.1.1.1, ⟨hk.1.1.1.1.2, ⟨hk.1.1.1.2, hk.1.1.2⟩⟩⟩)⟩
   have n1_ : Aside0 (Kd.R (Kd.int .i64) 3 ((((((w25.setCell ⟨gb444, 0, none⟩ (.int .i64 t434)).setCell ⟨gb444, 1, none⟩ (.slice Ao30 t435.length co30)).setCell ⟨gb444, 2, none⟩ (.slice Ao31 t438.length co31)).setCell ⟨gb433, 1, none⟩ (.int .i64 t434)).setCell ⟨gb433, 2, none⟩ (.slice Ao30 t435.length co30)).setCell ⟨gb433, 3, none⟩ (.slice Ao31 t438.length co31)) w.heap.size (fun k_ => nb k_ Ao16 t420.length co16 ∧ nb k_ Ao22 t430.length co22 ∧ nb k_ Ao30 t435.length co30 ∧ some k_ ≠ (v442 : Value).ownBlock) (.slice Ao20 t424.length co20) t424) := ⟨by (with_reducible repeat (first | apply Kd.R_alloc | apply Kd.R_drewN | apply Kd.R_drew)); exact Kd.R_mono (Kd.R_far (p := ⟨gb433, 3, none⟩) (Kd.R_far (p := ⟨gb433, 2, none⟩) (Kd.R_far (p := ⟨gb433, 1, none⟩) (Kd.R_far (p := ⟨gb444, 2, none⟩) (Kd.R_far (p := ⟨gb444, 1, none⟩) (Kd.R_far (p := ⟨gb444, 0, none⟩) (Kd.R_types (Kd.R_types HO426.out BK444.out (by decide)) BK433.out (by decide)) (fun _ hk => hk.1.2) (.int .i64 t434)) (fun _ hk => hk.1.2) (.slice Ao30 t435.length co30)) (fun _ hk => hk.1.2) (.slice Ao31 t438.length co31)) (fun _ hk => hk.2) (.int .i64 t434)) (fun _ hk => hk.2) (.slice Ao30 t435.length co30)) (fun _ hk => hk.2) (.slice Ao31 t438.length co31)) (fun _ hk => ⟨hk.1.1.1.1.1, ⟨hk.1.1.1.1.2, ⟨hk.1.1.1.2, hk.1.1.2⟩⟩⟩)⟩
   have n2_ : Aside0 (Kd.R k70 70 ((((((w25.setCell ⟨gb444, 0, none⟩ (.int .i64 t434)).setCell ⟨gb444, 1, none⟩ (.slice Ao30 t435.length co30)).setCell ⟨gb444, 2, none⟩ (.slice Ao31 t438.length co31)).setCell ⟨gb433, 1, none⟩ (.int .i64 t434)).setCell ⟨gb433, 2, none⟩ (.slice Ao30 t435.length co30)).setCell ⟨gb433, 3, none⟩ (.slice Ao31 t438.length co31)) w.heap.size (fun k_ => nb k_ Ao31 t438.length co31) (.slice Ao21 t427.length co21) t427) := ⟨by (with_reducible repeat (first | apply Kd.R_alloc | apply Kd.R_drewN | apply Kd.R_drew)); exact Kd.R_mono (Kd.R_far (p := ⟨gb433, 3, none⟩) (Kd.R_far (p := ⟨gb433, 2, none⟩) (Kd.R_far (p := ⟨gb433, 1, none⟩) (Kd.R_far (p := ⟨gb444, 2, none⟩) (Kd.R_far (p := ⟨gb444, 1, none⟩) (Kd.R_far (p := ⟨gb444, 0, none⟩) (Kd.R_types (Kd.R_types HO429.out BK444.out (by decide)) BK433.out (by decide)) (fun _ hk => hk.1.2) (.int .i64 t434)) (fun _ hk => hk.1.2) (.slice Ao30 t435.length co30)) (fun _ hk => hk.1.2) (.slice Ao31 t438.length co31)) (fun _ hk => hk.2) (.int .i64 t434)) (fun _ hk => hk.2) (.slice Ao30 t435.length co30)) (fun _ hk => hk.2) (.slice Ao31 t438.length co31)) (fun _ hk => hk.1.1.2)⟩
   have n3_ : Aside0 (Kd.R (Kd.int .i64) 3 ((((((w25.setCell ⟨gb444, 0, none⟩ (.int .i64 t434)).setCell ⟨gb444, 1, none⟩ (.slice Ao30 t435.length co30)).setCell ⟨gb444, 2, none⟩ (.slice Ao31 t438.length co31)).setCell ⟨gb433, 1, none⟩ (.int .i64 t434)).setCell ⟨gb433, 2, none⟩ (.slice Ao30 t435.length co30)).setCell ⟨gb433, 3, none⟩ (.slice Ao31 t438.length co31)) w.heap.size (fun k_ => nb k_ Ao16 t420.length co16 ∧ nb k_ Ao20 t424.length co20 ∧ nb k_ Ao30 t435.length co30 ∧ some k_ ≠ (v442 : Value).ownBlock) (.slice Ao22 t430.length co22) t430) := ⟨by (with_reducible repeat (first | apply Kd.R_alloc | apply Kd.R_drewN | apply Kd.R_drew)); exact Kd.R_mono (Kd.R_far (p := ⟨gb433, 3, none⟩) (Kd.R_far (p := ⟨gb433, 2, none⟩) (Kd.R_far (p := ⟨gb433, 1, none⟩) (Kd.R_far (p := ⟨gb444, 2, none⟩) (Kd.R_far (p := ⟨gb444, 1, none⟩) (Kd.R_far (p := ⟨gb444, 0, none⟩) (Kd.R_types (Kd.R_types HO432.out BK444.out (by decide)) BK433.out (by decide)) (fun _ hk => hk.1.2) (.int .i64 t434)) (fun _ hk => hk.1.2) (.slice Ao30 t435.length co30)) (fun _ hk => hk.1.2) (.slice Ao31 t438.length co31)) (fun _ hk => hk.2) (.int .i64 t434)) (fun _ hk => hk.2) (.slice Ao30 t435.length co30)) (fun _ hk => hk.2) (.slice Ao31 t438.length co31)) (fun _ hk => ⟨hk.1.1.1.1.1, ⟨hk.1.1.1.1.2, ⟨hk.1.1.1.2, hk.1.1.2⟩⟩⟩)⟩
   have n4_ : Aside0 (Kd.R (Kd.int .i64) 3 ((((((w25.setCell ⟨gb444, 0, none⟩ (.int .i64 t434)).setCell ⟨gb444, 1, none⟩ (.slice Ao30 t435.length co30)).setCell ⟨gb444, 2, none⟩ (.slice Ao31 t438.length co31)).setCell ⟨gb433, 1, none⟩ (.int .i64 t434)).setCell ⟨gb433, 2, none⟩ (.slice Ao30 t435.length co30)).setCell ⟨gb433, 3, none⟩ (.slice Ao31 t438.length co31)) w.heap.size (fun k_ => nb k_ Ao16 t420.length co16 ∧ nb k_ Ao20 t424.length co20 ∧ nb k_ Ao22 t430.length co22 ∧ some k_ ≠ (v442 : Value).ownBlock) (.slice Ao30 t435.length co30) t435) := ⟨by (with_reducible repeat (first | apply Kd.R_alloc | apply Kd.R_drewN | apply Kd.R_drew)); exact Kd.R_mono (Kd.R_far (p := ⟨gb433, 3, none⟩) (Kd.R_far (p := ⟨gb433, 2, none⟩) (Kd.R_far (p := ⟨gb433, 1, none⟩) (Kd.R_far (p := ⟨gb444, 2, none⟩) (Kd.R_far (p := ⟨gb444, 1, none⟩) (Kd.R_far (p := ⟨gb444, 0, none⟩) (Kd.R_types (Kd.R_types HO437.out BK444.out (by decide)) BK433.out (by decide)) (fun _ hk => hk.1.2) (.int .i64 t434)) (fun _ hk => hk.1.2) (.slice Ao30 t435.length co30)) (fun _ hk => hk.1.2) (.slice Ao31 t438.length co31)) (fun _ hk => hk.2) (.int .i64 t434)) (fun _ hk => hk.2) (.slice Ao30 t435.length co30)) (fun _ hk => hk.2) (.slice Ao31 t438.length co31)) (fun _ hk => ⟨hk.1.1.1.1.2, ⟨hk.1.1.1.2, ⟨hk.1.1.2, hk.1.1.1.1.1⟩⟩⟩)⟩
   have n5_ : Aside0 (Kd.R k70 70 ((((((w25.setCell ⟨gb444, 0, none⟩ (.int .i64 t434)).setCell ⟨gb444, 1, none⟩ (.slice Ao30 t435.length co30)).setCell ⟨gb444, 2, none⟩ (.slice Ao31 t438.length co31)).setCell ⟨gb433, 1, none⟩ (.int .i64 t434)).setCell ⟨gb433, 2, none⟩ (.slice Ao30 t435.length co30)).setCell ⟨gb433, 3, none⟩ (.slice Ao31 t438.length co31)) w.heap.size (fun k_ => nb k_ Ao21 t427.length co21) (.slice Ao31 t438.length co31) t438) := ⟨by (with_reducible repeat (first | apply Kd.R_alloc | apply Kd.R_drewN | apply Kd.R_drew)); exact Kd.R_mono (Kd.R_far (p := ⟨gb433, 3, none⟩) (Kd.R_far (p := ⟨gb433, 2, none⟩) (Kd.R_far (p := ⟨gb433, 1, none⟩) (Kd.R_far (p := ⟨gb444, 2, none⟩) (Kd.R_far (p := ⟨gb444, 1, none⟩) (Kd.R_far (p := ⟨gb444, 0, none⟩) (Kd.R_types (Kd.R_types HO440.out BK444.out (by decide)) BK433.out (by decide)) (fun _ hk => hk.1.2) (.int .i64 t434)) (fun _ hk => hk.1.2) (.slice Ao30 t435.length co30)) (fun _ hk => hk.1.2) (.slice Ao31 t438.length co31)) (fun _ hk => hk.2) (.int .i64 t434)) (fun _ hk => hk.2) (.slice Ao30 t435.length co30)) (fun _ hk => hk.2) (.slice Ao31 t438.length co31)) (fun _ hk => hk.1.1.2)⟩
   have n6_ : Aside0 (Kd.R (Kd.int .i64) 3 ((((((w25.setCell ⟨gb444, 0, none⟩ (.int .i64 t434)).setCell ⟨gb444, 1, none⟩ (.slice Ao30 t435.length co30)).setCell ⟨gb444, 2, none⟩ (.slice Ao31 t438.length co31)).setCell ⟨gb433, 1, none⟩ (.int .i64 t434)).setCell ⟨gb433, 2, none⟩ (.slice Ao30 t435.length co30)).setCell ⟨gb433, 3, none⟩ (.slice Ao31 t438.length co31)) w.heap.size (fun k_ => nb k_ Ao16 t420.length co16 ∧ nb k_ Ao20 t424.length co20 ∧ nb k_ Ao22 t430.length co22 ∧ nb k_ Ao30 t435.length co30) v442 t441) := ⟨by (with_reducible repeat (first | apply Kd.R_alloc | apply Kd.R_drewN | apply Kd.R_drew)); exact Kd.R_mono (Kd.R_far (p := ⟨gb433, 3, none⟩) (Kd.R_far (p := ⟨gb433, 2, none⟩) (Kd.R_far (p := ⟨gb433, 1, none⟩) (Kd.R_far (p := ⟨gb444, 2, none⟩) (Kd.R_far (p := ⟨gb444, 1, none⟩) (Kd.R_far (p := ⟨gb444, 0, none⟩) (Kd.R_types (Kd.R_types HO443.out BK444.out (by decide)) BK433.out (by decide)) (fun _ hk => hk.1.2) (.int .i64 t434)) (fun _ hk => hk.1.2) (.slice Ao30 t435.length co30)) (fun _ hk => hk.1.2) (.slice Ao31 t438.length co31)) (fun _ hk => hk.2) (.int .i64 t434)) (fun _ hk => hk.2) (.slice Ao30 t435.length co30)) (fun _ hk => hk.2) (.slice Ao31 t438.length co31)) (fun _ hk => ⟨hk.1.1.1.1.2, ⟨hk.1.1.1.2, ⟨hk.1.1.2, hk.1.1.1.1.1⟩⟩⟩)⟩
   have n7_ : Aside0 (((((((w25.setCell ⟨gb444, 0, none⟩ (.int .i64 t434)).setCell ⟨gb444, 1, none⟩ (.slice Ao30 t435.length co30)).setCell ⟨gb444, 2, none⟩ (.slice Ao31 t438.length co31)).setCell ⟨gb433, 1, none⟩ (.int .i64 t434)).setCell ⟨gb433, 2, none⟩ (.slice Ao30 t435.length co30)).setCell ⟨gb433, 3, none⟩ (.slice Ao31 t438.length co31)).heap[gb417]? = some (.cells #[.slice A0_0 l0_0.length c0_0, .int .i64 a0_1, .slice A0_2 l0_2.length c0_2, .slice A0_3 l0_3.length c0_3, .slice A0_4 l0_4.length c0_4] 27 (0, 0))) := ⟨by (with_reducible repeat (first | refine blk_drewN ?_ _ | refine blk_drew ?_ | refine blk_alloc ?_ _)); refine blk_far ?_ NB417_433.out _; (with_reducible repeat (first | refine blk_drewN ?_ _ | refine blk_drew ?_ | refine blk_alloc ?_ _)); refine blk_far ?_ NB417_433.out _; (with_reducible repeat (first | refine blk_drewN ?_ _ | refine blk_drew ?_ | refine blk_alloc ?_ _)); refine blk_far ?_ NB417_433.out _; (with_reducible repeat (first | refine blk_drewN ?_ _ | refine blk_drew ?_ | refine blk_alloc ?_ _)); refine blk_far ?_ NB417_444.out _; (with_reducible repeat (first | refine blk_drewN ?_ _ | refine blk_drew ?_ | refine blk_alloc ?_ _)); refine blk_far ?_ NB417_444.out _; (with_reducible repeat (first | refine blk_drewN ?_ _ | refine blk_drew ?_ | refine blk_alloc ?_ _)); refine blk_far ?_ NB417_444.out _; (with_reducible repeat (first | refine blk_drewN ?_ _ | refine blk_drew ?_ | refine blk_alloc ?_ _)); exact BK417.out⟩
   have n8_ : Aside0 (((((((w25.setCell ⟨gb444, 0, none⟩ (.int .i64 t434)).setCell ⟨gb444, 1, none⟩ (.slice Ao30 t435.length co30)).setCell ⟨gb444, 2, none⟩ (.slice Ao31 t438.length co31)).setCell ⟨gb433, 1, none⟩ (.int .i64 t434)).setCell ⟨gb433, 2, none⟩ (.slice Ao30 t435.length co30)).setCell ⟨gb433, 3, none⟩ (.slice Ao31 t438.length co31)).heap[gb418]? = some (.cells #[.slice none 0 0, .int .i64 0, .slice none 0 0, .slice none 0 0, .slice none 0 0] 27 (0, 0))) := ⟨by (with_reducible repeat (first | refine blk_drewN ?_ _ | refine blk_drew ?_ | refine blk_alloc ?_ _)); refine blk_far ?_ NB418_433.out _; (with_reducible repeat (first | refine blk_drewN ?_ _ | refine blk_drew ?_ | refine blk_alloc ?_ _)); refine blk_far ?_ NB418_433.out _; (with_reducible repeat (first | refine blk_drewN ?_ _ | refine blk_drew ?_ | refine blk_alloc ?_ _)); refine blk_far ?_ NB418_433.out _; (with_reducible repeat (first | refine blk_drewN ?_ _ | refine blk_drew ?_ | refine blk_alloc ?_ _)); refine blk_far ?_ NB418_444.out _; (with_reducible repeat (first | refine blk_drewN ?_ _ | refine blk_drew ?_ | refine blk_alloc ?_ _)); refine blk_far ?_ NB418_444.out _; (with_reducible repeat (first | refine blk_drewN ?_ _ | refine blk_drew ?_ | refine blk_alloc ?_ _)); refine blk_far ?_ NB418_444.out _; (with_reducible repeat (first | refine blk_drewN ?_ _ | refine blk_drew ?_ | refine blk_alloc ?_ _)); exact BK418.out⟩
   have n9_ : Aside0 (((((((w25.setCell ⟨gb444, 0, none⟩ (.int .i64 t434)).setCell ⟨gb444, 1, none⟩ (.slice Ao30 t435.length co30)).setCell ⟨gb444, 2, none⟩ (.slice Ao31 t438.length co31)).setCell ⟨gb433, 1, none⟩ (.int .i64 t434)).setCell ⟨gb433, 2, none⟩ (.slice Ao30 t435.length co30)).setCell ⟨gb433, 3, none⟩ (.slice Ao31 t438.length co31)).heap[gb433]? = some (.cells #[.slice Ao16 t420.length co16, .int .i64 t434, .slice Ao30 t435.length co30, .slice Ao31 t438.length co31, .slice Ao22 t430.length co22] 27 (0, 0))) := ⟨by (with_reducible repeat (first | refine blk_drewN ?_ _ | refine blk_drew ?_ | refine blk_alloc ?_ _)); refine blk_put (cs := #[.slice Ao16 t420.length co16, .int .i64 t434, .slice Ao30 t435.length co30, .slice Ao21 t427.length co21, .slice Ao22 t430.length co22]) ?_ 3 _ rfl; (with_reducible repeat (first | refine blk_drewN ?_ _ | refine blk_drew ?_ | refine blk_alloc ?_ _)); refine blk_put (cs := #[.slice Ao16 t420.length co16, .int .i64 t434, .slice Ao20 t424.length co20, .slice Ao21 t427.length co21, .slice Ao22 t430.length co22]) ?_ 2 _ rfl; (with_reducible repeat (first | refine blk_drewN ?_ _ | refine blk_drew ?_ | refine blk_alloc ?_ _)); refine blk_put (cs := #[.slice Ao16 t420.length co16, .int .i64 t423, .slice Ao20 t424.length co20, .slice Ao21 t427.length co21, .slice Ao22 t430.length co22]) ?_ 1 _ rfl; (with_reducible repeat (first | refine blk_drewN ?_ _ | refine blk_drew ?_ | refine blk_alloc ?_ _)); refine blk_far ?_ NB433_444.out _; (with_reducible repeat (first | refine blk_drewN ?_ _ | refine blk_drew ?_ | refine blk_alloc ?_ _)); refine blk_far ?_ NB433_444.out _; (with_reducible repeat (first | refine blk_drewN ?_ _ | refine blk_drew ?_ | refine blk_alloc ?_ _)); refine blk_far ?_ NB433_444.out _; (with_reducible repeat (first | refine blk_drewN ?_ _ | refine blk_drew ?_ | refine blk_alloc ?_ _)); exact BK433.out⟩
   have n10_ : Aside0 (((((((w25.setCell ⟨gb444, 0, none⟩ (.int .i64 t434)).setCell ⟨gb444, 1, none⟩ (.slice Ao30 t435.length co30)).setCell ⟨gb444, 2, none⟩ (.slice Ao31 t438.length co31)).setCell ⟨gb433, 1, none⟩ (.int .i64 t434)).setCell ⟨gb433, 2, none⟩ (.slice Ao30 t435.length co30)).setCell ⟨gb433, 3, none⟩ (.slice Ao31 t438.length co31)).heap[gb444]? = some (.cells #[.int .i64 t434, .slice Ao30 t435.length co30, .slice Ao31 t438.length co31] 25 (0, 0))) := ⟨by (with_reducible repeat (first | refine blk_drewN ?_ _ | refine blk_drew ?_ | refine blk_alloc ?_ _)); refine blk_far ?_ NB444_433.out _; (with_reducible repeat (first | refine blk_drewN ?_ _ | refine blk_drew ?_ | refine blk_alloc ?_ _)); refine blk_far ?_ NB444_433.out _; (with_reducible repeat (first | refine blk_drewN ?_ _ | refine blk_drew ?_ | refine blk_alloc ?_ _)); refine blk_far ?_ NB444_433.out _; (with_reducible repeat (first | refine blk_drewN ?_ _ | refine blk_drew ?_ | refine blk_alloc ?_ _)); refine blk_put (cs := #[.int .i64 t434, .slice Ao30 t435.length co30, .slice none 0 0]) ?_ 2 _ rfl; (with_reducible repeat (first | refine blk_drewN ?_ _ | refine blk_drew ?_ | refine blk_alloc ?_ _)); refine blk_put (cs := #[.int .i64 t434, .slice none 0 0, .slice none 0 0]) ?_ 1 _ rfl; (with_reducible repeat (first | refine blk_drewN ?_ _ | refine blk_drew ?_ | refine blk_alloc ?_ _)); refine blk_put (cs := #[.int .i64 0, .slice none 0 0, .slice none 0 0]) ?_ 0 _ rfl; (with_reducible repeat (first | refine blk_drewN ?_ _ | refine blk_drew ?_ | refine blk_alloc ?_ _)); exact BK444.out⟩
   have n11_ : Aside0 (Below w.heap.size w ((((((w25.setCell ⟨gb444, 0, none⟩ (.int .i64 t434)).setCell ⟨gb444, 1, none⟩ (.slice Ao30 t435.length co30)).setCell ⟨gb444, 2, none⟩ (.slice Ao31 t438.length co31)).setCell ⟨gb433, 1, none⟩ (.int .i64 t434)).setCell ⟨gb433, 2, none⟩ (.slice Ao30 t435.length co30)).setCell ⟨gb433, 3, none⟩ (.slice Ao31 t438.length co31))) := ⟨be4 HB GE417 GE418 GE433 GE444⟩
   (try clear HO422)
   (try clear HO426)
   (try clear HO429)
   (try clear HO432)
   (try clear HO437)
   (try clear HO440)
   (try clear HO443)
   (try clear BK417)
   (try clear BK418)
   (try clear BK433)
   (try clear BK444)
   (try clear HB)
   generalize ((((((w25.setCell ⟨gb444, 0, none⟩ (.int .i64 t434)).setCell ⟨gb444, 1, none⟩ (.slice Ao30 t435.length co30)).setCell ⟨gb444, 2, none⟩ (.slice Ao31 t438.length co31)).setCell ⟨gb433, 1, none⟩ (.int .i64 t434)).setCell ⟨gb433, 2, none⟩ (.slice Ao30 t435.length co30)).setCell ⟨gb433, 3, none⟩ (.slice Ao31 t438.length co31)) = w33 at n0_ n1_ n2_ n3_ n4_ n5_ n6_ n7_ n8_ n9_ n10_ n11_ ⊢
   have HO422 := n0_
   have HO426 := n1_
   have HO429 := n2_
   have HO432 := n3_
   have HO437 := n4_
   have HO440 := n5_
   have HO443 := n6_
   have BK417 := n7_
   have BK418 := n8_
   have BK433 := n9_
   have BK444 := n10_
   have HB := n11_
   clear n0_ n1_ n2_ n3_ n4_ n5_ n6_ n7_ n8_ n9_ n10_ n11_
   have n0_ := Aside0.mk (Kd.R_drew HO422.out)
   have n1_ := Aside0.mk (Kd.R_drew HO426.out)
   have n2_ := Aside0.mk (Kd.R_drew HO429.out)
   have n3_ := Aside0.mk (Kd.R_drew HO432.out)
   have n4_ := Aside0.mk (Kd.R_drew HO437.out)
   have n5_ := Aside0.mk (Kd.R_drew HO440.out)
   have n6_ := Aside0.mk (Kd.R_drew HO443.out)
   have n7_ := Aside0.mk (blk_drew BK417.out)
   have n8_ := Aside0.mk (blk_drew BK418.out)
   have n9_ := Aside0.mk (blk_drew BK433.out)
   have n10_ := Aside0.mk (blk_drew BK444.out)
   have n11_ := Aside0.mk (below_drew1 HB.out)
   clear HO422
   clear HO426
   clear HO429
   clear HO432
   clear HO437
   clear HO440
   clear HO443
   clear BK417
   clear BK418
   clear BK433
   clear BK444
   clear HB
   have HO422 := n0_
   have HO426 := n1_
   have HO429 := n2_
   have HO432 := n3_
   have HO437 := n4_
   have HO440 := n5_
   have HO443 := n6_
   have BK417 := n7_
   have BK418 := n8_
   have BK433 := n9_
   have BK444 := n10_
   have HB := n11_
   clear n0_ n1_ n2_ n3_ n4_ n5_ n6_ n7_ n8_ n9_ n10_ n11_
   obtain ⟨Ao35, co35, eo35⟩ := Kd.R_slice HO443.out
   (first | subst eo35 | (injection eo35 with f1_ f2_ f3_; have f4_ := f1_.symm; have f5_ := f3_.symm; clear f1_ f2_ f3_; subst f4_; subst f5_))
   refine start_ (n := 7) (S := fun w' => w'.cell? ⟨gb417, 0, none⟩ = some (.slice A0_0 l0_0.length c0_0) ∧ w'.cell? ⟨gb417, 1, none⟩ = some (.int .i64 a0_1) ∧ w'.cell? ⟨gb417, 2, none⟩ = some (.slice A0_2 l0_2.length c0_2) ∧ w'.cell? ⟨gb417, 3, none⟩ = some (.slice A0_3 l0_3.length c0_3) ∧ w'.cell? ⟨gb417, 4, none⟩ = some (.slice A0_4 l0_4.length c0_4)) (ds := []) (bv 7 0x0) (by kernel_rfl) rfl rfl ⟨bc0 BK417, bc1 BK417, bc2 BK417, bc3 BK417, bc4 BK417⟩ (fun hHeld => ?_)
   generalize w33.drew = w34 at HO422 HO426 HO429 HO432 HO437 HO440 HO443 BK417 BK418 BK433 BK444 HB hHeld ⊢
   refine pure_ (i := 0) (N := some 21) (v := ?_) (a' := ?_) (bv 7 0x1) rfl rfl (by kernel_rfl) (fun _ _ _ h => h) (Or.inl ⟨by rfl, ?_⟩) ?_ ?_
   rotate_left
   ·intro w'
    go_simp
    with_reducible rfl
   rotate_left
   ·simp only [aP]
    rfl
   refine pure_ (i := 2) (N := some 23) (v := ?_) (a' := ?_) (bv 7 0x5) rfl rfl (by kernel_rfl) (fun _ _ _ h => h) (Or.inl ⟨by rfl, ?_⟩) ?_ ?_
   rotate_left
   ·intro w'
    go_simp
    with_reducible rfl
   rotate_left
   ·simp only [aP]
    rfl
   refine take_ (i := 3) (N := some 24) (v := ?_) (a' := ?_) (bv 7 0xd) rfl rfl (by kernel_rfl) (fun _ _ _ h => h) (Or.inl ⟨by rfl, ?_⟩) hHeld ?_ ?_
   rotate_left
   ·rintro w' ⟨s0, s1, s2, s3, s4⟩
    go_simp
    with_reducible rfl
   rotate_left
   ·simp only [aP]
    rfl
   refine one_ (i := 1) (N := some 22) (bv 7 0xf) rfl rfl (by kernel_rfl) (by decide) (fun K hK => ?_)
   refine goes_ Try.func57 (by kernel_rfl) rfl #[.slice Ao35 t441.length co35] (by rfl) rfl rfl ml ?_
   with_reducible refine (impl_copyInts.calls _ _ t441 t445 _ ?side1 ?side2 A6.out).mono ?_
   (case side1 => exact cr HO443)
   (case side2 => exact (Kd.R_reads' HO443.out).2.1)
   rintro e w36 ⟨v446, rfl, ho0, hb⟩
   refine ⟨_, rfl, ?_⟩
   have n0_ := Aside0.mk (Kd.R_elder' (ro HO422) (Kd.R_base ho0) hb)
   have n1_ := Aside0.mk (Kd.R_elder' (ro HO426) (Kd.R_base ho0) hb)
   have n2_ := rb HO429 hb
   have n3_ := Aside0.mk (Kd.R_elder' (ro HO432) (Kd.R_base ho0) hb)
   have n4_ := Aside0.mk (Kd.R_elder' (ro HO437) (Kd.R_base ho0) hb)
   have n5_ := rb HO440 hb
   have n6_ := Aside0.mk (Kd.R_elder' (ro HO443) (Kd.R_base ho0) hb)
   have n7_ := Aside0.mk (Kd.R_lower (nw (nw (nw (nw (nw ho0 HO422) HO426) HO432) HO437) HO443) (below_size (be4 HB GE417 GE418 GE433 GE444)))
   have n8_ := bb BK417 hb
   have n9_ := bb BK418 hb
   have n10_ := bb BK433 hb
   have n11_ := bb BK444 hb
   have n12_ := Aside0.mk (below_step (be4 HB GE417 GE418 GE433 GE444) hb)
   clear HO422
   clear HO426
   clear HO429
   clear HO432
   clear HO437
   clear HO440
   clear HO443
   clear BK417
   clear BK418
   clear BK433
   clear BK444
   clear HB
   have HO422 := n0_
   have HO426 := n1_
   have HO429 := n2_
   have HO432 := n3_
   have HO437 := n4_
   have HO440 := n5_
   have HO443 := n6_
   have HO447 := n7_
   have BK417 := n8_
   have BK418 := n9_
   have BK433 := n10_
   have BK444 := n11_
   have HB := n12_
   clear n0_ n1_ n2_ n3_ n4_ n5_ n6_ n7_ n8_ n9_ n10_ n11_ n12_
   (try clear hb)
   (try clear hb2)
   (try clear hk)
   (try clear hi)
   (try clear ho0)
   refine hK.out _ _ ⟨bc0 BK417, bc1 BK417, bc2 BK417, bc3 BK417, bc4 BK417⟩ (fun hHeld => ?_)
   clear hK K
   refine norm_ (a' := ?_) ?_ ?_
   rotate_left
   ·show Act.put _ (some 22) _ = _
    simp only [aP]
    rfl
   refine one_ (i := 4) (N := some 25) (bv 7 0x1f) rfl rfl (by kernel_rfl) (by decide) (fun K hK => ?_)
   refine Kd.R_append_rows_step (Kd.int .i64) (w0 := w) w.heap.size (by rfl) (.tmp 22) (.tmp 24) 22 3 (.int .i64 0) 8 rfl Try.underlying22 info3 rfl (by decide) (by omega) v446 t445 l0_0 _ _ _ (fun k_ => nb k_ Ao16 t420.length co16 ∧ nb k_ Ao20 t424.length co20 ∧ nb k_ Ao22 t430.length co22 ∧ nb k_ Ao30 t435.length co30 ∧ nb k_ Ao35 t441.length co35) (fun _ => False) rfl rfl ?aO ?aR (fun _ _ h => h) (fun _ h => h.elim) ?aF ?aB ?aS ?aL ?_
   (case aR => repeat (first | exact (Kd.C_below HR0_0.out HB.out) | (with_reducible refine Kd.C_alloc ?_ _) | (with_reducible refine Kd.C_drewN ?_ _) | (with_reducible refine Kd.C_drew ?_)))
   (case aB => exact (be4 HB GE417 GE418 GE433 GE444))
   (case aF => exact (fun k_ hk => ⟨Kd.fresh' (Kd.R_lt (ro HO422)) k_ hk, Kd.fresh' (Kd.R_lt (ro HO426)) k_ hk, Kd.fresh' (Kd.R_lt (ro HO432)) k_ hk, Kd.fresh' (Kd.R_lt (ro HO437)) k_ hk, Kd.fresh' (Kd.R_lt (ro HO443)) k_ hk⟩))
   (case aO => exact (by (with_reducible repeat (first | apply Kd.R_alloc | apply Kd.R_drewN | apply Kd.R_drew)); exact rm HO447))
   (case aS => exact (below_size (be4 HB GE417 GE418 GE433 GE444)))
   (case aL => have := LMc7.out; omega)
   intro v449 w37 ho hb hg hat
   rw [← Ny448.out] at ho
   have n0_ := Aside0.mk (blk_grown (g := gb417) (o := .cells #[.slice A0_0 l0_0.length c0_0, .int .i64 a0_1, .slice A0_2 l0_2.length c0_2, .slice A0_3 l0_3.length c0_3, .slice A0_4 l0_4.length c0_4] 27 (0, 0)) (bk BK417) hg (Kd.R_ne HO447.out BK417.out (by decide)))
   have n1_ := Aside0.mk (blk_grown (g := gb418) (o := .cells #[.slice none 0 0, .int .i64 0, .slice none 0 0, .slice none 0 0, .slice none 0 0] 27 (0, 0)) (bk BK418) hg (Kd.R_ne HO447.out BK418.out (by decide)))
   have n2_ := Aside0.mk (Kd.R_after (ok := (fun k_ => nb k_ Ao20 t424.length co20 ∧ nb k_ Ao22 t430.length co22 ∧ nb k_ Ao30 t435.length co30 ∧ nb k_ Ao35 t441.length co35)) (ro HO422) hg hat)
   have n3_ := Aside0.mk (Kd.R_after (ok := (fun k_ => nb k_ Ao16 t420.length co16 ∧ nb k_ Ao22 t430.length co22 ∧ nb k_ Ao30 t435.length co30 ∧ nb k_ Ao35 t441.length co35)) (ro HO426) hg hat)
   have n4_ := Aside0.mk (Kd.R_over' (ro HO429) (Kd.R_typed (ro HO447)) (by decide) hg)
   have n5_ := Aside0.mk (Kd.R_after (ok := (fun k_ => nb k_ Ao16 t420.length co16 ∧ nb k_ Ao20 t424.length co20 ∧ nb k_ Ao30 t435.length co30 ∧ nb k_ Ao35 t441.length co35)) (ro HO432) hg hat)
   have n6_ := Aside0.mk (blk_grown (g := gb433) (o := .cells #[.slice Ao16 t420.length co16, .int .i64 t434, .slice Ao30 t435.length co30, .slice Ao31 t438.length co31, .slice Ao22 t430.length co22] 27 (0, 0)) (bk BK433) hg (Kd.R_ne HO447.out BK433.out (by decide)))
   have n7_ := Aside0.mk (Kd.R_after (ok := (fun k_ => nb k_ Ao16 t420.length co16 ∧ nb k_ Ao20 t424.length co20 ∧ nb k_ Ao22 t430.length co22 ∧ nb k_ Ao35 t441.length co35)) (ro HO437) hg hat)
   have n8_ := Aside0.mk (Kd.R_over' (ro HO440) (Kd.R_typed (ro HO447)) (by decide) hg)
   have n9_ := Aside0.mk (Kd.R_after (ok := (fun k_ => nb k_ Ao16 t420.length co16 ∧ nb k_ Ao20 t424.length co20 ∧ nb k_ Ao22 t430.length co22 ∧ nb k_ Ao30 t435.length co30)) (ro HO443) hg hat)
   have n10_ := Aside0.mk (blk_grown (g := gb444) (o := .cells #[.int .i64 t434, .slice Ao30 t435.length co30, .slice Ao31 t438.length co31] 25 (0, 0)) (bk BK444) hg (Kd.R_ne HO447.out BK444.out (by decide)))
   have n11_ := Aside0.mk (hb)
   have n12_ := Aside0.mk (ho)
   clear BK417
   clear BK418
   clear HO422
   clear HO426
   clear HO429
   clear HO432
   clear BK433
   clear HO437
   clear HO440
   clear HO443
   clear BK444
   clear HB
   clear HO447
   have BK417 := n0_
   have BK418 := n1_
   have HO422 := n2_
   have HO426 := n3_
   have HO429 := n4_
   have HO432 := n5_
   have BK433 := n6_
   have HO437 := n7_
   have HO440 := n8_
   have HO443 := n9_
   have BK444 := n10_
   have HB := n11_
   have HO450 := n12_
   clear n0_ n1_ n2_ n3_ n4_ n5_ n6_ n7_ n8_ n9_ n10_ n11_ n12_
   clear ho hb hg hat
   obtain ⟨Ao38, co38, eo38⟩ := Kd.R_slice HO450.out
   (first | subst eo38 | (injection eo38 with f1_ f2_ f3_; have f4_ := f1_.symm; have f5_ := f3_.symm; clear f1_ f2_ f3_; subst f4_; subst f5_))
   refine hK.out _ _ ⟨bc0 BK417, bc1 BK417, bc2 BK417, bc3 BK417, bc4 BK417⟩ (fun hHeld => ?_)
   clear hK K
   refine norm_ (a' := ?_) ?_ ?_
   rotate_left
   ·show Act.put _ (some 25) _ = _
    simp only [aP]
    rfl
   refine pure_ (i := 5) (N := some 26) (v := ?_) (a' := ?_) (bv 7 0x3f) rfl rfl (by kernel_rfl) (fun _ _ _ h => h) (Or.inl ⟨by rfl, ?_⟩) ?_ ?_
   rotate_left
   ·intro w'
    go_simp
    with_reducible rfl
   rotate_left
   ·simp only [aP]
    rfl
   refine one_ (i := 6) (N := none) (bv 7 0x7f) rfl rfl (by kernel_rfl) (by decide) (fun K hK => ?_)
   have hs39 : w37.cell? ⟨gb433, 0, none⟩ = some (.slice Ao16 t420.length co16) := bc0 BK433
   have hfs39 := blk_frozen BK433.out 0
   have hns39_0 := NB417_433.out
   have hns39_1 := NB418_433.out
   have hns39_3 := NB444_433.out
   have hms39_0 := NB433_417.out
   have hms39_1 := NB433_418.out
   have hms39_3 := NB433_444.out
   refine skip_ (w1 := ?_) (by rfl) rfl ?_ ?_
   rotate_left
   ·go_simp
    rfl
   refine hK.out _ _ ⟨((cell_far (p := ⟨gb433, _, none⟩) NB417_433.out _).trans (hHeld.1)), ((cell_far (p := ⟨gb433, _, none⟩) NB417_433.out _).trans (hHeld.2.1)), ((cell_far (p := ⟨gb433, _, none⟩) NB417_433.out _).trans (hHeld.2.2.1)), ((cell_far (p := ⟨gb433, _, none⟩) NB417_433.out _).trans (hHeld.2.2.2.1)), ((cell_far (p := ⟨gb433, _, none⟩) NB417_433.out _).trans (hHeld.2.2.2.2))⟩ (fun hHeld => ?_)
   clear hK K
   refine done_ (by kernel_rfl) ?_
   have hcz40_0 := bz5 BK433
   have hcz41_0 := bz5 BK418
   try go_wp2
   refine bodyPost_ret (results_ct rfl _ _ gb418 27 #[.slice Ao38 y448.length co38, .int .i64 t434, .slice Ao30 t435.length co30, .slice Ao31 t438.length co31, .slice Ao22 t430.length co22] (0, 0) _ rfl (by (with_reducible repeat (first | refine blk_drewN ?_ _ | refine blk_drew ?_ | refine blk_alloc ?_ _)); refine blk_put (cs := #[.slice Ao38 y448.length co38, .int .i64 t434, .slice Ao30 t435.length co30, .slice Ao31 t438.length co31, .slice none 0 0]) ?_ 4 _ rfl; (with_reducible repeat (first | refine blk_drewN ?_ _ | refine blk_drew ?_ | refine blk_alloc ?_ _)); refine blk_put (cs := #[.slice Ao38 y448.length co38, .int .i64 t434, .slice Ao30 t435.length co30, .slice none 0 0, .slice none 0 0]) ?_ 3 _ rfl; (with_reducible repeat (first | refine blk_drewN ?_ _ | refine blk_drew ?_ | refine blk_alloc ?_ _)); refine blk_put (cs := #[.slice Ao38 y448.length co38, .int .i64 t434, .slice none 0 0, .slice none 0 0, .slice none 0 0]) ?_ 2 _ rfl; (with_reducible repeat (first | refine blk_drewN ?_ _ | refine blk_drew ?_ | refine blk_alloc ?_ _)); refine blk_put (cs := #[.slice Ao38 y448.length co38, .int .i64 0, .slice none 0 0, .slice none 0 0, .slice none 0 0]) ?_ 1 _ rfl; (with_reducible repeat (first | refine blk_drewN ?_ _ | refine blk_drew ?_ | refine blk_alloc ?_ _)); refine blk_put (cs := #[.slice none 0 0, .int .i64 0, .slice none 0 0, .slice none 0 0, .slice none 0 0]) ?_ 0 _ rfl; (with_reducible repeat (first | refine blk_drewN ?_ _ | refine blk_drew ?_ | refine blk_alloc ?_ _)); refine blk_far ?_ NB418_433.out _; (with_reducible repeat (first | refine blk_drewN ?_ _ | refine blk_drew ?_ | refine blk_alloc ?_ _)); exact BK418.out) Try.underlying27 rfl (by kernel_rfl)) rfl ?_
   exact ⟨_, _, _, _, _, er, by (with_reducible repeat (first | apply Kd.R_alloc | apply Kd.R_drewN | apply Kd.R_drew)); exact Kd.R_mono (Kd.R_far (p := ⟨gb418, 4, none⟩) (Kd.R_far (p := ⟨gb418, 3, none⟩) (Kd.R_far (p := ⟨gb418, 2, none⟩) (Kd.R_far (p := ⟨gb418, 1, none⟩) (Kd.R_far (p := ⟨gb418, 0, none⟩) (Kd.R_far (p := ⟨gb433, 0, none⟩) (Kd.R_types (Kd.R_types HO450.out BK433.out (by decide)) BK418.out (by decide)) (fun _ hk => hk.1.2) (.slice Ao38 y448.length co38)) (fun _ hk => hk.2) (.slice Ao38 y448.length co38)) (fun _ hk => hk.2) (.int .i64 t434)) (fun _ hk => hk.2) (.slice Ao30 t435.length co30)) (fun _ hk => hk.2) (.slice Ao31 t438.length co31)) (fun _ hk => hk.2) (.slice Ao22 t430.length co22)) (fun _ hk => ⟨hk.1.1.2.2.2.1, ⟨hk.1.1.2.2.1, hk.1.1.2.2.2.2⟩⟩), by (with_reducible repeat (first | apply Kd.R_alloc | apply Kd.R_drewN | apply Kd.R_drew)); exact Kd.R_mono (Kd.R_far (p := ⟨gb418, 4, none⟩) (Kd.R_far (p := ⟨gb418, 3, none⟩) (Kd.R_far (p := ⟨gb418, 2, none⟩) (Kd.R_far (p := ⟨gb418, 1, none⟩) (Kd.R_far (p := ⟨gb418, 0, none⟩) (Kd.R_far (p := ⟨gb433, 0, none⟩) (Kd.R_types (Kd.R_types HO437.out BK433.out (by decide)) BK418.out (by decide)) (fun _ hk => hk.1.2) (.slice Ao38 y448.length co38)) (fun _ hk => hk.2) (.slice Ao38 y448.length co38)) (fun _ hk => hk.2) (.int .i64 t434)) (fun _ hk => hk.2) (.slice Ao30 t435.length co30)) (fun _ hk => hk.2) (.slice Ao31 t438.length co31)) (fun _ hk => hk.2) (.slice Ao22 t430.length co22)) (fun _ hk => ⟨hk.1.1.2, ⟨hk.1.1.1.2.2.1, hk.1.1.1.2.2.2⟩⟩), by (with_reducible repeat (first | apply Kd.R_alloc | apply Kd.R_drewN | apply Kd.R_drew)); exact Kd.R_mono (Kd.R_far (p := ⟨gb418, 4, none⟩) (Kd.R_far (p := ⟨gb418, 3, none⟩) (Kd.R_far (p := ⟨gb418, 2, none⟩) (Kd.R_far (p := ⟨gb418, 1, none⟩) (Kd.R_far (p := ⟨gb418, 0, none⟩) (Kd.R_far (p := ⟨gb433, 0, none⟩) (Kd.R_types (Kd.R_types HO440.out BK433.out (by decide)) BK418.out (by decide)) (fun _ hk => hk.1.2) (.slice Ao38 y448.length co38)) (fun _ hk => hk.2) (.slice Ao38 y448.length co38)) (fun _ hk => hk.2) (.int .i64 t434)) (fun _ hk => hk.2) (.slice Ao30 t435.length co30)) (fun _ hk => hk.2) (.slice Ao31 t438.length co31)) (fun _ hk => hk.2) (.slice Ao22 t430.length co22)) (fun _ hk => trivial), by (with_reducible repeat (first | apply Kd.R_alloc | apply Kd.R_drewN | apply Kd.R_drew)); exact Kd.R_mono (Kd.R_far (p := ⟨gb418, 4, none⟩) (Kd.R_far (p := ⟨gb418, 3, none⟩) (Kd.R_far (p := ⟨gb418, 2, none⟩) (Kd.R_far (p := ⟨gb418, 1, none⟩) (Kd.R_far (p := ⟨gb418, 0, none⟩) (Kd.R_far (p := ⟨gb433, 0, none⟩) (Kd.R_types (Kd.R_types HO432.out BK433.out (by decide)) BK418.out (by decide)) (fun _ hk => hk.1.2) (.slice Ao38 y448.length co38)) (fun _ hk => hk.2) (.slice Ao38 y448.length co38)) (fun _ hk => hk.2) (.int .i64 t434)) (fun _ hk => hk.2) (.slice Ao30 t435.length co30)) (fun _ hk => hk.2) (.slice Ao31 t438.length co31)) (fun _ hk => hk.2) (.slice Ao22 t430.length co22)) (fun _ hk => ⟨hk.1.1.2, ⟨hk.1.1.1.2.2.1, hk.1.1.1.2.2.2⟩⟩), by (with_reducible repeat (first | apply Kd.R_alloc | apply Kd.R_drewN | apply Kd.R_drew)); exact Kd.R_mono (Kd.R_far (p := ⟨gb418, 4, none⟩) (Kd.R_far (p := ⟨gb418, 3, none⟩) (Kd.R_far (p := ⟨gb418, 2, none⟩) (Kd.R_far (p := ⟨gb418, 1, none⟩) (Kd.R_far (p := ⟨gb418, 0, none⟩) (Kd.R_far (p := ⟨gb433, 0, none⟩) (Kd.R_types (Kd.R_types HO443.out BK433.out (by decide)) BK418.out (by decide)) (fun _ hk => hk.1.2) (.slice Ao38 y448.length co38)) (fun _ hk => hk.2) (.slice Ao38 y448.length co38)) (fun _ hk => hk.2) (.int .i64 t434)) (fun _ hk => hk.2) (.slice Ao30 t435.length co30)) (fun _ hk => hk.2) (.slice Ao31 t438.length co31)) (fun _ hk => hk.2) (.slice Ao22 t430.length co22)) (fun _ hk => ⟨hk.1.1.2, ⟨hk.1.1.1.2.2.2, hk.1.1.1.2.2.1⟩⟩), be4 HB GE417 GE418 GE433 GE444⟩
  rw [if_neg c7] at H
  exact absurd H (by simp)
 replace c3 := Bool.eq_false_iff.mpr c3
 subst c3
 have H1 : (some (([] : List Int), 0, ([] : List Int), ([] : List (S70)), ([] : List Int), ([] : List Int))) = some (r1, r2, r3, r4, r5, r6) := by rw [if_neg (show ¬ (false = true) by decide)] at H; exact H
 clear H
 have H := H1
 clear H1
 simp only [Option.some.injEq, Prod.mk.injEq] at H
 obtain ⟨rfl, rfl, rfl, rfl, rfl, rfl⟩ := H
 go_enter Try.func32, Try.ntmps32
 go_wp2_with (first | ((with_reducible refine gate_dst (N := 1) rfl ?_); refine bx 1 #[.slice A0_0 l0_0.length c0_0, .int .i64 a0_1, .slice A0_2 l0_2.length c0_2, .slice A0_3 l0_3.length c0_3, .slice A0_4 l0_4.length c0_4] 27 ?_; intro gb417 hg w42 hbox hb; have BK417 := am hbox; have GW417 := gs0 hg HB; have GE417 := gs0 hg HB; replace HB := s0 HB hb; clear hb hbox hg) | ((with_reducible refine gate_dst (N := 2) rfl ?_); refine bx 2 #[.slice none 0 0, .int .i64 0, .slice none 0 0, .slice none 0 0, .slice none 0 0] 27 ?_; intro gb418 hg w43 hbox hb; have BK418 := am hbox; have GW418 := gs1 hg HB GE417; have GE418 := gs1 hg HB GE417; replace HB := Aside0.mk (below_step (be1 HB GE417) hb); have NB417_418 := Aside0.mk ((by rw [hg]; exact Nat.ne_of_lt (bl BK417) : gb417 ≠ gb418)); have NB418_417 := Aside0.mk ((by rw [hg]; exact Nat.ne_of_gt (bl BK417) : gb418 ≠ gb417)); replace BK417 := bb BK417 hb; clear hb hbox hg; have hnb44 := NB417_418.out; have hnc44 := NB418_417.out; have hcz45_0 := bz5 BK417) | ((with_reducible refine gate_callee (f := 22) rfl ?_); refine gl 8 Try.func22 #[.agg #[.slice A0_0 l0_0.length c0_0, .int .i64 a0_1, .slice A0_2 l0_2.length c0_2, .slice A0_3 l0_3.length c0_3, .slice A0_4 l0_4.length c0_4]] ?_; (with_reducible refine (impl_PoolOk.calls k _ _ l0_0 a0_1 _ _ l0_2 _ _ l0_3 _ _ l0_4 false _ (cb HR0_0 HB) HC0_0.out (cb HR0_2 HB) HC0_2.out (cb HR0_3 HB) HC0_3.out (cb HR0_4 HB) HC0_4.out A2.out).mono ?_); rintro e w46 ⟨rfl, hb⟩; refine ⟨_, rfl, ?_⟩; replace BK417 := bb BK417 hb; replace BK418 := bb BK418 hb; replace HB := Aside0.mk (below_step (be2 HB GE417 GE418) hb); (try clear hb); have hcz47_0 := bz5 BK418))
 refine bodyPost_ret (results_ct rfl _ _ gb418 27 #[.slice none 0 0, .int .i64 0, .slice none 0 0, .slice none 0 0, .slice none 0 0] (0, 0) _ rfl (by (with_reducible repeat (first | refine blk_drewN ?_ _ | refine blk_drew ?_ | refine blk_alloc ?_ _)); refine blk_put (cs := #[.slice none 0 0, .int .i64 0, .slice none 0 0, .slice none 0 0, .slice none 0 0]) ?_ 4 _ rfl; (with_reducible repeat (first | refine blk_drewN ?_ _ | refine blk_drew ?_ | refine blk_alloc ?_ _)); refine blk_put (cs := #[.slice none 0 0, .int .i64 0, .slice none 0 0, .slice none 0 0, .slice none 0 0]) ?_ 3 _ rfl; (with_reducible repeat (first | refine blk_drewN ?_ _ | refine blk_drew ?_ | refine blk_alloc ?_ _)); refine blk_put (cs := #[.slice none 0 0, .int .i64 0, .slice none 0 0, .slice none 0 0, .slice none 0 0]) ?_ 2 _ rfl; (with_reducible repeat (first | refine blk_drewN ?_ _ | refine blk_drew ?_ | refine blk_alloc ?_ _)); refine blk_put (cs := #[.slice none 0 0, .int .i64 0, .slice none 0 0, .slice none 0 0, .slice none 0 0]) ?_ 1 _ rfl; (with_reducible repeat (first | refine blk_drewN ?_ _ | refine blk_drew ?_ | refine blk_alloc ?_ _)); refine blk_put (cs := #[.slice none 0 0, .int .i64 0, .slice none 0 0, .slice none 0 0, .slice none 0 0]) ?_ 0 _ rfl; (with_reducible repeat (first | refine blk_drewN ?_ _ | refine blk_drew ?_ | refine blk_alloc ?_ _)); exact BK418.out) Try.underlying27 rfl (by kernel_rfl)) rfl ?_
 exact ⟨_, _, _, _, _, er, by first | exact Kd.R_nil _ _ _ _ _ | exact Kd.N_nil _ _ _ _ _ | exact Kd.V_nil _ _ _ _ _ | exact Kd.Q_nil _ _ _ _ _ | exact Kd.S_nil _ _ _ _ _, by first | exact Kd.R_nil _ _ _ _ _ | exact Kd.N_nil _ _ _ _ _ | exact Kd.V_nil _ _ _ _ _ | exact Kd.Q_nil _ _ _ _ _ | exact Kd.S_nil _ _ _ _ _, by first | exact Kd.R_nil _ _ _ _ _ | exact Kd.N_nil _ _ _ _ _ | exact Kd.V_nil _ _ _ _ _ | exact Kd.Q_nil _ _ _ _ _ | exact Kd.S_nil _ _ _ _ _, by first | exact Kd.R_nil _ _ _ _ _ | exact Kd.N_nil _ _ _ _ _ | exact Kd.V_nil _ _ _ _ _ | exact Kd.Q_nil _ _ _ _ _ | exact Kd.S_nil _ _ _ _ _, by first | exact Kd.R_nil _ _ _ _ _ | exact Kd.N_nil _ _ _ _ _ | exact Kd.V_nil _ _ _ _ _ | exact Kd.Q_nil _ _ _ _ _ | exact Kd.S_nil _ _ _ _ _, be2 HB GE417 GE418⟩

end Go.Proofs.Ytdgpidhlbpaolaa.QFnExactReclaim
