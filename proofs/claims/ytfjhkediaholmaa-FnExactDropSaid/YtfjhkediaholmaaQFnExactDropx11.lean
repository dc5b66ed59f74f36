-- made by a program of this session (myprint.py)
import Derived.Test.YtfjhkediaholmaaLm
import Derived.Test.YtfjhkediaholmaaOw
import Derived.Test.YtfjhkediaholmaaQFnExactDropx0
import Derived.Test.YtfjhkediaholmaaQFnExactDropx8
import Derived.Test.YtfjhkediaholmaaQFnExactDropx10
namespace Go.Proofs.Ytfjhkediaholmaa.QFnExactDrop
open Go.RowKit Go.Proofs.YtfjhkediaholmaaW.PrintWords Go.Proofs.YtfjhkediaholmaaW.PrintLast Go.Proofs.YtfjhkediaholmaaW.PrintMore
attribute [local go_sem] max2_int min2_int max_two min_two max_three min_three max_four min_four   -- for this text's walks alone
set_option linter.unusedVariables false
set_option linter.unusedSimpArgs false

/-! ### impl_copyInts: function 115 -/
def impl_copyInts.f (l0 : List Int) : Option (List Int) := (some (([] : List Int) : List Int)).bind fun y286 => (if y286.length + l0.length < 17592186044416 then (some (y286 ++ l0)) else (none))
set_option maxHeartbeats 8000000 in
set_option maxRecDepth 100000 in
theorem impl_copyInts.calls (A0 : Option Addr) (c0 : Nat) (l0 : List Int) (r : List Int) (w : World) (hr0 : Kd.C (Kd.int .i64) w A0 l0.length l0) (hc0 : l0.length ≤ c0) (h : impl_copyInts.f l0 = some r) :
  Calls Try.prog 115 #[.slice A0 l0.length c0] w fun e w' => ∃ v0_ : Value, e = .returned (v0_) ∧ Kd.R (Kd.int .i64) 3 w' w.heap.size (fun _ => True) v0_ r ∧ Below w.heap.size w w' := by
 have HR0 := Aside0.mk hr0
 have HC0 := Aside0.mk hc0
 clear hr0 hc0
 have HB := Aside0.mk (Below.refl w.heap.size w)
 have H : ((some (([] : List Int) : List Int)).bind fun y286 => (if y286.length + l0.length < 17592186044416 then (some (y286 ++ l0)) else (none))) = some r := h
 clear h
 obtain ⟨y286, hy286⟩ : ∃ y_ : List Int, y_ = (([] : List Int)) := ⟨_, rfl⟩
 replace H : (if y286.length + l0.length < 17592186044416 then (some (y286 ++ l0)) else (none)) = some r := by first | (rw [hy286]; with_reducible exact H) | (have H2_ := (Option.bind_some _ _).symm.trans H; rw [hy286]; with_reducible exact H2_) | (have H2_ := (Option.bind_some _ _).symm.trans H; with_reducible exact H2_) | with_reducible exact H | (rw [hy286]; exact H) | exact H
 have Ny286 := Aside0.mk hy286
 clear hy286
 by_cases c2 : y286.length + l0.length < 17592186044416
 ·rw [if_pos c2] at H
  have LMc2 := Aside0.mk c2
  clear c2
  obtain ⟨y289, hy289⟩ : ∃ y_ : List Int, y_ = (y286 ++ l0) := ⟨_, rfl⟩
  replace H : (some y289) = some r := by first | (rw [hy289]; with_reducible exact H) | (have H2_ := (Option.bind_some _ _).symm.trans H; rw [hy289]; with_reducible exact H2_) | (have H2_ := (Option.bind_some _ _).symm.trans H; with_reducible exact H2_) | with_reducible exact H | (rw [hy289]; exact H) | exact H
  have Ny289 := Aside0.mk hy289
  clear hy289
  obtain rfl := Option.some.inj H
  go_enter Try.func115, Try.ntmps115
  have HO288 := Aside0.mk (show Kd.R (Kd.int .i64) 3 w w.heap.size (fun _ => True) (.slice none 0 0) y286 from by rw [Ny286.out]; exact Kd.R_nil _ _ _ _ _)
  go_wp2_with (first | ((with_reducible refine gate_builtin (b := .append) (xs := #[.const (.slice none 0 0), .tmp 3]) rfl ?_); at_builtin; refine Kd.R_append_rows (Kd.int .i64) (w0 := w) w.heap.size rfl (.const (.slice none 0 0)) (.tmp 3) 23 3 (.int .i64 0) 8 rfl Try.underlying23 info3 rfl (by decide) (by omega) (.slice none 0 0) y286 l0 _ _ _ (fun _ => True) (fun _ => False) rfl rfl ?aO ?aR (fun _ _ h => h) (fun _ h => h.elim) ?aF ?aB ?aS ?aL ?_; (case aR => repeat (first | exact (Kd.C_below HR0.out HB.out) | (with_reducible refine Kd.C_alloc ?_ _) | (with_reducible refine Kd.C_drewN ?_ _) | (with_reducible refine Kd.C_drew ?_))); (case aB => exact (be HB)); (case aF => exact (fun _ _ => trivial)); (case aO => exact (ro HO288)); (case aS => exact (below_size (be HB))); (case aL => have := LMc2.out; omega); intro v290 w5 ho hb hg hat; rw [← Ny289.out] at ho; replace HB := Aside0.mk (hb); have HO291 := Aside0.mk (ho); clear HO288; clear ho hb hg hat))
  go_ret
  exact ⟨_, er, by (with_reducible repeat (first | apply Kd.R_alloc | apply Kd.R_drewN | apply Kd.R_drew)); exact HO291.out, be HB⟩
 rw [if_neg c2] at H
 exact absurd H (by simp)

/-! ### impl_copyThree: function 87 -/
def impl_copyThree.f (a0_0 : Int) (a0_1 : Int) (l0_2 : List (S68)) (l0_3 : List (S68)) (l0_4 : List Int) : Option (Int × Int × (List (S68)) × (List (S68)) × List Int) := (impl_copyItems.f l0_2).bind fun t294 => ((impl_copyItems.f l0_3).bind fun t297 => ((impl_copyInts.f l0_4).bind fun t300 => (some (a0_0, a0_1, t294, t297, t300))))
def impl_copyThree.T1 : Bool × List (List Nat × List Nat) := (true, [([], []), ([0], [0]), ([], []), ([2], [2]), ([], []), ([4], [4]), ([5], [5]), ([], []), ([7], [7]), ([8, 6], [8]), ([], []), ([10], [10]), ([11, 9], [11]), ([1, 3, 6, 9, 12], [1, 3, 6, 9, 12]), ([13, 12, 0, 1, 2, 3, 4, 5, 6, 7, 8, 9, 10, 11, 12, 13], [13])])
def impl_copyThree.B1 : List Nat := [0, 1, 0, 4, 0, 16, 48, 0, 128, 496, 0, 1024, 4080, 8191, 16383]
theorem impl_copyThree.tab1 : rtab .any (opsOf Try.f87 1) = impl_copyThree.T1 := by kernel_rfl
theorem impl_copyThree.bits1 : waitsOk impl_copyThree.T1.2 impl_copyThree.B1 = true := by kernel_rfl
set_option maxHeartbeats 8000000 in
set_option maxRecDepth 100000 in
theorem impl_copyThree.calls (a0_0 : Int) (a0_1 : Int) (A0_2 : Option Addr) (c0_2 : Nat) (l0_2 : List (S68)) (A0_3 : Option Addr) (c0_3 : Nat) (l0_3 : List (S68)) (A0_4 : Option Addr) (c0_4 : Nat) (l0_4 : List Int) (r1 : Int) (r2 : Int) (r3 : List (S68)) (r4 : List (S68)) (r5 : List Int) (w : World) (hr0_2 : Kd.C k68 w A0_2 l0_2.length l0_2) (hc0_2 : l0_2.length ≤ c0_2) (hr0_3 : Kd.C k68 w A0_3 l0_3.length l0_3) (hc0_3 : l0_3.length ≤ c0_3) (hr0_4 : Kd.C (Kd.int .i64) w A0_4 l0_4.length l0_4) (hc0_4 : l0_4.length ≤ c0_4) (h : impl_copyThree.f a0_0 a0_1 l0_2 l0_3 l0_4 = some (r1, r2, r3, r4, r5)) :
  Calls Try.prog 87 #[.agg #[.int .i64 a0_0, .int .i64 a0_1, .slice A0_2 l0_2.length c0_2, .slice A0_3 l0_3.length c0_3, .slice A0_4 l0_4.length c0_4]] w fun e w' => ∃ v2_ v3_ v4_ : Value, e = .returned (.agg #[.int .i64 r1, .int .i64 r2, v2_, v3_, v4_]) ∧ Kd.R k68 68 w' w.heap.size (fun k_ => some k_ ≠ (v3_ : Value).ownBlock) v2_ r3 ∧ Kd.R k68 68 w' w.heap.size (fun k_ => some k_ ≠ (v2_ : Value).ownBlock) v3_ r4 ∧ Kd.R (Kd.int .i64) 3 w' w.heap.size (fun _ => True) v4_ r5 ∧ Below w.heap.size w w' := by
 have hu30 := Try.underlying30
 have HR0_2 := Aside0.mk hr0_2
 have HC0_2 := Aside0.mk hc0_2
 clear hr0_2 hc0_2
 have HR0_3 := Aside0.mk hr0_3
 have HC0_3 := Aside0.mk hc0_3
 clear hr0_3 hc0_3
 have HR0_4 := Aside0.mk hr0_4
 have HC0_4 := Aside0.mk hc0_4
 clear hr0_4 hc0_4
 have HB := Aside0.mk (Below.refl w.heap.size w)
 have H : ((impl_copyItems.f l0_2).bind fun t294 => ((impl_copyItems.f l0_3).bind fun t297 => ((impl_copyInts.f l0_4).bind fun t300 => (some (a0_0, a0_1, t294, t297, t300))))) = some (r1, r2, r3, r4, r5) := h
 clear h
 replace H := Option.bind_eq_some_iff.mp H
 obtain ⟨t294, A20, H⟩ := H
 replace H : ((impl_copyItems.f l0_3).bind fun t297 => ((impl_copyInts.f l0_4).bind fun t300 => (some (a0_0, a0_1, t294, t297, t300)))) = some (r1, r2, r3, r4, r5) := H
 have A2 := Aside0.mk A20
 clear A20
 replace H := Option.bind_eq_some_iff.mp H
 obtain ⟨t297, A30, H⟩ := H
 replace H : ((impl_copyInts.f l0_4).bind fun t300 => (some (a0_0, a0_1, t294, t297, t300))) = some (r1, r2, r3, r4, r5) := H
 have A3 := Aside0.mk A30
 clear A30
 replace H := Option.bind_eq_some_iff.mp H
 obtain ⟨t300, A40, H⟩ := H
 replace H : (some (a0_0, a0_1, t294, t297, t300)) = some (r1, r2, r3, r4, r5) := H
 have A4 := Aside0.mk A40
 clear A40
 simp only [Option.some.injEq, Prod.mk.injEq] at H
 obtain ⟨rfl, rfl, rfl, rfl, rfl⟩ := H
 go_enter Try.func87, Try.ntmps87
 try go_wp2_with (first | ((with_reducible refine gate_dst (N := 1) rfl ?_); refine bx 1 #[.int .i64 a0_0, .int .i64 a0_1, .slice A0_2 l0_2.length c0_2, .slice A0_3 l0_3.length c0_3, .slice A0_4 l0_4.length c0_4] 30 ?_; intro gb292 hg w5 hbox hb; have BK292 := am hbox; have GW292 := gs0 hg HB; have GE292 := gs0 hg HB; replace HB := s0 HB hb; clear hb hbox hg) | ((with_reducible refine gate_dst (N := 2) rfl ?_); refine bx 2 #[.int .i64 0, .int .i64 0, .slice none 0 0, .slice none 0 0, .slice none 0 0] 30 ?_; intro gb293 hg w6 hbox hb; have BK293 := am hbox; have GW293 := gs1 hg HB GE292; have GE293 := gs1 hg HB GE292; replace HB := Aside0.mk (below_step (be1 HB GE292) hb); have NB292_293 := Aside0.mk ((by rw [hg]; exact Nat.ne_of_lt (bl BK292) : gb292 ≠ gb293)); have NB293_292 := Aside0.mk ((by rw [hg]; exact Nat.ne_of_gt (bl BK292) : gb293 ≠ gb292)); replace BK292 := bb BK292 hb; clear hb hbox hg))
 have n0_ := Aside0.mk (blk_drew BK292.out)
 have n1_ := Aside0.mk (blk_drew BK293.out)
 have n2_ := Aside0.mk (below_drew1 HB.out)
 clear BK292
 clear BK293
 clear HB
 have BK292 := n0_
 have BK293 := n1_
 have HB := n2_
 clear n0_ n1_ n2_
 refine start_ (n := 15) (S := fun w' => w'.cell? ⟨gb292, 0, none⟩ = some (.int .i64 a0_0) ∧ w'.cell? ⟨gb292, 1, none⟩ = some (.int .i64 a0_1) ∧ w'.cell? ⟨gb292, 2, none⟩ = some (.slice A0_2 l0_2.length c0_2) ∧ w'.cell? ⟨gb292, 3, none⟩ = some (.slice A0_3 l0_3.length c0_3) ∧ w'.cell? ⟨gb292, 4, none⟩ = some (.slice A0_4 l0_4.length c0_4)) (ds := []) (bv 15 0x0) (by kernel_rfl) rfl rfl ⟨bc0 BK292, bc1 BK292, bc2 BK292, bc3 BK292, bc4 BK292⟩ (fun hHeld => ?_); refine with_tabW impl_copyThree.tab1 impl_copyThree.bits1 (fun HT_ HW_ => ?_)
 generalize w6.drew = w7 at BK292 BK293 HB hHeld ⊢
 refine py HT_ 0 3 (bv 15 0x1) ?_
 refine py HT_ 2 5 (bv 15 0x5) ?_
 refine py HT_ 4 7 (bv 15 0x15) ?_
 refine py HT_ 7 10 (bv 15 0x95) ?_
 refine py HT_ 10 13 (bv 15 0x495) ?_
 refine tk HT_ HW_ hHeld 1 4 (bv 15 0x497) ?_
 refine tk HT_ HW_ hHeld 3 6 (bv 15 0x49f) ?_
 refine tk HT_ HW_ hHeld 5 8 (bv 15 0x4bf) ?_
 refine tk HT_ HW_ hHeld 8 11 (bv 15 0x5bf) ?_
 refine tk HT_ HW_ hHeld 11 14 (bv 15 0xdbf) ?_
 refine one_ (i := 6) (N := some 9) (bv 15 0xdff) rfl rfl (one_of HT_.out (by kernel_rfl)) (by decide) (fun K hK => ?_)
 refine goes_ Try.func68 (by kernel_rfl) rfl #[.slice A0_2 l0_2.length c0_2] (by rfl) rfl rfl ml ?_
 with_reducible refine (impl_copyItems.calls _ _ l0_2 t294 _ ?side1 ?side2 A2.out).mono ?_
 (case side1 => exact cb HR0_2 HB)
 (case side2 => exact HC0_2.out)
 rintro e w8 ⟨v295, rfl, ho0, hb⟩
 refine ⟨_, rfl, ?_⟩
 have n0_ := Aside0.mk (Kd.R_lower ho0 (below_size (be2 HB GE292 GE293)))
 have n1_ := bb BK292 hb
 have n2_ := bb BK293 hb
 have n3_ := Aside0.mk (below_step (be2 HB GE292 GE293) hb)
 clear BK292
 clear BK293
 clear HB
 have HO296 := n0_
 have BK292 := n1_
 have BK293 := n2_
 have HB := n3_
 clear n0_ n1_ n2_ n3_
 (try clear hb)
 (try clear hb2)
 (try clear hk)
 (try clear hi)
 (try clear ho0)
 refine hK.out _ _ ⟨bc0 BK292, bc1 BK292, bc2 BK292, bc3 BK292, bc4 BK292⟩ (fun hHeld => ?_)
 clear hK K
 refine norm_ (a' := ?_) ?_ ?_
 rotate_left
 ·show Act.put _ (some 9) _ = _
  simp only [aP]
  rfl
 refine one_ (i := 9) (N := some 12) (bv 15 0xfff) rfl rfl (one_of HT_.out (by kernel_rfl)) (by decide) (fun K hK => ?_)
 refine goes_ Try.func68 (by kernel_rfl) rfl #[.slice A0_3 l0_3.length c0_3] (by rfl) rfl rfl ml ?_
 with_reducible refine (impl_copyItems.calls _ _ l0_3 t297 _ ?side1 ?side2 A3.out).mono ?_
 (case side1 => exact cb HR0_3 HB)
 (case side2 => exact HC0_3.out)
 rintro e w9 ⟨v298, rfl, ho0, hb⟩
 refine ⟨_, rfl, ?_⟩
 have n0_ := Aside0.mk (Kd.R_elder' (ro HO296) (Kd.R_base ho0) hb)
 have n1_ := Aside0.mk (Kd.R_lower (nw ho0 HO296) (below_size (be2 HB GE292 GE293)))
 have n2_ := bb BK292 hb
 have n3_ := bb BK293 hb
 have n4_ := Aside0.mk (below_step (be2 HB GE292 GE293) hb)
 clear HO296
 clear BK292
 clear BK293
 clear HB
 have HO296 := n0_
 have HO299 := n1_
 have BK292 := n2_
 have BK293 := n3_
 have HB := n4_
 clear n0_ n1_ n2_ n3_ n4_
 (try clear hb)
 (try clear hb2)
 (try clear hk)
 (try clear hi)
 (try clear ho0)
 refine hK.out _ _ ⟨bc0 BK292, bc1 BK292, bc2 BK292, bc3 BK292, bc4 BK292⟩ (fun hHeld => ?_)
 clear hK K
 refine norm_ (a' := ?_) ?_ ?_
 rotate_left
 ·show Act.put _ (some 12) _ = _
  simp only [aP]
  rfl
 refine one_ (i := 12) (N := some 15) (bv 15 0x1fff) rfl rfl (one_of HT_.out (by kernel_rfl)) (by decide) (fun K hK => ?_)
 refine goes_ Try.func115 (by kernel_rfl) rfl #[.slice A0_4 l0_4.length c0_4] (by rfl) rfl rfl ml ?_
 with_reducible refine (impl_copyInts.calls _ _ l0_4 t300 _ ?side1 ?side2 A4.out).mono ?_
 (case side1 => exact cb HR0_4 HB)
 (case side2 => exact HC0_4.out)
 rintro e w10 ⟨v301, rfl, ho0, hb⟩
 refine ⟨_, rfl, ?_⟩
 have n0_ := rb HO296 hb
 have n1_ := rb HO299 hb
 have n2_ := Aside0.mk (Kd.R_lower ho0 (below_size (be2 HB GE292 GE293)))
 have n3_ := bb BK292 hb
 have n4_ := bb BK293 hb
 have n5_ := Aside0.mk (below_step (be2 HB GE292 GE293) hb)
 clear HO296
 clear HO299
 clear BK292
 clear BK293
 clear HB
 have HO296 := n0_
 have HO299 := n1_
 have HO302 := n2_
 have BK292 := n3_
 have BK293 := n4_
 have HB := n5_
 clear n0_ n1_ n2_ n3_ n4_ n5_
 (try clear hb)
 (try clear hb2)
 (try clear hk)
 (try clear hi)
 (try clear ho0)
 obtain ⟨Ao11, co11, eo11⟩ := Kd.R_slice HO302.out
 (first | subst eo11 | (injection eo11 with f1_ f2_ f3_; have f4_ := f1_.symm; have f5_ := f3_.symm; clear f1_ f2_ f3_; subst f4_; subst f5_))
 obtain ⟨Ao12, co12, eo12⟩ := Kd.R_slice HO299.out
 (first | subst eo12 | (injection eo12 with f1_ f2_ f3_; have f4_ := f1_.symm; have f5_ := f3_.symm; clear f1_ f2_ f3_; subst f4_; subst f5_))
 obtain ⟨Ao13, co13, eo13⟩ := Kd.R_slice HO296.out
 (first | subst eo13 | (injection eo13 with f1_ f2_ f3_; have f4_ := f1_.symm; have f5_ := f3_.symm; clear f1_ f2_ f3_; subst f4_; subst f5_))
 refine hK.out _ _ ⟨bc0 BK292, bc1 BK292, bc2 BK292, bc3 BK292, bc4 BK292⟩ (fun hHeld => ?_)
 clear hK K
 refine norm_ (a' := ?_) ?_ ?_
 rotate_left
 ·show Act.put _ (some 15) _ = _
  simp only [aP]
  rfl
 refine py HT_ 13 16 (bv 15 0x3fff) ?_
 refine one_ (i := 14) (N := none) (bv 15 0x7fff) rfl rfl (one_of HT_.out (by kernel_rfl)) (by decide) (fun K hK => ?_)
 have hs14 : w10.cell? ⟨gb293, 0, none⟩ = some (.int .i64 0) := bc0 BK293
 have hfs14 := blk_frozen BK293.out 0
 have hns14_0 := NB292_293.out
 have hms14_0 := NB293_292.out
 have hs15 : w10.cell? ⟨gb293, 1, none⟩ = some (.int .i64 0) := bc1 BK293
 have hfs15 := blk_frozen BK293.out 1
 have hns15_0 := NB292_293.out
 have hms15_0 := NB293_292.out
 have hs16 : w10.cell? ⟨gb293, 2, none⟩ = some (.slice none 0 0) := bc2 BK293
 have hfs16 := blk_frozen BK293.out 2
 have hns16_0 := NB292_293.out
 have hms16_0 := NB293_292.out
 have hs17 : w10.cell? ⟨gb293, 3, none⟩ = some (.slice none 0 0) := bc3 BK293
 have hfs17 := blk_frozen BK293.out 3
 have hns17_0 := NB292_293.out
 have hms17_0 := NB293_292.out
 have hs18 : w10.cell? ⟨gb293, 4, none⟩ = some (.slice none 0 0) := bc4 BK293
 have hfs18 := blk_frozen BK293.out 4
 have hns18_0 := NB292_293.out
 have hms18_0 := NB293_292.out
 refine skip_ (w1 := ?_) (by rfl) rfl ?_ ?_
 rotate_left
 ·go_simp
  rfl
 refine hK.out _ _ ⟨((cell_far (p := ⟨gb293, _, none⟩) NB292_293.out _).trans (((cell_far (p := ⟨gb293, _, none⟩) NB292_293.out _).trans (((cell_far (p := ⟨gb293, _, none⟩) NB292_293.out _).trans (((cell_far (p := ⟨gb293, _, none⟩) NB292_293.out _).trans (((cell_far (p := ⟨gb293, _, none⟩) NB292_293.out _).trans (hHeld.1)))))))))), ((cell_far (p := ⟨gb293, _, none⟩) NB292_293.out _).trans (((cell_far (p := ⟨gb293, _, none⟩) NB292_293.out _).trans (((cell_far (p := ⟨gb293, _, none⟩) NB292_293.out _).trans (((cell_far (p := ⟨gb293, _, none⟩) NB292_293.out _).trans (((cell_far (p := ⟨gb293, _, none⟩) NB292_293.out _).trans (hHeld.2.1)))))))))), ((cell_far (p := ⟨gb293, _, none⟩) NB292_293.out _).trans (((cell_far (p := ⟨gb293, _, none⟩) NB292_293.out _).trans (((cell_far (p := ⟨gb293, _, none⟩) NB292_293.out _).trans (((cell_far (p := ⟨gb293, _, none⟩) NB292_293.out _).trans (((cell_far (p := ⟨gb293, _, none⟩) NB292_293.out _).trans (hHeld.2.2.1)))))))))), ((cell_far (p := ⟨gb293, _, none⟩) NB292_293.out _).trans (((cell_far (p := ⟨gb293, _, none⟩) NB292_293.out _).trans (((cell_far (p := ⟨gb293, _, none⟩) NB292_293.out _).trans (((cell_far (p := ⟨gb293, _, none⟩) NB292_293.out _).trans (((cell_far (p := ⟨gb293, _, none⟩) NB292_293.out _).trans (hHeld.2.2.2.1)))))))))), ((cell_far (p := ⟨gb293, _, none⟩) NB292_293.out _).trans (((cell_far (p := ⟨gb293, _, none⟩) NB292_293.out _).trans (((cell_far (p := ⟨gb293, _, none⟩) NB292_293.out _).trans (((cell_far (p := ⟨gb293, _, none⟩) NB292_293.out _).trans (((cell_far (p := ⟨gb293, _, none⟩) NB292_293.out _).trans (hHeld.2.2.2.2))))))))))⟩ (fun hHeld => ?_)
 clear hK K
 refine done_ (done_of HT_.out (by kernel_rfl)) ?_
 try go_wp2
 refine bodyPost_ret (results_cell_row rfl _ _ gb293 30 #[.int .i64 a0_0, .int .i64 a0_1, .slice Ao13 t294.length co13, .slice Ao12 t297.length co12, .slice Ao11 t300.length co11] (0, 0) _ rfl (by (with_reducible repeat (first | refine blk_drewN ?_ _ | refine blk_drew ?_ | refine blk_alloc ?_ _)); refine blk_put (cs := #[.int .i64 a0_0, .int .i64 a0_1, .slice Ao13 t294.length co13, .slice Ao12 t297.length co12, .slice none 0 0]) ?_ 4 _ rfl; (with_reducible repeat (first | refine blk_drewN ?_ _ | refine blk_drew ?_ | refine blk_alloc ?_ _)); refine blk_put (cs := #[.int .i64 a0_0, .int .i64 a0_1, .slice Ao13 t294.length co13, .slice none 0 0, .slice none 0 0]) ?_ 3 _ rfl; (with_reducible repeat (first | refine blk_drewN ?_ _ | refine blk_drew ?_ | refine blk_alloc ?_ _)); refine blk_put (cs := #[.int .i64 a0_0, .int .i64 a0_1, .slice none 0 0, .slice none 0 0, .slice none 0 0]) ?_ 2 _ rfl; (with_reducible repeat (first | refine blk_drewN ?_ _ | refine blk_drew ?_ | refine blk_alloc ?_ _)); refine blk_put (cs := #[.int .i64 a0_0, .int .i64 0, .slice none 0 0, .slice none 0 0, .slice none 0 0]) ?_ 1 _ rfl; (with_reducible repeat (first | refine blk_drewN ?_ _ | refine blk_drew ?_ | refine blk_alloc ?_ _)); refine blk_put (cs := #[.int .i64 0, .int .i64 0, .slice none 0 0, .slice none 0 0, .slice none 0 0]) ?_ 0 _ rfl; (with_reducible repeat (first | refine blk_drewN ?_ _ | refine blk_drew ?_ | refine blk_alloc ?_ _)); exact BK293.out) Try.underlying30 rfl (by kernel_rfl)) rfl ?_
 exact ⟨_, _, _, er, by (with_reducible repeat (first | apply Kd.R_alloc | apply Kd.R_drewN | apply Kd.R_drew)); exact Kd.R_mono (Kd.R_far (p := ⟨gb293, 4, none⟩) (Kd.R_far (p := ⟨gb293, 3, none⟩) (Kd.R_far (p := ⟨gb293, 2, none⟩) (Kd.R_far (p := ⟨gb293, 1, none⟩) (Kd.R_far (p := ⟨gb293, 0, none⟩) (Kd.R_types HO296.out BK293.out (by decide)) (fun _ hk => hk.2) (.int .i64 a0_0)) (fun _ hk => hk.2) (.int .i64 a0_1)) (fun _ hk => hk.2) (.slice Ao13 t294.length co13)) (fun _ hk => hk.2) (.slice Ao12 t297.length co12)) (fun _ hk => hk.2) (.slice Ao11 t300.length co11)) (fun _ hk => hk.1.2), by (with_reducible repeat (first | apply Kd.R_alloc | apply Kd.R_drewN | apply Kd.R_drew)); exact Kd.R_mono (Kd.R_far (p := ⟨gb293, 4, none⟩) (Kd.R_far (p := ⟨gb293, 3, none⟩) (Kd.R_far (p := ⟨gb293, 2, none⟩) (Kd.R_far (p := ⟨gb293, 1, none⟩) (Kd.R_far (p := ⟨gb293, 0, none⟩) (Kd.R_types HO299.out BK293.out (by decide)) (fun _ hk => hk.2) (.int .i64 a0_0)) (fun _ hk => hk.2) (.int .i64 a0_1)) (fun _ hk => hk.2) (.slice Ao13 t294.length co13)) (fun _ hk => hk.2) (.slice Ao12 t297.length co12)) (fun _ hk => hk.2) (.slice Ao11 t300.length co11)) (fun _ hk => hk.1.2), by (with_reducible repeat (first | apply Kd.R_alloc | apply Kd.R_drewN | apply Kd.R_drew)); exact Kd.R_mono (Kd.R_far (p := ⟨gb293, 4, none⟩) (Kd.R_far (p := ⟨gb293, 3, none⟩) (Kd.R_far (p := ⟨gb293, 2, none⟩) (Kd.R_far (p := ⟨gb293, 1, none⟩) (Kd.R_far (p := ⟨gb293, 0, none⟩) (Kd.R_types HO302.out BK293.out (by decide)) (fun _ hk => hk.2) (.int .i64 a0_0)) (fun _ hk => hk.2) (.int .i64 a0_1)) (fun _ hk => hk.2) (.slice Ao13 t294.length co13)) (fun _ hk => hk.2) (.slice Ao12 t297.length co12)) (fun _ hk => hk.2) (.slice Ao11 t300.length co11)) (fun _ hk => trivial), be2 HB GE292 GE293⟩

/-! ### impl_Item: function 89 -/
def impl_Item.f (l0 : List S68) (a1 : ByteArray) : Option (List S68) := if 0 < l0.length then some (l0.filter fun x => !decide (x.f0 = a1)) else some l0
def encI (x : S68) : List Value := [.string x.f0, .string x.f1, .int .i64 x.f2]
theorem innerI {R : S68 → List Value → Prop} (hR : ∀ x c, R x c → c = encI x) : ∀ (l : List S68) (inner : List Value), Reps R 3 l inner → inner = l.flatMap encI
 | [], inner, h => List.length_eq_zero_iff.1 (by rw [h.1]; rfl)
 | x :: l, inner, h => by
  have h0 := hR _ _ (h.2 0 x rfl)
  have hl := h.1
  rw [List.length_cons] at hl
  have ih := innerI hR l (inner.drop 3) ⟨by rw [List.length_drop]; omega, fun j p hj => by
   have := h.2 (j + 1) p (by simpa using hj)
   rw [List.drop_drop, show 3 + j * 3 = (j + 1) * 3 by omega]
   exact this⟩
  rw [Nat.zero_mul, List.drop_zero] at h0
  rw [List.flatMap_cons, ← ih, ← h0, List.take_append_drop]
theorem dropI : ∀ (l : List S68) (j : Nat) (p : S68), l[j]? = some p → ((l.flatMap encI).drop (j * 3)).take 3 = encI p
 | [], j, p, h => by simp at h
 | x :: l, 0, p, h => by
  simp only [List.getElem?_cons_zero, Option.some.injEq] at h
  subst h
  rw [List.flatMap_cons, Nat.zero_mul, List.drop_zero]
  exact List.take_left' rfl
 | x :: l, j + 1, p, h => by
  rw [List.flatMap_cons, Nat.succ_mul]
  exact dropI l j p (by simpa using h)
theorem lenI : ∀ l : List S68, (l.flatMap encI).length = l.length * 3
 | [] => rfl
 | x :: l => by rw [List.flatMap_cons, List.length_append, lenI l, List.length_cons]; show 3 + l.length * 3 = _; omega
theorem setI : ∀ (l : List S68) (k : Nat) (x : S68), k < l.length → (l.set k x).flatMap encI = (l.flatMap encI).take (k * 3) ++ encI x ++ (l.flatMap encI).drop ((k + 1) * 3)
 | [], k, x, h => absurd h (Nat.not_lt_zero _)
 | y :: l, 0, x, h => by rw [Nat.zero_mul, List.take_zero, List.nil_append]; rfl
 | y :: l, k + 1, x, h => by
  rw [List.set_cons_succ, List.flatMap_cons, List.flatMap_cons, setI l k x (by simpa using h), Nat.succ_mul (k + 1) 3, Nat.succ_mul k 3]
  rfl
theorem takeI : ∀ (l : List S68) (k : Nat), (l.take k).flatMap encI = (l.flatMap encI).take (k * 3)
 | [], k => by simp
 | x :: l, 0 => by simp
 | x :: l, k + 1 => by
  rw [List.take_succ_cons, List.flatMap_cons, List.flatMap_cons, takeI l k, Nat.succ_mul k 3]
  rfl
theorem openedI {w : World} {base : Nat} {ok : Nat → Prop} {v : Value} {l : List S68} (h : Kd.R k68 68 w base ok v l) (hn : 0 < l.length) :
  ∃ g cap cur, v = .slice (some ⟨g, 0, none⟩) l.length cap ∧ base ≤ g ∧ w.heap[g]? = some (.cells cur 68 (0, 0)) ∧ l.length ≤ cap ∧ cap ≤ maxLen ∧ cur.size = cap * 3 ∧ cur.toList.take (l.length * 3) = l.flatMap encI ∧ ok g := by
 obtain ⟨h0, inner, ⟨hl, ho⟩, hr⟩ := h
 have hi := innerI (fun x c hx => k68_openM hx) l inner hr
 rcases ho with ⟨_, h2⟩ | ⟨g, cap, cur, rfl, hg, hh, hc1, hc2, hs, ht⟩
 ·omega
 ·exact ⟨g, cap, cur, rfl, hg, hh, hc1, hc2, hs, by rw [← hi, ← ht]; rfl, h0 g (by simp [Value.ownBlock])⟩
theorem madeI {w : World} {base : Nat} {ok : Nat → Prop} {l : List S68} {g cap : Nat} {cur : Array Value} (hok : ok g) (hb : base ≤ g) (hh : w.heap[g]? = some (.cells cur 68 (0, 0))) (hc1 : l.length ≤ cap) (hc2 : cap ≤ maxLen) (hs : cur.size = cap * 3) (ht : cur.toList.take (l.length * 3) = l.flatMap encI) :
  Kd.R k68 68 w base ok (.slice (some ⟨g, 0, none⟩) l.length cap) l := by
 refine ⟨fun k hk => ?_, l.flatMap encI, ⟨lenI l, .inr ⟨g, cap, cur, rfl, hb, hh, hc1, hc2, hs, ht⟩⟩, lenI l, fun j p hj => ?_⟩
 ·have : g = k := by simpa [Value.ownBlock] using hk
  exact this ▸ hok
 have e := dropI l j p hj
 show k68.M _ _ _ p (((l.flatMap encI).drop (j * 3)).take 3)
 rw [e]
 exact k68_mkM _ _ _ p
/-- The row's cells, as its list tells them. -/
structure RowI (W : World) (g cap : Nat) (l : List S68) : Prop where
 ex : ∃ cur : Array Value, W.heap[g]? = some (.cells cur 68 (0, 0)) ∧ cur.size = cap * 3 ∧ l.length ≤ cap ∧ cur.toList.take (l.length * 3) = l.flatMap encI
theorem RowI.move {W W' : World} {g cap : Nat} {l : List S68} (h : RowI W g cap l) (e : W'.heap[g]? = W.heap[g]?) : RowI W' g cap l := by
 obtain ⟨cur, h1, h2⟩ := h.ex
 exact ⟨cur, e.trans h1, h2⟩
theorem RowI.cell {W : World} {g cap : Nat} {l : List S68} (h : RowI W g cap l) (j t : Nat) (hj : j < l.length) (ht : t < 3) : W.cell? ⟨g, j * 3 + t, none⟩ = (encI l[j])[t]? := by
 obtain ⟨cur, h1, h2, h3, h4⟩ := h.ex
 rw [blk_cell h1, ← Array.getElem?_toList, ← List.getElem?_take_of_lt (show j * 3 + t < l.length * 3 by omega), h4]
 have := dropI l j l[j] (List.getElem?_eq_getElem hj)
 rw [← this, List.getElem?_take_of_lt ht, List.getElem?_drop]
theorem RowI.cells {W : World} {g cap : Nat} {l : List S68} (h : RowI W g cap l) (j : Nat) (hj : j < l.length) : W.cell? ⟨g, j * 3, none⟩ = some (.string l[j].f0) ∧ W.cell? ⟨g, j * 3 + 1, none⟩ = some (.string l[j].f1) ∧ W.cell? ⟨g, j * 3 + 2, none⟩ = some (.int .i64 l[j].f2) := ⟨h.cell j 0 hj (by decide), h.cell j 1 hj (by decide), h.cell j 2 hj (by decide)⟩
theorem RowI.frozen {W : World} {g cap : Nat} {l : List S68} (h : RowI W g cap l) (k : Nat) : W.frozen? ⟨g, k, none⟩ = false := by
 obtain ⟨cur, h1, _⟩ := h.ex
 exact blk_frozen h1 k
theorem RowI.put {W : World} {g cap : Nat} {l : List S68} (h : RowI W g cap l) (i : Nat) (hi : i < l.length) (x : S68) : RowI (((W.setCell ⟨g, i * 3, none⟩ (.string x.f0)).setCell ⟨g, i * 3 + 1, none⟩ (.string x.f1)).setCell ⟨g, i * 3 + 2, none⟩ (.int .i64 x.f2)) g cap (l.set i x) := by
 obtain ⟨cur, h1, h2, h3, h4⟩ := h.ex
 obtain ⟨cur', e1, e2, e3⟩ := Ow.heap_setCells g 68 (encI x) (i * 3) W cur h1 (by show i * 3 + 3 ≤ _; omega)
 refine ⟨cur', e1, by omega, by rw [List.length_set]; exact h3, ?_⟩
 have hL : cur.toList.length = cap * 3 := by rw [Array.length_toList]; exact h2
 have hx : (encI x).length = 3 := rfl
 have hc : (cur.toList.take (i * 3)).length = i * 3 := by rw [List.length_take]; omega
 have t1 : (cur.toList.take (i * 3)).take (l.length * 3) = cur.toList.take (i * 3) := List.take_of_length_le (by omega)
 have t2 : (encI x).take (l.length * 3 - i * 3) = encI x := List.take_of_length_le (by omega)
 have t3 : (cur.toList.drop (i * 3 + 3)).take (l.length * 3 - i * 3 - 3) = (cur.toList.take (l.length * 3)).drop ((i + 1) * 3) := by
  rw [List.drop_take, show (i + 1) * 3 = i * 3 + 3 by omega, Nat.sub_sub]
 rw [List.length_set, e3, hx, setI l i x hi, ← h4, List.take_take, Nat.min_eq_left (by omega), List.append_assoc, List.append_assoc, List.take_append, hc, t1, List.take_append, hx, t2, t3]
theorem RowI.some {W : World} {g cap : Nat} {l : List S68} (h : RowI W g cap l) (k : Nat) (hk : k < cap * 3) : (W.cell? ⟨g, k, none⟩).isSome = true := by
 obtain ⟨cur, h1, h2, _⟩ := h.ex
 rw [blk_cell h1, Array.getElem?_eq_getElem (by omega)]; rfl
theorem RowI.cut {W : World} {g cap : Nat} {l : List S68} (h : RowI W g cap l) (i : Nat) (hi : i ≤ l.length) (vs : List Value) (hv : i * 3 + vs.length ≤ cap * 3) : RowI (W.setCells g (i * 3) vs) g cap (l.take i) := by
 obtain ⟨cur, h1, h2, h3, h4⟩ := h.ex
 obtain ⟨cur', e1, e2, e3⟩ := Ow.heap_setCells g 68 vs (i * 3) W cur h1 (by omega)
 have hl : (l.take i).length = i := by rw [List.length_take]; omega
 refine ⟨cur', e1, by omega, by omega, ?_⟩
 have hc : (cur.toList.take (i * 3)).length = i * 3 := by rw [List.length_take, Array.length_toList]; omega
 rw [hl, e3, List.append_assoc, List.take_left' hc, takeI, ← h4, List.take_take, Nat.min_eq_left (by omega)]
theorem del_is (x : S68) (key : ByteArray) (B : Nat) (W : World) (b : Bool) (hB : B < W.heap.size) (hcell : W.cell? ⟨B, 0, none⟩ = some (.string key)) (hb : (x.f0.toList == key.toList) = b) :
  Calls Try.prog 88 #[.agg #[.string x.f0, .string x.f1, .int .i64 x.f2], .pointer (some ⟨B, 0, none⟩)] W fun e w' => e = .returned (.bool b) ∧ Below W.heap.size W w' := by
 have hne : B ≠ W.heap.size := by omega
 go_enter Try.func88, Try.ntmps88
 go_wp2
 all_goals (go_ret; exact ⟨by simp_all, (Below.refl _ _).alloc (Nat.le_refl _) _⟩)
set_option maxHeartbeats 4000000 in
set_option maxRecDepth 1000000 in
theorem del_idx (n cap : Nat) (l0 : List S68) (a1 : ByteArray) (g B : Nat) (w : World) (hl : l0.length = n) (hm : n ≤ 9223372036854775807) (hB : B < w.heap.size) (hg : g < w.heap.size) (hcell : w.cell? ⟨B, 0, none⟩ = some (.string a1)) (hr : RowI w g cap l0) :
  Calls Try.prog 116 #[.slice (some ⟨g, 0, none⟩) n cap, .func (.func 88) #[] #[.pointer (some ⟨B, 0, none⟩)]] w fun e w' => Below w.heap.size w w' ∧ ((e = .returned (.int .i64 (-1)) ∧ ∀ j (h : j < l0.length), l0[j].f0 ≠ a1) ∨ ∃ k : Nat, ∃ h : k < l0.length, e = .returned (.int .i64 k) ∧ l0[k].f0 = a1 ∧ ∀ j (h' : j < k), l0[j].f0 ≠ a1) := by
 have HR0 := Aside0.mk hr
 have HCL := Aside0.mk hcell
 have HBB := Aside0.mk hB
 have HGG := Aside0.mk hg
 have HL := Aside0.mk hl
 clear hr hcell hB hg
 have HB := Aside0.mk (Below.refl w.heap.size w)
 go_enter Try.func116, Try.ntmps116
 go_wp2
 go_loopg [5, 8] n (fun gg _ v8 wr => ∃ (j : Nat), v8 = .int .i64 j ∧ Aside0 (j ≤ n ∧ n - j ≤ gg) ∧ Aside0 (∀ i (h : i < l0.length), i < j → l0[i].f0 ≠ a1) ∧ Aside0 (Below w.heap.size w wr))
 case atStart => exact ⟨0, rfl, ⟨by omega, by omega⟩, ⟨fun i _ h => absurd h (Nat.not_lt_zero _)⟩, HB⟩
 case round =>
  clear HB
  obtain ⟨j, rfl, HJ, HA, HB⟩ := hrel
  by_cases c3 : j < n
  ·have c3b0 : (j : Int) < (n : Int) := by omega
   have hj : j < l0.length := by have := HL.out; omega
   obtain ⟨hx0, hx1, hx2⟩ := (HR0.out.move (HB.out.block g HGG.out)).cells j hj
   have hBr : B < wr.heap.size := Nat.lt_of_lt_of_le HBB.out HB.out.size
   have hcl : wr.cell? ⟨B, 0, none⟩ = some (.string a1) := (HB.out.cell (p := ⟨B, 0, none⟩) HBB.out).trans HCL.out
   by_cases c6 : l0[j].f0 = a1
   ·have hcall := del_is l0[j] a1 B wr true hBr hcl (by rw [c6]; exact beq_self_eq_true _)
    have C6 := Aside0.mk c6
    clear c6 hBr hcl
    go_wp2_with (go_at_call 88; refine hcall.mono ?_; rintro e w' ⟨rfl, hb'⟩)
    go_ret
    exact ⟨HB.out.trans (hb'.mono HB.out.size), .inr ⟨j, hj, rfl, C6.out, fun i h' => HA.out i (by omega) h'⟩⟩
   have hcall := del_is l0[j] a1 B wr false hBr hcl (beq_eq_false_iff_ne.mpr fun h => c6 (Go.Proofs.Ytfjhkediaholmaa.Lm.toList_inj.1 h))
   have C6 := Aside0.mk c6
   clear c6 hBr hcl
   go_wp2_with (go_at_call 88; refine hcall.mono ?_; rintro e w' ⟨rfl, hb'⟩)
   go_roundg (n - (j + 1))
   case measure => have := HJ.out; omega
   case rel => exact ⟨j + 1, by go_num, ⟨by omega, Nat.le_refl _⟩, ⟨fun i h h' => by rcases Nat.lt_or_eq_of_le (Nat.le_of_lt_succ h') with h' | rfl; exact HA.out i h h'; exact C6.out⟩, ⟨HB.out.trans (hb'.mono HB.out.size)⟩⟩
  have e : j = n := by have := HJ.out; omega
  subst e
  have c3b0 : ¬ ((j : Int) < (j : Int)) := by omega
  go_wp2
  go_ret
  exact ⟨HB.out, .inl ⟨rfl, fun i h => HA.out i (by have := HL.out; omega) (by have := HL.out; omega)⟩⟩
theorem zerosI (m : Nat) : ∀ u ∈ (Builtin.zeroCells #[.string ⟨#[]⟩, .string ⟨#[]⟩, .int .i64 0] m).toList, u.oneCell' = true := by
 intro u hu
 simp only [Builtin.zeroCells, Array.toList_map, List.mem_map] at hu
 obtain ⟨i, _, rfl⟩ := hu
 have h : i % 3 = 0 ∨ i % 3 = 1 ∨ i % 3 = 2 := by omega
 show (#[Value.string ⟨#[]⟩, Value.string ⟨#[]⟩, Value.int .i64 0][i % 3]!).oneCell' = true
 rcases h with h | h | h <;> rw [h] <;> rfl
theorem clearI (w : World) (b o m c : Nat) (hm : 0 < m) (hc : ∀ j, j < m * 3 → (w.cell? ⟨b, o + j, none⟩).isSome = true) (hf : ∀ j, j < m * 3 → w.frozen? ⟨b, o + j, none⟩ = false) (ty : TypeId) :
  (Builtin.clear_ #[28] ty #[.slice (some ⟨b, o, none⟩) m c]).run Try.prog w = .ok (.tuple #[]) (w.setCells b o (Builtin.zeroCells #[.string ⟨#[]⟩, .string ⟨#[]⟩, .int .i64 0] m).toList) := by
 have hl : (Builtin.zeroCells #[Value.string ⟨#[]⟩, .string ⟨#[]⟩, .int .i64 0] m).toList.length = m * 3 := by simp [Builtin.zeroCells]
 have hst := run_storeCells_cells (P := Try.prog) b o (Builtin.zeroCells #[.string ⟨#[]⟩, .string ⟨#[]⟩, .int .i64 0] m).toList 0 w (by rw [hl]; simpa using hc) (by rw [hl]; simpa using hf) (zerosI m)
 simp only [Nat.add_zero] at hst
 have hv := Try.zeroValue68
 obtain ⟨m', rfl⟩ : ∃ m', m = m' + 1 := ⟨m - 1, by omega⟩
 have hz : (Value.agg #[Value.string ⟨#[]⟩, .string ⟨#[]⟩, .int .i64 0]).cells = #[Value.string ⟨#[]⟩, .string ⟨#[]⟩, .int .i64 0] := rfl
 simp [Builtin.clear_, run_underlying Try.underlying28, hv, hz, hst]
def keepI (key : ByteArray) (x : S68) : Bool := !decide (x.f0 = key)
structure DelInv (key : ByteArray) (l0 : List S68) (i j : Nat) (dk : List S68) : Prop where
 lt : i < j
 le : j ≤ l0.length
 len : dk.length = l0.length
 low : dk.take i = (l0.take j).filter (keepI key)
 high : dk.drop j = l0.drop j
theorem DelInv.start {key : ByteArray} {l0 : List S68} {k : Nat} (hk : k < l0.length) (h : l0[k].f0 = key) (hb : ∀ j (h : j < k), l0[j].f0 ≠ key) : DelInv key l0 k (k + 1) l0 := by
 refine ⟨Nat.lt_succ_self k, hk, rfl, ?_, rfl⟩
 rw [List.take_add_one, List.getElem?_eq_getElem hk, List.filter_append]
 have h1 : (l0.take k).filter (keepI key) = l0.take k := List.filter_eq_self.2 fun x hx => by
  obtain ⟨j, hj, rfl⟩ := List.getElem_of_mem hx
  rw [List.length_take] at hj
  rw [List.getElem_take]
  unfold keepI
  rw [decide_eq_false (hb j (by omega))]; rfl
 rw [h1, Option.toList_some, List.filter_cons_of_neg (by unfold keepI; rw [decide_eq_true h]; simp), List.filter_nil, List.append_nil]
theorem DelInv.at_ {key : ByteArray} {l0 : List S68} {i j : Nat} {dk : List S68} (h : DelInv key l0 i j dk) (hj : j < l0.length) : dk[j]'(by rw [h.len]; exact hj) = l0[j] := by
 have hd : j < dk.length := by rw [h.len]; exact hj
 have := h.high
 rw [List.drop_eq_getElem_cons hd, List.drop_eq_getElem_cons hj] at this
 injection this
theorem DelInv.drop_ {key : ByteArray} {l0 : List S68} {i j : Nat} {dk : List S68} (h : DelInv key l0 i j dk) (hj : j < l0.length) (e : l0[j].f0 = key) : DelInv key l0 i (j + 1) dk := by
 refine ⟨Nat.lt_succ_of_lt h.lt, hj, h.len, ?_, ?_⟩
 ·rw [List.take_add_one, List.getElem?_eq_getElem hj, List.filter_append, ← h.low, Option.toList_some, List.filter_cons_of_neg (by unfold keepI; rw [decide_eq_true e]; simp), List.filter_nil, List.append_nil]
 ·rw [← List.drop_drop, ← List.drop_drop, h.high]
theorem DelInv.keep {key : ByteArray} {l0 : List S68} {i j : Nat} {dk : List S68} (h : DelInv key l0 i j dk) (hj : j < l0.length) (e : l0[j].f0 ≠ key) : DelInv key l0 (i + 1) (j + 1) (dk.set i l0[j]) := by
 have hi : i < dk.length := by have := h.lt; have := h.len; omega
 refine ⟨Nat.succ_lt_succ h.lt, hj, by rw [List.length_set]; exact h.len, ?_, ?_⟩
 ·rw [List.take_add_one, List.getElem?_set_self hi, List.take_set_of_le (Nat.le_refl i), h.low, List.take_add_one, List.getElem?_eq_getElem hj, List.filter_append, Option.toList_some, List.filter_cons_of_pos (by unfold keepI; rw [decide_eq_false e]; rfl), List.filter_nil]
 ·rw [List.drop_set_of_lt (by have := h.lt; omega), ← List.drop_drop, ← List.drop_drop, h.high]
set_option maxHeartbeats 4000000 in
set_option maxRecDepth 1000000 in
theorem del_walk (key : ByteArray) (gP g n cap : Nat) (l0 : List S68) (S : Nat → Prop) (w0 w : World) (hl : l0.length = n) (hn : 0 < n) (hcap : n ≤ cap) (hm : cap ≤ 9223372036854775807) (hP : w.heap[gP]? = some (.cells #[.string key] 9 (0, 0))) (hr : RowI w g cap l0) (hB : Below w0.heap.size w0 w) (hg : w0.heap.size ≤ g) (hS : S g) :
  Calls Try.prog 89 #[.slice (some ⟨g, 0, none⟩) n cap, .func (.func 88) #[] #[.pointer (some ⟨gP, 0, none⟩)]] w fun e w' => e = .returned (.slice (some ⟨g, 0, none⟩) (l0.filter (keepI key)).length cap) ∧ RowI w' g cap (l0.filter (keepI key)) ∧ Below w0.heap.size w0 w' ∧ Kept w w' S := by
 have hgl : g < w.heap.size := by obtain ⟨cur, h1, _⟩ := hr.ex; exact blk_lt h1
 have NPg := Aside0.mk (show gP ≠ g from fun e => by obtain ⟨cur, h1, _⟩ := hr.ex; rw [← e, hP] at h1; cases h1)
 have hIF := del_idx n cap l0 key g gP w hl (by omega) (blk_lt hP) hgl ((blk_cell hP 0).trans rfl) hr
 have HL := Aside0.mk hl
 have HR := Aside0.mk hr
 have BKP := Aside0.mk hP
 have HB := Aside0.mk hB
 have HK := Aside0.mk (Kept.refl w S)
 have HG := Aside0.mk hg
 have HS := Aside0.mk hS
 have HGL := Aside0.mk hgl
 have HW0 := Aside0.mk hB.size
 clear hr hP hB hg hS hgl
 by_cases hall : ∀ j (h : j < l0.length), l0[j].f0 ≠ key
 ·have hIF2 : Calls Try.prog 116 #[.slice (some ⟨g, 0, none⟩) n cap, .func (.func 88) #[] #[.pointer (some ⟨gP, 0, none⟩)]] w fun e w' => e = .returned (.int .i64 (-1)) ∧ Below w.heap.size w w' := hIF.mono fun e w' h => by
   rcases h with ⟨hb, ⟨he, _⟩ | ⟨k, hk, _, h2, _⟩⟩
   ·exact ⟨he, hb⟩
   ·exact absurd h2 (hall k hk)
  have hF : l0.filter (keepI key) = l0 := List.filter_eq_self.2 fun x hx => by
   obtain ⟨j, hj, rfl⟩ := List.getElem_of_mem hx
   unfold keepI
   rw [decide_eq_false (hall j hj)]; rfl
  clear hIF hall
  go_enter Try.func89, Try.ntmps89
  go_wp2_with (go_at_call 116; refine hIF2.mono ?_; rintro e w1 ⟨rfl, hb⟩; replace HR := Aside0.mk (HR.out.move (hb.block g HGL.out)); replace HB := Aside0.mk (below_step HB.out hb); replace HK := Aside0.mk (Kept.below (S := S) HK.out hb); clear hb)
  go_ret
  rw [hF, HL.out]
  exact ⟨rfl, HR.out, HB.out, HK.out⟩
 have hex : ∃ k, ∃ h : k < l0.length, l0[k].f0 = key ∧ ∀ j (h' : j < k), l0[j].f0 ≠ key := by
  have h1 : ∃ x ∈ l0, decide (x.f0 = key) = true := by
   apply Classical.byContradiction
   intro hno
   exact hall fun j hj e => hno ⟨l0[j], List.getElem_mem hj, decide_eq_true e⟩
  have hk := List.findIdx_lt_length_of_exists h1
  refine ⟨l0.findIdx fun x => decide (x.f0 = key), hk, of_decide_eq_true (List.findIdx_getElem (p := fun x : S68 => decide (x.f0 = key)) (w := hk)), fun j h' e => ?_⟩
  exact absurd (decide_eq_true e) (by have := List.not_of_lt_findIdx h'; simpa using this)
 obtain ⟨k, hk, he, ha⟩ := hex
 have hIF2 : Calls Try.prog 116 #[.slice (some ⟨g, 0, none⟩) n cap, .func (.func 88) #[] #[.pointer (some ⟨gP, 0, none⟩)]] w fun e w' => e = .returned (.int .i64 k) ∧ Below w.heap.size w w' := hIF.mono fun e w' h => by
  rcases h with ⟨hb, ⟨_, h2⟩ | ⟨k', hk', h1, h2, h3⟩⟩
  ·exact absurd he (h2 k hk)
  ·have : k' = k := by
    rcases Nat.lt_trichotomy k' k with q | q | q
    ·exact absurd h2 (ha k' q)
    ·exact q
    ·exact absurd he (h3 k q)
   subst this
   exact ⟨h1, hb⟩
 have HI0 := Aside0.mk (DelInv.start hk he ha)
 have hkn : k < n := by have := HL.out; omega
 have c1 : ((k : Int) == -1) = false := beq_eq_false_iff_ne.2 (by omega)
 clear hIF hall he ha hk
 go_enter Try.func89, Try.ntmps89
 go_wp2_with (go_at_call 116; refine hIF2.mono ?_; rintro e w1 ⟨rfl, hb⟩; replace HR := Aside0.mk (HR.out.move (hb.block g HGL.out)); replace BKP := bb BKP hb; replace HB := Aside0.mk (below_step HB.out hb); replace HK := Aside0.mk (Kept.below (S := S) HK.out hb); clear hb)
 go_loopg [5, 6, 7] n (fun gg v5 v6 _ wr => ∃ (i j : Nat) (dk : List S68), v5 = .int .i64 i ∧ v6 = .int .i64 j ∧ Aside0 (n - j ≤ gg) ∧ Aside0 (DelInv key l0 i j dk) ∧ Aside0 (RowI wr g cap dk) ∧ Aside0 (wr.heap[gP]? = some (.cells #[.string key] 9 (0, 0))) ∧ Aside0 (Below w0.heap.size w0 wr) ∧ Aside0 (Kept w wr S))
 case atStart => exact ⟨k, k + 1, l0, rfl, by go_num, ⟨by omega⟩, HI0, HR, BKP, HB, HK⟩
 case round =>
  clear HI0 HR BKP HB HK hIF2
  obtain ⟨i, j, dk, rfl, rfl, HGG, HI, HR, BKP, HB, HK⟩ := hrel
  have hlen : dk.length = n := HI.out.len.trans HL.out
  have hij := HI.out.lt
  obtain ⟨cur, hh, hRS⟩ := HR.out.ex
  have RS := Aside0.mk hRS
  have BKg := Aside0.mk hh
  clear hRS hh
  have hid : i < dk.length := by have := HI.out.le; have := HL.out; omega
  by_cases hlt : j < n
  ·have c2 : (j : Int) < (n : Int) := by omega
   have hjl : j < l0.length := by have := HL.out; omega
   obtain ⟨hx0, hx1, hx2⟩ := HR.out.cells j (by omega)
   have hat := HI.out.at_ hjl
   rw [hat] at hx0 hx1 hx2
   have c3 : (i : Int) < (n : Int) := by omega
   by_cases hkey : l0[j].f0 = key
   ·have hbool : (l0[j].f0.toList == key.toList) = true := by rw [hkey]; exact beq_self_eq_true _
    have HKY := Aside0.mk hkey
    clear hkey hat
    go_wp2_with (first | ((with_reducible refine gate_dst (N := 7) rfl ?_); refine bx 7 #[.string (⟨#[]⟩ : ByteArray), .string (⟨#[]⟩ : ByteArray), .int .i64 0] 68 ?_; intro gv hg w2 hbox hb; have BKv := am hbox; have GWv := Aside0.mk ((by rw [hg]; exact HK.out.1) : w.heap.size ≤ gv); have GEv := Aside0.mk ((by rw [hg]; exact HB.out.size) : w0.heap.size ≤ gv); have NBPv := Aside0.mk ((by rw [hg]; exact Nat.ne_of_lt (blk_lt BKP.out)) : gP ≠ gv); have NBgv := Aside0.mk ((by rw [hg]; exact Nat.ne_of_lt (blk_lt BKg.out)) : g ≠ gv); replace BKP := bb BKP hb; replace BKg := bb BKg hb; replace HB := Aside0.mk (below_step HB.out hb); replace HK := Aside0.mk (Kept.below (S := S) HK.out hb); clear hb hbox hg; have hn1 := NBgv.out; have hn2 : gv ≠ g := fun e_ => hn1 e_.symm; have hcz := bz3 BKv) | (go_at_call 88; have BKPx : (((w2.setCell ⟨gv, 0, none⟩ (.string l0[j].f0)).setCell ⟨gv, 1, none⟩ (.string l0[j].f1)).setCell ⟨gv, 2, none⟩ (.int .i64 l0[j].f2)).heap[gP]? = some (.cells #[.string key] 9 (0, 0)) := bf1 BKP NBPv; refine (del_is l0[j] key gP _ true (blk_lt BKPx) ((blk_cell BKPx 0).trans rfl) hbool).mono ?_; clear BKPx; rintro e w3 ⟨rfl, hb⟩; replace BKg := Aside0.mk (blk_below (g := g) (o := .cells cur 68 (0, 0)) (bf1 BKg NBgv) hb); replace BKP := Aside0.mk (blk_below (g := gP) (o := .cells #[.string key] 9 (0, 0)) (bf1 BKP NBPv) hb); replace BKv := Aside0.mk (blk_below (g := gv) (o := .cells #[.string l0[j].f0, .string l0[j].f1, .int .i64 l0[j].f2] 68 (0, 0)) (by (with_reducible repeat (first | refine blk_drewN ?_ _ | refine blk_drew ?_ | refine blk_alloc ?_ _)); refine blk_put (cs := #[.string l0[j].f0, .string l0[j].f1, .int .i64 0]) ?_ 2 _ rfl; (with_reducible repeat (first | refine blk_drewN ?_ _ | refine blk_drew ?_ | refine blk_alloc ?_ _)); refine blk_put (cs := #[.string l0[j].f0, .string (⟨#[]⟩ : ByteArray), .int .i64 0]) ?_ 1 _ rfl; (with_reducible repeat (first | refine blk_drewN ?_ _ | refine blk_drew ?_ | refine blk_alloc ?_ _)); refine blk_put (cs := #[.string (⟨#[]⟩ : ByteArray), .string (⟨#[]⟩ : ByteArray), .int .i64 0]) ?_ 0 _ rfl; (with_reducible repeat (first | refine blk_drewN ?_ _ | refine blk_drew ?_ | refine blk_alloc ?_ _)); exact BKv.out) hb); replace HB := Aside0.mk (below_step (be1 HB GEv) hb); replace HK := Aside0.mk (Kept.below (S := S) (by repeat (first | (with_reducible first | exact HK.out | apply Kept.alloc | apply Kept.drewN | apply Kept.drew | refine Kept.setCell ?_ (.inr GWv.out) _) | exact HK.out)) hb); clear hb))
    go_roundg (n - (j + 1))
    case measure => have := HGG.out; omega
    case rel => exact ⟨i, j + 1, dk, by go_num, by go_num, ⟨Nat.le_refl _⟩, ⟨HI.out.drop_ hjl HKY.out⟩, ⟨⟨cur, BKg.out, RS.out⟩⟩, BKP, HB, HK⟩
   have hbool : (l0[j].f0.toList == key.toList) = false := beq_eq_false_iff_ne.mpr fun h => hkey (Go.Proofs.Ytfjhkediaholmaa.Lm.toList_inj.1 h)
   have HKY := Aside0.mk hkey
   clear hkey hat
   go_wp2_with (first | ((with_reducible refine gate_dst (N := 7) rfl ?_); refine bx 7 #[.string (⟨#[]⟩ : ByteArray), .string (⟨#[]⟩ : ByteArray), .int .i64 0] 68 ?_; intro gv hg w2 hbox hb; have BKv := am hbox; have GWv := Aside0.mk ((by rw [hg]; exact HK.out.1) : w.heap.size ≤ gv); have GEv := Aside0.mk ((by rw [hg]; exact HB.out.size) : w0.heap.size ≤ gv); have NBPv := Aside0.mk ((by rw [hg]; exact Nat.ne_of_lt (blk_lt BKP.out)) : gP ≠ gv); have NBgv := Aside0.mk ((by rw [hg]; exact Nat.ne_of_lt (blk_lt BKg.out)) : g ≠ gv); replace BKP := bb BKP hb; replace BKg := bb BKg hb; replace HB := Aside0.mk (below_step HB.out hb); replace HK := Aside0.mk (Kept.below (S := S) HK.out hb); clear hb hbox hg; have hn1 := NBgv.out; have hn2 : gv ≠ g := fun e_ => hn1 e_.symm; have hcz := bz3 BKv) | (go_at_call 88; have BKPx : (((w2.setCell ⟨gv, 0, none⟩ (.string l0[j].f0)).setCell ⟨gv, 1, none⟩ (.string l0[j].f1)).setCell ⟨gv, 2, none⟩ (.int .i64 l0[j].f2)).heap[gP]? = some (.cells #[.string key] 9 (0, 0)) := bf1 BKP NBPv; refine (del_is l0[j] key gP _ false (blk_lt BKPx) ((blk_cell BKPx 0).trans rfl) hbool).mono ?_; clear BKPx; rintro e w3 ⟨rfl, hb⟩; replace BKg := Aside0.mk (blk_below (g := g) (o := .cells cur 68 (0, 0)) (bf1 BKg NBgv) hb); replace BKP := Aside0.mk (blk_below (g := gP) (o := .cells #[.string key] 9 (0, 0)) (bf1 BKP NBPv) hb); replace BKv := Aside0.mk (blk_below (g := gv) (o := .cells #[.string l0[j].f0, .string l0[j].f1, .int .i64 l0[j].f2] 68 (0, 0)) (by (with_reducible repeat (first | refine blk_drewN ?_ _ | refine blk_drew ?_ | refine blk_alloc ?_ _)); refine blk_put (cs := #[.string l0[j].f0, .string l0[j].f1, .int .i64 0]) ?_ 2 _ rfl; (with_reducible repeat (first | refine blk_drewN ?_ _ | refine blk_drew ?_ | refine blk_alloc ?_ _)); refine blk_put (cs := #[.string l0[j].f0, .string (⟨#[]⟩ : ByteArray), .int .i64 0]) ?_ 1 _ rfl; (with_reducible repeat (first | refine blk_drewN ?_ _ | refine blk_drew ?_ | refine blk_alloc ?_ _)); refine blk_put (cs := #[.string (⟨#[]⟩ : ByteArray), .string (⟨#[]⟩ : ByteArray), .int .i64 0]) ?_ 0 _ rfl; (with_reducible repeat (first | refine blk_drewN ?_ _ | refine blk_drew ?_ | refine blk_alloc ?_ _)); exact BKv.out) hb); replace HB := Aside0.mk (below_step (be1 HB GEv) hb); replace HK := Aside0.mk (Kept.below (S := S) (by repeat (first | (with_reducible first | exact HK.out | apply Kept.alloc | apply Kept.drewN | apply Kept.drew | refine Kept.setCell ?_ (.inr GWv.out) _) | exact HK.out)) hb); clear hb; have hcv := bz3 BKv; obtain ⟨hy0, hy1, hy2⟩ := RowI.cells (W := w3) (g := g) (cap := cap) (l := dk) ⟨cur, BKg.out, RS.out⟩ i hid; have hz0 := blk_frozen BKg.out (i * 3); have hz1 := blk_frozen BKg.out (i * 3 + 1); have hz2 := blk_frozen BKg.out (i * 3 + 2)) | ((with_reducible refine gate_store (t := 68) (p := 33) rfl ?_); refine store_event (t := 68) (p := 33) (v := ?vo_) (w1 := (((w3.setCell ⟨g, i * 3, none⟩ (.string l0[j].f0)).setCell ⟨g, i * 3 + 1, none⟩ (.string l0[j].f1)).setCell ⟨g, i * 3 + 2, none⟩ (.int .i64 l0[j].f2))) ?hg ?ho ?hn ?hr ?_; (case ho => rfl); (case hg => rfl); (case hn => rfl); (case hr => first | (go_simp; done) | (go_simp; rfl)); intro w4 hw; have HR4 := Aside0.mk (show RowI w4 g cap (dk.set i l0[j]) from by rw [hw]; exact RowI.put ⟨cur, BKg.out, RS.out⟩ i hid l0[j]); replace BKP := Aside0.mk (show w4.heap[gP]? = some (.cells #[.string key] 9 (0, 0)) from by rw [hw]; exact bf1 BKP NPg); replace HB := Aside0.mk (show Below w0.heap.size w0 w4 from by rw [hw]; exact be1 HB HG); replace HK := Aside0.mk (show Kept w w4 S from by rw [hw]; repeat (first | (with_reducible first | exact HK.out | apply Kept.alloc | apply Kept.drewN | apply Kept.drew | refine Kept.setCell ?_ (.inl HS.out) _) | exact HK.out)); clear hw))
   go_roundg (n - (j + 1))
   case measure => have := HGG.out; omega
   case rel => exact ⟨i + 1, j + 1, dk.set i l0[j], by go_num, by go_num, ⟨Nat.le_refl _⟩, ⟨HI.out.keep hjl HKY.out⟩, HR4, BKP, HB, HK⟩
  have hjn : j = n := by have := HI.out.le; have := HL.out; omega
  have c2 : ¬ ((j : Int) < (n : Int)) := by omega
  have hlow : dk.take i = l0.filter (keepI key) := by rw [HI.out.low, hjn, ← HL.out, List.take_length]
  have hle : (l0.filter (keepI key)).length = i := by rw [← hlow, List.length_take]; omega
  have hcl : ∀ ty c, (Builtin.clear_ #[28] ty #[.slice (some ⟨g, i * 3, none⟩) (n - i) c]).run Try.prog wr = .ok (.tuple #[]) (wr.setCells g (i * 3) (Builtin.zeroCells #[.string ⟨#[]⟩, .string ⟨#[]⟩, .int .i64 0] (n - i)).toList) := fun ty c => clearI wr g (i * 3) (n - i) c (by omega) (fun t ht => HR.out.some _ (by omega)) (fun t _ => HR.out.frozen _) ty
  have c3 : (i : Int) ≤ (n : Int) := by omega
  have c4 : ¬ (cap = i) := by omega
  have c5 : i ≤ n := by omega
  have c6 : i ≤ cap := by omega
  have HLO := Aside0.mk hlow
  have HLE := Aside0.mk hle
  clear hlow hle
  go_wp2
  go_ret
  have hzl : (Builtin.zeroCells #[Value.string ⟨#[]⟩, .string ⟨#[]⟩, .int .i64 0] (n - i)).toList.length = (n - i) * 3 := by simp [Builtin.zeroCells]
  refine ⟨by rw [HLE.out]; rfl, ?_, Ow.below_setCells HG.out _ _ _ HB.out, Ow.kept_setCells (W := wr) HS.out _ _ _ HK.out⟩
  rw [← HLO.out]
  exact HR.out.cut i (by omega) _ (by rw [hzl]; omega)
theorem idx_none (A : Option Addr) (c B : Nat) (w : World) : Calls Try.prog 116 #[.slice A 0 c, .func (.func 88) #[] #[.pointer (some ⟨B, 0, none⟩)]] w fun e w' => e = .returned (.int .i64 (-1)) ∧ Below w.heap.size w w' := by
 have HB := Aside0.mk (Below.refl w.heap.size w)
 go_enter Try.func116, Try.ntmps116
 go_wp2
 go_loopg [5, 8] 0 (fun gg _ v8 wr => v8 = .int .i64 0 ∧ Aside0 (Below w.heap.size w wr))
 case atStart => exact ⟨rfl, HB⟩
 case round =>
  obtain ⟨rfl, HB⟩ := hrel
  go_wp2
  go_ret
  exact ⟨rfl, HB.out⟩
theorem del_none (A : Option Addr) (n c B : Nat) (w : World) (hn : n = 0) : Calls Try.prog 89 #[.slice A n c, .func (.func 88) #[] #[.pointer (some ⟨B, 0, none⟩)]] w fun e w' => e = .returned (.slice A n c) ∧ Below w.heap.size w w' := by
 subst hn
 have hI := idx_none A c B w
 go_enter Try.func89, Try.ntmps89
 go_wp2_with (go_at_call 116; refine hI.mono ?_; rintro e w1 ⟨rfl, hb⟩; have HB := Aside0.mk hb; clear hb)
 go_ret
 exact ⟨rfl, HB.out⟩
set_option maxHeartbeats 8000000 in
set_option maxRecDepth 100000 in
theorem impl_Item.calls (P0_ : Nat → Prop) (u9000_ : Value) (l0 : List (S68)) (a1 : ByteArray) (gP : Nat) (r : List (S68)) (w0 w : World) (hP : w.heap[gP]? = some (.cells #[.string a1] 9 (0, 0))) (hB : Below w0.heap.size w0 w) (ho0 : Kd.R k68 68 w w0.heap.size P0_ u9000_ l0) (h : impl_Item.f l0 a1 = some r) :
  Calls Try.prog 89 #[u9000_, .func (.func 88) #[] #[.pointer (some ⟨gP, 0, none⟩)]] w fun e w' => ∃ v0_ : Value, e = .returned (v0_) ∧ Kd.R k68 68 w' w0.heap.size (fun k_ => (P0_ k_ ∨ w.heap.size ≤ k_)) v0_ r ∧ Below w0.heap.size w0 w' ∧ Kept w w' (fun k_ => P0_ k_) := by
 have h' : (if 0 < l0.length then some (l0.filter fun x => !decide (x.f0 = a1)) else some l0) = some r := h
 clear h
 by_cases hn : 0 < l0.length
 ·rw [if_pos hn] at h'
  obtain rfl := Option.some.inj h'
  obtain ⟨g, cap, cur, rfl, hg, hh, hc1, hc2, hs, ht, hok⟩ := openedI ho0 hn
  refine (del_walk a1 gP g l0.length cap l0 P0_ w0 w rfl hn hc1 hc2 hP ⟨cur, hh, hs, hc1, ht⟩ hB hg hok).mono ?_
  rintro e w' ⟨rfl, hR, hB', hK'⟩
  obtain ⟨cur', e1, e2, e3, e4⟩ := hR.ex
  exact ⟨_, rfl, madeI (.inl hok) hg e1 e3 hc2 e2 e4, hB', hK'⟩
 rw [if_neg hn] at h'
 obtain rfl := Option.some.inj h'
 obtain ⟨A, c, rfl⟩ := Kd.R_slice ho0
 refine (del_none A l0.length c gP w (by omega)).mono ?_
 rintro e w' ⟨rfl, hb⟩
 exact ⟨_, rfl, Kd.R_mono (Kd.R_below ho0 hb) (fun _ hk => .inl hk), below_step hB hb, Kept.below (S := fun k_ => P0_ k_) (Kept.refl w _) hb⟩


/-! ### impl_Drop: function 34 -/
def impl_Drop.f (k : Nat) (a0_0 : Int) (a0_1 : Int) (l0_2 : List (S68)) (l0_3 : List (S68)) (l0_4 : List Int) (a1 : ByteArray) : Option (Int × Int × (List (S68)) × (List (S68)) × List Int × Bool) := (impl_ThreeOk.f k a0_0 a0_1 l0_2 l0_3 l0_4).bind fun t316 => (if t316 = true then ((impl_copyThree.f a0_0 a0_1 l0_2 l0_3 l0_4).bind fun bt317 => ((impl_Item.f bt317.2.2.1 a1).bind fun t329 => ((impl_Item.f bt317.2.2.2.1 a1).bind fun t332 => (some (bt317.1, bt317.2.1, t329, t332, bt317.2.2.2.2, decide ((wrap64 ((t329.length : Int) + (t332.length : Int))) < (wrap64 ((l0_2.length : Int) + (l0_3.length : Int))))))))) else (some (0, 0, ([] : List (S68)), ([] : List (S68)), ([] : List Int), false)))
theorem impl_Drop.mono : ∀ a0 a1 a2 a3 a4 a5 k, LeO (impl_Drop.f k a0 a1 a2 a3 a4 a5) (impl_Drop.f (k + 1) a0 a1 a2 a3 a4 a5) := by
 intro a0 a1 a2 a3 a4 a5 k
 unfold impl_Drop.f
 repeat' first
   | (with_reducible exact impl_ThreeOk.mono _ _ _ _ _ _)
   | (with_reducible exact LeO.refl _)
   | (with_reducible exact LeO.none _)
   | (with_reducible refine LeO.ite ?_ ?_)
   | (with_reducible refine LeO.bind ?_ (fun _ => ?_))
   | exact impl_ThreeOk.mono _ _ _ _ _ _
   | exact LeO.none _
   | refine LeO.ite ?_ ?_
   | refine LeO.bind ?_ (fun _ => ?_)
def impl_Drop.T7 : Bool × List (List Nat × List Nat) := (true, [([], []), ([], []), ([1], [1]), ([2], [2]), ([], []), ([4], [4]), ([5], [5]), ([3, 6], [3, 6]), ([], []), ([8], [8]), ([9], [9]), ([], []), ([11], [11]), ([12], [12]), ([10, 13], [10, 13]), ([7, 14], [7, 14]), ([0, 0], [0]), ([15, 16, 0, 1, 2, 3, 4, 5, 6, 7, 8, 9, 10, 11, 12, 13, 14, 15, 16], [15])])
def impl_Drop.B7 : List Nat := [0, 0, 2, 6, 0, 16, 48, 126, 0, 256, 768, 0, 2048, 6144, 16128, 32766, 1, 131071]
theorem impl_Drop.tab7 : rtab .any (opsOf Try.f34 7) = impl_Drop.T7 := by kernel_rfl
theorem impl_Drop.bits7 : waitsOk impl_Drop.T7.2 impl_Drop.B7 = true := by kernel_rfl
set_option maxHeartbeats 8000000 in
set_option maxRecDepth 100000 in
theorem impl_Drop.calls (k : Nat) (a0_0 : Int) (a0_1 : Int) (A0_2 : Option Addr) (c0_2 : Nat) (l0_2 : List (S68)) (A0_3 : Option Addr) (c0_3 : Nat) (l0_3 : List (S68)) (A0_4 : Option Addr) (c0_4 : Nat) (l0_4 : List Int) (a1 : ByteArray) (r1 : Int) (r2 : Int) (r3 : List (S68)) (r4 : List (S68)) (r5 : List Int) (r6 : Bool) (w : World) (hr0_2 : Kd.C k68 w A0_2 l0_2.length l0_2) (hc0_2 : l0_2.length ≤ c0_2) (hr0_3 : Kd.C k68 w A0_3 l0_3.length l0_3) (hc0_3 : l0_3.length ≤ c0_3) (hr0_4 : Kd.C (Kd.int .i64) w A0_4 l0_4.length l0_4) (hc0_4 : l0_4.length ≤ c0_4) (h : impl_Drop.f k a0_0 a0_1 l0_2 l0_3 l0_4 a1 = some (r1, r2, r3, r4, r5, r6)) :
  Calls Try.prog 34 #[.agg #[.int .i64 a0_0, .int .i64 a0_1, .slice A0_2 l0_2.length c0_2, .slice A0_3 l0_3.length c0_3, .slice A0_4 l0_4.length c0_4], .string a1] w fun e w' => ∃ v2_ v3_ v4_ : Value, e = .returned (.tuple #[.agg #[.int .i64 r1, .int .i64 r2, v2_, v3_, v4_], .bool r6]) ∧ Kd.R k68 68 w' w.heap.size (fun k_ => some k_ ≠ (v3_ : Value).ownBlock) v2_ r3 ∧ Kd.R k68 68 w' w.heap.size (fun k_ => some k_ ≠ (v2_ : Value).ownBlock) v3_ r4 ∧ Kd.R (Kd.int .i64) 3 w' w.heap.size (fun _ => True) v4_ r5 ∧ Below w.heap.size w w' := by
 have hu30 := Try.underlying30
 have HR0_2 := Aside0.mk hr0_2
 have HC0_2 := Aside0.mk hc0_2
 clear hr0_2 hc0_2
 have HR0_3 := Aside0.mk hr0_3
 have HC0_3 := Aside0.mk hc0_3
 clear hr0_3 hc0_3
 have HR0_4 := Aside0.mk hr0_4
 have HC0_4 := Aside0.mk hc0_4
 clear hr0_4 hc0_4
 have HB := Aside0.mk (Below.refl w.heap.size w)
 have H : ((impl_ThreeOk.f k a0_0 a0_1 l0_2 l0_3 l0_4).bind fun t316 => (if t316 = true then ((impl_copyThree.f a0_0 a0_1 l0_2 l0_3 l0_4).bind fun bt317 => ((impl_Item.f bt317.2.2.1 a1).bind fun t329 => ((impl_Item.f bt317.2.2.2.1 a1).bind fun t332 => (some (bt317.1, bt317.2.1, t329, t332, bt317.2.2.2.2, decide ((wrap64 ((t329.length : Int) + (t332.length : Int))) < (wrap64 ((l0_2.length : Int) + (l0_3.length : Int))))))))) else (some (0, 0, ([] : List (S68)), ([] : List (S68)), ([] : List Int), false)))) = some (r1, r2, r3, r4, r5, r6) := h
 clear h
 replace H := Option.bind_eq_some_iff.mp H
 obtain ⟨t316, A30, H⟩ := H
 replace H : (if t316 = true then ((impl_copyThree.f a0_0 a0_1 l0_2 l0_3 l0_4).bind fun bt317 => ((impl_Item.f bt317.2.2.1 a1).bind fun t329 => ((impl_Item.f bt317.2.2.2.1 a1).bind fun t332 => (some (bt317.1, bt317.2.1, t329, t332, bt317.2.2.2.2, decide ((wrap64 ((t329.length : Int) + (t332.length : Int))) < (wrap64 ((l0_2.length : Int) + (l0_3.length : Int))))))))) else (some (0, 0, ([] : List (S68)), ([] : List (S68)), ([] : List Int), false))) = some (r1, r2, r3, r4, r5, r6) := H
 have A3 := Aside0.mk A30
 clear A30
 by_cases c4 : t316 = true
 ·subst c4
  have H1 : ((impl_copyThree.f a0_0 a0_1 l0_2 l0_3 l0_4).bind fun bt317 => ((impl_Item.f bt317.2.2.1 a1).bind fun t329 => ((impl_Item.f bt317.2.2.2.1 a1).bind fun t332 => (some (bt317.1, bt317.2.1, t329, t332, bt317.2.2.2.2, decide ((wrap64 ((t329.length : Int) + (t332.length : Int))) < (wrap64 ((l0_2.length : Int) + (l0_3.length : Int))))))))) = some (r1, r2, r3, r4, r5, r6) := by rw [if_pos rfl] at H; exact H
  clear H
  have H := H1
  clear H1
  replace H := Option.bind_eq_some_iff.mp H
  obtain ⟨⟨t317, t318, t319, t322, t325⟩, A50, H⟩ := H
  replace H : ((impl_Item.f t319 a1).bind fun t329 => ((impl_Item.f t322 a1).bind fun t332 => (some (t317, t318, t329, t332, t325, decide ((wrap64 ((t329.length : Int) + (t332.length : Int))) < (wrap64 ((l0_2.length : Int) + (l0_3.length : Int)))))))) = some (r1, r2, r3, r4, r5, r6) := H
  have A5 := Aside0.mk A50
  clear A50
  replace H := Option.bind_eq_some_iff.mp H
  obtain ⟨t329, A60, H⟩ := H
  replace H : ((impl_Item.f t322 a1).bind fun t332 => (some (t317, t318, t329, t332, t325, decide ((wrap64 ((t329.length : Int) + (t332.length : Int))) < (wrap64 ((l0_2.length : Int) + (l0_3.length : Int))))))) = some (r1, r2, r3, r4, r5, r6) := H
  have A6 := Aside0.mk A60
  clear A60
  replace H := Option.bind_eq_some_iff.mp H
  obtain ⟨t332, A70, H⟩ := H
  replace H : (some (t317, t318, t329, t332, t325, decide ((wrap64 ((t329.length : Int) + (t332.length : Int))) < (wrap64 ((l0_2.length : Int) + (l0_3.length : Int)))))) = some (r1, r2, r3, r4, r5, r6) := H
  have A7 := Aside0.mk A70
  clear A70
  simp only [Option.some.injEq, Prod.mk.injEq] at H
  obtain ⟨rfl, rfl, rfl, rfl, rfl, rfl⟩ := H
  go_enter Try.func34, Try.ntmps34
  try go_wp2_with (first | ((with_reducible refine gate_dst (N := 2) rfl ?_); refine bx 2 #[.int .i64 a0_0, .int .i64 a0_1, .slice A0_2 l0_2.length c0_2, .slice A0_3 l0_3.length c0_3, .slice A0_4 l0_4.length c0_4] 30 ?_; intro gb314 hg w8 hbox hb; have BK314 := am hbox; have GW314 := gs0 hg HB; have GE314 := gs0 hg HB; replace HB := s0 HB hb; clear hb hbox hg) | ((with_reducible refine gate_dst (N := 3) rfl ?_); refine bx 3 #[.string a1] 9 ?_; intro gbP hg wP hbox hb; have BKP := am hbox; have NB314_P := Aside0.mk ((by rw [hg]; exact Nat.ne_of_lt (bl BK314) : gb314 ≠ gbP)); have NBP_314 := Aside0.mk ((by rw [hg]; exact Nat.ne_of_gt (bl BK314) : gbP ≠ gb314)); replace BK314 := bb BK314 hb; replace HB := Aside0.mk (below_step (be1 HB GE314) hb); clear hb hbox hg) | ((with_reducible refine gate_dst (N := 4) rfl ?_); refine bx 4 #[.int .i64 0, .int .i64 0, .slice none 0 0, .slice none 0 0, .slice none 0 0] 30 ?_; intro gb315 hg w9 hbox hb; have BK315 := am hbox; have GW315 := gs1 hg HB GE314; have GE315 := gs1 hg HB GE314; replace HB := Aside0.mk (below_step (be1 HB GE314) hb); have NB314_315 := Aside0.mk ((by rw [hg]; exact Nat.ne_of_lt (bl BK314) : gb314 ≠ gb315)); have NBP_315 := Aside0.mk ((by rw [hg]; exact Nat.ne_of_lt (bl BKP) : gbP ≠ gb315)); have NB315_314 := Aside0.mk ((by rw [hg]; exact Nat.ne_of_gt (bl BK314) : gb315 ≠ gb314)); have NB315_P := Aside0.mk ((by rw [hg]; exact Nat.ne_of_gt (bl BKP) : gb315 ≠ gbP)); replace BK314 := bb BK314 hb; replace BKP := bb BKP hb; clear hb hbox hg; have hnb10 := NB314_315.out; have hnb10P := NBP_315.out; have hnc10 := NB315_314.out; have hnc10P := NB315_P.out; have hcz11_0 := bz5 BK314; have hcz11P := bz1 BKP) | ((with_reducible refine gate_callee (f := 19) rfl ?_); refine gl 9 Try.func19 #[.agg #[.int .i64 a0_0, .int .i64 a0_1, .slice A0_2 l0_2.length c0_2, .slice A0_3 l0_3.length c0_3, .slice A0_4 l0_4.length c0_4]] ?_; (with_reducible refine (impl_ThreeOk.calls k a0_0 a0_1 _ _ l0_2 _ _ l0_3 _ _ l0_4 true _ (cb HR0_2 HB) HC0_2.out (cb HR0_3 HB) HC0_3.out (cb HR0_4 HB) HC0_4.out A3.out).mono ?_); rintro e w12 ⟨rfl, hb⟩; refine ⟨_, rfl, ?_⟩; replace BK314 := bb BK314 hb; replace BKP := bb BKP hb; replace BK315 := bb BK315 hb; replace HB := Aside0.mk (below_step (be2 HB GE314 GE315) hb); (try clear hb); have hcz13_0 := bz5 BK314; have hcz13P := bz1 BKP) | ((with_reducible refine gate_callee (f := 87) rfl ?_); refine gl 13 Try.func87 #[.agg #[.int .i64 a0_0, .int .i64 a0_1, .slice A0_2 l0_2.length c0_2, .slice A0_3 l0_3.length c0_3, .slice A0_4 l0_4.length c0_4]] ?_; (with_reducible refine (impl_copyThree.calls a0_0 a0_1 _ _ l0_2 _ _ l0_3 _ _ l0_4 t317 t318 t319 t322 t325 _ (cb HR0_2 HB) HC0_2.out (cb HR0_3 HB) HC0_3.out (cb HR0_4 HB) HC0_4.out A5.out).mono ?_); rintro e w14 ⟨v320, v323, v326, rfl, ho0, ho1, ho2, hb⟩; refine ⟨_, rfl, ?_⟩; have HO321 := Aside0.mk (Kd.R_lower ho0 (below_size (be2 HB GE314 GE315))); have HO324 := Aside0.mk (Kd.R_lower ho1 (below_size (be2 HB GE314 GE315))); have HO327 := Aside0.mk (Kd.R_lower ho2 (below_size (be2 HB GE314 GE315))); replace BK314 := bb BK314 hb; replace BKP := bb BKP hb; replace BK315 := bb BK315 hb; replace HB := Aside0.mk (below_step (be2 HB GE314 GE315) hb); (try clear hb); (try clear ho0); (try clear ho1); (try clear ho2)) | ((with_reducible refine gate_dst (N := 6) rfl ?_); refine bx 6 #[.int .i64 0, .int .i64 0, .slice none 0 0, .slice none 0 0, .slice none 0 0] 30 ?_; intro gb328 hg w15 hbox hb; replace HO321 := rb HO321 hb; replace HO324 := rb HO324 hb; replace HO327 := rb HO327 hb; have BK328 := am hbox; have GW328 := gs2 hg HB GE314 GE315; have GE328 := gs2 hg HB GE314 GE315; replace HB := Aside0.mk (below_step (be2 HB GE314 GE315) hb); have NB314_328 := Aside0.mk ((by rw [hg]; exact Nat.ne_of_lt (bl BK314) : gb314 ≠ gb328)); have NBP_328 := Aside0.mk ((by rw [hg]; exact Nat.ne_of_lt (bl BKP) : gbP ≠ gb328)); have NB328_314 := Aside0.mk ((by rw [hg]; exact Nat.ne_of_gt (bl BK314) : gb328 ≠ gb314)); have NB328_P := Aside0.mk ((by rw [hg]; exact Nat.ne_of_gt (bl BKP) : gb328 ≠ gbP)); replace BK314 := bb BK314 hb; replace BKP := bb BKP hb; have NB315_328 := Aside0.mk ((by rw [hg]; exact Nat.ne_of_lt (bl BK315) : gb315 ≠ gb328)); have NB328_315 := Aside0.mk ((by rw [hg]; exact Nat.ne_of_gt (bl BK315) : gb328 ≠ gb315)); replace BK315 := bb BK315 hb; clear hb hbox hg; have hnb16 := NB328_314.out; have hnb16P := NB328_P.out; have hnc16 := NB314_328.out; have hnc16P := NBP_328.out; have hnb17 := NB328_315.out; have hnc17 := NB315_328.out; have hcz18_0 := bz5 BK328; obtain ⟨Ao19, co19, eo19⟩ := Kd.R_slice HO321.out; subst eo19; obtain ⟨Ao20, co20, eo20⟩ := Kd.R_slice HO324.out; subst eo20; obtain ⟨Ao21, co21, eo21⟩ := Kd.R_slice HO327.out; subst eo21) | ((with_reducible refine gate_store (t := 30) (p := 6) rfl ?_); refine store_event (t := 30) (p := 6) (v := ?vo_w22) (w1 := (((((w15.setCell ⟨gb328, 0, none⟩ (.int .i64 t317)).setCell ⟨gb328, 1, none⟩ (.int .i64 t318)).setCell ⟨gb328, 2, none⟩ (.slice Ao19 t319.length co19)).setCell ⟨gb328, 3, none⟩ (.slice Ao20 t322.length co20)).setCell ⟨gb328, 4, none⟩ (.slice Ao21 t325.length co21))) ?hg ?ho ?hn ?hr ?_; (case ho => rfl); (case hg => rfl); (case hn => rfl); (case hr => first | (go_simp; done) | (go_simp; rfl)); intro w22 hw; have n0_ : Aside0 (Kd.R k68 68 w22 w.heap.size (fun k_ => nb k_ Ao20 t322.length co20) (.slice Ao19 t319.length co19) t319) := ⟨(by rw [hw]; exact (by (with_reducible repeat (first | apply Kd.R_alloc | apply Kd.R_drewN | apply Kd.R_drew)); exact Kd.R_mono (Kd.R_far (p := ⟨gb328, 4, none⟩) (Kd.R_far (p := ⟨gb328, 3, none⟩) (Kd.R_far (p := ⟨gb328, 2, none⟩) (Kd.R_far (p := ⟨gb328, 1, none⟩) (Kd.R_far (p := ⟨gb328, 0, none⟩) (Kd.R_types HO321.out BK328.out (by decide)) (fun _ hk => hk.2) (.int .i64 t317)) (fun _ hk => hk.2) (.int .i64 t318)) (fun _ hk => hk.2) (.slice Ao19 t319.length co19)) (fun _ hk => hk.2) (.slice Ao20 t322.length co20)) (fun _ hk => hk.2) (.slice Ao21 t325.length co21)) (fun _ hk => hk.1)))⟩; have n1_ : Aside0 (Kd.R k68 68 w22 w.heap.size (fun k_ => nb k_ Ao19 t319.length co19) (.slice Ao20 t322.length co20) t322) := ⟨(by rw [hw]; exact (by (with_reducible repeat (first | apply Kd.R_alloc | apply Kd.R_drewN | apply Kd.R_drew)); exact Kd.R_mono (Kd.R_far (p := ⟨gb328, 4, none⟩) (Kd.R_far (p := ⟨gb328, 3, none⟩) (Kd.R_far (p := ⟨gb328, 2, none⟩) (Kd.R_far (p := ⟨gb328, 1, none⟩) (Kd.R_far (p := ⟨gb328, 0, none⟩) (Kd.R_types HO324.out BK328.out (by decide)) (fun _ hk => hk.2) (.int .i64 t317)) (fun _ hk => hk.2) (.int .i64 t318)) (fun _ hk => hk.2) (.slice Ao19 t319.length co19)) (fun _ hk => hk.2) (.slice Ao20 t322.length co20)) (fun _ hk => hk.2) (.slice Ao21 t325.length co21)) (fun _ hk => hk.1)))⟩; have n2_ : Aside0 (Kd.R (Kd.int .i64) 3 w22 w.heap.size (fun _ => True) (.slice Ao21 t325.length co21) t325) := ⟨(by rw [hw]; exact (by (with_reducible repeat (first | apply Kd.R_alloc | apply Kd.R_drewN | apply Kd.R_drew)); exact Kd.R_mono (Kd.R_far (p := ⟨gb328, 4, none⟩) (Kd.R_far (p := ⟨gb328, 3, none⟩) (Kd.R_far (p := ⟨gb328, 2, none⟩) (Kd.R_far (p := ⟨gb328, 1, none⟩) (Kd.R_far (p := ⟨gb328, 0, none⟩) (Kd.R_types HO327.out BK328.out (by decide)) (fun _ hk => hk.2) (.int .i64 t317)) (fun _ hk => hk.2) (.int .i64 t318)) (fun _ hk => hk.2) (.slice Ao19 t319.length co19)) (fun _ hk => hk.2) (.slice Ao20 t322.length co20)) (fun _ hk => hk.2) (.slice Ao21 t325.length co21)) (fun _ hk => trivial)))⟩; have n3_ : Aside0 (w22.heap[gb314]? = some (.cells #[.int .i64 a0_0, .int .i64 a0_1, .slice A0_2 l0_2.length c0_2, .slice A0_3 l0_3.length c0_3, .slice A0_4 l0_4.length c0_4] 30 (0, 0))) := ⟨(by rw [hw]; exact (bf1 BK314 NB314_328))⟩; have nP_ : Aside0 (w22.heap[gbP]? = some (.cells #[.string a1] 9 (0, 0))) := ⟨(by rw [hw]; exact (bf1 BKP NBP_328))⟩; have n4_ : Aside0 (w22.heap[gb315]? = some (.cells #[.int .i64 0, .int .i64 0, .slice none 0 0, .slice none 0 0, .slice none 0 0] 30 (0, 0))) := ⟨(by rw [hw]; exact (bf1 BK315 NB315_328))⟩; have n5_ : Aside0 (w22.heap[gb328]? = some (.cells #[.int .i64 t317, .int .i64 t318, .slice Ao19 t319.length co19, .slice Ao20 t322.length co20, .slice Ao21 t325.length co21] 30 (0, 0))) := ⟨(by rw [hw]; exact (by (with_reducible repeat (first | refine blk_drewN ?_ _ | refine blk_drew ?_ | refine blk_alloc ?_ _)); refine blk_put (cs := #[.int .i64 t317, .int .i64 t318, .slice Ao19 t319.length co19, .slice Ao20 t322.length co20, .slice none 0 0]) ?_ 4 _ rfl; (with_reducible repeat (first | refine blk_drewN ?_ _ | refine blk_drew ?_ | refine blk_alloc ?_ _)); refine blk_put (cs := #[.int .i64 t317, .int .i64 t318, .slice Ao19 t319.length co19, .slice none 0 0, .slice none 0 0]) ?_ 3 _ rfl; (with_reducible repeat (first | refine blk_drewN ?_ _ | refine blk_drew ?_ | refine blk_alloc ?_ _)); refine blk_put (cs := #[.int .i64 t317, .int .i64 t318, .slice none 0 0, .slice none 0 0, .slice none 0 0]) ?_ 2 _ rfl; (with_reducible repeat (first | refine blk_drewN ?_ _ | refine blk_drew ?_ | refine blk_alloc ?_ _)); refine blk_put (cs := #[.int .i64 t317, .int .i64 0, .slice none 0 0, .slice none 0 0, .slice none 0 0]) ?_ 1 _ rfl; (with_reducible repeat (first | refine blk_drewN ?_ _ | refine blk_drew ?_ | refine blk_alloc ?_ _)); refine blk_put (cs := #[.int .i64 0, .int .i64 0, .slice none 0 0, .slice none 0 0, .slice none 0 0]) ?_ 0 _ rfl; (with_reducible repeat (first | refine blk_drewN ?_ _ | refine blk_drew ?_ | refine blk_alloc ?_ _)); exact BK328.out))⟩; have n6_ : Aside0 (Below w.heap.size w w22) := ⟨(by rw [hw]; exact (be3 HB GE314 GE315 GE328))⟩; clear hw; clear HO321; clear HO324; clear HO327; clear BK314; clear BKP; clear BK315; clear BK328; clear HB; have HO321 := n0_; have HO324 := n1_; have HO327 := n2_; have BK314 := n3_; have BKP := nP_; have BK315 := n4_; have BK328 := n5_; have HB := n6_; clear n0_ n1_ n2_ n3_ n4_ n5_ n6_ nP_; have hcz23_0 := bz5 BK328) | ((with_reducible refine gate_callee (f := 89) rfl ?_); refine gl 18 Try.func89 #[.slice Ao19 t319.length co19, .func (.func 88) #[] #[.pointer (some ⟨gbP, 0, none⟩)]] ?_; (with_reducible refine (impl_Item.calls (fun k_ => some k_ = (.slice Ao19 t319.length co19 : Value).ownBlock) (.slice Ao19 t319.length co19) t319 a1 gbP t329 w _ ?sideP ?side1 ?side2 A6.out).mono ?_); (case sideP => exact bk BKP); (case side1 => repeat (first | (with_reducible first | exact HB.out | apply below_alloc | apply pw_below_drewN | apply below_drew1 | refine below_set ?_ GE314.out | refine below_set ?_ GE315.out | refine below_set ?_ GE328.out) | exact HB.out)); (case side2 => exact Kd.R_tight rfl HO321.out); rintro e w24 ⟨v330, rfl, ho0, hb, hkp⟩; refine ⟨_, rfl, ?_⟩; replace BK314 := Aside0.mk (blk_kept (bk BK314) hkp (fun hs_ => (fun e_ => (Kd.R_ne HO321.out BK314.out (by decide)) e_) hs_)); replace BKP := Aside0.mk (blk_kept (bk BKP) hkp (fun hs_ => (fun e_ => (Kd.R_ne HO321.out BKP.out (by decide)) e_) hs_)); replace BK315 := Aside0.mk (blk_kept (bk BK315) hkp (fun hs_ => (fun e_ => (Kd.R_ne HO321.out BK315.out (by decide)) e_) hs_)); replace HO327 := Aside0.mk (Kd.R_mono (ok' := fun k_ => True) (Kd.R_keptB ((Kd.R_apart' HO327.out (Kd.R_typed HO321.out) (by decide))) hkp (fun k_ hk_ hs_ => by first | exact hk_.2 hs_ | exact hk_ hs_ | exact hk_.1 hs_ | exact hk_.2 hs_ | exact hk_.1.1 hs_ | exact hk_.1.2 hs_ | exact hk_.2.1 hs_ | exact hk_.2.2 hs_ | exact hk_.1.1.1 hs_ | exact hk_.1.1.2 hs_ | exact hk_.1.2.1 hs_ | exact hk_.1.2.2 hs_ | exact hk_.2.1.1 hs_ | exact hk_.2.1.2 hs_ | exact hk_.2.2.1 hs_ | exact hk_.2.2.2 hs_ | exact hk_.1.1.1.1 hs_ | exact hk_.1.1.1.2 hs_ | exact hk_.1.1.2.1 hs_ | exact hk_.1.1.2.2 hs_ | exact hk_.1.2.1.1 hs_ | exact hk_.1.2.1.2 hs_ | exact hk_.1.2.2.1 hs_ | exact hk_.1.2.2.2 hs_ | exact hk_.2.1.1.1 hs_ | exact hk_.2.1.1.2 hs_ | exact hk_.2.1.2.1 hs_ | exact hk_.2.1.2.2 hs_ | exact hk_.2.2.1.1 hs_ | exact hk_.2.2.1.2 hs_ | exact hk_.2.2.2.1 hs_ | exact hk_.2.2.2.2 hs_)) (fun k_ hk_ => trivial)); replace BK328 := Aside0.mk (blk_kept (bk BK328) hkp (fun hs_ => (fun e_ => (Kd.R_ne HO321.out BK328.out (by decide)) e_) hs_)); have HO331 := Aside0.mk (Kd.R_mono (ok' := fun k_ => nb k_ Ao20 t322.length co20) ho0 (fun k_ hk_ => Or.elim hk_ (fun hs_ => fun e_ => (((HO324.out).1 k_ e_.symm)) hs_) (fun hn_ => (Kd.fresh' (Kd.R_lt (ro HO324)) k_ hn_)))); replace HO324 := Aside0.mk (Kd.R_mono (ok' := fun k_ => some k_ ≠ (v330 : Value).ownBlock) (Kd.R_keptB (HO324.out) hkp (fun k_ hk_ hs_ => by first | exact hk_ hs_ | exact hk_ hs_ | exact hk_.1 hs_ | exact hk_.2 hs_ | exact hk_.1.1 hs_ | exact hk_.1.2 hs_ | exact hk_.2.1 hs_ | exact hk_.2.2 hs_ | exact hk_.1.1.1 hs_ | exact hk_.1.1.2 hs_ | exact hk_.1.2.1 hs_ | exact hk_.1.2.2 hs_ | exact hk_.2.1.1 hs_ | exact hk_.2.1.2 hs_ | exact hk_.2.2.1 hs_ | exact hk_.2.2.2 hs_ | exact hk_.1.1.1.1 hs_ | exact hk_.1.1.1.2 hs_ | exact hk_.1.1.2.1 hs_ | exact hk_.1.1.2.2 hs_ | exact hk_.1.2.1.1 hs_ | exact hk_.1.2.1.2 hs_ | exact hk_.1.2.2.1 hs_ | exact hk_.1.2.2.2 hs_ | exact hk_.2.1.1.1 hs_ | exact hk_.2.1.1.2 hs_ | exact hk_.2.1.2.1 hs_ | exact hk_.2.1.2.2 hs_ | exact hk_.2.2.1.1 hs_ | exact hk_.2.2.1.2 hs_ | exact hk_.2.2.2.1 hs_ | exact hk_.2.2.2.2 hs_)) (fun k_ hk_ => fun e_ => Or.elim (ho0.1 k_ e_.symm) (fun hs_ => hk_.2.1 hs_) (fun hn_ => Nat.not_le.2 hk_.2.2 hn_))); replace HB := Aside0.mk (hb); clear HO321; (try clear hb); (try clear hkp); (try clear ho0); obtain ⟨Ao25, co25, eo25⟩ := Kd.R_slice HO331.out; subst eo25; have hcz26_0 := bz5 BK328) | ((with_reducible refine gate_store (t := 28) (p := 19) rfl ?_); refine store_event (t := 28) (p := 19) (v := ?vo_w27) (w1 := (w24.setCell ⟨gb328, 2, none⟩ (.slice Ao25 t329.length co25))) ?hg ?ho ?hn ?hr ?_; (case ho => rfl); (case hg => rfl); (case hn => rfl); (case hr => first | (go_simp; done) | (go_simp; rfl)); intro w27 hw; have n0_ : Aside0 (Kd.R k68 68 w27 w.heap.size (fun k_ => nb k_ Ao25 t329.length co25) (.slice Ao20 t322.length co20) t322) := ⟨(by rw [hw]; exact (by (with_reducible repeat (first | apply Kd.R_alloc | apply Kd.R_drewN | apply Kd.R_drew)); exact Kd.R_mono (Kd.R_far (p := ⟨gb328, 2, none⟩) (Kd.R_types HO324.out BK328.out (by decide)) (fun _ hk => hk.2) (.slice Ao25 t329.length co25)) (fun _ hk => hk.1)))⟩; have n1_ : Aside0 (Kd.R (Kd.int .i64) 3 w27 w.heap.size (fun _ => True) (.slice Ao21 t325.length co21) t325) := ⟨(by rw [hw]; exact (by (with_reducible repeat (first | apply Kd.R_alloc | apply Kd.R_drewN | apply Kd.R_drew)); exact Kd.R_mono (Kd.R_far (p := ⟨gb328, 2, none⟩) (Kd.R_types HO327.out BK328.out (by decide)) (fun _ hk => hk.2) (.slice Ao25 t329.length co25)) (fun _ hk => trivial)))⟩; have n2_ : Aside0 (Kd.R k68 68 w27 w.heap.size (fun k_ => nb k_ Ao20 t322.length co20) (.slice Ao25 t329.length co25) t329) := ⟨(by rw [hw]; exact (by (with_reducible repeat (first | apply Kd.R_alloc | apply Kd.R_drewN | apply Kd.R_drew)); exact Kd.R_mono (Kd.R_far (p := ⟨gb328, 2, none⟩) (Kd.R_types HO331.out BK328.out (by decide)) (fun _ hk => hk.2) (.slice Ao25 t329.length co25)) (fun _ hk => hk.1)))⟩; have n3_ : Aside0 (w27.heap[gb314]? = some (.cells #[.int .i64 a0_0, .int .i64 a0_1, .slice A0_2 l0_2.length c0_2, .slice A0_3 l0_3.length c0_3, .slice A0_4 l0_4.length c0_4] 30 (0, 0))) := ⟨(by rw [hw]; exact (bf1 BK314 NB314_328))⟩; have nP_ : Aside0 (w27.heap[gbP]? = some (.cells #[.string a1] 9 (0, 0))) := ⟨(by rw [hw]; exact (bf1 BKP NBP_328))⟩; have n4_ : Aside0 (w27.heap[gb315]? = some (.cells #[.int .i64 0, .int .i64 0, .slice none 0 0, .slice none 0 0, .slice none 0 0] 30 (0, 0))) := ⟨(by rw [hw]; exact (bf1 BK315 NB315_328))⟩; have n5_ : Aside0 (w27.heap[gb328]? = some (.cells #[.int .i64 t317, .int .i64 t318, .slice Ao25 t329.length co25, .slice Ao20 t322.length co20, .slice Ao21 t325.length co21] 30 (0, 0))) := ⟨(by rw [hw]; exact (by (with_reducible repeat (first | refine blk_drewN ?_ _ | refine blk_drew ?_ | refine blk_alloc ?_ _)); refine blk_put (cs := #[.int .i64 t317, .int .i64 t318, .slice Ao19 t319.length co19, .slice Ao20 t322.length co20, .slice Ao21 t325.length co21]) ?_ 2 _ rfl; (with_reducible repeat (first | refine blk_drewN ?_ _ | refine blk_drew ?_ | refine blk_alloc ?_ _)); exact BK328.out))⟩; have n6_ : Aside0 (Below w.heap.size w w27) := ⟨(by rw [hw]; exact (be3 HB GE314 GE315 GE328))⟩; clear hw; clear HO324; clear HO327; clear HO331; clear BK314; clear BKP; clear BK315; clear BK328; clear HB; have HO324 := n0_; have HO327 := n1_; have HO331 := n2_; have BK314 := n3_; have BKP := nP_; have BK315 := n4_; have BK328 := n5_; have HB := n6_; clear n0_ n1_ n2_ n3_ n4_ n5_ n6_ nP_; have hcz28_0 := bz5 BK328) | ((with_reducible refine gate_callee (f := 89) rfl ?_); refine gl 23 Try.func89 #[.slice Ao20 t322.length co20, .func (.func 88) #[] #[.pointer (some ⟨gbP, 0, none⟩)]] ?_; (with_reducible refine (impl_Item.calls (fun k_ => some k_ = (.slice Ao20 t322.length co20 : Value).ownBlock) (.slice Ao20 t322.length co20) t322 a1 gbP t332 w _ ?sideP ?side1 ?side2 A7.out).mono ?_); (case sideP => exact bk BKP); (case side1 => repeat (first | (with_reducible first | exact HB.out | apply below_alloc | apply pw_below_drewN | apply below_drew1 | refine below_set ?_ GE314.out | refine below_set ?_ GE315.out | refine below_set ?_ GE328.out) | exact HB.out)); (case side2 => exact Kd.R_tight rfl HO324.out); rintro e w29 ⟨v333, rfl, ho0, hb, hkp⟩; refine ⟨_, rfl, ?_⟩; replace BK314 := Aside0.mk (blk_kept (bk BK314) hkp (fun hs_ => (fun e_ => (Kd.R_ne HO324.out BK314.out (by decide)) e_) hs_)); replace BKP := Aside0.mk (blk_kept (bk BKP) hkp (fun hs_ => (fun e_ => (Kd.R_ne HO324.out BKP.out (by decide)) e_) hs_)); replace BK315 := Aside0.mk (blk_kept (bk BK315) hkp (fun hs_ => (fun e_ => (Kd.R_ne HO324.out BK315.out (by decide)) e_) hs_)); replace HO327 := Aside0.mk (Kd.R_mono (ok' := fun k_ => True) (Kd.R_keptB ((Kd.R_apart' HO327.out (Kd.R_typed HO324.out) (by decide))) hkp (fun k_ hk_ hs_ => by first | exact hk_.2 hs_ | exact hk_ hs_ | exact hk_.1 hs_ | exact hk_.2 hs_ | exact hk_.1.1 hs_ | exact hk_.1.2 hs_ | exact hk_.2.1 hs_ | exact hk_.2.2 hs_ | exact hk_.1.1.1 hs_ | exact hk_.1.1.2 hs_ | exact hk_.1.2.1 hs_ | exact hk_.1.2.2 hs_ | exact hk_.2.1.1 hs_ | exact hk_.2.1.2 hs_ | exact hk_.2.2.1 hs_ | exact hk_.2.2.2 hs_ | exact hk_.1.1.1.1 hs_ | exact hk_.1.1.1.2 hs_ | exact hk_.1.1.2.1 hs_ | exact hk_.1.1.2.2 hs_ | exact hk_.1.2.1.1 hs_ | exact hk_.1.2.1.2 hs_ | exact hk_.1.2.2.1 hs_ | exact hk_.1.2.2.2 hs_ | exact hk_.2.1.1.1 hs_ | exact hk_.2.1.1.2 hs_ | exact hk_.2.1.2.1 hs_ | exact hk_.2.1.2.2 hs_ | exact hk_.2.2.1.1 hs_ | exact hk_.2.2.1.2 hs_ | exact hk_.2.2.2.1 hs_ | exact hk_.2.2.2.2 hs_)) (fun k_ hk_ => trivial)); replace BK328 := Aside0.mk (blk_kept (bk BK328) hkp (fun hs_ => (fun e_ => (Kd.R_ne HO324.out BK328.out (by decide)) e_) hs_)); have HO334 := Aside0.mk (Kd.R_mono (ok' := fun k_ => nb k_ Ao25 t329.length co25) ho0 (fun k_ hk_ => Or.elim hk_ (fun hs_ => fun e_ => (((HO331.out).1 k_ e_.symm)) hs_) (fun hn_ => (Kd.fresh' (Kd.R_lt (ro HO331)) k_ hn_)))); replace HO331 := Aside0.mk (Kd.R_mono (ok' := fun k_ => some k_ ≠ (v333 : Value).ownBlock) (Kd.R_keptB (HO331.out) hkp (fun k_ hk_ hs_ => by first | exact hk_ hs_ | exact hk_ hs_ | exact hk_.1 hs_ | exact hk_.2 hs_ | exact hk_.1.1 hs_ | exact hk_.1.2 hs_ | exact hk_.2.1 hs_ | exact hk_.2.2 hs_ | exact hk_.1.1.1 hs_ | exact hk_.1.1.2 hs_ | exact hk_.1.2.1 hs_ | exact hk_.1.2.2 hs_ | exact hk_.2.1.1 hs_ | exact hk_.2.1.2 hs_ | exact hk_.2.2.1 hs_ | exact hk_.2.2.2 hs_ | exact hk_.1.1.1.1 hs_ | exact hk_.1.1.1.2 hs_ | exact hk_.1.1.2.1 hs_ | exact hk_.1.1.2.2 hs_ | exact hk_.1.2.1.1 hs_ | exact hk_.1.2.1.2 hs_ | exact hk_.1.2.2.1 hs_ | exact hk_.1.2.2.2 hs_ | exact hk_.2.1.1.1 hs_ | exact hk_.2.1.1.2 hs_ | exact hk_.2.1.2.1 hs_ | exact hk_.2.1.2.2 hs_ | exact hk_.2.2.1.1 hs_ | exact hk_.2.2.1.2 hs_ | exact hk_.2.2.2.1 hs_ | exact hk_.2.2.2.2 hs_)) (fun k_ hk_ => fun e_ => Or.elim (ho0.1 k_ e_.symm) (fun hs_ => hk_.2.1 hs_) (fun hn_ => Nat.not_le.2 hk_.2.2 hn_))); replace HB := Aside0.mk (hb); clear HO324; (try clear hb); (try clear hkp); (try clear ho0); obtain ⟨Ao30, co30, eo30⟩ := Kd.R_slice HO334.out; subst eo30; have hcz31_0 := bz5 BK328))
  have n0_ : Aside0 (Kd.R (Kd.int .i64) 3 (w29.setCell ⟨gb328, 3, none⟩ (.slice Ao30 t332.length co30)) w.heap.size (fun _ => True) (.slice Ao21 t325.length co21) t325) := ⟨by (with_reducible repeat (first | apply Kd.R_alloc | apply Kd.R_drewN | apply Kd.R_drew)); exact Kd.R_mono (Kd.R_far (p := ⟨gb328, 3, none⟩) (Kd.R_types HO327.out BK328.out (by decide)) (fun _ hk => hk.2) (.slice Ao30 t332.length co30)) (fun _ hk => trivial)⟩
  have n1_ : Aside0 (Kd.R k68 68 (w29.setCell ⟨gb328, 3, none⟩ (.slice Ao30 t332.length co30)) w.heap.size (fun k_ => nb k_ Ao30 t332.length co30) (.slice Ao25 t329.length co25) t329) := ⟨by (with_reducible repeat (first | apply Kd.R_alloc | apply Kd.R_drewN | apply Kd.R_drew)); exact Kd.R_mono (Kd.R_far (p := ⟨gb328, 3, none⟩) (Kd.R_types HO331.out BK328.out (by decide)) (fun _ hk => hk.2) (.slice Ao30 t332.length co30)) (fun _ hk => hk.1)⟩
  have n2_ : Aside0 (Kd.R k68 68 (w29.setCell ⟨gb328, 3, none⟩ (.slice Ao30 t332.length co30)) w.heap.size (fun k_ => nb k_ Ao25 t329.length co25) (.slice Ao30 t332.length co30) t332) := ⟨by (with_reducible repeat (first | apply Kd.R_alloc | apply Kd.R_drewN | apply Kd.R_drew)); exact Kd.R_mono (Kd.R_far (p := ⟨gb328, 3, none⟩) (Kd.R_types HO334.out BK328.out (by decide)) (fun _ hk => hk.2) (.slice Ao30 t332.length co30)) (fun _ hk => hk.1)⟩
  have n3_ : Aside0 ((w29.setCell ⟨gb328, 3, none⟩ (.slice Ao30 t332.length co30)).heap[gb314]? = some (.cells #[.int .i64 a0_0, .int .i64 a0_1, .slice A0_2 l0_2.length c0_2, .slice A0_3 l0_3.length c0_3, .slice A0_4 l0_4.length c0_4] 30 (0, 0))) := ⟨by (with_reducible repeat (first | refine blk_drewN ?_ _ | refine blk_drew ?_ | refine blk_alloc ?_ _)); refine blk_far ?_ NB314_328.out _; (with_reducible repeat (first | refine blk_drewN ?_ _ | refine blk_drew ?_ | refine blk_alloc ?_ _)); exact BK314.out⟩
  have n4_ : Aside0 ((w29.setCell ⟨gb328, 3, none⟩ (.slice Ao30 t332.length co30)).heap[gb315]? = some (.cells #[.int .i64 0, .int .i64 0, .slice none 0 0, .slice none 0 0, .slice none 0 0] 30 (0, 0))) := ⟨by (with_reducible repeat (first | refine blk_drewN ?_ _ | refine blk_drew ?_ | refine blk_alloc ?_ _)); refine blk_far ?_ NB315_328.out _; (with_reducible repeat (first | refine blk_drewN ?_ _ | refine blk_drew ?_ | refine blk_alloc ?_ _)); exact BK315.out⟩
  have n5_ : Aside0 ((w29.setCell ⟨gb328, 3, none⟩ (.slice Ao30 t332.length co30)).heap[gb328]? = some (.cells #[.int .i64 t317, .int .i64 t318, .slice Ao25 t329.length co25, .slice Ao30 t332.length co30, .slice Ao21 t325.length co21] 30 (0, 0))) := ⟨by (with_reducible repeat (first | refine blk_drewN ?_ _ | refine blk_drew ?_ | refine blk_alloc ?_ _)); refine blk_put (cs := #[.int .i64 t317, .int .i64 t318, .slice Ao25 t329.length co25, .slice Ao20 t322.length co20, .slice Ao21 t325.length co21]) ?_ 3 _ rfl; (with_reducible repeat (first | refine blk_drewN ?_ _ | refine blk_drew ?_ | refine blk_alloc ?_ _)); exact BK328.out⟩
  have n6_ : Aside0 (Below w.heap.size w (w29.setCell ⟨gb328, 3, none⟩ (.slice Ao30 t332.length co30))) := ⟨be3 HB GE314 GE315 GE328⟩
  (try clear HO327)
  (try clear HO331)
  (try clear HO334)
  (try clear BK314)
  (try clear BK315)
  (try clear BK328)
  (try clear HB)
  generalize (w29.setCell ⟨gb328, 3, none⟩ (.slice Ao30 t332.length co30)) = w32 at n0_ n1_ n2_ n3_ n4_ n5_ n6_ ⊢
  have HO327 := n0_
  have HO331 := n1_
  have HO334 := n2_
  have BK314 := n3_
  have BK315 := n4_
  have BK328 := n5_
  have HB := n6_
  clear n0_ n1_ n2_ n3_ n4_ n5_ n6_
  have n0_ := Aside0.mk (Kd.R_drew HO327.out)
  have n1_ := Aside0.mk (Kd.R_drew HO331.out)
  have n2_ := Aside0.mk (Kd.R_drew HO334.out)
  have n3_ := Aside0.mk (blk_drew BK314.out)
  have n4_ := Aside0.mk (blk_drew BK315.out)
  have n5_ := Aside0.mk (blk_drew BK328.out)
  have n6_ := Aside0.mk (below_drew1 HB.out)
  clear HO327
  clear HO331
  clear HO334
  clear BK314
  clear BK315
  clear BK328
  clear HB
  have HO327 := n0_
  have HO331 := n1_
  have HO334 := n2_
  have BK314 := n3_
  have BK315 := n4_
  have BK328 := n5_
  have HB := n6_
  clear n0_ n1_ n2_ n3_ n4_ n5_ n6_
  refine start_ (n := 18) (S := fun w' => w'.cell? ⟨gb328, 0, none⟩ = some (.int .i64 t317) ∧ w'.cell? ⟨gb328, 1, none⟩ = some (.int .i64 t318) ∧ w'.cell? ⟨gb328, 2, none⟩ = some (.slice Ao25 t329.length co25) ∧ w'.cell? ⟨gb328, 3, none⟩ = some (.slice Ao30 t332.length co30) ∧ w'.cell? ⟨gb328, 4, none⟩ = some (.slice Ao21 t325.length co21) ∧ w'.cell? ⟨gb314, 0, none⟩ = some (.int .i64 a0_0) ∧ w'.cell? ⟨gb314, 1, none⟩ = some (.int .i64 a0_1) ∧ w'.cell? ⟨gb314, 2, none⟩ = some (.slice A0_2 l0_2.length c0_2) ∧ w'.cell? ⟨gb314, 3, none⟩ = some (.slice A0_3 l0_3.length c0_3) ∧ w'.cell? ⟨gb314, 4, none⟩ = some (.slice A0_4 l0_4.length c0_4)) (ds := []) (bv 18 0x0) (by kernel_rfl) rfl rfl ⟨bc0 BK328, bc1 BK328, bc2 BK328, bc3 BK328, bc4 BK328, bc0 BK314, bc1 BK314, bc2 BK314, bc3 BK314, bc4 BK314⟩ (fun hHeld => ?_); refine with_tabW impl_Drop.tab7 impl_Drop.bits7 (fun HT_ HW_ => ?_)
  generalize w32.drew = w33 at HO327 HO331 HO334 BK314 BK315 BK328 HB hHeld ⊢
  refine py HT_ 1 26 (bv 18 0x2) ?_
  refine py HT_ 4 29 (bv 18 0x12) ?_
  refine py HT_ 8 33 (bv 18 0x112) ?_
  refine py HT_ 11 36 (bv 18 0x912) ?_
  refine tk HT_ HW_ hHeld 0 25 (bv 18 0x913) ?_
  refine tk HT_ HW_ hHeld 2 27 (bv 18 0x917) ?_
  refine py HT_ 3 28 (bv 18 0x91f) ?_
  refine tk HT_ HW_ hHeld 5 30 (bv 18 0x93f) ?_
  refine py HT_ 6 31 (bv 18 0x97f) ?_
  refine py HT_ 7 32 (bv 18 0x9ff) ?_
  refine tk HT_ HW_ hHeld 9 34 (bv 18 0xbff) ?_
  refine py HT_ 10 35 (bv 18 0xfff) ?_
  refine tk HT_ HW_ hHeld 12 37 (bv 18 0x1fff) ?_
  refine py HT_ 13 38 (bv 18 0x3fff) ?_
  refine py HT_ 14 39 (bv 18 0x7fff) ?_
  refine py HT_ 15 40 (bv 18 0xffff) ?_
  refine one_ (i := 16) (N := none) (bv 18 0x1ffff) rfl rfl (one_of HT_.out (by kernel_rfl)) (by decide) (fun K hK => ?_)
  have hs34 : w33.cell? ⟨gb315, 0, none⟩ = some (.int .i64 0) := bc0 BK315
  have hfs34 := blk_frozen BK315.out 0
  have hns34_0 := NB314_315.out
  have hns34_2 := NB328_315.out
  have hms34_0 := NB315_314.out
  have hms34_2 := NB315_328.out
  have hs35 : w33.cell? ⟨gb315, 1, none⟩ = some (.int .i64 0) := bc1 BK315
  have hfs35 := blk_frozen BK315.out 1
  have hns35_0 := NB314_315.out
  have hns35_2 := NB328_315.out
  have hms35_0 := NB315_314.out
  have hms35_2 := NB315_328.out
  have hs36 : w33.cell? ⟨gb315, 2, none⟩ = some (.slice none 0 0) := bc2 BK315
  have hfs36 := blk_frozen BK315.out 2
  have hns36_0 := NB314_315.out
  have hns36_2 := NB328_315.out
  have hms36_0 := NB315_314.out
  have hms36_2 := NB315_328.out
  have hs37 : w33.cell? ⟨gb315, 3, none⟩ = some (.slice none 0 0) := bc3 BK315
  have hfs37 := blk_frozen BK315.out 3
  have hns37_0 := NB314_315.out
  have hns37_2 := NB328_315.out
  have hms37_0 := NB315_314.out
  have hms37_2 := NB315_328.out
  have hs38 : w33.cell? ⟨gb315, 4, none⟩ = some (.slice none 0 0) := bc4 BK315
  have hfs38 := blk_frozen BK315.out 4
  have hns38_0 := NB314_315.out
  have hns38_2 := NB328_315.out
  have hms38_0 := NB315_314.out
  have hms38_2 := NB315_328.out
  refine skip_ (w1 := ?_) (by rfl) rfl ?_ ?_
  rotate_left
  ·go_simp
   rfl
  refine hK.out _ _ ⟨((cell_far (p := ⟨gb315, _, none⟩) NB328_315.out _).trans (((cell_far (p := ⟨gb315, _, none⟩) NB328_315.out _).trans (((cell_far (p := ⟨gb315, _, none⟩) NB328_315.out _).trans (((cell_far (p := ⟨gb315, _, none⟩) NB328_315.out _).trans (((cell_far (p := ⟨gb315, _, none⟩) NB328_315.out _).trans (hHeld.1)))))))))), ((cell_far (p := ⟨gb315, _, none⟩) NB328_315.out _).trans (((cell_far (p := ⟨gb315, _, none⟩) NB328_315.out _).trans (((cell_far (p := ⟨gb315, _, none⟩) NB328_315.out _).trans (((cell_far (p := ⟨gb315, _, none⟩) NB328_315.out _).trans (((cell_far (p := ⟨gb315, _, none⟩) NB328_315.out _).trans (hHeld.2.1)))))))))), ((cell_far (p := ⟨gb315, _, none⟩) NB328_315.out _).trans (((cell_far (p := ⟨gb315, _, none⟩) NB328_315.out _).trans (((cell_far (p := ⟨gb315, _, none⟩) NB328_315.out _).trans (((cell_far (p := ⟨gb315, _, none⟩) NB328_315.out _).trans (((cell_far (p := ⟨gb315, _, none⟩) NB328_315.out _).trans (hHeld.2.2.1)))))))))), ((cell_far (p := ⟨gb315, _, none⟩) NB328_315.out _).trans (((cell_far (p := ⟨gb315, _, none⟩) NB328_315.out _).trans (((cell_far (p := ⟨gb315, _, none⟩) NB328_315.out _).trans (((cell_far (p := ⟨gb315, _, none⟩) NB328_315.out _).trans (((cell_far (p := ⟨gb315, _, none⟩) NB328_315.out _).trans (hHeld.2.2.2.1)))))))))), ((cell_far (p := ⟨gb315, _, none⟩) NB328_315.out _).trans (((cell_far (p := ⟨gb315, _, none⟩) NB328_315.out _).trans (((cell_far (p := ⟨gb315, _, none⟩) NB328_315.out _).trans (((cell_far (p := ⟨gb315, _, none⟩) NB328_315.out _).trans (((cell_far (p := ⟨gb315, _, none⟩) NB328_315.out _).trans (hHeld.2.2.2.2.1)))))))))), ((cell_far (p := ⟨gb315, _, none⟩) NB314_315.out _).trans (((cell_far (p := ⟨gb315, _, none⟩) NB314_315.out _).trans (((cell_far (p := ⟨gb315, _, none⟩) NB314_315.out _).trans (((cell_far (p := ⟨gb315, _, none⟩) NB314_315.out _).trans (((cell_far (p := ⟨gb315, _, none⟩) NB314_315.out _).trans (hHeld.2.2.2.2.2.1)))))))))), ((cell_far (p := ⟨gb315, _, none⟩) NB314_315.out _).trans (((cell_far (p := ⟨gb315, _, none⟩) NB314_315.out _).trans (((cell_far (p := ⟨gb315, _, none⟩) NB314_315.out _).trans (((cell_far (p := ⟨gb315, _, none⟩) NB314_315.out _).trans (((cell_far (p := ⟨gb315, _, none⟩) NB314_315.out _).trans (hHeld.2.2.2.2.2.2.1)))))))))), ((cell_far (p := ⟨gb315, _, none⟩) NB314_315.out _).trans (((cell_far (p := ⟨gb315, _, none⟩) NB314_315.out _).trans (((cell_far (p := ⟨gb315, _, none⟩) NB314_315.out _).trans (((cell_far (p := ⟨gb315, _, none⟩) NB314_315.out _).trans (((cell_far (p := ⟨gb315, _, none⟩) NB314_315.out _).trans (hHeld.2.2.2.2.2.2.2.1)))))))))), ((cell_far (p := ⟨gb315, _, none⟩) NB314_315.out _).trans (((cell_far (p := ⟨gb315, _, none⟩) NB314_315.out _).trans (((cell_far (p := ⟨gb315, _, none⟩) NB314_315.out _).trans (((cell_far (p := ⟨gb315, _, none⟩) NB314_315.out _).trans (((cell_far (p := ⟨gb315, _, none⟩) NB314_315.out _).trans (hHeld.2.2.2.2.2.2.2.2.1)))))))))), ((cell_far (p := ⟨gb315, _, none⟩) NB314_315.out _).trans (((cell_far (p := ⟨gb315, _, none⟩) NB314_315.out _).trans (((cell_far (p := ⟨gb315, _, none⟩) NB314_315.out _).trans (((cell_far (p := ⟨gb315, _, none⟩) NB314_315.out _).trans (((cell_far (p := ⟨gb315, _, none⟩) NB314_315.out _).trans (hHeld.2.2.2.2.2.2.2.2.2))))))))))⟩ (fun hHeld => ?_)
  clear hK K
  refine py HT_ 17 5 (bv 18 0x3ffff) ?_
  refine done_ (done_of HT_.out (by kernel_rfl)) ?_
  try go_wp2
  refine bodyPost_ret (results_ct rfl _ _ gb315 30 #[.int .i64 t317, .int .i64 t318, .slice Ao25 t329.length co25, .slice Ao30 t332.length co30, .slice Ao21 t325.length co21] (0, 0) _ rfl (by (with_reducible repeat (first | refine blk_drewN ?_ _ | refine blk_drew ?_ | refine blk_alloc ?_ _)); refine blk_put (cs := #[.int .i64 t317, .int .i64 t318, .slice Ao25 t329.length co25, .slice Ao30 t332.length co30, .slice none 0 0]) ?_ 4 _ rfl; (with_reducible repeat (first | refine blk_drewN ?_ _ | refine blk_drew ?_ | refine blk_alloc ?_ _)); refine blk_put (cs := #[.int .i64 t317, .int .i64 t318, .slice Ao25 t329.length co25, .slice none 0 0, .slice none 0 0]) ?_ 3 _ rfl; (with_reducible repeat (first | refine blk_drewN ?_ _ | refine blk_drew ?_ | refine blk_alloc ?_ _)); refine blk_put (cs := #[.int .i64 t317, .int .i64 t318, .slice none 0 0, .slice none 0 0, .slice none 0 0]) ?_ 2 _ rfl; (with_reducible repeat (first | refine blk_drewN ?_ _ | refine blk_drew ?_ | refine blk_alloc ?_ _)); refine blk_put (cs := #[.int .i64 t317, .int .i64 0, .slice none 0 0, .slice none 0 0, .slice none 0 0]) ?_ 1 _ rfl; (with_reducible repeat (first | refine blk_drewN ?_ _ | refine blk_drew ?_ | refine blk_alloc ?_ _)); refine blk_put (cs := #[.int .i64 0, .int .i64 0, .slice none 0 0, .slice none 0 0, .slice none 0 0]) ?_ 0 _ rfl; (with_reducible repeat (first | refine blk_drewN ?_ _ | refine blk_drew ?_ | refine blk_alloc ?_ _)); exact BK315.out) Try.underlying30 rfl (by kernel_rfl)) rfl ?_
  exact ⟨_, _, _, er, by (with_reducible repeat (first | apply Kd.R_alloc | apply Kd.R_drewN | apply Kd.R_drew)); exact Kd.R_mono (Kd.R_far (p := ⟨gb315, 4, none⟩) (Kd.R_far (p := ⟨gb315, 3, none⟩) (Kd.R_far (p := ⟨gb315, 2, none⟩) (Kd.R_far (p := ⟨gb315, 1, none⟩) (Kd.R_far (p := ⟨gb315, 0, none⟩) (Kd.R_types HO331.out BK315.out (by decide)) (fun _ hk => hk.2) (.int .i64 t317)) (fun _ hk => hk.2) (.int .i64 t318)) (fun _ hk => hk.2) (.slice Ao25 t329.length co25)) (fun _ hk => hk.2) (.slice Ao30 t332.length co30)) (fun _ hk => hk.2) (.slice Ao21 t325.length co21)) (fun _ hk => hk.1), by (with_reducible repeat (first | apply Kd.R_alloc | apply Kd.R_drewN | apply Kd.R_drew)); exact Kd.R_mono (Kd.R_far (p := ⟨gb315, 4, none⟩) (Kd.R_far (p := ⟨gb315, 3, none⟩) (Kd.R_far (p := ⟨gb315, 2, none⟩) (Kd.R_far (p := ⟨gb315, 1, none⟩) (Kd.R_far (p := ⟨gb315, 0, none⟩) (Kd.R_types HO334.out BK315.out (by decide)) (fun _ hk => hk.2) (.int .i64 t317)) (fun _ hk => hk.2) (.int .i64 t318)) (fun _ hk => hk.2) (.slice Ao25 t329.length co25)) (fun _ hk => hk.2) (.slice Ao30 t332.length co30)) (fun _ hk => hk.2) (.slice Ao21 t325.length co21)) (fun _ hk => hk.1), by (with_reducible repeat (first | apply Kd.R_alloc | apply Kd.R_drewN | apply Kd.R_drew)); exact Kd.R_mono (Kd.R_far (p := ⟨gb315, 4, none⟩) (Kd.R_far (p := ⟨gb315, 3, none⟩) (Kd.R_far (p := ⟨gb315, 2, none⟩) (Kd.R_far (p := ⟨gb315, 1, none⟩) (Kd.R_far (p := ⟨gb315, 0, none⟩) (Kd.R_types HO327.out BK315.out (by decide)) (fun _ hk => hk.2) (.int .i64 t317)) (fun _ hk => hk.2) (.int .i64 t318)) (fun _ hk => hk.2) (.slice Ao25 t329.length co25)) (fun _ hk => hk.2) (.slice Ao30 t332.length co30)) (fun _ hk => hk.2) (.slice Ao21 t325.length co21)) (fun _ hk => trivial), be3 HB GE314 GE315 GE328⟩
 replace c4 := Bool.eq_false_iff.mpr c4
 subst c4
 have H1 : (some (0, 0, ([] : List (S68)), ([] : List (S68)), ([] : List Int), false)) = some (r1, r2, r3, r4, r5, r6) := by rw [if_neg (show ¬ (false = true) by decide)] at H; exact H
 clear H
 have H := H1
 clear H1
 simp only [Option.some.injEq, Prod.mk.injEq] at H
 obtain ⟨rfl, rfl, rfl, rfl, rfl, rfl⟩ := H
 go_enter Try.func34, Try.ntmps34
 go_wp2_with (first | ((with_reducible refine gate_dst (N := 2) rfl ?_); refine bx 2 #[.int .i64 a0_0, .int .i64 a0_1, .slice A0_2 l0_2.length c0_2, .slice A0_3 l0_3.length c0_3, .slice A0_4 l0_4.length c0_4] 30 ?_; intro gb314 hg w39 hbox hb; have BK314 := am hbox; have GW314 := gs0 hg HB; have GE314 := gs0 hg HB; replace HB := s0 HB hb; clear hb hbox hg) | ((with_reducible refine gate_dst (N := 3) rfl ?_); refine bx 3 #[.string a1] 9 ?_; intro gbP hg wP hbox hb; have BKP := am hbox; have NB314_P := Aside0.mk ((by rw [hg]; exact Nat.ne_of_lt (bl BK314) : gb314 ≠ gbP)); have NBP_314 := Aside0.mk ((by rw [hg]; exact Nat.ne_of_gt (bl BK314) : gbP ≠ gb314)); replace BK314 := bb BK314 hb; replace HB := Aside0.mk (below_step (be1 HB GE314) hb); clear hb hbox hg) | ((with_reducible refine gate_dst (N := 4) rfl ?_); refine bx 4 #[.int .i64 0, .int .i64 0, .slice none 0 0, .slice none 0 0, .slice none 0 0] 30 ?_; intro gb315 hg w40 hbox hb; have BK315 := am hbox; have GW315 := gs1 hg HB GE314; have GE315 := gs1 hg HB GE314; replace HB := Aside0.mk (below_step (be1 HB GE314) hb); have NB314_315 := Aside0.mk ((by rw [hg]; exact Nat.ne_of_lt (bl BK314) : gb314 ≠ gb315)); have NBP_315 := Aside0.mk ((by rw [hg]; exact Nat.ne_of_lt (bl BKP) : gbP ≠ gb315)); have NB315_314 := Aside0.mk ((by rw [hg]; exact Nat.ne_of_gt (bl BK314) : gb315 ≠ gb314)); have NB315_P := Aside0.mk ((by rw [hg]; exact Nat.ne_of_gt (bl BKP) : gb315 ≠ gbP)); replace BK314 := bb BK314 hb; replace BKP := bb BKP hb; clear hb hbox hg; have hnb41 := NB314_315.out; have hnb41P := NBP_315.out; have hnc41 := NB315_314.out; have hnc41P := NB315_P.out; have hcz42_0 := bz5 BK314; have hcz42P := bz1 BKP) | ((with_reducible refine gate_callee (f := 19) rfl ?_); refine gl 9 Try.func19 #[.agg #[.int .i64 a0_0, .int .i64 a0_1, .slice A0_2 l0_2.length c0_2, .slice A0_3 l0_3.length c0_3, .slice A0_4 l0_4.length c0_4]] ?_; (with_reducible refine (impl_ThreeOk.calls k a0_0 a0_1 _ _ l0_2 _ _ l0_3 _ _ l0_4 false _ (cb HR0_2 HB) HC0_2.out (cb HR0_3 HB) HC0_3.out (cb HR0_4 HB) HC0_4.out A3.out).mono ?_); rintro e w43 ⟨rfl, hb⟩; refine ⟨_, rfl, ?_⟩; replace BK314 := bb BK314 hb; replace BKP := bb BKP hb; replace BK315 := bb BK315 hb; replace HB := Aside0.mk (below_step (be2 HB GE314 GE315) hb); (try clear hb); have hcz44_0 := bz5 BK315))
 refine bodyPost_ret (results_ct rfl _ _ gb315 30 #[.int .i64 0, .int .i64 0, .slice none 0 0, .slice none 0 0, .slice none 0 0] (0, 0) _ rfl (by (with_reducible repeat (first | refine blk_drewN ?_ _ | refine blk_drew ?_ | refine blk_alloc ?_ _)); refine blk_put (cs := #[.int .i64 0, .int .i64 0, .slice none 0 0, .slice none 0 0, .slice none 0 0]) ?_ 4 _ rfl; (with_reducible repeat (first | refine blk_drewN ?_ _ | refine blk_drew ?_ | refine blk_alloc ?_ _)); refine blk_put (cs := #[.int .i64 0, .int .i64 0, .slice none 0 0, .slice none 0 0, .slice none 0 0]) ?_ 3 _ rfl; (with_reducible repeat (first | refine blk_drewN ?_ _ | refine blk_drew ?_ | refine blk_alloc ?_ _)); refine blk_put (cs := #[.int .i64 0, .int .i64 0, .slice none 0 0, .slice none 0 0, .slice none 0 0]) ?_ 2 _ rfl; (with_reducible repeat (first | refine blk_drewN ?_ _ | refine blk_drew ?_ | refine blk_alloc ?_ _)); refine blk_put (cs := #[.int .i64 0, .int .i64 0, .slice none 0 0, .slice none 0 0, .slice none 0 0]) ?_ 1 _ rfl; (with_reducible repeat (first | refine blk_drewN ?_ _ | refine blk_drew ?_ | refine blk_alloc ?_ _)); refine blk_put (cs := #[.int .i64 0, .int .i64 0, .slice none 0 0, .slice none 0 0, .slice none 0 0]) ?_ 0 _ rfl; (with_reducible repeat (first | refine blk_drewN ?_ _ | refine blk_drew ?_ | refine blk_alloc ?_ _)); exact BK315.out) Try.underlying30 rfl (by kernel_rfl)) rfl ?_
 exact ⟨_, _, _, er, by first | exact Kd.R_nil _ _ _ _ _ | exact Kd.N_nil _ _ _ _ _ | exact Kd.V_nil _ _ _ _ _ | exact Kd.Q_nil _ _ _ _ _ | exact Kd.S_nil _ _ _ _ _, by first | exact Kd.R_nil _ _ _ _ _ | exact Kd.N_nil _ _ _ _ _ | exact Kd.V_nil _ _ _ _ _ | exact Kd.Q_nil _ _ _ _ _ | exact Kd.S_nil _ _ _ _ _, by first | exact Kd.R_nil _ _ _ _ _ | exact Kd.N_nil _ _ _ _ _ | exact Kd.V_nil _ _ _ _ _ | exact Kd.Q_nil _ _ _ _ _ | exact Kd.S_nil _ _ _ _ _, be2 HB GE314 GE315⟩

end Go.Proofs.Ytfjhkediaholmaa.QFnExactDrop
