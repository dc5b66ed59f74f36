-- made by a program of this session (myprint.py)
import Derived.Test.YtfjhkediaholmaaDel4
import Derived.Test.YtfjhkediaholmaaOw
import Derived.Test.YtfjhkediaholmaaQFnExactEvictx0
import Derived.Test.YtfjhkediaholmaaQFnExactEvictx11
namespace Go.Proofs.Ytfjhkediaholmaa.QFnExactEvict
open Go.RowKit Go.Proofs.YtfjhkediaholmaaW.PrintWords Go.Proofs.YtfjhkediaholmaaW.PrintLast Go.Proofs.YtfjhkediaholmaaW.PrintMore
attribute [local go_sem] max2_int min2_int max_two min_two max_three min_three max_four min_four   -- for this text's walks alone
set_option linter.unusedVariables false
set_option linter.unusedSimpArgs false

/-! ### impl_copyInts: function 115 -/
def impl_copyInts.f (l0 : List Int) : Option (List Int) := (some (([] : List Int) : List Int)).bind fun y392 => (if y392.length + l0.length < 17592186044416 then (some (y392 ++ l0)) else (none))
set_option maxHeartbeats 8000000 in
set_option maxRecDepth 100000 in
theorem impl_copyInts.calls (A0 : Option Addr) (c0 : Nat) (l0 : List Int) (r : List Int) (w : World) (hr0 : Kd.C (Kd.int .i64) w A0 l0.length l0) (hc0 : l0.length ≤ c0) (h : impl_copyInts.f l0 = some r) :
  Calls Try.prog 115 #[.slice A0 l0.length c0] w fun e w' => ∃ v0_ : Value, e = .returned (v0_) ∧ Kd.R (Kd.int .i64) 3 w' w.heap.size (fun _ => True) v0_ r ∧ Below w.heap.size w w' := by
 have HR0 := Aside0.mk hr0
 have HC0 := Aside0.mk hc0
 clear hr0 hc0
 have HB := Aside0.mk (Below.refl w.heap.size w)
 have H : ((some (([] : List Int) : List Int)).bind fun y392 => (if y392.length + l0.length < 17592186044416 then (some (y392 ++ l0)) else (none))) = some r := h
 clear h
 obtain ⟨y392, hy392⟩ : ∃ y_ : List Int, y_ = (([] : List Int)) := ⟨_, rfl⟩
 replace H : (if y392.length + l0.length < 17592186044416 then (some (y392 ++ l0)) else (none)) = some r := by first | (rw [hy392]; with_reducible exact H) | (have H2_ := (Option.bind_some _ _).symm.trans H; rw [hy392]; with_reducible exact H2_) | (have H2_ := (Option.bind_some _ _).symm.trans H; with_reducible exact H2_) | with_reducible exact H | (rw [hy392]; exact H) | exact H
 have Ny392 := Aside0.mk hy392
 clear hy392
 by_cases c2 : y392.length + l0.length < 17592186044416
 ·rw [if_pos c2] at H
  have LMc2 := Aside0.mk c2
  clear c2
  obtain ⟨y395, hy395⟩ : ∃ y_ : List Int, y_ = (y392 ++ l0) := ⟨_, rfl⟩
  replace H : (some y395) = some r := by first | (rw [hy395]; with_reducible exact H) | (have H2_ := (Option.bind_some _ _).symm.trans H; rw [hy395]; with_reducible exact H2_) | (have H2_ := (Option.bind_some _ _).symm.trans H; with_reducible exact H2_) | with_reducible exact H | (rw [hy395]; exact H) | exact H
  have Ny395 := Aside0.mk hy395
  clear hy395
  obtain rfl := Option.some.inj H
  go_enter Try.func115, Try.ntmps115
  have HO394 := Aside0.mk (show Kd.R (Kd.int .i64) 3 w w.heap.size (fun _ => True) (.slice none 0 0) y392 from by rw [Ny392.out]; exact Kd.R_nil _ _ _ _ _)
  go_wp2_with (first | ((with_reducible refine gate_builtin (b := .append) (xs := #[.const (.slice none 0 0), .tmp 3]) rfl ?_); at_builtin; refine Kd.R_append_rows (Kd.int .i64) (w0 := w) w.heap.size rfl (.const (.slice none 0 0)) (.tmp 3) 23 3 (.int .i64 0) 8 rfl Try.underlying23 info3 rfl (by decide) (by omega) (.slice none 0 0) y392 l0 _ _ _ (fun _ => True) (fun _ => False) rfl rfl ?aO ?aR (fun _ _ h => h) (fun _ h => h.elim) ?aF ?aB ?aS ?aL ?_; (case aR => repeat (first | exact (Kd.C_below HR0.out HB.out) | (with_reducible refine Kd.C_alloc ?_ _) | (with_reducible refine Kd.C_drewN ?_ _) | (with_reducible refine Kd.C_drew ?_))); (case aB => exact (be HB)); (case aF => exact (fun _ _ => trivial)); (case aO => exact (ro HO394)); (case aS => exact (below_size (be HB))); (case aL => have := LMc2.out; omega); intro v396 w5 ho hb hg hat; rw [← Ny395.out] at ho; replace HB := Aside0.mk (hb); have HO397 := Aside0.mk (ho); clear HO394; clear ho hb hg hat))
  go_ret
  exact ⟨_, er, (ro HO397), be HB⟩
 rw [if_neg c2] at H
 exact absurd H (by simp)

/-! ### impl_copyThree: function 87 -/
def impl_copyThree.f (a0_0 : Int) (a0_1 : Int) (l0_2 : List (S68)) (l0_3 : List (S68)) (l0_4 : List Int) : Option (Int × Int × (List (S68)) × (List (S68)) × List Int) := (impl_copyItems.f l0_2).bind fun t400 => ((impl_copyItems.f l0_3).bind fun t403 => ((impl_copyInts.f l0_4).bind fun t406 => (some (a0_0, a0_1, t400, t403, t406))))
def impl_copyThree.T1 : Bool × List (List Nat × List Nat) := (true, [([], []), ([0], [0]), ([], []), ([2], [2]), ([], []), ([4], [4]), ([5], [5]), ([], []), ([7], [7]), ([8, 6], [8]), ([], []), ([10], [10]), ([11, 9], [11]), ([1, 3, 6, 9, 12], [1, 3, 6, 9, 12]), ([13, 12, 0, 1, 2, 3, 4, 5, 6, 7, 8, 9, 10, 11, 12, 13], [13])])
def impl_copyThree.B1 : List Nat := [0, 1, 0, 4, 0, 16, 48, 0, 128, 496, 0, 1024, 4080, 8191, 16383]
theorem impl_copyThree.tab1 : rtab .any (opsOf Try.f87 1) = impl_copyThree.T1 := by kernel_rfl
theorem impl_copyThree.bits1 : waitsOk impl_copyThree.T1.2 impl_copyThree.B1 = true := by kernel_rfl
set_option maxHeartbeats 8000000 in
set_option maxRecDepth 100000 in
theorem impl_copyThree.calls (a0_0 : Int) (a0_1 : Int) (A0_2 : Option Addr) (c0_2 : Nat) (l0_2 : List (S68)) (A0_3 : Option Addr) (c0_3 : Nat) (l0_3 : List (S68)) (A0_4 : Option Addr) (c0_4 : Nat) (l0_4 : List Int) (r1 : Int) (r2 : Int) (r3 : List (S68)) (r4 : List (S68)) (r5 : List Int) (w : World) (hr0_2 : Kd.C k68 w A0_2 l0_2.length l0_2) (hc0_2 : l0_2.length ≤ c0_2) (hr0_3 : Kd.C k68 w A0_3 l0_3.length l0_3) (hc0_3 : l0_3.length ≤ c0_3) (hr0_4 : Kd.C (Kd.int .i64) w A0_4 l0_4.length l0_4) (hc0_4 : l0_4.length ≤ c0_4) (h : impl_copyThree.f a0_0 a0_1 l0_2 l0_3 l0_4 = some (r1, r2, r3, r4, r5)) :
  Calls Try.prog 87 #[.agg #[.int .i64 a0_0, .int .i64 a0_1, .slice A0_2 l0_2.length c0_2, .slice A0_3 l0_3.length c0_3, .slice A0_4 l0_4.length c0_4]] w fun e w' => ∃ v2_ v3_ v4_ : Value, e = .returned (.agg #[.int .i64 r1, .int .i64 r2, v2_, v3_, v4_]) ∧ Kd.R k68 68 w' w.heap.size (fun k_ => some k_ ≠ (v3_ : Value).ownBlock) v2_ r3 ∧ Kd.R k68 68 w' w.heap.size (fun k_ => some k_ ≠ (v2_ : Value).ownBlock) v3_ r4 ∧ Kd.R (Kd.int .i64) 3 w' w.heap.size (fun _ => True) v4_ r5 ∧ Below w.heap.size w w' := by
 have hu30 := Try.underlying30
 have HR0_2 := Aside0.mk hr0_2
 have HC0_2 := Aside0.mk hc0_2
 clear hr0_2 hc0_2
 have HR0_3 := Aside0.mk hr0_3
 have HC0_3 := Aside0.mk hc0_3
 clear hr0_3 hc0_3
 have HR0_4 := Aside0.mk hr0_4
 have HC0_4 := Aside0.mk hc0_4
 clear hr0_4 hc0_4
 have HB := Aside0.mk (Below.refl w.heap.size w)
 have H : ((impl_copyItems.f l0_2).bind fun t400 => ((impl_copyItems.f l0_3).bind fun t403 => ((impl_copyInts.f l0_4).bind fun t406 => (some (a0_0, a0_1, t400, t403, t406))))) = some (r1, r2, r3, r4, r5) := h
 clear h
 replace H := Option.bind_eq_some_iff.mp H
 obtain ⟨t400, A20, H⟩ := H
 replace H : ((impl_copyItems.f l0_3).bind fun t403 => ((impl_copyInts.f l0_4).bind fun t406 => (some (a0_0, a0_1, t400, t403, t406)))) = some (r1, r2, r3, r4, r5) := H
 have A2 := Aside0.mk A20
 clear A20
 replace H := Option.bind_eq_some_iff.mp H
 obtain ⟨t403, A30, H⟩ := H
 replace H : ((impl_copyInts.f l0_4).bind fun t406 => (some (a0_0, a0_1, t400, t403, t406))) = some (r1, r2, r3, r4, r5) := H
 have A3 := Aside0.mk A30
 clear A30
 replace H := Option.bind_eq_some_iff.mp H
 obtain ⟨t406, A40, H⟩ := H
 replace H : (some (a0_0, a0_1, t400, t403, t406)) = some (r1, r2, r3, r4, r5) := H
 have A4 := Aside0.mk A40
 clear A40
 simp only [Option.some.injEq, Prod.mk.injEq] at H
 obtain ⟨rfl, rfl, rfl, rfl, rfl⟩ := H
 go_enter Try.func87, Try.ntmps87
 try go_wp2_with (first | ((with_reducible refine gate_dst (N := 1) rfl ?_); refine bx 1 #[.int .i64 a0_0, .int .i64 a0_1, .slice A0_2 l0_2.length c0_2, .slice A0_3 l0_3.length c0_3, .slice A0_4 l0_4.length c0_4] 30 ?_; intro gb398 hg w5 hbox hb; have BK398 := am hbox; have GW398 := gs0 hg HB; have GE398 := gs0 hg HB; replace HB := s0 HB hb; clear hb hbox hg) | ((with_reducible refine gate_dst (N := 2) rfl ?_); refine bx 2 #[.int .i64 0, .int .i64 0, .slice none 0 0, .slice none 0 0, .slice none 0 0] 30 ?_; intro gb399 hg w6 hbox hb; have BK399 := am hbox; have GW399 := gs1 hg HB GE398; have GE399 := gs1 hg HB GE398; replace HB := Aside0.mk (below_step (be1 HB GE398) hb); have NB398_399 := nl hg BK398; have NB399_398 := ng hg BK398; replace BK398 := bb BK398 hb; clear hb hbox hg))
 have n0_ := Aside0.mk (blk_drew BK398.out)
 have n1_ := Aside0.mk (blk_drew BK399.out)
 have n2_ := Aside0.mk (below_drew1 HB.out)
 clear BK398
 clear BK399
 clear HB
 have BK398 := n0_
 have BK399 := n1_
 have HB := n2_
 clear n0_ n1_ n2_
 refine start_ (n := 15) (S := fun w' => w'.cell? ⟨gb398, 0, none⟩ = some (.int .i64 a0_0) ∧ w'.cell? ⟨gb398, 1, none⟩ = some (.int .i64 a0_1) ∧ w'.cell? ⟨gb398, 2, none⟩ = some (.slice A0_2 l0_2.length c0_2) ∧ w'.cell? ⟨gb398, 3, none⟩ = some (.slice A0_3 l0_3.length c0_3) ∧ w'.cell? ⟨gb398, 4, none⟩ = some (.slice A0_4 l0_4.length c0_4)) (ds := []) (bv 15 0x0) (by kernel_rfl) rfl rfl ⟨bc0 BK398, bc1 BK398, bc2 BK398, bc3 BK398, bc4 BK398⟩ (fun hHeld => ?_); refine with_tabW impl_copyThree.tab1 impl_copyThree.bits1 (fun HT_ HW_ => ?_)
 generalize w6.drew = w7 at BK398 BK399 HB hHeld ⊢
 refine py HT_ 0 3 (bv 15 0x1) ?_
 refine py HT_ 2 5 (bv 15 0x5) ?_
 refine py HT_ 4 7 (bv 15 0x15) ?_
 refine py HT_ 7 10 (bv 15 0x95) ?_
 refine py HT_ 10 13 (bv 15 0x495) ?_
 refine tk HT_ HW_ hHeld 1 4 (bv 15 0x497) ?_
 refine tk HT_ HW_ hHeld 3 6 (bv 15 0x49f) ?_
 refine tk HT_ HW_ hHeld 5 8 (bv 15 0x4bf) ?_
 refine tk HT_ HW_ hHeld 8 11 (bv 15 0x5bf) ?_
 refine tk HT_ HW_ hHeld 11 14 (bv 15 0xdbf) ?_
 refine one_ (i := 6) (N := some 9) (bv 15 0xdff) rfl rfl (one_of HT_.out (by kernel_rfl)) (by decide) (fun K hK => ?_)
 refine goes_ Try.func68 (by kernel_rfl) rfl #[.slice A0_2 l0_2.length c0_2] (by rfl) rfl rfl ml ?_
 with_reducible refine (impl_copyItems.calls _ _ l0_2 t400 _ ?side1 ?side2 A2.out).mono ?_
 (case side1 => exact cb HR0_2 HB)
 (case side2 => exact HC0_2.out)
 rintro e w8 ⟨v401, rfl, ho0, hb⟩
 refine ⟨_, rfl, ?_⟩
 have n0_ := Aside0.mk (Kd.R_lower ho0 (below_size (be2 HB GE398 GE399)))
 have n1_ := bb BK398 hb
 have n2_ := bb BK399 hb
 have n3_ := Aside0.mk (below_step (be2 HB GE398 GE399) hb)
 clear BK398
 clear BK399
 clear HB
 have HO402 := n0_
 have BK398 := n1_
 have BK399 := n2_
 have HB := n3_
 clear n0_ n1_ n2_ n3_
 (try clear hb)
 (try clear hb2)
 (try clear hk)
 (try clear hi)
 (try clear ho0)
 refine hK.out _ _ ⟨bc0 BK398, bc1 BK398, bc2 BK398, bc3 BK398, bc4 BK398⟩ (fun hHeld => ?_)
 clear hK K
 refine norm_ (a' := ?_) ?_ ?_
 rotate_left
 ·show Act.put _ (some 9) _ = _
  simp only [aP]
  rfl
 refine one_ (i := 9) (N := some 12) (bv 15 0xfff) rfl rfl (one_of HT_.out (by kernel_rfl)) (by decide) (fun K hK => ?_)
 refine goes_ Try.func68 (by kernel_rfl) rfl #[.slice A0_3 l0_3.length c0_3] (by rfl) rfl rfl ml ?_
 with_reducible refine (impl_copyItems.calls _ _ l0_3 t403 _ ?side1 ?side2 A3.out).mono ?_
 (case side1 => exact cb HR0_3 HB)
 (case side2 => exact HC0_3.out)
 rintro e w9 ⟨v404, rfl, ho0, hb⟩
 refine ⟨_, rfl, ?_⟩
 have n0_ := Aside0.mk (Kd.R_elder' (ro HO402) (Kd.R_base ho0) hb)
 have n1_ := Aside0.mk (Kd.R_lower (nw ho0 HO402) (below_size (be2 HB GE398 GE399)))
 have n2_ := bb BK398 hb
 have n3_ := bb BK399 hb
 have n4_ := Aside0.mk (below_step (be2 HB GE398 GE399) hb)
 clear HO402
 clear BK398
 clear BK399
 clear HB
 have HO402 := n0_
 have HO405 := n1_
 have BK398 := n2_
 have BK399 := n3_
 have HB := n4_
 clear n0_ n1_ n2_ n3_ n4_
 (try clear hb)
 (try clear hb2)
 (try clear hk)
 (try clear hi)
 (try clear ho0)
 refine hK.out _ _ ⟨bc0 BK398, bc1 BK398, bc2 BK398, bc3 BK398, bc4 BK398⟩ (fun hHeld => ?_)
 clear hK K
 refine norm_ (a' := ?_) ?_ ?_
 rotate_left
 ·show Act.put _ (some 12) _ = _
  simp only [aP]
  rfl
 refine one_ (i := 12) (N := some 15) (bv 15 0x1fff) rfl rfl (one_of HT_.out (by kernel_rfl)) (by decide) (fun K hK => ?_)
 refine goes_ Try.func115 (by kernel_rfl) rfl #[.slice A0_4 l0_4.length c0_4] (by rfl) rfl rfl ml ?_
 with_reducible refine (impl_copyInts.calls _ _ l0_4 t406 _ ?side1 ?side2 A4.out).mono ?_
 (case side1 => exact cb HR0_4 HB)
 (case side2 => exact HC0_4.out)
 rintro e w10 ⟨v407, rfl, ho0, hb⟩
 refine ⟨_, rfl, ?_⟩
 have n0_ := rb HO402 hb
 have n1_ := rb HO405 hb
 have n2_ := Aside0.mk (Kd.R_lower ho0 (below_size (be2 HB GE398 GE399)))
 have n3_ := bb BK398 hb
 have n4_ := bb BK399 hb
 have n5_ := Aside0.mk (below_step (be2 HB GE398 GE399) hb)
 clear HO402
 clear HO405
 clear BK398
 clear BK399
 clear HB
 have HO402 := n0_
 have HO405 := n1_
 have HO408 := n2_
 have BK398 := n3_
 have BK399 := n4_
 have HB := n5_
 clear n0_ n1_ n2_ n3_ n4_ n5_
 (try clear hb)
 (try clear hb2)
 (try clear hk)
 (try clear hi)
 (try clear ho0)
 obtain ⟨Ao11, co11, eo11⟩ := Kd.R_slice HO408.out
 (first | subst eo11 | (injection eo11 with f1_ f2_ f3_; have f4_ := f1_.symm; have f5_ := f3_.symm; clear f1_ f2_ f3_; subst f4_; subst f5_))
 obtain ⟨Ao12, co12, eo12⟩ := Kd.R_slice HO405.out
 (first | subst eo12 | (injection eo12 with f1_ f2_ f3_; have f4_ := f1_.symm; have f5_ := f3_.symm; clear f1_ f2_ f3_; subst f4_; subst f5_))
 obtain ⟨Ao13, co13, eo13⟩ := Kd.R_slice HO402.out
 (first | subst eo13 | (injection eo13 with f1_ f2_ f3_; have f4_ := f1_.symm; have f5_ := f3_.symm; clear f1_ f2_ f3_; subst f4_; subst f5_))
 refine hK.out _ _ ⟨bc0 BK398, bc1 BK398, bc2 BK398, bc3 BK398, bc4 BK398⟩ (fun hHeld => ?_)
 clear hK K
 refine norm_ (a' := ?_) ?_ ?_
 rotate_left
 ·show Act.put _ (some 15) _ = _
  simp only [aP]
  rfl
 refine py HT_ 13 16 (bv 15 0x3fff) ?_
 refine one_ (i := 14) (N := none) (bv 15 0x7fff) rfl rfl (one_of HT_.out (by kernel_rfl)) (by decide) (fun K hK => ?_)
 have hs14 : w10.cell? ⟨gb399, 0, none⟩ = some (.int .i64 0) := bc0 BK399
 have hfs14 := blk_frozen BK399.out 0
 have hns14_0 := NB398_399.out
 have hms14_0 := NB399_398.out
 have hs15 : w10.cell? ⟨gb399, 1, none⟩ = some (.int .i64 0) := bc1 BK399
 have hfs15 := blk_frozen BK399.out 1
 have hns15_0 := NB398_399.out
 have hms15_0 := NB399_398.out
 have hs16 : w10.cell? ⟨gb399, 2, none⟩ = some (.slice none 0 0) := bc2 BK399
 have hfs16 := blk_frozen BK399.out 2
 have hns16_0 := NB398_399.out
 have hms16_0 := NB399_398.out
 have hs17 : w10.cell? ⟨gb399, 3, none⟩ = some (.slice none 0 0) := bc3 BK399
 have hfs17 := blk_frozen BK399.out 3
 have hns17_0 := NB398_399.out
 have hms17_0 := NB399_398.out
 have hs18 : w10.cell? ⟨gb399, 4, none⟩ = some (.slice none 0 0) := bc4 BK399
 have hfs18 := blk_frozen BK399.out 4
 have hns18_0 := NB398_399.out
 have hms18_0 := NB399_398.out
 refine skip_ (w1 := ?_) (by rfl) rfl ?_ ?_
 rotate_left
 ·go_simp
  rfl
 refine hK.out _ _ ⟨((cell_far (p := ⟨gb399, _, none⟩) NB398_399.out _).trans (((cell_far (p := ⟨gb399, _, none⟩) NB398_399.out _).trans (((cell_far (p := ⟨gb399, _, none⟩) NB398_399.out _).trans (((cell_far (p := ⟨gb399, _, none⟩) NB398_399.out _).trans (((cell_far (p := ⟨gb399, _, none⟩) NB398_399.out _).trans (hHeld.1)))))))))), ((cell_far (p := ⟨gb399, _, none⟩) NB398_399.out _).trans (((cell_far (p := ⟨gb399, _, none⟩) NB398_399.out _).trans (((cell_far (p := ⟨gb399, _, none⟩) NB398_399.out _).trans (((cell_far (p := ⟨gb399, _, none⟩) NB398_399.out _).trans (((cell_far (p := ⟨gb399, _, none⟩) NB398_399.out _).trans (hHeld.2.1)))))))))), ((cell_far (p := ⟨gb399, _, none⟩) NB398_399.out _).trans (((cell_far (p := ⟨gb399, _, none⟩) NB398_399.out _).trans (((cell_far (p := ⟨gb399, _, none⟩) NB398_399.out _).trans (((cell_far (p := ⟨gb399, _, none⟩) NB398_399.out _).trans (((cell_far (p := ⟨gb399, _, none⟩) NB398_399.out _).trans (hHeld.2.2.1)))))))))), ((cell_far (p := ⟨gb399, _, none⟩) NB398_399.out _).trans (((cell_far (p := ⟨gb399, _, none⟩) NB398_399.out _).trans (((cell_far (p := ⟨gb399, _, none⟩) NB398_399.out _).trans (((cell_far (p := ⟨gb399, _, none⟩) NB398_399.out _).trans (((cell_far (p := ⟨gb399, _, none⟩) NB398_399.out _).trans (hHeld.2.2.2.1)))))))))), ((cell_far (p := ⟨gb399, _, none⟩) NB398_399.out _).trans (((cell_far (p := ⟨gb399, _, none⟩) NB398_399.out _).trans (((cell_far (p := ⟨gb399, _, none⟩) NB398_399.out _).trans (((cell_far (p := ⟨gb399, _, none⟩) NB398_399.out _).trans (((cell_far (p := ⟨gb399, _, none⟩) NB398_399.out _).trans (hHeld.2.2.2.2))))))))))⟩ (fun hHeld => ?_)
 clear hK K
 refine done_ (done_of HT_.out (by kernel_rfl)) ?_
 try go_wp2
 refine bodyPost_ret (results_cell_row rfl _ _ gb399 30 #[.int .i64 a0_0, .int .i64 a0_1, .slice Ao13 t400.length co13, .slice Ao12 t403.length co12, .slice Ao11 t406.length co11] (0, 0) _ rfl (bp BK399) Try.underlying30 rfl (by kernel_rfl)) rfl ?_
 exact ⟨_, _, _, er, by (with_reducible repeat (first | apply Kd.R_alloc | apply Kd.R_drewN | apply Kd.R_drew)); exact Kd.R_mono (Kd.R_far (p := ⟨gb399, 4, none⟩) (Kd.R_far (p := ⟨gb399, 3, none⟩) (Kd.R_far (p := ⟨gb399, 2, none⟩) (Kd.R_far (p := ⟨gb399, 1, none⟩) (Kd.R_far (p := ⟨gb399, 0, none⟩) (Kd.R_types HO402.out BK399.out (by decide)) (fun _ hk => hk.2) (.int .i64 a0_0)) (fun _ hk => hk.2) (.int .i64 a0_1)) (fun _ hk => hk.2) (.slice Ao13 t400.length co13)) (fun _ hk => hk.2) (.slice Ao12 t403.length co12)) (fun _ hk => hk.2) (.slice Ao11 t406.length co11)) (fun _ hk => hk.1.2), by (with_reducible repeat (first | apply Kd.R_alloc | apply Kd.R_drewN | apply Kd.R_drew)); exact Kd.R_mono (Kd.R_far (p := ⟨gb399, 4, none⟩) (Kd.R_far (p := ⟨gb399, 3, none⟩) (Kd.R_far (p := ⟨gb399, 2, none⟩) (Kd.R_far (p := ⟨gb399, 1, none⟩) (Kd.R_far (p := ⟨gb399, 0, none⟩) (Kd.R_types HO405.out BK399.out (by decide)) (fun _ hk => hk.2) (.int .i64 a0_0)) (fun _ hk => hk.2) (.int .i64 a0_1)) (fun _ hk => hk.2) (.slice Ao13 t400.length co13)) (fun _ hk => hk.2) (.slice Ao12 t403.length co12)) (fun _ hk => hk.2) (.slice Ao11 t406.length co11)) (fun _ hk => hk.1.2), by (with_reducible repeat (first | apply Kd.R_alloc | apply Kd.R_drewN | apply Kd.R_drew)); exact Kd.R_mono (Kd.R_far (p := ⟨gb399, 4, none⟩) (Kd.R_far (p := ⟨gb399, 3, none⟩) (Kd.R_far (p := ⟨gb399, 2, none⟩) (Kd.R_far (p := ⟨gb399, 1, none⟩) (Kd.R_far (p := ⟨gb399, 0, none⟩) (Kd.R_types HO408.out BK399.out (by decide)) (fun _ hk => hk.2) (.int .i64 a0_0)) (fun _ hk => hk.2) (.int .i64 a0_1)) (fun _ hk => hk.2) (.slice Ao13 t400.length co13)) (fun _ hk => hk.2) (.slice Ao12 t403.length co12)) (fun _ hk => hk.2) (.slice Ao11 t406.length co11)) (fun _ hk => trivial), be2 HB GE398 GE399⟩

/-! ### impl_Three_evictMain: function 85 -/
def impl_Three_evictMain.l0 : Nat → Int → Int → List (S68) → List (S68) → List Int → Option (ByteArray × Bool × Int × Int × (List (S68)) × (List (S68)) × List Int)
 | 0, _, _, _, _, _ => none
 | k + 1, x410000, x410001, x410002, x410003, x410004 => if (x410003.length : Int) > 0 then (if 0 < (x410003.length : Int) then (if 1 ≤ (x410003.length : Int) then ((some (x410003.drop (1 : Int).toNat : List (S68))).bind fun y412 => (if ((rd_T68 x410003 0).f2) = 0 then (some ((rd_T68 x410003 0).f0, true, x410000, x410001, x410002, y412, x410004)) else (if y412.length < 3518437208883 then (impl_Three_evictMain.l0 k x410000 x410001 x410002 (y412 ++ [(⟨(rd_T68 x410003 0).f0, (rd_T68 x410003 0).f1, wrap64 (((rd_T68 x410003 0).f2) - 1)⟩ : S68)]) x410004) else (none)))) else (none)) else (none)) else (some ((⟨#[]⟩ : ByteArray), false, x410000, x410001, x410002, x410003, x410004))
def impl_Three_evictMain.f (k : Nat) (a0_0 : Int) (a0_1 : Int) (l0_2 : List (S68)) (l0_3 : List (S68)) (l0_4 : List Int) : Option (ByteArray × Bool × Int × Int × (List (S68)) × (List (S68)) × List Int) := impl_Three_evictMain.l0 k a0_0 a0_1 l0_2 l0_3 l0_4
theorem impl_Three_evictMain.mono_l : ∀ k, (∀ y0 y1 y2 y3 y4, LeO (impl_Three_evictMain.l0 k y0 y1 y2 y3 y4) (impl_Three_evictMain.l0 (k + 1) y0 y1 y2 y3 y4))
 | 0 => fun _ _ _ _ _ r h => by simp [impl_Three_evictMain.l0] at h
 | k + 1 => by
  have ih0 := impl_Three_evictMain.mono_l k
  ·intro y0 y1 y2 y3 y4
   unfold impl_Three_evictMain.l0
   repeat' first
   | (with_reducible exact ih0 _ _ _ _ _)
   | (with_reducible exact LeO.refl _)
   | (with_reducible exact LeO.none _)
   | (with_reducible refine LeO.ite ?_ ?_)
   | (with_reducible refine LeO.bind ?_ (fun _ => ?_))
   | exact ih0 _ _ _ _ _
   | exact LeO.none _
   | refine LeO.ite ?_ ?_
   | refine LeO.bind ?_ (fun _ => ?_)
theorem impl_Three_evictMain.mono : ∀ a0 a1 a2 a3 a4 k, LeO (impl_Three_evictMain.f k a0 a1 a2 a3 a4) (impl_Three_evictMain.f (k + 1) a0 a1 a2 a3 a4) := by
 intro a0 a1 a2 a3 a4 k
 have ih0 := impl_Three_evictMain.mono_l k
 unfold impl_Three_evictMain.f
 repeat' first
   | (with_reducible exact ih0 _ _ _ _ _)
   | (with_reducible exact LeO.refl _)
   | (with_reducible exact LeO.none _)
   | (with_reducible refine LeO.ite ?_ ?_)
   | (with_reducible refine LeO.bind ?_ (fun _ => ?_))
   | exact ih0 _ _ _ _ _
   | exact LeO.none _
   | refine LeO.ite ?_ ?_
   | refine LeO.bind ?_ (fun _ => ?_)
def impl_Three_evictMain.T7 : Bool × List (List Nat × List Nat) := (true, [([], []), ([], []), ([1], [1]), ([2], [2]), ([3], [3]), ([], []), ([5], [5]), ([4, 6], [4, 6]), ([0, 0, 1, 2, 3, 4, 5, 6, 7], [0]), ([8, 0, 1, 2, 3, 4, 5, 6, 7], [8]), ([9, 7, 7, 0, 1, 2, 3, 4, 5, 6, 7], [7, 9])])
def impl_Three_evictMain.B7 : List Nat := [0, 0, 2, 6, 14, 0, 32, 126, 255, 511, 1023]
theorem impl_Three_evictMain.tab7 : rtab .any (opsOf Try.f85 7) = impl_Three_evictMain.T7 := by kernel_rfl
theorem impl_Three_evictMain.bits7 : waitsOk impl_Three_evictMain.T7.2 impl_Three_evictMain.B7 = true := by kernel_rfl
set_option maxHeartbeats 8000000 in
set_option maxRecDepth 100000 in
theorem impl_Three_evictMain.calls (k : Nat) (a0_0 : Int) (a0_1 : Int) (P0_2_ : Nat → Prop) (u9000_ : Value) (l0_2 : List (S68)) (P0_3_ : Nat → Prop) (u9001_ : Value) (l0_3 : List (S68)) (P0_4_ : Nat → Prop) (u9002_ : Value) (l0_4 : List Int) (gb409 : Nat) (r1 : ByteArray) (r2 : Bool) (r3 : Int) (r4 : Int) (r5 : List (S68)) (r6 : List (S68)) (r7 : List Int) (w0 w : World) (hP : w.heap[gb409]? = some (.cells #[.int .i64 a0_0, .int .i64 a0_1, u9000_, u9001_, u9002_] 30 (0, 0))) (hW : w0.heap.size ≤ gb409) (hB : Below w0.heap.size w0 w) (ho0_2 : Kd.Q k68 68 w w0.heap.size P0_2_ u9000_ l0_2) (hp0_2_0_3 : ∀ k_, P0_2_ k_ → ¬ P0_3_ k_) (ho0_3 : Kd.Q k68 68 w w0.heap.size P0_3_ u9001_ l0_3) (hp0_3_0_2 : ∀ k_, P0_3_ k_ → ¬ P0_2_ k_) (ho0_4 : Kd.Q (Kd.int .i64) 3 w w0.heap.size P0_4_ u9002_ l0_4) (h : impl_Three_evictMain.f k a0_0 a0_1 l0_2 l0_3 l0_4 = some (r1, r2, r3, r4, r5, r6, r7)) :
  Calls Try.prog 85 #[.pointer (some ⟨gb409, 0, none⟩)] w fun e w' => ∃ v4_ v5_ v6_ : Value, e = .returned (.tuple #[.string r1, .bool r2]) ∧ w'.heap[gb409]? = some (.cells #[.int .i64 r3, .int .i64 r4, v4_, v5_, v6_] 30 (0, 0)) ∧ Kd.Q k68 68 w' w0.heap.size (fun k_ => ((P0_2_ k_ ∨ P0_3_ k_ ∨ P0_4_ k_) ∨ w.heap.size ≤ k_) ∧ some k_ ≠ (v5_ : Value).ownBlock) v4_ r5 ∧ Kd.Q k68 68 w' w0.heap.size (fun k_ => ((P0_2_ k_ ∨ P0_3_ k_ ∨ P0_4_ k_) ∨ w.heap.size ≤ k_) ∧ some k_ ≠ (v4_ : Value).ownBlock) v5_ r6 ∧ Kd.Q (Kd.int .i64) 3 w' w0.heap.size (fun k_ => ((P0_2_ k_ ∨ P0_3_ k_ ∨ P0_4_ k_) ∨ w.heap.size ≤ k_)) v6_ r7 ∧ Below w0.heap.size w0 w' ∧ Kept w w' (fun k_ => (P0_2_ k_ ∨ P0_3_ k_ ∨ P0_4_ k_) ∨ k_ = gb409) := by
 have hu30 := Try.underlying30
 have hu68 := Try.underlying68
 have HO0_2 := Aside0.mk (show Kd.Q k68 68 w w0.heap.size (fun k_ => ((P0_2_ k_ ∨ P0_3_ k_ ∨ P0_4_ k_) ∨ w.heap.size ≤ k_) ∧ some k_ ≠ (u9001_ : Value).ownBlock) u9000_ l0_2 from Kd.Q_mono ho0_2 (fun k_ hk => ⟨(.inl (.inl hk)), fun e_ => hp0_2_0_3 k_ hk (ho0_3.1 k_ e_.symm)⟩))
 have HO0_3 := Aside0.mk (show Kd.Q k68 68 w w0.heap.size (fun k_ => ((P0_2_ k_ ∨ P0_3_ k_ ∨ P0_4_ k_) ∨ w.heap.size ≤ k_) ∧ some k_ ≠ (u9000_ : Value).ownBlock) u9001_ l0_3 from Kd.Q_mono ho0_3 (fun k_ hk => ⟨(.inl (.inr (.inl hk))), fun e_ => hp0_3_0_2 k_ hk (ho0_2.1 k_ e_.symm)⟩))
 have HO0_4 := Aside0.mk (show Kd.Q (Kd.int .i64) 3 w w0.heap.size (fun k_ => ((P0_2_ k_ ∨ P0_3_ k_ ∨ P0_4_ k_) ∨ w.heap.size ≤ k_)) u9002_ l0_4 from Kd.Q_mono ho0_4 (fun k_ hk => (.inl (.inr (.inr hk)))))
 have HK := Aside0.mk (Kept.refl w (fun k_ => (P0_2_ k_ ∨ P0_3_ k_ ∨ P0_4_ k_) ∨ k_ = gb409))
 have HW0 := Aside0.mk hB.size
 have HB := Aside0.mk hB
 clear hB
 have BK409 := Aside0.mk hP
 have GE409 := Aside0.mk hW
 clear hP hW
 have H : (impl_Three_evictMain.l0 k a0_0 a0_1 l0_2 l0_3 l0_4) = some (r1, r2, r3, r4, r5, r6, r7) := h
 clear h
 have H' := Aside0.mk H
 clear H
 obtain ⟨Ao2, co2, eo2, _⟩ := Kd.Q_slice HO0_2.out
 subst eo2
 obtain ⟨Ao3, co3, eo3, _⟩ := Kd.Q_slice HO0_3.out
 subst eo3
 obtain ⟨Ao4, co4, eo4, _⟩ := Kd.Q_slice HO0_4.out
 subst eo4
 go_enter Try.func85, Try.ntmps85
 go_wp2
 go_loopg [] k (fun kq w' => ∃ (x410003_1 : List (S68)) (u410003 : Value), Aside0 (impl_Three_evictMain.l0 kq a0_0 a0_1 l0_2 x410003_1 l0_4 = some (r1, r2, r3, r4, r5, r6, r7)) ∧ Aside0 (kq ≤ k) ∧ Aside0 (Kd.Q k68 68 w' w0.heap.size (fun k_ => ((P0_2_ k_ ∨ P0_3_ k_ ∨ P0_4_ k_) ∨ w.heap.size ≤ k_) ∧ some k_ ≠ (u410003 : Value).ownBlock) (.slice Ao2 l0_2.length co2) l0_2) ∧ Aside0 (Kd.Q k68 68 w' w0.heap.size (fun k_ => ((P0_2_ k_ ∨ P0_3_ k_ ∨ P0_4_ k_) ∨ w.heap.size ≤ k_) ∧ nb k_ Ao2 l0_2.length co2) u410003 x410003_1) ∧ Aside0 (Kd.Q (Kd.int .i64) 3 w' w0.heap.size (fun k_ => ((P0_2_ k_ ∨ P0_3_ k_ ∨ P0_4_ k_) ∨ w.heap.size ≤ k_)) (.slice Ao4 l0_4.length co4) l0_4) ∧ Aside0 (w'.heap[gb409]? = some (.cells #[.int .i64 a0_0, .int .i64 a0_1, (.slice Ao2 l0_2.length co2), u410003, (.slice Ao4 l0_4.length co4)] 30 (0, 0))) ∧ Aside0 (Kept w w' (fun k_ => (P0_2_ k_ ∨ P0_3_ k_ ∨ P0_4_ k_) ∨ k_ = gb409)) ∧ Aside0 (Below w0.heap.size w0 w'))
 case atStart => exact ⟨(l0_3), (.slice Ao3 l0_3.length co3), H', ⟨Nat.le_refl _⟩, ⟨(qo HO0_2)⟩, ⟨(qo HO0_3)⟩, ⟨(qo HO0_4)⟩, ⟨bk BK409⟩, ⟨(kr HK)⟩, ⟨be1 HB GE409⟩⟩
 case round =>
  clear H'
  try clear p2
  obtain ⟨x410003_1, u410003, HA, HK1, HO_410002, HO_410003, HO_410004, BK409, HK, HB⟩ := hrel
  cases gk with
  | zero => exact absurd HA.out (by simp [impl_Three_evictMain.l0])
  | succ k1 =>
   have H := HA.out
   clear HA
   simp only [impl_Three_evictMain.l0] at H
   by_cases c6 : (x410003_1.length : Int) > 0
   ·rw [if_pos c6] at H
    have c6b0 : decide (0 < (x410003_1.length : Int)) = true := decide_eq_true c6
    have c6b1 : decide (0 < x410003_1.length) = true := decide_eq_true (by omega)
    clear c6
    by_cases c7 : 0 < (x410003_1.length : Int)
    ·rw [if_pos c7] at H
     have c7b0 : decide (0 < (x410003_1.length : Int)) = true := decide_eq_true c7
     have c7b1 : decide (0 < x410003_1.length) = true := decide_eq_true (by omega)
     clear c7
     by_cases c8 : 1 ≤ (x410003_1.length : Int)
     ·rw [if_pos c8] at H
      have c8b0 := eq_true c8
      have c8b1 : decide (1 ≤ (x410003_1.length : Int)) = true := decide_eq_true c8
      clear c8
      obtain ⟨y412, hy412⟩ : ∃ y_ : List (S68), y_ = (x410003_1.drop (1 : Int).toNat) := ⟨_, rfl⟩
      replace H : (if ((rd_T68 x410003_1 0).f2) = 0 then (some ((rd_T68 x410003_1 0).f0, true, a0_0, a0_1, l0_2, y412, l0_4)) else (if y412.length < 3518437208883 then (impl_Three_evictMain.l0 k1 a0_0 a0_1 l0_2 (y412 ++ [(⟨(rd_T68 x410003_1 0).f0, (rd_T68 x410003_1 0).f1, wrap64 (((rd_T68 x410003_1 0).f2) - 1)⟩ : S68)]) l0_4) else (none))) = some (r1, r2, r3, r4, r5, r6, r7) := by first | (rw [hy412]; with_reducible exact H) | (have H2_ := (Option.bind_some _ _).symm.trans H; rw [hy412]; with_reducible exact H2_) | (have H2_ := (Option.bind_some _ _).symm.trans H; with_reducible exact H2_) | with_reducible exact H | (rw [hy412]; exact H) | exact H
      have Ny412 := Aside0.mk hy412
      clear hy412
      by_cases c9 : ((rd_T68 x410003_1 0).f2) = 0
      ·rw [if_pos c9] at H
       have c9b0 : (((rd_T68 x410003_1 0).f2) == 0) = true := beq_iff_eq.mpr c9
       have c9b1 : (((rd_T68 x410003_1 0).f2) != 0) = false := bne_eq_false_iff_eq.mpr c9
       clear c9
       simp only [Option.some.injEq, Prod.mk.injEq] at H
       obtain ⟨rfl, rfl, rfl, rfl, rfl, rfl, rfl⟩ := H
       have hcz10_0 := bz5 BK409
       obtain ⟨Ao11, co11, eo11, _⟩ := Kd.Q_slice HO_410003.out
       subst eo11
       have p410 : 0 ≤ (0 : Int) := (by omega)
       have q410 : 0 < (x410003_1.length : Int) := od
       obtain ⟨ad410, e410, hx410_0, hx410_1, hx410_2⟩ := at_T68 (Kd.Q_reads' HO_410003.out).2.2 0 p410 q410
       cases e410
       have qi410 : (0 < x410003_1.length) = True := eq_true (by omega)
       (try rw [show ((0 : Int)).toNat = 0 from rfl] at hx410_0)
       (try rw [show 0 * 3 = 0 from rfl] at hx410_0)
       (try rw [Addr.add_zero'] at hx410_0)
       (try rw [show ((0 : Int)).toNat = 0 from rfl] at hx410_1)
       (try rw [show 0 * 3 = 0 from rfl] at hx410_1)
       (try rw [Addr.add_zero'] at hx410_1)
       (try rw [show ((0 : Int)).toNat = 0 from rfl] at hx410_2)
       (try rw [show 0 * 3 = 0 from rfl] at hx410_2)
       (try rw [Addr.add_zero'] at hx410_2)
       replace p410 := eq_true p410
       replace q410 := eq_true q410
       go_wp2_with (first | ((with_reducible refine gate_dst (N := 4) rfl ?_); refine bx 4 #[.string (⟨#[]⟩ : ByteArray), .string (⟨#[]⟩ : ByteArray), .int .i64 0] 68 ?_; intro gb411 hg w12 hbox hb; replace HO_410002 := Aside0.mk (Kd.Q_below (Kd.Q_elderB (qo HO_410002) gb411 (Nat.le_of_eq hg.symm)) hb); replace HO_410003 := Aside0.mk (Kd.Q_below (Kd.Q_elderB (qo HO_410003) gb411 (Nat.le_of_eq hg.symm)) hb); replace HO_410004 := Aside0.mk (Kd.Q_below (qo HO_410004) hb); have BK411 := am hbox; have GW411 := Aside0.mk ((by rw [hg]; exact (by first | exact HK.out.1 | exact (show Kept w _ (fun k_ => (P0_2_ k_ ∨ P0_3_ k_ ∨ P0_4_ k_) ∨ k_ = gb409) from (kr HK)).1) : w.heap.size ≤ gb411)); replace HK := Aside0.mk (Kept.below (w := w) (S := (fun k_ => (P0_2_ k_ ∨ P0_3_ k_ ∨ P0_4_ k_) ∨ k_ = gb409)) (kr HK) hb); have GE411 := Aside0.mk ((by rw [hg]; exact (below_size (be1 HB GE409)) : w0.heap.size ≤ gb411)); replace HB := Aside0.mk (below_step (be1 HB GE409) hb); have NB409_411 := nl hg BK409; have NB411_409 := ng hg BK409; replace BK409 := bb BK409 hb; clear hb hbox hg; have hnb13 := NB411_409.out; have hnc13 := NB409_411.out; have hcz14_0 := bz3 BK411) | ((with_reducible refine gate_store (t := 68) (p := 4) rfl ?_); refine store_event (t := 68) (p := 4) (v := ?vo_w15) (w1 := (((w12.setCell ⟨gb411, 0, none⟩ (.string ((rd_T68 x410003_1 0).f0))).setCell ⟨gb411, 1, none⟩ (.string ((rd_T68 x410003_1 0).f1))).setCell ⟨gb411, 2, none⟩ (.int .i64 ((rd_T68 x410003_1 0).f2)))) ?hg ?ho ?hn ?hr ?_; (case ho => rfl); (case hg => rfl); (case hn => rfl); (case hr => first | (go_simp; done) | (go_simp; rfl)); intro w15 hw; have n0_ : Aside0 (Kd.Q k68 68 w15 w0.heap.size (fun k_ => ((P0_2_ k_ ∨ P0_3_ k_ ∨ P0_4_ k_) ∨ w.heap.size ≤ k_) ∧ some k_ ≠ (.slice (some ad410) x410003_1.length co11 : Value).ownBlock ∧ k_ ≠ gb411) (.slice Ao2 l0_2.length co2) l0_2) := ⟨(by rw [hw]; exact (qg gb411 HO_410002))⟩; have n1_ : Aside0 (Kd.Q k68 68 w15 w0.heap.size (fun k_ => ((P0_2_ k_ ∨ P0_3_ k_ ∨ P0_4_ k_) ∨ w.heap.size ≤ k_) ∧ nb k_ Ao2 l0_2.length co2 ∧ k_ ≠ gb411) (.slice (some ad410) x410003_1.length co11) x410003_1) := ⟨(by rw [hw]; exact (qg gb411 HO_410003))⟩; have n2_ : Aside0 (Kd.Q (Kd.int .i64) 3 w15 w0.heap.size (fun k_ => ((P0_2_ k_ ∨ P0_3_ k_ ∨ P0_4_ k_) ∨ w.heap.size ≤ k_)) (.slice Ao4 l0_4.length co4) l0_4) := ⟨(by rw [hw]; exact (qf HO_410004 BK411))⟩; have n3_ : Aside0 (w15.heap[gb409]? = some (.cells #[.int .i64 a0_0, .int .i64 a0_1, .slice Ao2 l0_2.length co2, .slice (some ad410) x410003_1.length co11, .slice Ao4 l0_4.length co4] 30 (0, 0))) := ⟨(by rw [hw]; exact (bf1 BK409 NB409_411))⟩; have n4_ : Aside0 (w15.heap[gb411]? = some (.cells #[.string ((rd_T68 x410003_1 0).f0), .string ((rd_T68 x410003_1 0).f1), .int .i64 ((rd_T68 x410003_1 0).f2)] 68 (0, 0))) := ⟨(by rw [hw]; exact (bp BK411))⟩; have n5_ : Aside0 (Kept w w15 (fun k_ => (P0_2_ k_ ∨ P0_3_ k_ ∨ P0_4_ k_) ∨ k_ = gb409)) := ⟨(by rw [hw]; exact (kr1 HK GW411))⟩; have n6_ : Aside0 (Below w0.heap.size w0 w15) := ⟨(by rw [hw]; exact (be2 HB GE409 GE411))⟩; clear hw; clear HO_410002; clear HO_410003; clear HO_410004; clear BK409; clear BK411; clear HK; clear HB; have HO_410002 := n0_; have HO_410003 := n1_; have HO_410004 := n2_; have BK409 := n3_; have BK411 := n4_; have HK := n5_; have HB := n6_; clear n0_ n1_ n2_ n3_ n4_ n5_ n6_; have hcz16_0 := bz5 BK409; have q17 : (1 : Int) ≤ ((x410003_1.length : Int) : Int) := od; obtain ⟨i017, hi017, _, hsz17, _⟩ := info_parts info68; have hcut17 := cut_from (P := Try.prog) 28 68 .i64 Try.underlying28 hi017 3 hsz17 (some ad410) x410003_1.length co11 1 (by omega) q17; have hr17 := Kd.Q_drop (k := (1 : Int).toNat) HO_410003.out (by omega); obtain ⟨A17, hA17⟩ : ∃ A1, A1 = (if co11 = (1 : Int).toNat then (some ad410) else ((some ad410) : Option Addr).map (·.add ((1 : Int).toNat * 3))) := ⟨_, rfl⟩; obtain ⟨c17, hc17⟩ : ∃ c1, c1 = co11 - (1 : Int).toNat := ⟨_, rfl⟩; have hy17 : y412.length = x410003_1.length - (1 : Int).toNat := (by rw [Ny412.out, List.length_drop]); rw [← Ny412.out] at hr17; rw [← hy17, ← hA17, ← hc17] at hcut17; replace hr17 : Kd.Q k68 68 w15 w0.heap.size (fun k_ => ((P0_2_ k_ ∨ P0_3_ k_ ∨ P0_4_ k_) ∨ w.heap.size ≤ k_) ∧ nb k_ Ao2 l0_2.length co2 ∧ k_ ≠ gb411) (.slice A17 y412.length c17) y412 := (by rw [hA17, hc17, hy17]; exact hr17); have HE17 : Aside0 ((Value.slice A17 y412.length c17).ownBlock = (.slice (some ad410) x410003_1.length co11 : Value).ownBlock) := ⟨by rw [hA17]; split <;> (cases ((some ad410) : Option Addr) <;> rfl)⟩; clear hy17 hi017 hsz17 HO_410003 hA17 hc17; have HO414 := Aside0.mk hr17; clear hr17; replace q17 := eq_true q17; have n_ := Aside0.mk (Kd.Q_mono (ok' := fun k_ => ((((P0_2_ k_ ∨ P0_3_ k_ ∨ P0_4_ k_) ∨ w.heap.size ≤ k_)) ∧ (nb k_ A17 y412.length c17 ∧ k_ ≠ gb411))) HO_410002.out (fun k_ hk => ⟨hk.1, ⟨(fun e_ => hk.2.1 (e_.trans HE17.out)), hk.2.2⟩⟩)); clear HO_410002; have HO_410002 := n_; clear n_; have hcz18_0 := bz3 BK411))
       go_ret2
       exact ⟨_, _, _, er, (bp BK409), by (with_reducible repeat (first | apply Kd.Q_alloc | apply Kd.Q_drewN | apply Kd.Q_drew)); exact Kd.Q_mono (Kd.Q_far (p := ⟨gb409, 3, none⟩) (Kd.Q_types HO_410002.out BK409.out (by decide)) (fun _ hk => hk.2) (.slice A17 y412.length c17)) (fun _ hk => ⟨hk.1.1, hk.1.2.1⟩), by (with_reducible repeat (first | apply Kd.Q_alloc | apply Kd.Q_drewN | apply Kd.Q_drew)); exact Kd.Q_mono (Kd.Q_far (p := ⟨gb409, 3, none⟩) (Kd.Q_types HO414.out BK409.out (by decide)) (fun _ hk => hk.2) (.slice A17 y412.length c17)) (fun _ hk => ⟨hk.1.1, hk.1.2.1⟩), (qf HO_410004 BK409), be2 HB GE409 GE411, (kr1 HK GW411)⟩
      rw [if_neg c9] at H
      have c9b0 : (((rd_T68 x410003_1 0).f2) == 0) = false := beq_eq_false_iff_ne.mpr c9
      have c9b1 : (((rd_T68 x410003_1 0).f2) != 0) = true := bne_iff_ne.mpr c9
      by_cases c19 : y412.length < 3518437208883
      ·rw [if_pos c19] at H
       have LMc19 := Aside0.mk c19
       clear c19
       obtain ⟨y415, hy415⟩ : ∃ y_ : List (S68), y_ = (y412 ++ [(⟨(rd_T68 x410003_1 0).f0, (rd_T68 x410003_1 0).f1, wrap64 (((rd_T68 x410003_1 0).f2) - 1)⟩ : S68)]) := ⟨_, rfl⟩
       replace H : (impl_Three_evictMain.l0 k1 a0_0 a0_1 l0_2 y415 l0_4) = some (r1, r2, r3, r4, r5, r6, r7) := by first | (rw [hy415]; with_reducible exact H) | (have H2_ := (Option.bind_some _ _).symm.trans H; rw [hy415]; with_reducible exact H2_) | (have H2_ := (Option.bind_some _ _).symm.trans H; with_reducible exact H2_) | with_reducible exact H | (rw [hy415]; exact H) | exact H
       have Ny415 := Aside0.mk hy415
       clear hy415
       have H' := Aside0.mk H
       clear H
       have hcz20_0 := bz5 BK409
       obtain ⟨Ao21, co21, eo21, _⟩ := Kd.Q_slice HO_410003.out
       subst eo21
       have p410 : 0 ≤ (0 : Int) := (by omega)
       have q410 : 0 < (x410003_1.length : Int) := od
       obtain ⟨ad410, e410, hx410_0, hx410_1, hx410_2⟩ := at_T68 (Kd.Q_reads' HO_410003.out).2.2 0 p410 q410
       cases e410
       have qi410 : (0 < x410003_1.length) = True := eq_true (by omega)
       (try rw [show ((0 : Int)).toNat = 0 from rfl] at hx410_0)
       (try rw [show 0 * 3 = 0 from rfl] at hx410_0)
       (try rw [Addr.add_zero'] at hx410_0)
       (try rw [show ((0 : Int)).toNat = 0 from rfl] at hx410_1)
       (try rw [show 0 * 3 = 0 from rfl] at hx410_1)
       (try rw [Addr.add_zero'] at hx410_1)
       (try rw [show ((0 : Int)).toNat = 0 from rfl] at hx410_2)
       (try rw [show 0 * 3 = 0 from rfl] at hx410_2)
       (try rw [Addr.add_zero'] at hx410_2)
       replace p410 := eq_true p410
       replace q410 := eq_true q410
       try go_wp2_with (first | ((with_reducible refine gate_dst (N := 4) rfl ?_); refine bx 4 #[.string (⟨#[]⟩ : ByteArray), .string (⟨#[]⟩ : ByteArray), .int .i64 0] 68 ?_; intro gb411 hg w22 hbox hb; replace HO_410002 := Aside0.mk (Kd.Q_below (Kd.Q_elderB (qo HO_410002) gb411 (Nat.le_of_eq hg.symm)) hb); replace HO_410003 := Aside0.mk (Kd.Q_below (Kd.Q_elderB (qo HO_410003) gb411 (Nat.le_of_eq hg.symm)) hb); replace HO_410004 := Aside0.mk (Kd.Q_below (qo HO_410004) hb); have BK411 := am hbox; have GW411 := Aside0.mk ((by rw [hg]; exact (by first | exact HK.out.1 | exact (show Kept w _ (fun k_ => (P0_2_ k_ ∨ P0_3_ k_ ∨ P0_4_ k_) ∨ k_ = gb409) from (kr HK)).1) : w.heap.size ≤ gb411)); replace HK := Aside0.mk (Kept.below (w := w) (S := (fun k_ => (P0_2_ k_ ∨ P0_3_ k_ ∨ P0_4_ k_) ∨ k_ = gb409)) (kr HK) hb); have GE411 := Aside0.mk ((by rw [hg]; exact (below_size (be1 HB GE409)) : w0.heap.size ≤ gb411)); replace HB := Aside0.mk (below_step (be1 HB GE409) hb); have NB409_411 := nl hg BK409; have NB411_409 := ng hg BK409; replace BK409 := bb BK409 hb; clear hb hbox hg; have hnb23 := NB411_409.out; have hnc23 := NB409_411.out; have hcz24_0 := bz3 BK411) | ((with_reducible refine gate_store (t := 68) (p := 4) rfl ?_); refine store_event (t := 68) (p := 4) (v := ?vo_w25) (w1 := (((w22.setCell ⟨gb411, 0, none⟩ (.string ((rd_T68 x410003_1 0).f0))).setCell ⟨gb411, 1, none⟩ (.string ((rd_T68 x410003_1 0).f1))).setCell ⟨gb411, 2, none⟩ (.int .i64 ((rd_T68 x410003_1 0).f2)))) ?hg ?ho ?hn ?hr ?_; (case ho => rfl); (case hg => rfl); (case hn => rfl); (case hr => first | (go_simp; done) | (go_simp; rfl)); intro w25 hw; have n0_ : Aside0 (Kd.Q k68 68 w25 w0.heap.size (fun k_ => ((P0_2_ k_ ∨ P0_3_ k_ ∨ P0_4_ k_) ∨ w.heap.size ≤ k_) ∧ some k_ ≠ (.slice (some ad410) x410003_1.length co21 : Value).ownBlock ∧ k_ ≠ gb411) (.slice Ao2 l0_2.length co2) l0_2) := ⟨(by rw [hw]; exact (qg gb411 HO_410002))⟩; have n1_ : Aside0 (Kd.Q k68 68 w25 w0.heap.size (fun k_ => ((P0_2_ k_ ∨ P0_3_ k_ ∨ P0_4_ k_) ∨ w.heap.size ≤ k_) ∧ nb k_ Ao2 l0_2.length co2 ∧ k_ ≠ gb411) (.slice (some ad410) x410003_1.length co21) x410003_1) := ⟨(by rw [hw]; exact (qg gb411 HO_410003))⟩; have n2_ : Aside0 (Kd.Q (Kd.int .i64) 3 w25 w0.heap.size (fun k_ => ((P0_2_ k_ ∨ P0_3_ k_ ∨ P0_4_ k_) ∨ w.heap.size ≤ k_)) (.slice Ao4 l0_4.length co4) l0_4) := ⟨(by rw [hw]; exact (qf HO_410004 BK411))⟩; have n3_ : Aside0 (w25.heap[gb409]? = some (.cells #[.int .i64 a0_0, .int .i64 a0_1, .slice Ao2 l0_2.length co2, .slice (some ad410) x410003_1.length co21, .slice Ao4 l0_4.length co4] 30 (0, 0))) := ⟨(by rw [hw]; exact (bf1 BK409 NB409_411))⟩; have n4_ : Aside0 (w25.heap[gb411]? = some (.cells #[.string ((rd_T68 x410003_1 0).f0), .string ((rd_T68 x410003_1 0).f1), .int .i64 ((rd_T68 x410003_1 0).f2)] 68 (0, 0))) := ⟨(by rw [hw]; exact (bp BK411))⟩; have n5_ : Aside0 (Kept w w25 (fun k_ => (P0_2_ k_ ∨ P0_3_ k_ ∨ P0_4_ k_) ∨ k_ = gb409)) := ⟨(by rw [hw]; exact (kr1 HK GW411))⟩; have n6_ : Aside0 (Below w0.heap.size w0 w25) := ⟨(by rw [hw]; exact (be2 HB GE409 GE411))⟩; clear hw; clear HO_410002; clear HO_410003; clear HO_410004; clear BK409; clear BK411; clear HK; clear HB; have HO_410002 := n0_; have HO_410003 := n1_; have HO_410004 := n2_; have BK409 := n3_; have BK411 := n4_; have HK := n5_; have HB := n6_; clear n0_ n1_ n2_ n3_ n4_ n5_ n6_; have hcz26_0 := bz5 BK409; have q27 : (1 : Int) ≤ ((x410003_1.length : Int) : Int) := od; obtain ⟨i027, hi027, _, hsz27, _⟩ := info_parts info68; have hcut27 := cut_from (P := Try.prog) 28 68 .i64 Try.underlying28 hi027 3 hsz27 (some ad410) x410003_1.length co21 1 (by omega) q27; have hr27 := Kd.Q_drop (k := (1 : Int).toNat) HO_410003.out (by omega); obtain ⟨A27, hA27⟩ : ∃ A1, A1 = (if co21 = (1 : Int).toNat then (some ad410) else ((some ad410) : Option Addr).map (·.add ((1 : Int).toNat * 3))) := ⟨_, rfl⟩; obtain ⟨c27, hc27⟩ : ∃ c1, c1 = co21 - (1 : Int).toNat := ⟨_, rfl⟩; have hy27 : y412.length = x410003_1.length - (1 : Int).toNat := (by rw [Ny412.out, List.length_drop]); rw [← Ny412.out] at hr27; rw [← hy27, ← hA27, ← hc27] at hcut27; replace hr27 : Kd.Q k68 68 w25 w0.heap.size (fun k_ => ((P0_2_ k_ ∨ P0_3_ k_ ∨ P0_4_ k_) ∨ w.heap.size ≤ k_) ∧ nb k_ Ao2 l0_2.length co2 ∧ k_ ≠ gb411) (.slice A27 y412.length c27) y412 := (by rw [hA27, hc27, hy27]; exact hr27); have HE27 : Aside0 ((Value.slice A27 y412.length c27).ownBlock = (.slice (some ad410) x410003_1.length co21 : Value).ownBlock) := ⟨by rw [hA27]; split <;> (cases ((some ad410) : Option Addr) <;> rfl)⟩; clear hy27 hi027 hsz27 HO_410003 hA27 hc27; have HO414 := Aside0.mk hr27; clear hr27; replace q27 := eq_true q27; have n_ := Aside0.mk (Kd.Q_mono (ok' := fun k_ => ((((P0_2_ k_ ∨ P0_3_ k_ ∨ P0_4_ k_) ∨ w.heap.size ≤ k_)) ∧ (nb k_ A27 y412.length c27 ∧ k_ ≠ gb411))) HO_410002.out (fun k_ hk => ⟨hk.1, ⟨(fun e_ => hk.2.1 (e_.trans HE27.out)), hk.2.2⟩⟩)); clear HO_410002; have HO_410002 := n_; clear n_; have hcz28_0 := bz3 BK411))
       have n0_ : Aside0 (Kd.Q k68 68 ((w25.setCell ⟨gb409, 3, none⟩ (.slice A27 y412.length c27)).setCell ⟨gb411, 2, none⟩ (.int .i64 (wrap64 (((rd_T68 x410003_1 0).f2) - 1)))) w0.heap.size (fun k_ => ((P0_2_ k_ ∨ P0_3_ k_ ∨ P0_4_ k_) ∨ w.heap.size ≤ k_) ∧ nb k_ A27 y412.length c27 ∧ k_ ≠ gb411) (.slice Ao2 l0_2.length co2) l0_2) := ⟨by (with_reducible repeat (first | apply Kd.Q_alloc | apply Kd.Q_drewN | apply Kd.Q_drew)); exact Kd.Q_mono (Kd.Q_far (p := ⟨gb411, 2, none⟩) (Kd.Q_far (p := ⟨gb409, 3, none⟩) (Kd.Q_mono (Kd.Q_types HO_410002.out BK409.out (by decide)) (fun k_ hk => (⟨hk, hk.1.2.2⟩ : _ ∧ k_ ≠ gb411))) (fun _ hk => hk.1.2) (.slice A27 y412.length c27)) (fun _ hk => hk.2) (.int .i64 (wrap64 (((rd_T68 x410003_1 0).f2) - 1)))) (fun _ hk => ⟨hk.1.1.1, ⟨hk.1.1.2.1, hk.1.1.2.2⟩⟩)⟩
       have n1_ : Aside0 (Kd.Q k68 68 ((w25.setCell ⟨gb409, 3, none⟩ (.slice A27 y412.length c27)).setCell ⟨gb411, 2, none⟩ (.int .i64 (wrap64 (((rd_T68 x410003_1 0).f2) - 1)))) w0.heap.size (fun k_ => ((P0_2_ k_ ∨ P0_3_ k_ ∨ P0_4_ k_) ∨ w.heap.size ≤ k_) ∧ nb k_ Ao2 l0_2.length co2 ∧ k_ ≠ gb411) (.slice A27 y412.length c27) y412) := ⟨by (with_reducible repeat (first | apply Kd.Q_alloc | apply Kd.Q_drewN | apply Kd.Q_drew)); exact Kd.Q_mono (Kd.Q_far (p := ⟨gb411, 2, none⟩) (Kd.Q_far (p := ⟨gb409, 3, none⟩) (Kd.Q_mono (Kd.Q_types HO414.out BK409.out (by decide)) (fun k_ hk => (⟨hk, hk.1.2.2⟩ : _ ∧ k_ ≠ gb411))) (fun _ hk => hk.1.2) (.slice A27 y412.length c27)) (fun _ hk => hk.2) (.int .i64 (wrap64 (((rd_T68 x410003_1 0).f2) - 1)))) (fun _ hk => ⟨hk.1.1.1, ⟨hk.1.1.2.1, hk.1.1.2.2⟩⟩)⟩
       have n2_ : Aside0 (Kd.Q (Kd.int .i64) 3 ((w25.setCell ⟨gb409, 3, none⟩ (.slice A27 y412.length c27)).setCell ⟨gb411, 2, none⟩ (.int .i64 (wrap64 (((rd_T68 x410003_1 0).f2) - 1)))) w0.heap.size (fun k_ => ((P0_2_ k_ ∨ P0_3_ k_ ∨ P0_4_ k_) ∨ w.heap.size ≤ k_)) (.slice Ao4 l0_4.length co4) l0_4) := ⟨by (with_reducible repeat (first | apply Kd.Q_alloc | apply Kd.Q_drewN | apply Kd.Q_drew)); exact Kd.Q_mono (Kd.Q_far (p := ⟨gb411, 2, none⟩) (Kd.Q_far (p := ⟨gb409, 3, none⟩) (Kd.Q_types (Kd.Q_types HO_410004.out BK409.out (by decide)) BK411.out (by decide)) (fun _ hk => hk.1.2) (.slice A27 y412.length c27)) (fun _ hk => hk.2) (.int .i64 (wrap64 (((rd_T68 x410003_1 0).f2) - 1)))) (fun _ hk => hk.1.1)⟩
       have n3_ : Aside0 (((w25.setCell ⟨gb409, 3, none⟩ (.slice A27 y412.length c27)).setCell ⟨gb411, 2, none⟩ (.int .i64 (wrap64 (((rd_T68 x410003_1 0).f2) - 1)))).heap[gb409]? = some (.cells #[.int .i64 a0_0, .int .i64 a0_1, .slice Ao2 l0_2.length co2, .slice A27 y412.length c27, .slice Ao4 l0_4.length co4] 30 (0, 0))) := ⟨(bp1 BK409 NB409_411)⟩
       have n4_ : Aside0 (((w25.setCell ⟨gb409, 3, none⟩ (.slice A27 y412.length c27)).setCell ⟨gb411, 2, none⟩ (.int .i64 (wrap64 (((rd_T68 x410003_1 0).f2) - 1)))).heap[gb411]? = some (.cells #[.string ((rd_T68 x410003_1 0).f0), .string ((rd_T68 x410003_1 0).f1), .int .i64 (wrap64 (((rd_T68 x410003_1 0).f2) - 1))] 68 (0, 0))) := ⟨(bp1 BK411 NB411_409)⟩
       have n5_ : Aside0 (Kept w ((w25.setCell ⟨gb409, 3, none⟩ (.slice A27 y412.length c27)).setCell ⟨gb411, 2, none⟩ (.int .i64 (wrap64 (((rd_T68 x410003_1 0).f2) - 1)))) (fun k_ => (P0_2_ k_ ∨ P0_3_ k_ ∨ P0_4_ k_) ∨ k_ = gb409)) := ⟨(kr1 HK GW411)⟩
       have n6_ : Aside0 (Below w0.heap.size w0 ((w25.setCell ⟨gb409, 3, none⟩ (.slice A27 y412.length c27)).setCell ⟨gb411, 2, none⟩ (.int .i64 (wrap64 (((rd_T68 x410003_1 0).f2) - 1))))) := ⟨be2 HB GE409 GE411⟩
       (try clear HO_410002)
       (try clear HO414)
       (try clear HO_410004)
       (try clear BK409)
       (try clear BK411)
       (try clear HK)
       (try clear HB)
       generalize ((w25.setCell ⟨gb409, 3, none⟩ (.slice A27 y412.length c27)).setCell ⟨gb411, 2, none⟩ (.int .i64 (wrap64 (((rd_T68 x410003_1 0).f2) - 1)))) = w29 at n0_ n1_ n2_ n3_ n4_ n5_ n6_ ⊢
       have HO_410002 := n0_
       have HO414 := n1_
       have HO_410004 := n2_
       have BK409 := n3_
       have BK411 := n4_
       have HK := n5_
       have HB := n6_
       clear n0_ n1_ n2_ n3_ n4_ n5_ n6_
       have n0_ := Aside0.mk (Kd.Q_drew HO_410002.out)
       have n1_ := Aside0.mk (Kd.Q_drew HO414.out)
       have n2_ := Aside0.mk (Kd.Q_drew HO_410004.out)
       have n3_ := Aside0.mk (blk_drew BK409.out)
       have n4_ := Aside0.mk (blk_drew BK411.out)
       have n5_ := Aside0.mk (Kept.drew HK.out)
       have n6_ := Aside0.mk (below_drew1 HB.out)
       clear HO_410002
       clear HO414
       clear HO_410004
       clear BK409
       clear BK411
       clear HK
       clear HB
       have HO_410002 := n0_
       have HO414 := n1_
       have HO_410004 := n2_
       have BK409 := n3_
       have BK411 := n4_
       have HK := n5_
       have HB := n6_
       clear n0_ n1_ n2_ n3_ n4_ n5_ n6_
       refine start_ (n := 11) (S := fun w' => w'.cell? ⟨gb409, 0, none⟩ = some (.int .i64 a0_0) ∧ w'.cell? ⟨gb409, 1, none⟩ = some (.int .i64 a0_1) ∧ w'.cell? ⟨gb409, 2, none⟩ = some (.slice Ao2 l0_2.length co2) ∧ w'.cell? ⟨gb409, 3, none⟩ = some (.slice A27 y412.length c27) ∧ w'.cell? ⟨gb409, 4, none⟩ = some (.slice Ao4 l0_4.length co4) ∧ w'.cell? ⟨gb411, 0, none⟩ = some (.string ((rd_T68 x410003_1 0).f0)) ∧ w'.cell? ⟨gb411, 1, none⟩ = some (.string ((rd_T68 x410003_1 0).f1)) ∧ w'.cell? ⟨gb411, 2, none⟩ = some (.int .i64 (wrap64 (((rd_T68 x410003_1 0).f2) - 1)))) (ds := [10]) (bv 11 0x0) (by kernel_rfl) rfl rfl ⟨bc0 BK409, bc1 BK409, bc2 BK409, bc3 BK409, bc4 BK409, bc0 BK411, bc1 BK411, bc2 BK411⟩ (fun hHeld => ?_); refine with_tabW impl_Three_evictMain.tab7 impl_Three_evictMain.bits7 (fun HT_ HW_ => ?_)
       generalize w29.drew = w30 at HO_410002 HO414 HO_410004 BK409 BK411 HK HB hHeld ⊢
       refine py HT_ 0 34 (bv 11 0x1) ?_
       refine py HT_ 1 35 (bv 11 0x3) ?_
       refine py HT_ 2 36 (bv 11 0x7) ?_
       refine py HT_ 3 37 (bv 11 0xf) ?_
       refine tk HT_ HW_ hHeld 4 38 (bv 11 0x1f) ?_
       refine tk HT_ HW_ hHeld 5 39 (bv 11 0x3f) ?_
       refine one_ (i := 6) (N := some 40) (bv 11 0x7f) rfl rfl (one_of HT_.out (by kernel_rfl)) (by decide) (fun K hK => ?_)
       refine value_ (w1 := ?_) (v := ?_) (by rfl) rfl ?_ ?_
       rotate_left 2
       ·go_simp
        constructor
        ·rfl
        ·rfl
       refine hK.out _ _ ⟨(blk_cell (blk_alloc BK409.out _) 0).trans rfl, (blk_cell (blk_alloc BK409.out _) 1).trans rfl, (blk_cell (blk_alloc BK409.out _) 2).trans rfl, (blk_cell (blk_alloc BK409.out _) 3).trans rfl, (blk_cell (blk_alloc BK409.out _) 4).trans rfl, (blk_cell (blk_alloc BK411.out _) 0).trans rfl, (blk_cell (blk_alloc BK411.out _) 1).trans rfl, (blk_cell (blk_alloc BK411.out _) 2).trans rfl⟩ (fun hHeld => ?_)
       clear hK K
       refine norm_ (a' := ?_) ?_ ?_
       rotate_left
       ·show Act.put _ (some 40) _ = _
        simp only [aP]
        rfl
       refine one_ (i := 7) (N := some 41) (bv 11 0xff) rfl rfl (one_of HT_.out (by kernel_rfl)) (by decide) (fun K hK => ?_)
       refine Kd.Q_append_step k68 (w0 := w0) w0.heap.size (by rfl) (.tmp 38) (.tmp 40) 28 68 (.agg #[(.string ⟨#[]⟩), (.string ⟨#[]⟩), (.int .i64 0)]) 40 rfl Try.underlying28 info68 rfl (by decide) (by omega) (.slice A27 y412.length c27) y412 (⟨(rd_T68 x410003_1 0).f0, (rd_T68 x410003_1 0).f1, wrap64 (((rd_T68 x410003_1 0).f2) - 1)⟩ : S68) [.string ((rd_T68 x410003_1 0).f0), .string ((rd_T68 x410003_1 0).f1), .int .i64 (wrap64 (((rd_T68 x410003_1 0).f2) - 1))] (fun k_ => ((P0_2_ k_ ∨ P0_3_ k_ ∨ P0_4_ k_) ∨ w.heap.size ≤ k_) ∧ nb k_ Ao2 l0_2.length co2 ∧ k_ ≠ gb411) (fun _ => False) rfl rfl ?aP (fun _ hk => hk.elim) ?aF ?aO ?aB ?aS ?aL ?_
       (case aP => exact k68_mkM _ _ _ (⟨(rd_T68 x410003_1 0).f0, (rd_T68 x410003_1 0).f1, wrap64 (((rd_T68 x410003_1 0).f2) - 1)⟩ : S68))
       (case aB => exact (be2 HB GE409 GE411))
       (case aF => exact (fun k_ hk => ⟨(.inr (Nat.le_trans (by first | exact HK.out.1 | exact (show Kept w _ (fun k_ => (P0_2_ k_ ∨ P0_3_ k_ ∨ P0_4_ k_) ∨ k_ = gb409) from (kr1 HK GW411)).1) hk)), Kd.fresh' (Kd.Q_lt (qo HO_410002)) k_ hk, Kd.freshB (g := gb411) (o := .cells #[.string ((rd_T68 x410003_1 0).f0), .string ((rd_T68 x410003_1 0).f1), .int .i64 (wrap64 (((rd_T68 x410003_1 0).f2) - 1))] 68 (0, 0)) (bk BK411) k_ hk⟩))
       (case aO => exact (qo HO414))
       (case aS => exact (below_size (be2 HB GE409 GE411)))
       (case aL => have := LMc19.out; omega)
       intro v416 w31 ho hb hg hat
       rw [← Ny415.out] at ho
       have n0_ := Aside0.mk (Kd.Q_after (ok := (fun k_ => ((P0_2_ k_ ∨ P0_3_ k_ ∨ P0_4_ k_) ∨ w.heap.size ≤ k_) ∧ k_ ≠ gb411)) (by (with_reducible repeat (first | apply Kd.Q_alloc | apply Kd.Q_drewN | apply Kd.Q_drew)); exact Kd.Q_mono HO_410002.out (fun _ hk => ⟨⟨hk.1, hk.2.2⟩, hk.2.1⟩)) hg hat)
       have n1_ := Aside0.mk (Kd.Q_over' (qo HO_410004) (Kd.Q_typed (qo HO414)) (by decide) hg)
       have n2_ := Aside0.mk (blk_grown (g := gb409) (o := .cells #[.int .i64 a0_0, .int .i64 a0_1, .slice Ao2 l0_2.length co2, .slice A27 y412.length c27, .slice Ao4 l0_4.length co4] 30 (0, 0)) (bk BK409) hg (Kd.Q_ne HO414.out BK409.out (by decide)))
       have n3_ := Aside0.mk (blk_grown (g := gb411) (o := .cells #[.string ((rd_T68 x410003_1 0).f0), .string ((rd_T68 x410003_1 0).f1), .int .i64 (wrap64 (((rd_T68 x410003_1 0).f2) - 1))] 68 (0, 0)) (bk BK411) hg (Kd.Q_away HO414.out (fun _ hk => hk.2.2)))
       have n4_ := Aside0.mk (hb)
       have n5_ := Aside0.mk (Kept.of_grown (S := (fun k_ => (P0_2_ k_ ∨ P0_3_ k_ ∨ P0_4_ k_) ∨ k_ = gb409)) hg (kr1 HK GW411) (fun k_ e_ => Or.imp_left Or.inl ((HO414.out.1 k_ e_).1)))
       have n6_ := Aside0.mk (ho)
       clear HO_410002
       clear HO_410004
       clear BK409
       clear BK411
       clear HB
       clear HK
       clear HO414
       have HO_410002 := n0_
       have HO_410004 := n1_
       have BK409 := n2_
       have BK411 := n3_
       have HB := n4_
       have HK := n5_
       have HO417 := n6_
       clear n0_ n1_ n2_ n3_ n4_ n5_ n6_
       clear ho hb hg hat
       obtain ⟨Ao32, co32, eo32, _⟩ := Kd.Q_slice HO417.out
       (first | subst eo32 | (injection eo32 with f1_ f2_ f3_; have f4_ := f1_.symm; have f5_ := f3_.symm; clear f1_ f2_ f3_; subst f4_; subst f5_))
       refine hK.out _ _ ⟨bc0 BK409, bc1 BK409, bc2 BK409, bc3 BK409, bc4 BK409, bc0 BK411, bc1 BK411, bc2 BK411⟩ (fun hHeld => ?_)
       clear hK K
       refine norm_ (a' := ?_) ?_ ?_
       rotate_left
       ·show Act.put _ (some 41) _ = _
        simp only [aP]
        rfl
       refine py HT_ 8 42 (bv 11 0x1ff) ?_
       refine py HT_ 9 43 (bv 11 0x3ff) ?_
       refine last_ (i := 10) (N := none) (bv 11 0x7ff) rfl rfl (one_of HT_.out (by kernel_rfl)) (by decide) (fun K hK => ?_)
       have hs33 : w31.cell? ⟨gb409, 3, none⟩ = some (.slice A27 y412.length c27) := bc3 BK409
       have hfs33 := blk_frozen BK409.out 3
       have hns33_1 := NB411_409.out
       have hms33_1 := NB409_411.out
       refine skip_ (w1 := ?_) (by rfl) rfl ?_ ?_
       rotate_left
       ·go_simp
        rfl
       refine hK.out _ _ ?_
       clear hK K
       refine done_ (done_of HT_.out (by kernel_rfl)) ?_
       try go_wp2
       go_roundg k1
       case measure => have := HK1.out; omega
       case rel => exact ⟨(y415), (.slice Ao32 y415.length co32), H', ⟨by have := HK1.out; omega⟩, ⟨(qfn HO_410002 BK409)⟩, ⟨(qfn HO417 BK409)⟩, ⟨(qf HO_410004 BK409)⟩, ⟨(bp BK409)⟩, ⟨(kr1 HK GW411)⟩, ⟨be2 HB GE409 GE411⟩⟩
      rw [if_neg c19] at H
      exact absurd H (by simp)
     rw [if_neg c8] at H
     exact absurd H (by simp)
    rw [if_neg c7] at H
    exact absurd H (by simp)
   rw [if_neg c6] at H
   have c6b0 : decide (0 < (x410003_1.length : Int)) = false := decide_eq_false c6
   have c6b1 : decide (0 < x410003_1.length) = false := decide_eq_false (by omega)
   clear c6
   simp only [Option.some.injEq, Prod.mk.injEq] at H
   obtain ⟨rfl, rfl, rfl, rfl, rfl, rfl, rfl⟩ := H
   have hcz34_0 := bz5 BK409
   obtain ⟨Ao35, co35, eo35, _⟩ := Kd.Q_slice HO_410003.out
   subst eo35
   go_wp2
   go_ret2
   exact ⟨_, _, _, er, (bk BK409), (qo HO_410002), (qo HO_410003), (qo HO_410004), be1 HB GE409, (kr HK)⟩

/-! ### impl_Hash: function 51 -/
def impl_Hash.l0 : Nat → ByteArray → Int → Int → Option (Int)
 | 0, _, _, _ => none
 | k + 1, x0, x3, x4 => if x4 < (x0.size : Int) then (if 0 ≤ x4 then (impl_Hash.l0 k x0 (Int.tmod (wrap64 ((Go.bits .xor .i64 x3 (wrap64 (bt x0 x4))) * 16777619)) 4294967296) (wrap64 (x4 + 1))) else (none)) else (some x3)
def impl_Hash.f (k : Nat) (a0 : ByteArray) : Option (Int) := impl_Hash.l0 k a0 2166136261 0
theorem impl_Hash.mono_l : ∀ k, (∀ y0 y1 y2, LeO (impl_Hash.l0 k y0 y1 y2) (impl_Hash.l0 (k + 1) y0 y1 y2))
 | 0 => fun _ _ _ r h => by simp [impl_Hash.l0] at h
 | k + 1 => by
  have ih0 := impl_Hash.mono_l k
  ·intro y0 y1 y2
   unfold impl_Hash.l0
   repeat' first
   | (with_reducible exact ih0 _ _ _)
   | (with_reducible exact LeO.refl _)
   | (with_reducible exact LeO.none _)
   | (with_reducible refine LeO.ite ?_ ?_)
   | (with_reducible refine LeO.bind ?_ (fun _ => ?_))
   | exact ih0 _ _ _
   | exact LeO.none _
   | refine LeO.ite ?_ ?_
   | refine LeO.bind ?_ (fun _ => ?_)
theorem impl_Hash.mono : ∀ a0 k, LeO (impl_Hash.f k a0) (impl_Hash.f (k + 1) a0) := by
 intro a0 k
 have ih0 := impl_Hash.mono_l k
 unfold impl_Hash.f
 repeat' first
   | (with_reducible exact ih0 _ _ _)
   | (with_reducible exact LeO.refl _)
   | (with_reducible exact LeO.none _)
   | (with_reducible refine LeO.ite ?_ ?_)
   | (with_reducible refine LeO.bind ?_ (fun _ => ?_))
   | exact ih0 _ _ _
   | exact LeO.none _
   | refine LeO.ite ?_ ?_
   | refine LeO.bind ?_ (fun _ => ?_)
set_option maxHeartbeats 8000000 in
set_option maxRecDepth 100000 in
theorem impl_Hash.calls (k : Nat) (a0 : ByteArray) (r : Int) (w : World) (h : impl_Hash.f k a0 = some r) :
  Calls Try.prog 51 #[.string a0] w fun e w' => e = .returned (.int .i64 r) ∧ Drawn0 w w' := by
 have H : (impl_Hash.l0 k a0 2166136261 0) = some r := h
 clear h
 have H' := Aside0.mk H
 clear H
 go_enter Try.func51, Try.ntmps51
 go_wp2
 go_loopg [3, 4] k (fun kq v3 v4 w' => ∃ (x3_1 : Int) (x4_1 : Int), v3 = .int .i64 x3_1 ∧ v4 = .int .i64 x4_1 ∧ Aside0 (impl_Hash.l0 kq a0 x3_1 x4_1 = some r) ∧ Aside0 (kq ≤ k) ∧ Drawn0 w w')
 case atStart => exact ⟨(2166136261), (0), rs, rs, H', ⟨Nat.le_refl _⟩, by repeat (first | exact Drawn0.refl _ | apply Drawn0.step)⟩
 case round =>
  clear H'
  obtain ⟨x3_1, x4_1, rfl, rfl, HA, HK1, ⟨m1, rfl⟩⟩ := hrel
  cases gk with
  | zero => exact absurd HA.out (by simp [impl_Hash.l0])
  | succ k1 =>
   have H := HA.out
   clear HA
   simp only [impl_Hash.l0] at H
   by_cases c2 : x4_1 < (a0.size : Int)
   ·rw [if_pos c2] at H
    have c2b0 : decide (x4_1 < (a0.size : Int)) = true := decide_eq_true c2
    clear c2
    by_cases c3 : 0 ≤ x4_1
    ·rw [if_pos c3] at H
     have c3b0 : decide (0 ≤ x4_1) = true := decide_eq_true c3
     clear c3
     have H' := Aside0.mk H
     clear H
     have p4 : 0 ≤ (x4_1 : Int) := od
     have q4 : x4_1 < (a0.size : Int) := od
     have hx4 := bt_at a0 x4_1
     replace p4 := eq_true p4
     replace q4 := eq_true q4
     go_wp2
     go_roundg k1
     case measure => have := HK1.out; omega
     case rel => exact ⟨(Int.tmod (wrap64 ((Go.bits .xor .i64 x3_1 (wrap64 (bt a0 x4_1))) * 16777619)) 4294967296), (wrap64 (x4_1 + 1)), rs, rs, H', ⟨by have := HK1.out; omega⟩, by repeat (first | exact Drawn0.refl _ | apply Drawn0.step)⟩
    rw [if_neg c3] at H
    exact absurd H (by simp)
   rw [if_neg c2] at H
   have c2b0 : decide (x4_1 < (a0.size : Int)) = false := decide_eq_false c2
   clear c2
   obtain rfl := Option.some.inj H
   go_wp2
   go_ret
   exact ⟨by first | rfl | (simp; done) | (simp [*]; done), by repeat (first | exact Drawn0.refl _ | apply Drawn0.step)⟩

/-! ### slices_DeleteFunc_int_int: function 98 -/
def slices_DeleteFunc_int_int.f (l0 : List Int) (a1 : Int) : Option (List Int) := if 0 < l0.length then some (l0.filter fun x => !decide (x = a1)) else some l0
theorem idx_noneI (A : Option Addr) (c B : Nat) (w : World) : Calls Try.prog 120 #[.slice A 0 c, .func (.func 118) #[] #[.pointer (some ⟨B, 0, none⟩)]] w fun e w' => e = .returned (.int .i64 (-1)) ∧ Below w.heap.size w w' := by
 have HB := Aside0.mk (Below.refl w.heap.size w)
 go_enter Try.func120, Try.ntmps120
 go_wp2
 go_loopg [5, 8] 0 (fun gg _ v8 wr => v8 = .int .i64 0 ∧ Aside0 (Below w.heap.size w wr))
 case atStart => exact ⟨rfl, HB⟩
 case round =>
  obtain ⟨rfl, HB⟩ := hrel
  go_wp2
  go_ret
  exact ⟨rfl, HB.out⟩
theorem del_noneI (A : Option Addr) (n c B : Nat) (w : World) (hn : n = 0) : Calls Try.prog 98 #[.slice A n c, .func (.func 118) #[] #[.pointer (some ⟨B, 0, none⟩)]] w fun e w' => e = .returned (.slice A n c) ∧ Below w.heap.size w w' := by
 subst hn
 have hI := idx_noneI A c B w
 go_enter Try.func98, Try.ntmps98
 go_wp2_with (go_at_call 120; refine hI.mono ?_; rintro e w1 ⟨rfl, hb⟩; have HB := Aside0.mk hb; clear hb)
 go_ret
 exact ⟨rfl, HB.out⟩
set_option maxHeartbeats 8000000 in
set_option maxRecDepth 100000 in
theorem slices_DeleteFunc_int_int.calls (P0_ : Nat → Prop) (u9000_ : Value) (l0 : List Int) (a1 : Int) (gP : Nat) (r : List Int) (w0 w : World) (hP : w.heap[gP]? = some (.cells #[.int .i64 a1] 3 (0, 0))) (hN : ∀ k, u9000_.ownBlock = some k → k ≠ gP) (hB : Below w0.heap.size w0 w) (ho0 : Kd.R (Kd.int .i64) 3 w w0.heap.size P0_ u9000_ l0) (h : slices_DeleteFunc_int_int.f l0 a1 = some r) :
  Calls Try.prog 98 #[u9000_, .func (.func 118) #[] #[.pointer (some ⟨gP, 0, none⟩)]] w fun e w' => ∃ v0_ : Value, e = .returned (v0_) ∧ Kd.R (Kd.int .i64) 3 w' w0.heap.size (fun k_ => (P0_ k_ ∨ w.heap.size ≤ k_)) v0_ r ∧ Below w0.heap.size w0 w' ∧ Kept w w' (fun k_ => P0_ k_) := by
 have h' : (if 0 < l0.length then some (l0.filter fun x => !decide (x = a1)) else some l0) = some r := h
 clear h
 by_cases hn : 0 < l0.length
 case neg =>
  rw [if_neg hn] at h'
  obtain rfl := Option.some.inj h'
  obtain ⟨A, c, rfl⟩ := Kd.R_slice ho0
  refine (del_noneI A l0.length c gP w (by omega)).mono ?_
  rintro e w' ⟨rfl, hb⟩
  exact ⟨_, rfl, Kd.R_mono (Kd.R_below ho0 hb) (fun _ hk => .inl hk), below_step hB hb, Kept.below (S := fun k_ => P0_ k_) (Kept.refl w _) hb⟩
 rw [if_pos hn] at h'
 obtain rfl := Option.some.inj h'
 clear h'
 obtain ⟨g, cap, cur, rfl, hg, hh, hc1, hc2, hs, ht, hok⟩ := Ow.opened ho0 hn
 have hm : cap ≤ 9223372036854775807 := hc2
 have hH := Go.holds_of_blockI hh ht
 refine (Del4.calls a1 gP g 0 cap l0.toArray w (blk_lt hP) (fun e => hN g rfl e.symm) ((blk_cell hP 0).trans rfl) hH (by simp; omega) (by simpa using hc1)).mono ?_
 rintro e w' ⟨rfl, q, rfl⟩
 have hF := List.length_filter_le (fun x => !decide (x = a1)) l0
 simp only [List.size_toArray, List.toList_toArray]
 generalize (l0.filter fun x => !decide (x = a1)) = F at hF ⊢
 have hy : (F ++ List.replicate (l0.length - F.length) (0 : Int)).length = l0.length := by simp; omega
 rw [Go.Lib.putRow_eq_setCells (Value.int .i64) w g 0 l0.toArray _ q hH (by rw [hy]; simp)]
 obtain ⟨cur', h1, h2, h3⟩ := Ow.heap_setCells g 3 ((F ++ List.replicate (l0.length - F.length) (0 : Int)).map (Value.int .i64)) 0 (w.drewN q) cur hh (by rw [List.length_map, hy]; omega)
 refine ⟨_, rfl, ?_, Ow.below_setCells hg _ _ _ (pw_below_drewN hB q), Ow.kept_setCells (W := w.drewN q) hok _ _ _ (Kept.refl w _)⟩
 refine Ow.made (.inl hok) hg h1 (by omega) hc2 (by omega) ?_
 rw [h3, List.take_zero, List.nil_append, List.map_append, List.append_assoc, List.take_append_of_le_length (by simp), List.take_of_length_le (by simp)]


