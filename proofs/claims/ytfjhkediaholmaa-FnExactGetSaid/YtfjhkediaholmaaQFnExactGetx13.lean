-- made by a program of this session (myprint.py)
import Derived.Test.YtfjhkediaholmaaQFnExactGetx0
import Derived.Test.YtfjhkediaholmaaQFnExactGetx10
import Derived.Test.YtfjhkediaholmaaQFnExactGetx12
namespace Go.Proofs.Ytfjhkediaholmaa.QFnExactGet
open Go.RowKit Go.Proofs.YtfjhkediaholmaaW.PrintWords Go.Proofs.YtfjhkediaholmaaW.PrintLast Go.Proofs.YtfjhkediaholmaaW.PrintMore
attribute [local go_sem] max2_int min2_int max_two min_two max_three min_three max_four min_four   -- for this text's walks alone
set_option linter.unusedVariables false
set_option linter.unusedSimpArgs false

/-! ### impl_copyInts: function 115 -/
def impl_copyInts.f (l0 : List Int) : Option (List Int) := (some (([] : List Int) : List Int)).bind fun y296 => (if y296.length + l0.length < 17592186044416 then (some (y296 ++ l0)) else (none))
set_option maxHeartbeats 8000000 in
set_option maxRecDepth 100000 in
theorem impl_copyInts.calls (A0 : Option Addr) (c0 : Nat) (l0 : List Int) (r : List Int) (w : World) (hr0 : Kd.C (Kd.int .i64) w A0 l0.length l0) (hc0 : l0.length ≤ c0) (h : impl_copyInts.f l0 = some r) :
  Calls Try.prog 115 #[.slice A0 l0.length c0] w fun e w' => ∃ v0_ : Value, e = .returned (v0_) ∧ Kd.R (Kd.int .i64) 3 w' w.heap.size (fun _ => True) v0_ r ∧ Below w.heap.size w w' := by
 have HR0 := Aside0.mk hr0
 have HC0 := Aside0.mk hc0
 clear hr0 hc0
 have HB := Aside0.mk (Below.refl w.heap.size w)
 have H : ((some (([] : List Int) : List Int)).bind fun y296 => (if y296.length + l0.length < 17592186044416 then (some (y296 ++ l0)) else (none))) = some r := h
 clear h
 obtain ⟨y296, hy296⟩ : ∃ y_ : List Int, y_ = (([] : List Int)) := ⟨_, rfl⟩
 replace H : (if y296.length + l0.length < 17592186044416 then (some (y296 ++ l0)) else (none)) = some r := by first | (rw [hy296]; with_reducible exact H) | (have H2_ := (Option.bind_some _ _).symm.trans H; rw [hy296]; with_reducible exact H2_) | (have H2_ := (Option.bind_some _ _).symm.trans H; with_reducible exact H2_) | with_reducible exact H | (rw [hy296]; exact H) | exact H
 have Ny296 := Aside0.mk hy296
 clear hy296
 by_cases c2 : y296.length + l0.length < 17592186044416
 ·rw [if_pos c2] at H
  have LMc2 := Aside0.mk c2
  clear c2
  obtain ⟨y299, hy299⟩ : ∃ y_ : List Int, y_ = (y296 ++ l0) := ⟨_, rfl⟩
  replace H : (some y299) = some r := by first | (rw [hy299]; with_reducible exact H) | (have H2_ := (Option.bind_some _ _).symm.trans H; rw [hy299]; with_reducible exact H2_) | (have H2_ := (Option.bind_some _ _).symm.trans H; with_reducible exact H2_) | with_reducible exact H | (rw [hy299]; exact H) | exact H
  have Ny299 := Aside0.mk hy299
  clear hy299
  obtain rfl := Option.some.inj H
  go_enter Try.func115, Try.ntmps115
  have HO298 := Aside0.mk (show Kd.R (Kd.int .i64) 3 w w.heap.size (fun _ => True) (.slice none 0 0) y296 from by rw [Ny296.out]; exact Kd.R_nil _ _ _ _ _)
  go_wp2_with (first | ((with_reducible refine gate_builtin (b := .append) (xs := #[.const (.slice none 0 0), .tmp 3]) rfl ?_); at_builtin; refine Kd.R_append_rows (Kd.int .i64) (w0 := w) w.heap.size rfl (.const (.slice none 0 0)) (.tmp 3) 23 3 (.int .i64 0) 8 rfl Try.underlying23 info3 rfl (by decide) (by omega) (.slice none 0 0) y296 l0 _ _ _ (fun _ => True) (fun _ => False) rfl rfl ?aO ?aR (fun _ _ h => h) (fun _ h => h.elim) ?aF ?aB ?aS ?aL ?_; (case aR => repeat (first | exact (Kd.C_below HR0.out HB.out) | (with_reducible refine Kd.C_alloc ?_ _) | (with_reducible refine Kd.C_drewN ?_ _) | (with_reducible refine Kd.C_drew ?_))); (case aB => exact (be HB)); (case aF => exact (fun _ _ => trivial)); (case aO => exact (ro HO298)); (case aS => exact (below_size (be HB))); (case aL => have := LMc2.out; omega); intro v300 w5 ho hb hg hat; rw [← Ny299.out] at ho; replace HB := Aside0.mk (hb); have HO301 := Aside0.mk (ho); clear HO298; clear ho hb hg hat))
  go_ret
  exact ⟨_, er, by (with_reducible repeat (first | apply Kd.R_alloc | apply Kd.R_drewN | apply Kd.R_drew)); exact HO301.out, be HB⟩
 rw [if_neg c2] at H
 exact absurd H (by simp)

/-! ### impl_copyThree: function 87 -/
def impl_copyThree.f (a0_0 : Int) (a0_1 : Int) (l0_2 : List (S68)) (l0_3 : List (S68)) (l0_4 : List Int) : Option (Int × Int × (List (S68)) × (List (S68)) × List Int) := (impl_copyItems.f l0_2).bind fun t304 => ((impl_copyItems.f l0_3).bind fun t307 => ((impl_copyInts.f l0_4).bind fun t310 => (some (a0_0, a0_1, t304, t307, t310))))
def impl_copyThree.T1 : Bool × List (List Nat × List Nat) := (true, [([], []), ([0], [0]), ([], []), ([2], [2]), ([], []), ([4], [4]), ([5], [5]), ([], []), ([7], [7]), ([8, 6], [8]), ([], []), ([10], [10]), ([11, 9], [11]), ([1, 3, 6, 9, 12], [1, 3, 6, 9, 12]), ([13, 12, 0, 1, 2, 3, 4, 5, 6, 7, 8, 9, 10, 11, 12, 13], [13])])
def impl_copyThree.B1 : List Nat := [0, 1, 0, 4, 0, 16, 48, 0, 128, 496, 0, 1024, 4080, 8191, 16383]
theorem impl_copyThree.tab1 : rtab .any (opsOf Try.f87 1) = impl_copyThree.T1 := by kernel_rfl
theorem impl_copyThree.bits1 : waitsOk impl_copyThree.T1.2 impl_copyThree.B1 = true := by kernel_rfl
set_option maxHeartbeats 8000000 in
set_option maxRecDepth 100000 in
theorem impl_copyThree.calls (a0_0 : Int) (a0_1 : Int) (A0_2 : Option Addr) (c0_2 : Nat) (l0_2 : List (S68)) (A0_3 : Option Addr) (c0_3 : Nat) (l0_3 : List (S68)) (A0_4 : Option Addr) (c0_4 : Nat) (l0_4 : List Int) (r1 : Int) (r2 : Int) (r3 : List (S68)) (r4 : List (S68)) (r5 : List Int) (w : World) (hr0_2 : Kd.C k68 w A0_2 l0_2.length l0_2) (hc0_2 : l0_2.length ≤ c0_2) (hr0_3 : Kd.C k68 w A0_3 l0_3.length l0_3) (hc0_3 : l0_3.length ≤ c0_3) (hr0_4 : Kd.C (Kd.int .i64) w A0_4 l0_4.length l0_4) (hc0_4 : l0_4.length ≤ c0_4) (h : impl_copyThree.f a0_0 a0_1 l0_2 l0_3 l0_4 = some (r1, r2, r3, r4, r5)) :
  Calls Try.prog 87 #[.agg #[.int .i64 a0_0, .int .i64 a0_1, .slice A0_2 l0_2.length c0_2, .slice A0_3 l0_3.length c0_3, .slice A0_4 l0_4.length c0_4]] w fun e w' => ∃ v2_ v3_ v4_ : Value, e = .returned (.agg #[.int .i64 r1, .int .i64 r2, v2_, v3_, v4_]) ∧ Kd.R k68 68 w' w.heap.size (fun k_ => some k_ ≠ (v3_ : Value).ownBlock) v2_ r3 ∧ Kd.R k68 68 w' w.heap.size (fun k_ => some k_ ≠ (v2_ : Value).ownBlock) v3_ r4 ∧ Kd.R (Kd.int .i64) 3 w' w.heap.size (fun _ => True) v4_ r5 ∧ Below w.heap.size w w' := by
 have hu30 := Try.underlying30
 have HR0_2 := Aside0.mk hr0_2
 have HC0_2 := Aside0.mk hc0_2
 clear hr0_2 hc0_2
 have HR0_3 := Aside0.mk hr0_3
 have HC0_3 := Aside0.mk hc0_3
 clear hr0_3 hc0_3
 have HR0_4 := Aside0.mk hr0_4
 have HC0_4 := Aside0.mk hc0_4
 clear hr0_4 hc0_4
 have HB := Aside0.mk (Below.refl w.heap.size w)
 have H : ((impl_copyItems.f l0_2).bind fun t304 => ((impl_copyItems.f l0_3).bind fun t307 => ((impl_copyInts.f l0_4).bind fun t310 => (some (a0_0, a0_1, t304, t307, t310))))) = some (r1, r2, r3, r4, r5) := h
 clear h
 replace H := Option.bind_eq_some_iff.mp H
 obtain ⟨t304, A20, H⟩ := H
 replace H : ((impl_copyItems.f l0_3).bind fun t307 => ((impl_copyInts.f l0_4).bind fun t310 => (some (a0_0, a0_1, t304, t307, t310)))) = some (r1, r2, r3, r4, r5) := H
 have A2 := Aside0.mk A20
 clear A20
 replace H := Option.bind_eq_some_iff.mp H
 obtain ⟨t307, A30, H⟩ := H
 replace H : ((impl_copyInts.f l0_4).bind fun t310 => (some (a0_0, a0_1, t304, t307, t310))) = some (r1, r2, r3, r4, r5) := H
 have A3 := Aside0.mk A30
 clear A30
 replace H := Option.bind_eq_some_iff.mp H
 obtain ⟨t310, A40, H⟩ := H
 replace H : (some (a0_0, a0_1, t304, t307, t310)) = some (r1, r2, r3, r4, r5) := H
 have A4 := Aside0.mk A40
 clear A40
 simp only [Option.some.injEq, Prod.mk.injEq] at H
 obtain ⟨rfl, rfl, rfl, rfl, rfl⟩ := H
 go_enter Try.func87, Try.ntmps87
 try go_wp2_with (first | ((with_reducible refine gate_dst (N := 1) rfl ?_); refine bx 1 #[.int .i64 a0_0, .int .i64 a0_1, .slice A0_2 l0_2.length c0_2, .slice A0_3 l0_3.length c0_3, .slice A0_4 l0_4.length c0_4] 30 ?_; intro gb302 hg w5 hbox hb; have BK302 := am hbox; have GW302 := gs0 hg HB; have GE302 := gs0 hg HB; replace HB := s0 HB hb; clear hb hbox hg) | ((with_reducible refine gate_dst (N := 2) rfl ?_); refine bx 2 #[.int .i64 0, .int .i64 0, .slice none 0 0, .slice none 0 0, .slice none 0 0] 30 ?_; intro gb303 hg w6 hbox hb; have BK303 := am hbox; have GW303 := gs1 hg HB GE302; have GE303 := gs1 hg HB GE302; replace HB := Aside0.mk (below_step (be1 HB GE302) hb); have NB302_303 := Aside0.mk ((by rw [hg]; exact Nat.ne_of_lt (bl BK302) : gb302 ≠ gb303)); have NB303_302 := Aside0.mk ((by rw [hg]; exact Nat.ne_of_gt (bl BK302) : gb303 ≠ gb302)); replace BK302 := bb BK302 hb; clear hb hbox hg))
 have n0_ := Aside0.mk (blk_drew BK302.out)
 have n1_ := Aside0.mk (blk_drew BK303.out)
 have n2_ := Aside0.mk (below_drew1 HB.out)
 clear BK302
 clear BK303
 clear HB
 have BK302 := n0_
 have BK303 := n1_
 have HB := n2_
 clear n0_ n1_ n2_
 refine start_ (n := 15) (S := fun w' => w'.cell? ⟨gb302, 0, none⟩ = some (.int .i64 a0_0) ∧ w'.cell? ⟨gb302, 1, none⟩ = some (.int .i64 a0_1) ∧ w'.cell? ⟨gb302, 2, none⟩ = some (.slice A0_2 l0_2.length c0_2) ∧ w'.cell? ⟨gb302, 3, none⟩ = some (.slice A0_3 l0_3.length c0_3) ∧ w'.cell? ⟨gb302, 4, none⟩ = some (.slice A0_4 l0_4.length c0_4)) (ds := []) (bv 15 0x0) (by kernel_rfl) rfl rfl ⟨bc0 BK302, bc1 BK302, bc2 BK302, bc3 BK302, bc4 BK302⟩ (fun hHeld => ?_); refine with_tabW impl_copyThree.tab1 impl_copyThree.bits1 (fun HT_ HW_ => ?_)
 generalize w6.drew = w7 at BK302 BK303 HB hHeld ⊢
 refine py HT_ 0 3 (bv 15 0x1) ?_
 refine py HT_ 2 5 (bv 15 0x5) ?_
 refine py HT_ 4 7 (bv 15 0x15) ?_
 refine py HT_ 7 10 (bv 15 0x95) ?_
 refine py HT_ 10 13 (bv 15 0x495) ?_
 refine tk HT_ HW_ hHeld 1 4 (bv 15 0x497) ?_
 refine tk HT_ HW_ hHeld 3 6 (bv 15 0x49f) ?_
 refine tk HT_ HW_ hHeld 5 8 (bv 15 0x4bf) ?_
 refine tk HT_ HW_ hHeld 8 11 (bv 15 0x5bf) ?_
 refine tk HT_ HW_ hHeld 11 14 (bv 15 0xdbf) ?_
 refine one_ (i := 6) (N := some 9) (bv 15 0xdff) rfl rfl (one_of HT_.out (by kernel_rfl)) (by decide) (fun K hK => ?_)
 refine goes_ Try.func68 (by kernel_rfl) rfl #[.slice A0_2 l0_2.length c0_2] (by rfl) rfl rfl ml ?_
 with_reducible refine (impl_copyItems.calls _ _ l0_2 t304 _ ?side1 ?side2 A2.out).mono ?_
 (case side1 => exact cb HR0_2 HB)
 (case side2 => exact HC0_2.out)
 rintro e w8 ⟨v305, rfl, ho0, hb⟩
 refine ⟨_, rfl, ?_⟩
 have n0_ := Aside0.mk (Kd.R_lower ho0 (below_size (be2 HB GE302 GE303)))
 have n1_ := bb BK302 hb
 have n2_ := bb BK303 hb
 have n3_ := Aside0.mk (below_step (be2 HB GE302 GE303) hb)
 clear BK302
 clear BK303
 clear HB
 have HO306 := n0_
 have BK302 := n1_
 have BK303 := n2_
 have HB := n3_
 clear n0_ n1_ n2_ n3_
 (try clear hb)
 (try clear hb2)
 (try clear hk)
 (try clear hi)
 (try clear ho0)
 refine hK.out _ _ ⟨bc0 BK302, bc1 BK302, bc2 BK302, bc3 BK302, bc4 BK302⟩ (fun hHeld => ?_)
 clear hK K
 refine norm_ (a' := ?_) ?_ ?_
 rotate_left
 ·show Act.put _ (some 9) _ = _
  simp only [aP]
  rfl
 refine one_ (i := 9) (N := some 12) (bv 15 0xfff) rfl rfl (one_of HT_.out (by kernel_rfl)) (by decide) (fun K hK => ?_)
 refine goes_ Try.func68 (by kernel_rfl) rfl #[.slice A0_3 l0_3.length c0_3] (by rfl) rfl rfl ml ?_
 with_reducible refine (impl_copyItems.calls _ _ l0_3 t307 _ ?side1 ?side2 A3.out).mono ?_
 (case side1 => exact cb HR0_3 HB)
 (case side2 => exact HC0_3.out)
 rintro e w9 ⟨v308, rfl, ho0, hb⟩
 refine ⟨_, rfl, ?_⟩
 have n0_ := Aside0.mk (Kd.R_elder' (ro HO306) (Kd.R_base ho0) hb)
 have n1_ := Aside0.mk (Kd.R_lower (nw ho0 HO306) (below_size (be2 HB GE302 GE303)))
 have n2_ := bb BK302 hb
 have n3_ := bb BK303 hb
 have n4_ := Aside0.mk (below_step (be2 HB GE302 GE303) hb)
 clear HO306
 clear BK302
 clear BK303
 clear HB
 have HO306 := n0_
 have HO309 := n1_
 have BK302 := n2_
 have BK303 := n3_
 have HB := n4_
 clear n0_ n1_ n2_ n3_ n4_
 (try clear hb)
 (try clear hb2)
 (try clear hk)
 (try clear hi)
 (try clear ho0)
 refine hK.out _ _ ⟨bc0 BK302, bc1 BK302, bc2 BK302, bc3 BK302, bc4 BK302⟩ (fun hHeld => ?_)
 clear hK K
 refine norm_ (a' := ?_) ?_ ?_
 rotate_left
 ·show Act.put _ (some 12) _ = _
  simp only [aP]
  rfl
 refine one_ (i := 12) (N := some 15) (bv 15 0x1fff) rfl rfl (one_of HT_.out (by kernel_rfl)) (by decide) (fun K hK => ?_)
 refine goes_ Try.func115 (by kernel_rfl) rfl #[.slice A0_4 l0_4.length c0_4] (by rfl) rfl rfl ml ?_
 with_reducible refine (impl_copyInts.calls _ _ l0_4 t310 _ ?side1 ?side2 A4.out).mono ?_
 (case side1 => exact cb HR0_4 HB)
 (case side2 => exact HC0_4.out)
 rintro e w10 ⟨v311, rfl, ho0, hb⟩
 refine ⟨_, rfl, ?_⟩
 have n0_ := rb HO306 hb
 have n1_ := rb HO309 hb
 have n2_ := Aside0.mk (Kd.R_lower ho0 (below_size (be2 HB GE302 GE303)))
 have n3_ := bb BK302 hb
 have n4_ := bb BK303 hb
 have n5_ := Aside0.mk (below_step (be2 HB GE302 GE303) hb)
 clear HO306
 clear HO309
 clear BK302
 clear BK303
 clear HB
 have HO306 := n0_
 have HO309 := n1_
 have HO312 := n2_
 have BK302 := n3_
 have BK303 := n4_
 have HB := n5_
 clear n0_ n1_ n2_ n3_ n4_ n5_
 (try clear hb)
 (try clear hb2)
 (try clear hk)
 (try clear hi)
 (try clear ho0)
 obtain ⟨Ao11, co11, eo11⟩ := Kd.R_slice HO312.out
 (first | subst eo11 | (injection eo11 with f1_ f2_ f3_; have f4_ := f1_.symm; have f5_ := f3_.symm; clear f1_ f2_ f3_; subst f4_; subst f5_))
 obtain ⟨Ao12, co12, eo12⟩ := Kd.R_slice HO309.out
 (first | subst eo12 | (injection eo12 with f1_ f2_ f3_; have f4_ := f1_.symm; have f5_ := f3_.symm; clear f1_ f2_ f3_; subst f4_; subst f5_))
 obtain ⟨Ao13, co13, eo13⟩ := Kd.R_slice HO306.out
 (first | subst eo13 | (injection eo13 with f1_ f2_ f3_; have f4_ := f1_.symm; have f5_ := f3_.symm; clear f1_ f2_ f3_; subst f4_; subst f5_))
 refine hK.out _ _ ⟨bc0 BK302, bc1 BK302, bc2 BK302, bc3 BK302, bc4 BK302⟩ (fun hHeld => ?_)
 clear hK K
 refine norm_ (a' := ?_) ?_ ?_
 rotate_left
 ·show Act.put _ (some 15) _ = _
  simp only [aP]
  rfl
 refine py HT_ 13 16 (bv 15 0x3fff) ?_
 refine one_ (i := 14) (N := none) (bv 15 0x7fff) rfl rfl (one_of HT_.out (by kernel_rfl)) (by decide) (fun K hK => ?_)
 have hs14 : w10.cell? ⟨gb303, 0, none⟩ = some (.int .i64 0) := bc0 BK303
 have hfs14 := blk_frozen BK303.out 0
 have hns14_0 := NB302_303.out
 have hms14_0 := NB303_302.out
 have hs15 : w10.cell? ⟨gb303, 1, none⟩ = some (.int .i64 0) := bc1 BK303
 have hfs15 := blk_frozen BK303.out 1
 have hns15_0 := NB302_303.out
 have hms15_0 := NB303_302.out
 have hs16 : w10.cell? ⟨gb303, 2, none⟩ = some (.slice none 0 0) := bc2 BK303
 have hfs16 := blk_frozen BK303.out 2
 have hns16_0 := NB302_303.out
 have hms16_0 := NB303_302.out
 have hs17 : w10.cell? ⟨gb303, 3, none⟩ = some (.slice none 0 0) := bc3 BK303
 have hfs17 := blk_frozen BK303.out 3
 have hns17_0 := NB302_303.out
 have hms17_0 := NB303_302.out
 have hs18 : w10.cell? ⟨gb303, 4, none⟩ = some (.slice none 0 0) := bc4 BK303
 have hfs18 := blk_frozen BK303.out 4
 have hns18_0 := NB302_303.out
 have hms18_0 := NB303_302.out
 refine skip_ (w1 := ?_) (by rfl) rfl ?_ ?_
 rotate_left
 ·go_simp
  rfl
 refine hK.out _ _ ⟨((cell_far (p := ⟨gb303, _, none⟩) NB302_303.out _).trans (((cell_far (p := ⟨gb303, _, none⟩) NB302_303.out _).trans (((cell_far (p := ⟨gb303, _, none⟩) NB302_303.out _).trans (((cell_far (p := ⟨gb303, _, none⟩) NB302_303.out _).trans (((cell_far (p := ⟨gb303, _, none⟩) NB302_303.out _).trans (hHeld.1)))))))))), ((cell_far (p := ⟨gb303, _, none⟩) NB302_303.out _).trans (((cell_far (p := ⟨gb303, _, none⟩) NB302_303.out _).trans (((cell_far (p := ⟨gb303, _, none⟩) NB302_303.out _).trans (((cell_far (p := ⟨gb303, _, none⟩) NB302_303.out _).trans (((cell_far (p := ⟨gb303, _, none⟩) NB302_303.out _).trans (hHeld.2.1)))))))))), ((cell_far (p := ⟨gb303, _, none⟩) NB302_303.out _).trans (((cell_far (p := ⟨gb303, _, none⟩) NB302_303.out _).trans (((cell_far (p := ⟨gb303, _, none⟩) NB302_303.out _).trans (((cell_far (p := ⟨gb303, _, none⟩) NB302_303.out _).trans (((cell_far (p := ⟨gb303, _, none⟩) NB302_303.out _).trans (hHeld.2.2.1)))))))))), ((cell_far (p := ⟨gb303, _, none⟩) NB302_303.out _).trans (((cell_far (p := ⟨gb303, _, none⟩) NB302_303.out _).trans (((cell_far (p := ⟨gb303, _, none⟩) NB302_303.out _).trans (((cell_far (p := ⟨gb303, _, none⟩) NB302_303.out _).trans (((cell_far (p := ⟨gb303, _, none⟩) NB302_303.out _).trans (hHeld.2.2.2.1)))))))))), ((cell_far (p := ⟨gb303, _, none⟩) NB302_303.out _).trans (((cell_far (p := ⟨gb303, _, none⟩) NB302_303.out _).trans (((cell_far (p := ⟨gb303, _, none⟩) NB302_303.out _).trans (((cell_far (p := ⟨gb303, _, none⟩) NB302_303.out _).trans (((cell_far (p := ⟨gb303, _, none⟩) NB302_303.out _).trans (hHeld.2.2.2.2))))))))))⟩ (fun hHeld => ?_)
 clear hK K
 refine done_ (done_of HT_.out (by kernel_rfl)) ?_
 try go_wp2
 refine bodyPost_ret (results_cell_row rfl _ _ gb303 30 #[.int .i64 a0_0, .int .i64 a0_1, .slice Ao13 t304.length co13, .slice Ao12 t307.length co12, .slice Ao11 t310.length co11] (0, 0) _ rfl (by (with_reducible repeat (first | refine blk_drewN ?_ _ | refine blk_drew ?_ | refine blk_alloc ?_ _)); refine blk_put (cs := #[.int .i64 a0_0, .int .i64 a0_1, .slice Ao13 t304.length co13, .slice Ao12 t307.length co12, .slice none 0 0]) ?_ 4 _ rfl; (with_reducible repeat (first | refine blk_drewN ?_ _ | refine blk_drew ?_ | refine blk_alloc ?_ _)); refine blk_put (cs := #[.int .i64 a0_0, .int .i64 a0_1, .slice Ao13 t304.length co13, .slice none 0 0, .slice none 0 0]) ?_ 3 _ rfl; (with_reducible repeat (first | refine blk_drewN ?_ _ | refine blk_drew ?_ | refine blk_alloc ?_ _)); refine blk_put (cs := #[.int .i64 a0_0, .int .i64 a0_1, .slice none 0 0, .slice none 0 0, .slice none 0 0]) ?_ 2 _ rfl; (with_reducible repeat (first | refine blk_drewN ?_ _ | refine blk_drew ?_ | refine blk_alloc ?_ _)); refine blk_put (cs := #[.int .i64 a0_0, .int .i64 0, .slice none 0 0, .slice none 0 0, .slice none 0 0]) ?_ 1 _ rfl; (with_reducible repeat (first | refine blk_drewN ?_ _ | refine blk_drew ?_ | refine blk_alloc ?_ _)); refine blk_put (cs := #[.int .i64 0, .int .i64 0, .slice none 0 0, .slice none 0 0, .slice none 0 0]) ?_ 0 _ rfl; (with_reducible repeat (first | refine blk_drewN ?_ _ | refine blk_drew ?_ | refine blk_alloc ?_ _)); exact BK303.out) Try.underlying30 rfl (by kernel_rfl)) rfl ?_
 exact ⟨_, _, _, er, by (with_reducible repeat (first | apply Kd.R_alloc | apply Kd.R_drewN | apply Kd.R_drew)); exact Kd.R_mono (Kd.R_far (p := ⟨gb303, 4, none⟩) (Kd.R_far (p := ⟨gb303, 3, none⟩) (Kd.R_far (p := ⟨gb303, 2, none⟩) (Kd.R_far (p := ⟨gb303, 1, none⟩) (Kd.R_far (p := ⟨gb303, 0, none⟩) (Kd.R_types HO306.out BK303.out (by decide)) (fun _ hk => hk.2) (.int .i64 a0_0)) (fun _ hk => hk.2) (.int .i64 a0_1)) (fun _ hk => hk.2) (.slice Ao13 t304.length co13)) (fun _ hk => hk.2) (.slice Ao12 t307.length co12)) (fun _ hk => hk.2) (.slice Ao11 t310.length co11)) (fun _ hk => hk.1.2), by (with_reducible repeat (first | apply Kd.R_alloc | apply Kd.R_drewN | apply Kd.R_drew)); exact Kd.R_mono (Kd.R_far (p := ⟨gb303, 4, none⟩) (Kd.R_far (p := ⟨gb303, 3, none⟩) (Kd.R_far (p := ⟨gb303, 2, none⟩) (Kd.R_far (p := ⟨gb303, 1, none⟩) (Kd.R_far (p := ⟨gb303, 0, none⟩) (Kd.R_types HO309.out BK303.out (by decide)) (fun _ hk => hk.2) (.int .i64 a0_0)) (fun _ hk => hk.2) (.int .i64 a0_1)) (fun _ hk => hk.2) (.slice Ao13 t304.length co13)) (fun _ hk => hk.2) (.slice Ao12 t307.length co12)) (fun _ hk => hk.2) (.slice Ao11 t310.length co11)) (fun _ hk => hk.1.2), by (with_reducible repeat (first | apply Kd.R_alloc | apply Kd.R_drewN | apply Kd.R_drew)); exact Kd.R_mono (Kd.R_far (p := ⟨gb303, 4, none⟩) (Kd.R_far (p := ⟨gb303, 3, none⟩) (Kd.R_far (p := ⟨gb303, 2, none⟩) (Kd.R_far (p := ⟨gb303, 1, none⟩) (Kd.R_far (p := ⟨gb303, 0, none⟩) (Kd.R_types HO312.out BK303.out (by decide)) (fun _ hk => hk.2) (.int .i64 a0_0)) (fun _ hk => hk.2) (.int .i64 a0_1)) (fun _ hk => hk.2) (.slice Ao13 t304.length co13)) (fun _ hk => hk.2) (.slice Ao12 t307.length co12)) (fun _ hk => hk.2) (.slice Ao11 t310.length co11)) (fun _ hk => trivial), be2 HB GE302 GE303⟩

/-! ### impl_Get: function 36 -/
def impl_Get.f (k : Nat) (a0_0 : Int) (a0_1 : Int) (l0_2 : List (S68)) (l0_3 : List (S68)) (l0_4 : List Int) (a1 : ByteArray) : Option (Int × Int × (List (S68)) × (List (S68)) × List Int × ByteArray × Bool) := (impl_ThreeOk.f k a0_0 a0_1 l0_2 l0_3 l0_4).bind fun t315 => (if t315 = true then ((impl_copyThree.f a0_0 a0_1 l0_2 l0_3 l0_4).bind fun bt316 => ((impl_itemAt.f k bt316.2.2.1 a1).bind fun t328 => (if t328 ≥ 0 then (if 0 ≤ t328 then (if t328 < (bt316.2.2.1.length : Int) then ((some (bt316.2.2.1.set (t328 : Int).toNat (⟨(rd_T68 bt316.2.2.1 t328).f0, (rd_T68 bt316.2.2.1 t328).f1, mn 3 (wrap64 (((rd_T68 bt316.2.2.1 t328).f2) + 1))⟩ : S68) : List (S68))).bind fun y330 => (some (bt316.1, bt316.2.1, y330, bt316.2.2.2.1, bt316.2.2.2.2, (rd_T68 y330 t328).f1, true))) else (none)) else (none)) else ((impl_itemAt.f k bt316.2.2.2.1 a1).bind fun t332 => (if t332 ≥ 0 then (if 0 ≤ t332 then (if t332 < (bt316.2.2.2.1.length : Int) then ((some (bt316.2.2.2.1.set (t332 : Int).toNat (⟨(rd_T68 bt316.2.2.2.1 t332).f0, (rd_T68 bt316.2.2.2.1 t332).f1, mn 3 (wrap64 (((rd_T68 bt316.2.2.2.1 t332).f2) + 1))⟩ : S68) : List (S68))).bind fun y334 => (some (bt316.1, bt316.2.1, bt316.2.2.1, y334, bt316.2.2.2.2, (rd_T68 y334 t332).f1, true))) else (none)) else (none)) else (some (bt316.1, bt316.2.1, bt316.2.2.1, bt316.2.2.2.1, bt316.2.2.2.2, (⟨#[]⟩ : ByteArray), false))))))) else (some (0, 0, ([] : List (S68)), ([] : List (S68)), ([] : List Int), (⟨#[]⟩ : ByteArray), false)))
theorem impl_Get.mono : ∀ a0 a1 a2 a3 a4 a5 k, LeO (impl_Get.f k a0 a1 a2 a3 a4 a5) (impl_Get.f (k + 1) a0 a1 a2 a3 a4 a5) := by
 intro a0 a1 a2 a3 a4 a5 k
 unfold impl_Get.f
 repeat' first
   | (with_reducible exact impl_ThreeOk.mono _ _ _ _ _ _)
   | (with_reducible exact impl_itemAt.mono _ _ _)
   | (with_reducible exact LeO.refl _)
   | (with_reducible exact LeO.none _)
   | (with_reducible refine LeO.ite ?_ ?_)
   | (with_reducible refine LeO.bind ?_ (fun _ => ?_))
   | exact impl_ThreeOk.mono _ _ _ _ _ _
   | exact impl_itemAt.mono _ _ _
   | exact LeO.none _
   | refine LeO.ite ?_ ?_
   | refine LeO.bind ?_ (fun _ => ?_)
set_option maxHeartbeats 4000000 in
theorem item_small (k : Nat) (B : Nat) (a b : Int) (go2 c2 : Nat) (l2 : List S68) (v3 v4 : Value) (key : ByteArray) (i : Int) (W : World)
    (hb : W.heap[B]? = some (.cells #[.int .i64 a, .int .i64 b, .slice (some ⟨go2, 0, none⟩) l2.length c2, v3, v4] 30 (0, 0)))
    (hr : Kd.C k68 W (some ⟨go2, 0, none⟩) l2.length l2) (hc : l2.length ≤ c2) (h : impl_itemAt.f k l2 key = some i) (h0 : 0 ≤ i) (h1 : i < (l2.length : Int)) :
    Calls Try.prog 91 #[.pointer (some ⟨B, 0, none⟩), .string key] W fun e w' => e = .returned (.pointer (some ⟨go2, i.toNat * 3, none⟩)) ∧ Below W.heap.size W w' := by
  have hu30 := Try.underlying30
  have BK := Aside0.mk hb
  have HR := Aside0.mk hr
  have HC := Aside0.mk hc
  have A6 := Aside0.mk h
  have HB := Aside0.mk (Below.refl W.heap.size W)
  have c0b : decide (0 ≤ i) = true := decide_eq_true h0
  have c1b : decide (i < (l2.length : Int)) = true := decide_eq_true h1
  have hcz0 := bz5 BK
  clear hb hr hc h h0 h1
  go_enter Try.func91, Try.ntmps91
  go_wp2_with (first | ((with_reducible refine gate_callee (f := 111) rfl ?_); refine gl 12 Try.func111 #[.slice (some ⟨go2, 0, none⟩) l2.length c2, .string key] ?_; (with_reducible refine (impl_itemAt.calls k _ _ l2 key i _ (cb HR HB) HC.out A6.out).mono ?_); rintro e w1 ⟨rfl, hb⟩; refine ⟨_, rfl, ?_⟩; replace BK := bb BK hb; replace HB := Aside0.mk (below_step (be HB) hb); clear hb; have hcz1 := bz5 BK; have p1 : 0 ≤ (i : Int) := od; have q1 : i < (l2.length : Int) := od; replace p1 := eq_true p1; replace q1 := eq_true q1))
  go_ret
  exact ⟨rfl, HB.out⟩
set_option maxHeartbeats 4000000 in
theorem item_main (k : Nat) (B : Nat) (a b : Int) (A2 : Option Addr) (c2 : Nat) (l2 : List S68) (go3 c3 : Nat) (l3 : List S68) (v4 : Value) (key : ByteArray) (i j : Int) (W : World)
    (hb : W.heap[B]? = some (.cells #[.int .i64 a, .int .i64 b, .slice A2 l2.length c2, .slice (some ⟨go3, 0, none⟩) l3.length c3, v4] 30 (0, 0)))
    (hr : Kd.C k68 W A2 l2.length l2) (hc : l2.length ≤ c2) (hr3 : Kd.C k68 W (some ⟨go3, 0, none⟩) l3.length l3) (hc3 : l3.length ≤ c3) (h : impl_itemAt.f k l2 key = some i) (hi : ¬ (0 ≤ i)) (h3 : impl_itemAt.f k l3 key = some j) (h0 : 0 ≤ j) (h1 : j < (l3.length : Int)) :
    Calls Try.prog 91 #[.pointer (some ⟨B, 0, none⟩), .string key] W fun e w' => e = .returned (.pointer (some ⟨go3, j.toNat * 3, none⟩)) ∧ Below W.heap.size W w' := by
  have hu30 := Try.underlying30
  have BK := Aside0.mk hb
  have HR := Aside0.mk hr
  have HC := Aside0.mk hc
  have A6 := Aside0.mk h
  have HR3 := Aside0.mk hr3
  have HC3 := Aside0.mk hc3
  have A7 := Aside0.mk h3
  have HB := Aside0.mk (Below.refl W.heap.size W)
  have cib : decide (0 ≤ i) = false := decide_eq_false hi
  have c0b : decide (0 ≤ j) = true := decide_eq_true h0
  have c1b : decide (j < (l3.length : Int)) = true := decide_eq_true h1
  have hcz0 := bz5 BK
  clear hb hr hc h h0 h1 hi hr3 hc3 h3
  go_enter Try.func91, Try.ntmps91
  go_wp2_with (first | ((with_reducible refine gate_callee (f := 111) rfl ?_); refine gl 12 Try.func111 #[.slice A2 l2.length c2, .string key] ?_; (with_reducible refine (impl_itemAt.calls k _ _ l2 key i _ (cb HR HB) HC.out A6.out).mono ?_); rintro e w1 ⟨rfl, hb⟩; refine ⟨_, rfl, ?_⟩; replace BK := bb BK hb; replace HB := Aside0.mk (below_step (be HB) hb); clear hb; have hcz1 := bz5 BK) | ((with_reducible refine gate_callee (f := 111) rfl ?_); refine gl 26 Try.func111 #[.slice (some ⟨go3, 0, none⟩) l3.length c3, .string key] ?_; (with_reducible refine (impl_itemAt.calls k _ _ l3 key j _ (cb HR3 HB) HC3.out A7.out).mono ?_); rintro e w2 ⟨rfl, hb⟩; refine ⟨_, rfl, ?_⟩; replace BK := bb BK hb; replace HB := Aside0.mk (below_step (be HB) hb); clear hb; have hcz2 := bz5 BK; have p1 : 0 ≤ (j : Int) := od; have q1 : j < (l3.length : Int) := od; replace p1 := eq_true p1; replace q1 := eq_true q1))
  go_ret
  exact ⟨rfl, HB.out⟩
set_option maxHeartbeats 4000000 in
theorem item_none (k : Nat) (B : Nat) (a b : Int) (A2 : Option Addr) (c2 : Nat) (l2 : List S68) (A3 : Option Addr) (c3 : Nat) (l3 : List S68) (v4 : Value) (key : ByteArray) (i j : Int) (W : World)
    (hb : W.heap[B]? = some (.cells #[.int .i64 a, .int .i64 b, .slice A2 l2.length c2, .slice A3 l3.length c3, v4] 30 (0, 0)))
    (hr : Kd.C k68 W A2 l2.length l2) (hc : l2.length ≤ c2) (hr3 : Kd.C k68 W A3 l3.length l3) (hc3 : l3.length ≤ c3) (h : impl_itemAt.f k l2 key = some i) (hi : ¬ (0 ≤ i)) (h3 : impl_itemAt.f k l3 key = some j) (h0 : ¬ (0 ≤ j)) :
    Calls Try.prog 91 #[.pointer (some ⟨B, 0, none⟩), .string key] W fun e w' => e = .returned (.pointer none) ∧ Below W.heap.size W w' := by
  have hu30 := Try.underlying30
  have BK := Aside0.mk hb
  have HR := Aside0.mk hr
  have HC := Aside0.mk hc
  have A6 := Aside0.mk h
  have HR3 := Aside0.mk hr3
  have HC3 := Aside0.mk hc3
  have A7 := Aside0.mk h3
  have HB := Aside0.mk (Below.refl W.heap.size W)
  have cib : decide (0 ≤ i) = false := decide_eq_false hi
  have c0b : decide (0 ≤ j) = false := decide_eq_false h0
  have hcz0 := bz5 BK
  clear hb hr hc h h0 hi hr3 hc3 h3
  go_enter Try.func91, Try.ntmps91
  go_wp2_with (first | ((with_reducible refine gate_callee (f := 111) rfl ?_); refine gl 12 Try.func111 #[.slice A2 l2.length c2, .string key] ?_; (with_reducible refine (impl_itemAt.calls k _ _ l2 key i _ (cb HR HB) HC.out A6.out).mono ?_); rintro e w1 ⟨rfl, hb⟩; refine ⟨_, rfl, ?_⟩; replace BK := bb BK hb; replace HB := Aside0.mk (below_step (be HB) hb); clear hb; have hcz1 := bz5 BK) | ((with_reducible refine gate_callee (f := 111) rfl ?_); refine gl 26 Try.func111 #[.slice A3 l3.length c3, .string key] ?_; (with_reducible refine (impl_itemAt.calls k _ _ l3 key j _ (cb HR3 HB) HC3.out A7.out).mono ?_); rintro e w2 ⟨rfl, hb⟩; refine ⟨_, rfl, ?_⟩; replace BK := bb BK hb; replace HB := Aside0.mk (below_step (be HB) hb); clear hb; have hcz2 := bz5 BK))
  go_ret
  exact ⟨rfl, HB.out⟩
set_option maxHeartbeats 8000000 in
set_option maxRecDepth 100000 in
theorem impl_Get.calls (k : Nat) (a0_0 : Int) (a0_1 : Int) (A0_2 : Option Addr) (c0_2 : Nat) (l0_2 : List (S68)) (A0_3 : Option Addr) (c0_3 : Nat) (l0_3 : List (S68)) (A0_4 : Option Addr) (c0_4 : Nat) (l0_4 : List Int) (a1 : ByteArray) (r1 : Int) (r2 : Int) (r3 : List (S68)) (r4 : List (S68)) (r5 : List Int) (r6 : ByteArray) (r7 : Bool) (w : World) (hr0_2 : Kd.C k68 w A0_2 l0_2.length l0_2) (hc0_2 : l0_2.length ≤ c0_2) (hr0_3 : Kd.C k68 w A0_3 l0_3.length l0_3) (hc0_3 : l0_3.length ≤ c0_3) (hr0_4 : Kd.C (Kd.int .i64) w A0_4 l0_4.length l0_4) (hc0_4 : l0_4.length ≤ c0_4) (h : impl_Get.f k a0_0 a0_1 l0_2 l0_3 l0_4 a1 = some (r1, r2, r3, r4, r5, r6, r7)) :
  Calls Try.prog 36 #[.agg #[.int .i64 a0_0, .int .i64 a0_1, .slice A0_2 l0_2.length c0_2, .slice A0_3 l0_3.length c0_3, .slice A0_4 l0_4.length c0_4], .string a1] w fun e w' => ∃ v2_ v3_ v4_ : Value, e = .returned (.tuple #[.agg #[.int .i64 r1, .int .i64 r2, v2_, v3_, v4_], .string r6, .bool r7]) ∧ Kd.R k68 68 w' w.heap.size (fun k_ => some k_ ≠ (v3_ : Value).ownBlock) v2_ r3 ∧ Kd.R k68 68 w' w.heap.size (fun k_ => some k_ ≠ (v2_ : Value).ownBlock) v3_ r4 ∧ Kd.R (Kd.int .i64) 3 w' w.heap.size (fun _ => True) v4_ r5 ∧ Below w.heap.size w w' := by
 have hu30 := Try.underlying30
 have HR0_2 := Aside0.mk hr0_2
 have HC0_2 := Aside0.mk hc0_2
 clear hr0_2 hc0_2
 have HR0_3 := Aside0.mk hr0_3
 have HC0_3 := Aside0.mk hc0_3
 clear hr0_3 hc0_3
 have HR0_4 := Aside0.mk hr0_4
 have HC0_4 := Aside0.mk hc0_4
 clear hr0_4 hc0_4
 have HB := Aside0.mk (Below.refl w.heap.size w)
 have H : ((impl_ThreeOk.f k a0_0 a0_1 l0_2 l0_3 l0_4).bind fun t315 => (if t315 = true then ((impl_copyThree.f a0_0 a0_1 l0_2 l0_3 l0_4).bind fun bt316 => ((impl_itemAt.f k bt316.2.2.1 a1).bind fun t328 => (if t328 ≥ 0 then (if 0 ≤ t328 then (if t328 < (bt316.2.2.1.length : Int) then ((some (bt316.2.2.1.set (t328 : Int).toNat (⟨(rd_T68 bt316.2.2.1 t328).f0, (rd_T68 bt316.2.2.1 t328).f1, mn 3 (wrap64 (((rd_T68 bt316.2.2.1 t328).f2) + 1))⟩ : S68) : List (S68))).bind fun y330 => (some (bt316.1, bt316.2.1, y330, bt316.2.2.2.1, bt316.2.2.2.2, (rd_T68 y330 t328).f1, true))) else (none)) else (none)) else ((impl_itemAt.f k bt316.2.2.2.1 a1).bind fun t332 => (if t332 ≥ 0 then (if 0 ≤ t332 then (if t332 < (bt316.2.2.2.1.length : Int) then ((some (bt316.2.2.2.1.set (t332 : Int).toNat (⟨(rd_T68 bt316.2.2.2.1 t332).f0, (rd_T68 bt316.2.2.2.1 t332).f1, mn 3 (wrap64 (((rd_T68 bt316.2.2.2.1 t332).f2) + 1))⟩ : S68) : List (S68))).bind fun y334 => (some (bt316.1, bt316.2.1, bt316.2.2.1, y334, bt316.2.2.2.2, (rd_T68 y334 t332).f1, true))) else (none)) else (none)) else (some (bt316.1, bt316.2.1, bt316.2.2.1, bt316.2.2.2.1, bt316.2.2.2.2, (⟨#[]⟩ : ByteArray), false))))))) else (some (0, 0, ([] : List (S68)), ([] : List (S68)), ([] : List Int), (⟨#[]⟩ : ByteArray), false)))) = some (r1, r2, r3, r4, r5, r6, r7) := h
 clear h
 replace H := Option.bind_eq_some_iff.mp H
 obtain ⟨t315, A30, H⟩ := H
 replace H : (if t315 = true then ((impl_copyThree.f a0_0 a0_1 l0_2 l0_3 l0_4).bind fun bt316 => ((impl_itemAt.f k bt316.2.2.1 a1).bind fun t328 => (if t328 ≥ 0 then (if 0 ≤ t328 then (if t328 < (bt316.2.2.1.length : Int) then ((some (bt316.2.2.1.set (t328 : Int).toNat (⟨(rd_T68 bt316.2.2.1 t328).f0, (rd_T68 bt316.2.2.1 t328).f1, mn 3 (wrap64 (((rd_T68 bt316.2.2.1 t328).f2) + 1))⟩ : S68) : List (S68))).bind fun y330 => (some (bt316.1, bt316.2.1, y330, bt316.2.2.2.1, bt316.2.2.2.2, (rd_T68 y330 t328).f1, true))) else (none)) else (none)) else ((impl_itemAt.f k bt316.2.2.2.1 a1).bind fun t332 => (if t332 ≥ 0 then (if 0 ≤ t332 then (if t332 < (bt316.2.2.2.1.length : Int) then ((some (bt316.2.2.2.1.set (t332 : Int).toNat (⟨(rd_T68 bt316.2.2.2.1 t332).f0, (rd_T68 bt316.2.2.2.1 t332).f1, mn 3 (wrap64 (((rd_T68 bt316.2.2.2.1 t332).f2) + 1))⟩ : S68) : List (S68))).bind fun y334 => (some (bt316.1, bt316.2.1, bt316.2.2.1, y334, bt316.2.2.2.2, (rd_T68 y334 t332).f1, true))) else (none)) else (none)) else (some (bt316.1, bt316.2.1, bt316.2.2.1, bt316.2.2.2.1, bt316.2.2.2.2, (⟨#[]⟩ : ByteArray), false))))))) else (some (0, 0, ([] : List (S68)), ([] : List (S68)), ([] : List Int), (⟨#[]⟩ : ByteArray), false))) = some (r1, r2, r3, r4, r5, r6, r7) := H
 have A3 := Aside0.mk A30
 clear A30
 by_cases c4 : t315 = true
 ·subst c4
  have H1 : ((impl_copyThree.f a0_0 a0_1 l0_2 l0_3 l0_4).bind fun bt316 => ((impl_itemAt.f k bt316.2.2.1 a1).bind fun t328 => (if t328 ≥ 0 then (if 0 ≤ t328 then (if t328 < (bt316.2.2.1.length : Int) then ((some (bt316.2.2.1.set (t328 : Int).toNat (⟨(rd_T68 bt316.2.2.1 t328).f0, (rd_T68 bt316.2.2.1 t328).f1, mn 3 (wrap64 (((rd_T68 bt316.2.2.1 t328).f2) + 1))⟩ : S68) : List (S68))).bind fun y330 => (some (bt316.1, bt316.2.1, y330, bt316.2.2.2.1, bt316.2.2.2.2, (rd_T68 y330 t328).f1, true))) else (none)) else (none)) else ((impl_itemAt.f k bt316.2.2.2.1 a1).bind fun t332 => (if t332 ≥ 0 then (if 0 ≤ t332 then (if t332 < (bt316.2.2.2.1.length : Int) then ((some (bt316.2.2.2.1.set (t332 : Int).toNat (⟨(rd_T68 bt316.2.2.2.1 t332).f0, (rd_T68 bt316.2.2.2.1 t332).f1, mn 3 (wrap64 (((rd_T68 bt316.2.2.2.1 t332).f2) + 1))⟩ : S68) : List (S68))).bind fun y334 => (some (bt316.1, bt316.2.1, bt316.2.2.1, y334, bt316.2.2.2.2, (rd_T68 y334 t332).f1, true))) else (none)) else (none)) else (some (bt316.1, bt316.2.1, bt316.2.2.1, bt316.2.2.2.1, bt316.2.2.2.2, (⟨#[]⟩ : ByteArray), false))))))) = some (r1, r2, r3, r4, r5, r6, r7) := by rw [if_pos rfl] at H; exact H
  clear H
  have H := H1
  clear H1
  replace H := Option.bind_eq_some_iff.mp H
  obtain ⟨⟨t316, t317, t318, t321, t324⟩, A50, H⟩ := H
  replace H : ((impl_itemAt.f k t318 a1).bind fun t328 => (if t328 ≥ 0 then (if 0 ≤ t328 then (if t328 < (t318.length : Int) then ((some (t318.set (t328 : Int).toNat (⟨(rd_T68 t318 t328).f0, (rd_T68 t318 t328).f1, mn 3 (wrap64 (((rd_T68 t318 t328).f2) + 1))⟩ : S68) : List (S68))).bind fun y330 => (some (t316, t317, y330, t321, t324, (rd_T68 y330 t328).f1, true))) else (none)) else (none)) else ((impl_itemAt.f k t321 a1).bind fun t332 => (if t332 ≥ 0 then (if 0 ≤ t332 then (if t332 < (t321.length : Int) then ((some (t321.set (t332 : Int).toNat (⟨(rd_T68 t321 t332).f0, (rd_T68 t321 t332).f1, mn 3 (wrap64 (((rd_T68 t321 t332).f2) + 1))⟩ : S68) : List (S68))).bind fun y334 => (some (t316, t317, t318, y334, t324, (rd_T68 y334 t332).f1, true))) else (none)) else (none)) else (some (t316, t317, t318, t321, t324, (⟨#[]⟩ : ByteArray), false)))))) = some (r1, r2, r3, r4, r5, r6, r7) := H
  have A5 := Aside0.mk A50
  clear A50
  replace H := Option.bind_eq_some_iff.mp H
  obtain ⟨t328, A60, H⟩ := H
  replace H : (if t328 ≥ 0 then (if 0 ≤ t328 then (if t328 < (t318.length : Int) then ((some (t318.set (t328 : Int).toNat (⟨(rd_T68 t318 t328).f0, (rd_T68 t318 t328).f1, mn 3 (wrap64 (((rd_T68 t318 t328).f2) + 1))⟩ : S68) : List (S68))).bind fun y330 => (some (t316, t317, y330, t321, t324, (rd_T68 y330 t328).f1, true))) else (none)) else (none)) else ((impl_itemAt.f k t321 a1).bind fun t332 => (if t332 ≥ 0 then (if 0 ≤ t332 then (if t332 < (t321.length : Int) then ((some (t321.set (t332 : Int).toNat (⟨(rd_T68 t321 t332).f0, (rd_T68 t321 t332).f1, mn 3 (wrap64 (((rd_T68 t321 t332).f2) + 1))⟩ : S68) : List (S68))).bind fun y334 => (some (t316, t317, t318, y334, t324, (rd_T68 y334 t332).f1, true))) else (none)) else (none)) else (some (t316, t317, t318, t321, t324, (⟨#[]⟩ : ByteArray), false))))) = some (r1, r2, r3, r4, r5, r6, r7) := H
  have A6 := Aside0.mk A60
  clear A60
  by_cases c7 : t328 ≥ 0
  ·rw [if_pos c7] at H
   have c7b0 : decide (0 ≤ t328) = true := decide_eq_true c7
   clear c7
   by_cases c8 : 0 ≤ t328
   ·rw [if_pos c8] at H
    have c8b0 : decide (0 ≤ t328) = true := decide_eq_true c8
    clear c8
    by_cases c9 : t328 < (t318.length : Int)
    ·rw [if_pos c9] at H
     have c9b0 : decide (t328 < (t318.length : Int)) = true := decide_eq_true c9
     clear c9
     obtain ⟨ji10, hji10⟩ : ∃ j_ : Int, (mn 3 (wrap64 (((rd_T68 t318 t328).f2) + 1))) = j_ := ⟨_, rfl⟩
     replace H : ((some (t318.set (t328 : Int).toNat (⟨(rd_T68 t318 t328).f0, (rd_T68 t318 t328).f1, ji10⟩ : S68) : List (S68))).bind fun y330 => (some (t316, t317, y330, t321, t324, (rd_T68 y330 t328).f1, true))) = some (r1, r2, r3, r4, r5, r6, r7) := by first | (rw [hji10] at H; exact H) | (simp only [hji10] at H ⊢; exact H)
     (try rw [hji10] at A3)
     (try rw [hji10] at A5)
     (try rw [hji10] at A6)
     (try (have hji10h : ji10 ≤ 3 := by (rw [← hji10]; unfold mn; (repeat' split) <;> omega)))
     (try (have hji10g : ji10 ≤ 64 := by omega))
     have hji10_ : (if (wrap64 (((rd_T68 t318 t328).f2) + 1)) < 3 then (wrap64 (((rd_T68 t318 t328).f2) + 1)) else 3) = ji10 := hji10
     obtain ⟨y330, hy330⟩ : ∃ y_ : List (S68), y_ = (t318.set (t328 : Int).toNat (⟨(rd_T68 t318 t328).f0, (rd_T68 t318 t328).f1, ji10⟩ : S68)) := ⟨_, rfl⟩
     replace H : (some (t316, t317, y330, t321, t324, (rd_T68 y330 t328).f1, true)) = some (r1, r2, r3, r4, r5, r6, r7) := by first | (rw [hy330]; with_reducible exact H) | (have H2_ := (Option.bind_some _ _).symm.trans H; rw [hy330]; with_reducible exact H2_) | (have H2_ := (Option.bind_some _ _).symm.trans H; with_reducible exact H2_) | with_reducible exact H | (rw [hy330]; exact H) | exact H
     have Ny330 := Aside0.mk hy330
     clear hy330
     simp only [Option.some.injEq, Prod.mk.injEq] at H
     obtain ⟨rfl, rfl, rfl, rfl, rfl, rfl, rfl⟩ := H
     go_enter Try.func36, Try.ntmps36
     go_wp2_with (first | ((with_reducible refine gate_dst (N := 2) rfl ?_); refine bx 2 #[.int .i64 a0_0, .int .i64 a0_1, .slice A0_2 l0_2.length c0_2, .slice A0_3 l0_3.length c0_3, .slice A0_4 l0_4.length c0_4] 30 ?_; intro gb313 hg w12 hbox hb; have BK313 := am hbox; have GW313 := gs0 hg HB; have GE313 := gs0 hg HB; replace HB := s0 HB hb; clear hb hbox hg) | ((with_reducible refine gate_dst (N := 4) rfl ?_); refine bx 4 #[.int .i64 0, .int .i64 0, .slice none 0 0, .slice none 0 0, .slice none 0 0] 30 ?_; intro gb314 hg w13 hbox hb; have BK314 := am hbox; have GW314 := gs1 hg HB GE313; have GE314 := gs1 hg HB GE313; replace HB := Aside0.mk (below_step (be1 HB GE313) hb); have NB313_314 := Aside0.mk ((by rw [hg]; exact Nat.ne_of_lt (bl BK313) : gb313 ≠ gb314)); have NB314_313 := Aside0.mk ((by rw [hg]; exact Nat.ne_of_gt (bl BK313) : gb314 ≠ gb313)); replace BK313 := bb BK313 hb; clear hb hbox hg; have hnb14 := NB313_314.out; have hnc14 := NB314_313.out; have hcz15_0 := bz5 BK313) | ((with_reducible refine gate_callee (f := 19) rfl ?_); refine gl 10 Try.func19 #[.agg #[.int .i64 a0_0, .int .i64 a0_1, .slice A0_2 l0_2.length c0_2, .slice A0_3 l0_3.length c0_3, .slice A0_4 l0_4.length c0_4]] ?_; (with_reducible refine (impl_ThreeOk.calls k a0_0 a0_1 _ _ l0_2 _ _ l0_3 _ _ l0_4 true _ (cb HR0_2 HB) HC0_2.out (cb HR0_3 HB) HC0_3.out (cb HR0_4 HB) HC0_4.out A3.out).mono ?_); rintro e w16 ⟨rfl, hb⟩; refine ⟨_, rfl, ?_⟩; replace BK313 := bb BK313 hb; replace BK314 := bb BK314 hb; replace HB := Aside0.mk (below_step (be2 HB GE313 GE314) hb); (try clear hb); have hcz17_0 := bz5 BK313) | ((with_reducible refine gate_callee (f := 87) rfl ?_); refine gl 14 Try.func87 #[.agg #[.int .i64 a0_0, .int .i64 a0_1, .slice A0_2 l0_2.length c0_2, .slice A0_3 l0_3.length c0_3, .slice A0_4 l0_4.length c0_4]] ?_; (with_reducible refine (impl_copyThree.calls a0_0 a0_1 _ _ l0_2 _ _ l0_3 _ _ l0_4 t316 t317 t318 t321 t324 _ (cb HR0_2 HB) HC0_2.out (cb HR0_3 HB) HC0_3.out (cb HR0_4 HB) HC0_4.out A5.out).mono ?_); rintro e w18 ⟨v319, v322, v325, rfl, ho0, ho1, ho2, hb⟩; refine ⟨_, rfl, ?_⟩; have HO320 := Aside0.mk (Kd.R_lower ho0 (below_size (be2 HB GE313 GE314))); have HO323 := Aside0.mk (Kd.R_lower ho1 (below_size (be2 HB GE313 GE314))); have HO326 := Aside0.mk (Kd.R_lower ho2 (below_size (be2 HB GE313 GE314))); replace BK313 := bb BK313 hb; replace BK314 := bb BK314 hb; replace HB := Aside0.mk (below_step (be2 HB GE313 GE314) hb); (try clear hb); (try clear ho0); (try clear ho1); (try clear ho2)) | ((with_reducible refine gate_dst (N := 7) rfl ?_); refine bx 7 #[.int .i64 0, .int .i64 0, .slice none 0 0, .slice none 0 0, .slice none 0 0] 30 ?_; intro gb327 hg w19 hbox hb; replace HO320 := rb HO320 hb; replace HO323 := rb HO323 hb; replace HO326 := rb HO326 hb; have BK327 := am hbox; have GW327 := gs2 hg HB GE313 GE314; have GE327 := gs2 hg HB GE313 GE314; replace HB := Aside0.mk (below_step (be2 HB GE313 GE314) hb); have NB313_327 := Aside0.mk ((by rw [hg]; exact Nat.ne_of_lt (bl BK313) : gb313 ≠ gb327)); have NB327_313 := Aside0.mk ((by rw [hg]; exact Nat.ne_of_gt (bl BK313) : gb327 ≠ gb313)); replace BK313 := bb BK313 hb; have NB314_327 := Aside0.mk ((by rw [hg]; exact Nat.ne_of_lt (bl BK314) : gb314 ≠ gb327)); have NB327_314 := Aside0.mk ((by rw [hg]; exact Nat.ne_of_gt (bl BK314) : gb327 ≠ gb314)); replace BK314 := bb BK314 hb; clear hb hbox hg; have hnb20 := NB327_313.out; have hnc20 := NB313_327.out; have hnb21 := NB327_314.out; have hnc21 := NB314_327.out; have hcz22_0 := bz5 BK327; obtain ⟨Ao23, co23, eo23⟩ := Kd.R_slice HO320.out; subst eo23; obtain ⟨Ao24, co24, eo24⟩ := Kd.R_slice HO323.out; subst eo24; obtain ⟨Ao25, co25, eo25⟩ := Kd.R_slice HO326.out; subst eo25) | ((with_reducible refine gate_callee (f := 91) rfl ?_); have p9 : 0 ≤ (t328 : Int) := od; have q9 : (t328 : Int) < ((t318.length : Int) : Int) := od; obtain ⟨go11, cq9, eo9, _⟩ := Kd.R_form HO320.out (by omega); (first | cases eo9 | (injection eo9 with ea_ en_ ec_; (first | subst ea_ | (injection ea_ with ea_; subst ea_)); subst ec_; clear en_)); clear p9 q9; refine gl 16 Try.func91 #[.pointer (some ⟨gb327, 0, none⟩), .string a1] ?_; (with_reducible refine (item_small k gb327 t316 t317 go11 co23 t318 (.slice Ao24 t321.length co24) (.slice Ao25 t324.length co25) a1 t328 _ ?sideP ?side1 ((Kd.R_reads' HO320.out).2.1) A6.out od od).mono ?_); (case sideP => exact (by (with_reducible repeat (first | refine blk_drewN ?_ _ | refine blk_drew ?_ | refine blk_alloc ?_ _)); refine blk_put (cs := #[.int .i64 t316, .int .i64 t317, .slice (some ⟨go11, 0, none⟩) t318.length co23, .slice Ao24 t321.length co24, .slice none 0 0]) ?_ 4 _ rfl; (with_reducible repeat (first | refine blk_drewN ?_ _ | refine blk_drew ?_ | refine blk_alloc ?_ _)); refine blk_put (cs := #[.int .i64 t316, .int .i64 t317, .slice (some ⟨go11, 0, none⟩) t318.length co23, .slice none 0 0, .slice none 0 0]) ?_ 3 _ rfl; (with_reducible repeat (first | refine blk_drewN ?_ _ | refine blk_drew ?_ | refine blk_alloc ?_ _)); refine blk_put (cs := #[.int .i64 t316, .int .i64 t317, .slice none 0 0, .slice none 0 0, .slice none 0 0]) ?_ 2 _ rfl; (with_reducible repeat (first | refine blk_drewN ?_ _ | refine blk_drew ?_ | refine blk_alloc ?_ _)); refine blk_put (cs := #[.int .i64 t316, .int .i64 0, .slice none 0 0, .slice none 0 0, .slice none 0 0]) ?_ 1 _ rfl; (with_reducible repeat (first | refine blk_drewN ?_ _ | refine blk_drew ?_ | refine blk_alloc ?_ _)); refine blk_put (cs := #[.int .i64 0, .int .i64 0, .slice none 0 0, .slice none 0 0, .slice none 0 0]) ?_ 0 _ rfl; (with_reducible repeat (first | refine blk_drewN ?_ _ | refine blk_drew ?_ | refine blk_alloc ?_ _)); exact BK327.out)); (case side1 => exact rfr _ HO320 BK327); rintro e w26 ⟨rfl, hb⟩; refine ⟨_, rfl, ?_⟩; replace HO320 := Aside0.mk (Kd.R_below (rf HO320 BK327) hb); replace HO323 := Aside0.mk (Kd.R_below (rf HO323 BK327) hb); replace HO326 := Aside0.mk (Kd.R_below (rf HO326 BK327) hb); replace BK313 := Aside0.mk (blk_below (g := gb313) (o := .cells #[.int .i64 a0_0, .int .i64 a0_1, .slice A0_2 l0_2.length c0_2, .slice A0_3 l0_3.length c0_3, .slice A0_4 l0_4.length c0_4] 30 (0, 0)) (bf1 BK313 NB313_327) hb); replace BK314 := Aside0.mk (blk_below (g := gb314) (o := .cells #[.int .i64 0, .int .i64 0, .slice none 0 0, .slice none 0 0, .slice none 0 0] 30 (0, 0)) (bf1 BK314 NB314_327) hb); replace BK327 := Aside0.mk (blk_below (g := gb327) (o := .cells #[.int .i64 t316, .int .i64 t317, .slice (some ⟨go11, 0, none⟩) t318.length co23, .slice Ao24 t321.length co24, .slice Ao25 t324.length co25] 30 (0, 0)) (by (with_reducible repeat (first | refine blk_drewN ?_ _ | refine blk_drew ?_ | refine blk_alloc ?_ _)); refine blk_put (cs := #[.int .i64 t316, .int .i64 t317, .slice (some ⟨go11, 0, none⟩) t318.length co23, .slice Ao24 t321.length co24, .slice none 0 0]) ?_ 4 _ rfl; (with_reducible repeat (first | refine blk_drewN ?_ _ | refine blk_drew ?_ | refine blk_alloc ?_ _)); refine blk_put (cs := #[.int .i64 t316, .int .i64 t317, .slice (some ⟨go11, 0, none⟩) t318.length co23, .slice none 0 0, .slice none 0 0]) ?_ 3 _ rfl; (with_reducible repeat (first | refine blk_drewN ?_ _ | refine blk_drew ?_ | refine blk_alloc ?_ _)); refine blk_put (cs := #[.int .i64 t316, .int .i64 t317, .slice none 0 0, .slice none 0 0, .slice none 0 0]) ?_ 2 _ rfl; (with_reducible repeat (first | refine blk_drewN ?_ _ | refine blk_drew ?_ | refine blk_alloc ?_ _)); refine blk_put (cs := #[.int .i64 t316, .int .i64 0, .slice none 0 0, .slice none 0 0, .slice none 0 0]) ?_ 1 _ rfl; (with_reducible repeat (first | refine blk_drewN ?_ _ | refine blk_drew ?_ | refine blk_alloc ?_ _)); refine blk_put (cs := #[.int .i64 0, .int .i64 0, .slice none 0 0, .slice none 0 0, .slice none 0 0]) ?_ 0 _ rfl; (with_reducible repeat (first | refine blk_drewN ?_ _ | refine blk_drew ?_ | refine blk_alloc ?_ _)); exact BK327.out) hb); replace HB := Aside0.mk (below_step (be3 HB GE313 GE314 GE327) hb); (try clear hb); have hcz27_0 := bz5 BK327; have p11 : 0 ≤ (t328 : Int) := od; have q11 : (t328 : Int) < ((t318.length : Int) : Int) := od; obtain ⟨gz_, cz_, ez_, gb11, gl11, cl11, HG11⟩ := Kd.R_form HO320.out (by omega); have ez2_ : go11 = gz_ := (by cases ez_; rfl); subst ez2_; clear ez_; have GB11 := Aside0.mk gb11; have GG11 := Aside0.mk HG11; clear gb11 gl11 HG11; (first | simp only [add_plain] at hx329_0 | skip); (first | simp only [add_plain] at hx329_1 | skip); (first | simp only [add_plain] at hx329_2 | skip); obtain ⟨ce11, hcl11, hM11, hcc11, hfr11⟩ := Kd.R_elem HO320.out z68 (t328 : Int) p11 q11; obtain rfl := k68_openM hM11; have hx11_0 : w26.cell? ⟨go11, (t328 : Int).toNat * 3, none⟩ = some (.string ((rd_T68 t318 t328).f0)) := hcc11 0 _ rfl; have hx11_1 : w26.cell? ⟨go11, (t328 : Int).toNat * 3 + 1, none⟩ = some (.string ((rd_T68 t318 t328).f1)) := hcc11 1 _ rfl; have hx11_2 : w26.cell? ⟨go11, (t328 : Int).toNat * 3 + 2, none⟩ = some (.int .i64 ((rd_T68 t318 t328).f2)) := hcc11 2 _ rfl; have hf11_0 : w26.frozen? ⟨go11, (t328 : Int).toNat * 3, none⟩ = false := hfr11 0; have hf11_1 : w26.frozen? ⟨go11, (t328 : Int).toNat * 3 + 1, none⟩ = false := hfr11 1; have hf11_2 : w26.frozen? ⟨go11, (t328 : Int).toNat * 3 + 2, none⟩ = false := hfr11 2; clear hcl11 hcc11 hfr11 hM11; replace p11 := eq_true p11; replace q11 := eq_true q11; have HX28 := Aside0.mk (show Kd.R k68 68 w26 w.heap.size (fun k_ => nb k_ Ao24 t321.length co24) (.slice (some ⟨go11, 0, none⟩) t318.length co23) t318 from (ro HO320)); obtain ⟨ce28, hcl28, hM28, hcc28, hfr28⟩ := Kd.R_elem HX28.out z68 (t328 : Int) (od) (by have h_ : (t328 : Int) < ((t318.length : Int) : Int) := od; first | exact h_ | (have e_ := (Kd.R_reads' HO320.out).1; omega) | simpa using h_); obtain rfl := k68_openM hM28; have HP28 := Kd.R_seg HX28.out (t328 : Int) (od) (by have h_ : (t328 : Int) < ((t318.length : Int) : Int) := od; first | exact h_ | (have e_ := (Kd.R_reads' HO320.out).1; omega) | simpa using h_) (seg := [.int .i64 ji10]) (j := 2) hcl28 hcc28 (show 3 ≤ 3 from by decide) (x' := (⟨(rd_T68 t318 t328).f0, (rd_T68 t318 t328).f1, ji10⟩ : S68)) (k68_mkM _ _ _ (⟨(rd_T68 t318 t328).f0, (rd_T68 t318 t328).f1, ji10⟩ : S68) ) (fun _ hk => hk); have hx28_2 := hcc28 2 _ rfl; (try simp only [show (k68).sz = 3 from rfl, Nat.mul_one, Nat.add_zero] at hx28_2); have hf28_2 := hfr28 2; (try simp only [show (k68).sz = 3 from rfl, Nat.mul_one, Nat.add_zero] at hf28_2); clear hcl28 hcc28 hfr28 hM28) | ((with_reducible refine gate_store (t := 3) (p := 28) rfl ?_); refine store_event (t := 3) (p := 28) (v := ?vo_w29) (w1 := (w26.setCell ⟨go11, (t328 : Int).toNat * 3 + 2, none⟩ (.int .i64 ji10))) ?hg ?ho ?hn ?hr ?_; (case ho => rfl); (case hg => rfl); (case hn => rfl); (case hr => first | (go_simp; done) | (go_simp; rfl)); intro w29 hw; have hg : w26.grownBy w29 (some go11) := (by rw [hw]; exact HP28.2); have hp_ : Kd.R k68 68 w29 w.heap.size (fun k_ => nb k_ Ao24 t321.length co24) (.slice (some ⟨go11, 0, none⟩) t318.length co23) y330 := (by rw [hw, Ny330.out]; exact HP28.1); clear HP28; replace BK313 := Aside0.mk (blk_grown (g := gb313) (o := .cells #[.int .i64 a0_0, .int .i64 a0_1, .slice A0_2 l0_2.length c0_2, .slice A0_3 l0_3.length c0_3, .slice A0_4 l0_4.length c0_4] 30 (0, 0)) (bk BK313) hg (Kd.R_ne HO320.out BK313.out (by decide))); replace BK314 := Aside0.mk (blk_grown (g := gb314) (o := .cells #[.int .i64 0, .int .i64 0, .slice none 0 0, .slice none 0 0, .slice none 0 0] 30 (0, 0)) (bk BK314) hg (Kd.R_ne HO320.out BK314.out (by decide))); replace HO323 := Aside0.mk (Kd.R_after (v := (.slice (some ⟨go11, 0, none⟩) t318.length co23)) (v1 := (.slice (some ⟨go11, 0, none⟩) t318.length co23)) (ok := (fun _ => True)) (by (with_reducible repeat (first | apply Kd.R_alloc | apply Kd.R_drewN | apply Kd.R_drew)); exact rm HO323) hg (.inl rfl)); replace HO326 := Aside0.mk (Kd.R_over' (v := (.slice (some ⟨go11, 0, none⟩) t318.length co23)) (ro HO326) (Kd.R_typed HO320.out) (by decide) hg); replace BK327 := Aside0.mk (blk_grown (g := gb327) (o := .cells #[.int .i64 t316, .int .i64 t317, .slice (some ⟨go11, 0, none⟩) t318.length co23, .slice Ao24 t321.length co24, .slice Ao25 t324.length co25] 30 (0, 0)) (bk BK327) hg (Kd.R_ne HO320.out BK327.out (by decide))); replace HO320 := Aside0.mk (hp_); replace HB := Aside0.mk ((by rw [hw]; exact below_set (HB.out) GB11.out : Below w.heap.size w w29)); clear hg hw hp_; have hcz30_0 := bz5 BK327; have p331 : 0 ≤ (t328 : Int) := od; have q331 : t328 < (y330.length : Int) := (by have h_ : (t328 : Int) < ((t318.length : Int) : Int) := od; first | (have e_ := (Kd.R_reads' HO320.out).1; omega) | simpa only [Ny330.out, List.length_set] using h_); have ql331 : ((t328 : Int) < ((t318.length : Int) : Int)) = True := eq_true (od); obtain ⟨ad331, e331, hx331_0, hx331_1, hx331_2⟩ := at_T68 (Kd.R_reads' HO320.out).2.2 t328 p331 q331; obtain rfl : (⟨go11, 0, none⟩ : Addr) = ad331 := (by injection e331); (first | simp only [add_plain] at hx331_0 | simp only [add_at] at hx331_0 | simp only [Addr.add, Nat.zero_add] at hx331_0 | skip); (first | simp only [add_plain] at hx331_1 | simp only [add_at] at hx331_1 | simp only [Addr.add, Nat.zero_add] at hx331_1 | skip); (first | simp only [add_plain] at hx331_2 | simp only [add_at] at hx331_2 | simp only [Addr.add, Nat.zero_add] at hx331_2 | skip); replace p331 := eq_true p331; replace q331 := eq_true q331; have hcz31_0 := bz5 BK314; have hnb9 : gb314 ≠ go11 := fun e_ => (Kd.R_ne HO320.out BK314.out (by decide)) (by rw [e_]; rfl); have hnc9 : go11 ≠ gb314 := fun e_ => hnb9 e_.symm))
     replace HO320 := Aside0.mk (Kd.R_drew HO320.out)
     replace HO323 := Aside0.mk (Kd.R_drew HO323.out)
     replace HO326 := Aside0.mk (Kd.R_drew HO326.out)
     replace BK313 := Aside0.mk (blk_drew BK313.out)
     replace BK314 := Aside0.mk (blk_drew BK314.out)
     replace BK327 := Aside0.mk (blk_drew BK327.out)
     replace HB := Aside0.mk (below_drew1 HB.out)
     have hv9 : w29.drew.cell? ⟨go11, (t328 : Int).toNat * 3 + 1, none⟩ = some (.string ((rd_T68 y330 t328).f1)) := hx331_1
     refine start_ (n := 8) (S := fun w' => w'.cell? ⟨gb327, 0, none⟩ = some (.int .i64 t316) ∧ w'.cell? ⟨gb327, 1, none⟩ = some (.int .i64 t317) ∧ w'.cell? ⟨gb327, 2, none⟩ = some (.slice (some ⟨go11, 0, none⟩) t318.length co23) ∧ w'.cell? ⟨gb327, 3, none⟩ = some (.slice Ao24 t321.length co24) ∧ w'.cell? ⟨gb327, 4, none⟩ = some (.slice Ao25 t324.length co25) ∧ w'.cell? ⟨go11, (t328 : Int).toNat * 3 + 1, none⟩ = some (.string ((rd_T68 y330 t328).f1))) (ds := []) #[false, false, false, false, false, false, false, false] (by kernel_rfl) rfl rfl ⟨bc0 BK327, bc1 BK327, bc2 BK327, bc3 BK327, bc4 BK327, hv9⟩ (fun hHeld => ?_)
     clear hv9
     generalize w29.drew = w99 at HO320 HO323 HO326 BK313 BK314 BK327 HB hHeld ⊢
     refine pure_ (i := 1) (N := some 30) (v := ?_) (a' := ?_) #[false, true, false, false, false, false, false, false] rfl rfl (by kernel_rfl) (fun _ _ _ h => h) (Or.inl ⟨by rfl, ?_⟩) ?_ ?_
     rotate_left
     ·intro w'
      go_simp
      with_reducible rfl
     rotate_left
     ·simp only [aP]
      rfl
     refine pure_ (i := 2) (N := some 31) (v := ?_) (a' := ?_) #[false, true, true, false, false, false, false, false] rfl rfl (by kernel_rfl) (fun _ _ _ h => h) (Or.inl ⟨by rfl, ?_⟩) ?_ ?_
     rotate_left
     ·intro w'
      go_simp
      with_reducible rfl
     rotate_left
     ·simp only [aP]
      rfl
     refine pure_ (i := 3) (N := some 32) (v := ?_) (a' := ?_) #[false, true, true, true, false, false, false, false] rfl rfl (by kernel_rfl) (fun _ _ _ h => h) (Or.inl ⟨by rfl, ?_⟩) ?_ ?_
     rotate_left
     ·intro w'
      go_simp
      with_reducible rfl
     rotate_left
     ·simp only [aP]
      rfl
     refine take_ (i := 0) (N := some 29) (v := ?_) (a' := ?_) #[true, true, true, true, false, false, false, false] rfl rfl (by kernel_rfl) (fun _ _ _ h => h) (Or.inl ⟨by rfl, ?_⟩) hHeld ?_ ?_
     rotate_left
     ·rintro w' ⟨s0, s1, s2, s3, s4, s5⟩
      go_simp
      with_reducible rfl
     rotate_left
     ·simp only [aP]
      rfl
     refine take_ (i := 4) (N := some 33) (v := ?_) (a' := ?_) #[true, true, true, true, true, false, false, false] rfl rfl (by kernel_rfl) (fun _ _ _ h => h) (Or.inl ⟨by rfl, ?_⟩) hHeld ?_ ?_
     rotate_left
     ·rintro w' ⟨s0, s1, s2, s3, s4, s5⟩
      go_simp
      with_reducible rfl
     rotate_left
     ·simp only [aP]
      rfl
     refine one_ (i := 5) (N := none) #[true, true, true, true, true, true, false, false] rfl rfl (by kernel_rfl) (by decide) (fun K hK => ?_)
     have hs09 : w99.cell? ⟨gb314, 0, none⟩ = some (.int .i64 0) := bc0 BK314
     have hfs09 := blk_frozen BK314.out 0
     have hs19 : w99.cell? ⟨gb314, 1, none⟩ = some (.int .i64 0) := bc1 BK314
     have hfs19 := blk_frozen BK314.out 1
     have hs29 : w99.cell? ⟨gb314, 2, none⟩ = some (.slice none 0 0) := bc2 BK314
     have hfs29 := blk_frozen BK314.out 2
     have hs39 : w99.cell? ⟨gb314, 3, none⟩ = some (.slice none 0 0) := bc3 BK314
     have hfs39 := blk_frozen BK314.out 3
     have hs49 : w99.cell? ⟨gb314, 4, none⟩ = some (.slice none 0 0) := bc4 BK314
     have hfs49 := blk_frozen BK314.out 4
     have hns9 := NB327_314.out
     have hms9 := NB314_327.out
     refine skip_ (w1 := ?_) (by rfl) rfl ?_ ?_
     rotate_left
     ·go_simp
      rfl
     refine hK.out _ _ ⟨((cell_far (p := ⟨gb314, _, none⟩) NB327_314.out _).trans ((cell_far (p := ⟨gb314, _, none⟩) NB327_314.out _).trans ((cell_far (p := ⟨gb314, _, none⟩) NB327_314.out _).trans ((cell_far (p := ⟨gb314, _, none⟩) NB327_314.out _).trans ((cell_far (p := ⟨gb314, _, none⟩) NB327_314.out _).trans (hHeld.1)))))), ((cell_far (p := ⟨gb314, _, none⟩) NB327_314.out _).trans ((cell_far (p := ⟨gb314, _, none⟩) NB327_314.out _).trans ((cell_far (p := ⟨gb314, _, none⟩) NB327_314.out _).trans ((cell_far (p := ⟨gb314, _, none⟩) NB327_314.out _).trans ((cell_far (p := ⟨gb314, _, none⟩) NB327_314.out _).trans (hHeld.2.1)))))), ((cell_far (p := ⟨gb314, _, none⟩) NB327_314.out _).trans ((cell_far (p := ⟨gb314, _, none⟩) NB327_314.out _).trans ((cell_far (p := ⟨gb314, _, none⟩) NB327_314.out _).trans ((cell_far (p := ⟨gb314, _, none⟩) NB327_314.out _).trans ((cell_far (p := ⟨gb314, _, none⟩) NB327_314.out _).trans (hHeld.2.2.1)))))), ((cell_far (p := ⟨gb314, _, none⟩) NB327_314.out _).trans ((cell_far (p := ⟨gb314, _, none⟩) NB327_314.out _).trans ((cell_far (p := ⟨gb314, _, none⟩) NB327_314.out _).trans ((cell_far (p := ⟨gb314, _, none⟩) NB327_314.out _).trans ((cell_far (p := ⟨gb314, _, none⟩) NB327_314.out _).trans (hHeld.2.2.2.1)))))), ((cell_far (p := ⟨gb314, _, none⟩) NB327_314.out _).trans ((cell_far (p := ⟨gb314, _, none⟩) NB327_314.out _).trans ((cell_far (p := ⟨gb314, _, none⟩) NB327_314.out _).trans ((cell_far (p := ⟨gb314, _, none⟩) NB327_314.out _).trans ((cell_far (p := ⟨gb314, _, none⟩) NB327_314.out _).trans (hHeld.2.2.2.2.1)))))), ((cell_far (p := ⟨gb314, _, none⟩) hnc9 _).trans ((cell_far (p := ⟨gb314, _, none⟩) hnc9 _).trans ((cell_far (p := ⟨gb314, _, none⟩) hnc9 _).trans ((cell_far (p := ⟨gb314, _, none⟩) hnc9 _).trans ((cell_far (p := ⟨gb314, _, none⟩) hnc9 _).trans (hHeld.2.2.2.2.2))))))⟩ (fun hHeld => ?_)
     clear hK K
     refine pure_ (i := 6) (N := some 5) (v := ?_) (a' := ?_) #[true, true, true, true, true, true, true, false] rfl rfl (by kernel_rfl) (fun _ _ _ h => h) (Or.inl ⟨by rfl, ?_⟩) ?_ ?_
     rotate_left
     ·intro w'
      go_simp
      with_reducible rfl
     rotate_left
     ·simp only [aP]
      rfl
     refine pure_ (i := 7) (N := some 6) (v := ?_) (a' := ?_) #[true, true, true, true, true, true, true, true] rfl rfl (by kernel_rfl) (fun _ _ _ h => h) (Or.inl ⟨by rfl, ?_⟩) ?_ ?_
     rotate_left
     ·intro w'
      go_simp
      with_reducible rfl
     rotate_left
     ·simp only [aP]
      rfl
     refine done_ (by kernel_rfl) ?_
     try go_wp2
     refine bodyPost_ret (results_ctt rfl _ _ gb314 30 #[.int .i64 t316, .int .i64 t317, .slice (some ⟨go11, 0, none⟩) t318.length co23, .slice Ao24 t321.length co24, .slice Ao25 t324.length co25] (0, 0) _ rfl (by (with_reducible repeat (first | refine blk_drewN ?_ _ | refine blk_drew ?_ | refine blk_alloc ?_ _)); refine blk_put (cs := #[.int .i64 t316, .int .i64 t317, .slice (some ⟨go11, 0, none⟩) t318.length co23, .slice Ao24 t321.length co24, .slice none 0 0]) ?_ 4 _ rfl; (with_reducible repeat (first | refine blk_drewN ?_ _ | refine blk_drew ?_ | refine blk_alloc ?_ _)); refine blk_put (cs := #[.int .i64 t316, .int .i64 t317, .slice (some ⟨go11, 0, none⟩) t318.length co23, .slice none 0 0, .slice none 0 0]) ?_ 3 _ rfl; (with_reducible repeat (first | refine blk_drewN ?_ _ | refine blk_drew ?_ | refine blk_alloc ?_ _)); refine blk_put (cs := #[.int .i64 t316, .int .i64 t317, .slice none 0 0, .slice none 0 0, .slice none 0 0]) ?_ 2 _ rfl; (with_reducible repeat (first | refine blk_drewN ?_ _ | refine blk_drew ?_ | refine blk_alloc ?_ _)); refine blk_put (cs := #[.int .i64 t316, .int .i64 0, .slice none 0 0, .slice none 0 0, .slice none 0 0]) ?_ 1 _ rfl; (with_reducible repeat (first | refine blk_drewN ?_ _ | refine blk_drew ?_ | refine blk_alloc ?_ _)); refine blk_put (cs := #[.int .i64 0, .int .i64 0, .slice none 0 0, .slice none 0 0, .slice none 0 0]) ?_ 0 _ rfl; (with_reducible repeat (first | refine blk_drewN ?_ _ | refine blk_drew ?_ | refine blk_alloc ?_ _)); exact BK314.out) Try.underlying30 rfl (by kernel_rfl)) rfl ?_
     exact ⟨_, _, _, by first | rfl | (simp [errW_none, errW_some] <;> rfl) | (simp only [← hji10]; first | rfl | (simp [errW_none, errW_some] <;> rfl)) | (simp [*, errW_none, errW_some] <;> rfl), by (with_reducible repeat (first | apply Kd.R_alloc | apply Kd.R_drewN | apply Kd.R_drew)); exact Kd.R_mono (Kd.R_far (p := ⟨gb314, 4, none⟩) (Kd.R_far (p := ⟨gb314, 3, none⟩) (Kd.R_far (p := ⟨gb314, 2, none⟩) (Kd.R_far (p := ⟨gb314, 1, none⟩) (Kd.R_far (p := ⟨gb314, 0, none⟩) (Kd.R_types HO320.out BK314.out (by decide)) (fun _ hk => hk.2) (.int .i64 t316)) (fun _ hk => hk.2) (.int .i64 t317)) (fun _ hk => hk.2) (.slice (some ⟨go11, 0, none⟩) t318.length co23)) (fun _ hk => hk.2) (.slice Ao24 t321.length co24)) (fun _ hk => hk.2) (.slice Ao25 t324.length co25)) (fun _ hk => hk.1), by (with_reducible repeat (first | apply Kd.R_alloc | apply Kd.R_drewN | apply Kd.R_drew)); exact Kd.R_mono (Kd.R_far (p := ⟨gb314, 4, none⟩) (Kd.R_far (p := ⟨gb314, 3, none⟩) (Kd.R_far (p := ⟨gb314, 2, none⟩) (Kd.R_far (p := ⟨gb314, 1, none⟩) (Kd.R_far (p := ⟨gb314, 0, none⟩) (Kd.R_types HO323.out BK314.out (by decide)) (fun _ hk => hk.2) (.int .i64 t316)) (fun _ hk => hk.2) (.int .i64 t317)) (fun _ hk => hk.2) (.slice (some ⟨go11, 0, none⟩) t318.length co23)) (fun _ hk => hk.2) (.slice Ao24 t321.length co24)) (fun _ hk => hk.2) (.slice Ao25 t324.length co25)) (fun _ hk => hk.1.2), by (with_reducible repeat (first | apply Kd.R_alloc | apply Kd.R_drewN | apply Kd.R_drew)); exact Kd.R_mono (Kd.R_far (p := ⟨gb314, 4, none⟩) (Kd.R_far (p := ⟨gb314, 3, none⟩) (Kd.R_far (p := ⟨gb314, 2, none⟩) (Kd.R_far (p := ⟨gb314, 1, none⟩) (Kd.R_far (p := ⟨gb314, 0, none⟩) (Kd.R_types HO326.out BK314.out (by decide)) (fun _ hk => hk.2) (.int .i64 t316)) (fun _ hk => hk.2) (.int .i64 t317)) (fun _ hk => hk.2) (.slice (some ⟨go11, 0, none⟩) t318.length co23)) (fun _ hk => hk.2) (.slice Ao24 t321.length co24)) (fun _ hk => hk.2) (.slice Ao25 t324.length co25)) (fun _ hk => trivial), be3 HB GE313 GE314 GE327⟩
    rw [if_neg c9] at H
    exact absurd H (by simp)
   rw [if_neg c8] at H
   exact absurd H (by simp)
  rw [if_neg c7] at H
  have c7b0 : decide (0 ≤ t328) = false := decide_eq_false c7
  clear c7
  replace H := Option.bind_eq_some_iff.mp H
  obtain ⟨t332, A320, H⟩ := H
  replace H : (if t332 ≥ 0 then (if 0 ≤ t332 then (if t332 < (t321.length : Int) then ((some (t321.set (t332 : Int).toNat (⟨(rd_T68 t321 t332).f0, (rd_T68 t321 t332).f1, mn 3 (wrap64 (((rd_T68 t321 t332).f2) + 1))⟩ : S68) : List (S68))).bind fun y334 => (some (t316, t317, t318, y334, t324, (rd_T68 y334 t332).f1, true))) else (none)) else (none)) else (some (t316, t317, t318, t321, t324, (⟨#[]⟩ : ByteArray), false))) = some (r1, r2, r3, r4, r5, r6, r7) := H
  have A32 := Aside0.mk A320
  clear A320
  by_cases c33 : t332 ≥ 0
  ·rw [if_pos c33] at H
   have c33b0 : decide (0 ≤ t332) = true := decide_eq_true c33
   clear c33
   by_cases c34 : 0 ≤ t332
   ·rw [if_pos c34] at H
    have c34b0 : decide (0 ≤ t332) = true := decide_eq_true c34
    clear c34
    by_cases c35 : t332 < (t321.length : Int)
    ·rw [if_pos c35] at H
     have c35b0 : decide (t332 < (t321.length : Int)) = true := decide_eq_true c35
     clear c35
     obtain ⟨ji36, hji36⟩ : ∃ j_ : Int, (mn 3 (wrap64 (((rd_T68 t321 t332).f2) + 1))) = j_ := ⟨_, rfl⟩
     replace H : ((some (t321.set (t332 : Int).toNat (⟨(rd_T68 t321 t332).f0, (rd_T68 t321 t332).f1, ji36⟩ : S68) : List (S68))).bind fun y334 => (some (t316, t317, t318, y334, t324, (rd_T68 y334 t332).f1, true))) = some (r1, r2, r3, r4, r5, r6, r7) := by first | (rw [hji36] at H; exact H) | (simp only [hji36] at H ⊢; exact H)
     (try rw [hji36] at A3)
     (try rw [hji36] at A5)
     (try rw [hji36] at A6)
     (try rw [hji36] at A32)
     (try (have hji36h : ji36 ≤ 3 := by (rw [← hji36]; unfold mn; (repeat' split) <;> omega)))
     (try (have hji36g : ji36 ≤ 64 := by omega))
     have hji36_ : (if (wrap64 (((rd_T68 t321 t332).f2) + 1)) < 3 then (wrap64 (((rd_T68 t321 t332).f2) + 1)) else 3) = ji36 := hji36
     obtain ⟨y334, hy334⟩ : ∃ y_ : List (S68), y_ = (t321.set (t332 : Int).toNat (⟨(rd_T68 t321 t332).f0, (rd_T68 t321 t332).f1, ji36⟩ : S68)) := ⟨_, rfl⟩
     replace H : (some (t316, t317, t318, y334, t324, (rd_T68 y334 t332).f1, true)) = some (r1, r2, r3, r4, r5, r6, r7) := by first | (rw [hy334]; with_reducible exact H) | (have H2_ := (Option.bind_some _ _).symm.trans H; rw [hy334]; with_reducible exact H2_) | (have H2_ := (Option.bind_some _ _).symm.trans H; with_reducible exact H2_) | with_reducible exact H | (rw [hy334]; exact H) | exact H
     have Ny334 := Aside0.mk hy334
     clear hy334
     simp only [Option.some.injEq, Prod.mk.injEq] at H
     obtain ⟨rfl, rfl, rfl, rfl, rfl, rfl, rfl⟩ := H
     go_enter Try.func36, Try.ntmps36
     go_wp2_with (first | ((with_reducible refine gate_dst (N := 2) rfl ?_); refine bx 2 #[.int .i64 a0_0, .int .i64 a0_1, .slice A0_2 l0_2.length c0_2, .slice A0_3 l0_3.length c0_3, .slice A0_4 l0_4.length c0_4] 30 ?_; intro gb313 hg w38 hbox hb; have BK313 := am hbox; have GW313 := gs0 hg HB; have GE313 := gs0 hg HB; replace HB := s0 HB hb; clear hb hbox hg) | ((with_reducible refine gate_dst (N := 4) rfl ?_); refine bx 4 #[.int .i64 0, .int .i64 0, .slice none 0 0, .slice none 0 0, .slice none 0 0] 30 ?_; intro gb314 hg w39 hbox hb; have BK314 := am hbox; have GW314 := gs1 hg HB GE313; have GE314 := gs1 hg HB GE313; replace HB := Aside0.mk (below_step (be1 HB GE313) hb); have NB313_314 := Aside0.mk ((by rw [hg]; exact Nat.ne_of_lt (bl BK313) : gb313 ≠ gb314)); have NB314_313 := Aside0.mk ((by rw [hg]; exact Nat.ne_of_gt (bl BK313) : gb314 ≠ gb313)); replace BK313 := bb BK313 hb; clear hb hbox hg; have hnb40 := NB313_314.out; have hnc40 := NB314_313.out; have hcz41_0 := bz5 BK313) | ((with_reducible refine gate_callee (f := 19) rfl ?_); refine gl 10 Try.func19 #[.agg #[.int .i64 a0_0, .int .i64 a0_1, .slice A0_2 l0_2.length c0_2, .slice A0_3 l0_3.length c0_3, .slice A0_4 l0_4.length c0_4]] ?_; (with_reducible refine (impl_ThreeOk.calls k a0_0 a0_1 _ _ l0_2 _ _ l0_3 _ _ l0_4 true _ (cb HR0_2 HB) HC0_2.out (cb HR0_3 HB) HC0_3.out (cb HR0_4 HB) HC0_4.out A3.out).mono ?_); rintro e w42 ⟨rfl, hb⟩; refine ⟨_, rfl, ?_⟩; replace BK313 := bb BK313 hb; replace BK314 := bb BK314 hb; replace HB := Aside0.mk (below_step (be2 HB GE313 GE314) hb); (try clear hb); have hcz43_0 := bz5 BK313) | ((with_reducible refine gate_callee (f := 87) rfl ?_); refine gl 14 Try.func87 #[.agg #[.int .i64 a0_0, .int .i64 a0_1, .slice A0_2 l0_2.length c0_2, .slice A0_3 l0_3.length c0_3, .slice A0_4 l0_4.length c0_4]] ?_; (with_reducible refine (impl_copyThree.calls a0_0 a0_1 _ _ l0_2 _ _ l0_3 _ _ l0_4 t316 t317 t318 t321 t324 _ (cb HR0_2 HB) HC0_2.out (cb HR0_3 HB) HC0_3.out (cb HR0_4 HB) HC0_4.out A5.out).mono ?_); rintro e w44 ⟨v319, v322, v325, rfl, ho0, ho1, ho2, hb⟩; refine ⟨_, rfl, ?_⟩; have HO320 := Aside0.mk (Kd.R_lower ho0 (below_size (be2 HB GE313 GE314))); have HO323 := Aside0.mk (Kd.R_lower ho1 (below_size (be2 HB GE313 GE314))); have HO326 := Aside0.mk (Kd.R_lower ho2 (below_size (be2 HB GE313 GE314))); replace BK313 := bb BK313 hb; replace BK314 := bb BK314 hb; replace HB := Aside0.mk (below_step (be2 HB GE313 GE314) hb); (try clear hb); (try clear ho0); (try clear ho1); (try clear ho2)) | ((with_reducible refine gate_dst (N := 7) rfl ?_); refine bx 7 #[.int .i64 0, .int .i64 0, .slice none 0 0, .slice none 0 0, .slice none 0 0] 30 ?_; intro gb327 hg w45 hbox hb; replace HO320 := rb HO320 hb; replace HO323 := rb HO323 hb; replace HO326 := rb HO326 hb; have BK327 := am hbox; have GW327 := gs2 hg HB GE313 GE314; have GE327 := gs2 hg HB GE313 GE314; replace HB := Aside0.mk (below_step (be2 HB GE313 GE314) hb); have NB313_327 := Aside0.mk ((by rw [hg]; exact Nat.ne_of_lt (bl BK313) : gb313 ≠ gb327)); have NB327_313 := Aside0.mk ((by rw [hg]; exact Nat.ne_of_gt (bl BK313) : gb327 ≠ gb313)); replace BK313 := bb BK313 hb; have NB314_327 := Aside0.mk ((by rw [hg]; exact Nat.ne_of_lt (bl BK314) : gb314 ≠ gb327)); have NB327_314 := Aside0.mk ((by rw [hg]; exact Nat.ne_of_gt (bl BK314) : gb327 ≠ gb314)); replace BK314 := bb BK314 hb; clear hb hbox hg; have hnb46 := NB327_313.out; have hnc46 := NB313_327.out; have hnb47 := NB327_314.out; have hnc47 := NB314_327.out; have hcz48_0 := bz5 BK327; obtain ⟨Ao49, co49, eo49⟩ := Kd.R_slice HO320.out; subst eo49; obtain ⟨Ao50, co50, eo50⟩ := Kd.R_slice HO323.out; subst eo50; obtain ⟨Ao51, co51, eo51⟩ := Kd.R_slice HO326.out; subst eo51) | ((with_reducible refine gate_callee (f := 91) rfl ?_); have p9 : 0 ≤ (t332 : Int) := od; have q9 : (t332 : Int) < ((t321.length : Int) : Int) := od; obtain ⟨go37, cq9, eo9, _⟩ := Kd.R_form HO323.out (by omega); (first | cases eo9 | (injection eo9 with ea_ en_ ec_; (first | subst ea_ | (injection ea_ with ea_; subst ea_)); subst ec_; clear en_)); clear p9 q9; have hn9 : ¬ (0 ≤ t328) := of_decide_eq_false (by assumption); refine gl 16 Try.func91 #[.pointer (some ⟨gb327, 0, none⟩), .string a1] ?_; (with_reducible refine (item_main k gb327 t316 t317 Ao49 co49 t318 go37 co50 t321 (.slice Ao51 t324.length co51) a1 t328 t332 _ ?sideP ?side1 ((Kd.R_reads' HO320.out).2.1) ?side2 ((Kd.R_reads' HO323.out).2.1) A6.out (by omega) A32.out od od).mono ?_); (case sideP => exact (by (with_reducible repeat (first | refine blk_drewN ?_ _ | refine blk_drew ?_ | refine blk_alloc ?_ _)); refine blk_put (cs := #[.int .i64 t316, .int .i64 t317, .slice Ao49 t318.length co49, .slice (some ⟨go37, 0, none⟩) t321.length co50, .slice none 0 0]) ?_ 4 _ rfl; (with_reducible repeat (first | refine blk_drewN ?_ _ | refine blk_drew ?_ | refine blk_alloc ?_ _)); refine blk_put (cs := #[.int .i64 t316, .int .i64 t317, .slice Ao49 t318.length co49, .slice none 0 0, .slice none 0 0]) ?_ 3 _ rfl; (with_reducible repeat (first | refine blk_drewN ?_ _ | refine blk_drew ?_ | refine blk_alloc ?_ _)); refine blk_put (cs := #[.int .i64 t316, .int .i64 t317, .slice none 0 0, .slice none 0 0, .slice none 0 0]) ?_ 2 _ rfl; (with_reducible repeat (first | refine blk_drewN ?_ _ | refine blk_drew ?_ | refine blk_alloc ?_ _)); refine blk_put (cs := #[.int .i64 t316, .int .i64 0, .slice none 0 0, .slice none 0 0, .slice none 0 0]) ?_ 1 _ rfl; (with_reducible repeat (first | refine blk_drewN ?_ _ | refine blk_drew ?_ | refine blk_alloc ?_ _)); refine blk_put (cs := #[.int .i64 0, .int .i64 0, .slice none 0 0, .slice none 0 0, .slice none 0 0]) ?_ 0 _ rfl; (with_reducible repeat (first | refine blk_drewN ?_ _ | refine blk_drew ?_ | refine blk_alloc ?_ _)); exact BK327.out)); (case side1 => exact rfr _ HO320 BK327); (case side2 => exact rfr _ HO323 BK327); rintro e w54 ⟨rfl, hb⟩; refine ⟨_, rfl, ?_⟩; clear hn9; replace HO320 := Aside0.mk (Kd.R_below (rf HO320 BK327) hb); replace HO323 := Aside0.mk (Kd.R_below (rf HO323 BK327) hb); replace HO326 := Aside0.mk (Kd.R_below (rf HO326 BK327) hb); replace BK313 := Aside0.mk (blk_below (g := gb313) (o := .cells #[.int .i64 a0_0, .int .i64 a0_1, .slice A0_2 l0_2.length c0_2, .slice A0_3 l0_3.length c0_3, .slice A0_4 l0_4.length c0_4] 30 (0, 0)) (bf1 BK313 NB313_327) hb); replace BK314 := Aside0.mk (blk_below (g := gb314) (o := .cells #[.int .i64 0, .int .i64 0, .slice none 0 0, .slice none 0 0, .slice none 0 0] 30 (0, 0)) (bf1 BK314 NB314_327) hb); replace BK327 := Aside0.mk (blk_below (g := gb327) (o := .cells #[.int .i64 t316, .int .i64 t317, .slice Ao49 t318.length co49, .slice (some ⟨go37, 0, none⟩) t321.length co50, .slice Ao51 t324.length co51] 30 (0, 0)) (by (with_reducible repeat (first | refine blk_drewN ?_ _ | refine blk_drew ?_ | refine blk_alloc ?_ _)); refine blk_put (cs := #[.int .i64 t316, .int .i64 t317, .slice Ao49 t318.length co49, .slice (some ⟨go37, 0, none⟩) t321.length co50, .slice none 0 0]) ?_ 4 _ rfl; (with_reducible repeat (first | refine blk_drewN ?_ _ | refine blk_drew ?_ | refine blk_alloc ?_ _)); refine blk_put (cs := #[.int .i64 t316, .int .i64 t317, .slice Ao49 t318.length co49, .slice none 0 0, .slice none 0 0]) ?_ 3 _ rfl; (with_reducible repeat (first | refine blk_drewN ?_ _ | refine blk_drew ?_ | refine blk_alloc ?_ _)); refine blk_put (cs := #[.int .i64 t316, .int .i64 t317, .slice none 0 0, .slice none 0 0, .slice none 0 0]) ?_ 2 _ rfl; (with_reducible repeat (first | refine blk_drewN ?_ _ | refine blk_drew ?_ | refine blk_alloc ?_ _)); refine blk_put (cs := #[.int .i64 t316, .int .i64 0, .slice none 0 0, .slice none 0 0, .slice none 0 0]) ?_ 1 _ rfl; (with_reducible repeat (first | refine blk_drewN ?_ _ | refine blk_drew ?_ | refine blk_alloc ?_ _)); refine blk_put (cs := #[.int .i64 0, .int .i64 0, .slice none 0 0, .slice none 0 0, .slice none 0 0]) ?_ 0 _ rfl; (with_reducible repeat (first | refine blk_drewN ?_ _ | refine blk_drew ?_ | refine blk_alloc ?_ _)); exact BK327.out) hb); replace HB := Aside0.mk (below_step (be3 HB GE313 GE314 GE327) hb); (try clear hb); have hcz55_0 := bz5 BK327; have p37 : 0 ≤ (t332 : Int) := od; have q37 : (t332 : Int) < ((t321.length : Int) : Int) := od; obtain ⟨gz_, cz_, ez_, gb37, gl37, cl37, HG37⟩ := Kd.R_form HO323.out (by omega); have ez2_ : go37 = gz_ := (by cases ez_; rfl); subst ez2_; clear ez_; have GB37 := Aside0.mk gb37; have GG37 := Aside0.mk HG37; clear gb37 gl37 HG37; (first | simp only [add_plain] at hx333_0 | skip); (first | simp only [add_plain] at hx333_1 | skip); (first | simp only [add_plain] at hx333_2 | skip); obtain ⟨ce37, hcl37, hM37, hcc37, hfr37⟩ := Kd.R_elem HO323.out z68 (t332 : Int) p37 q37; obtain rfl := k68_openM hM37; have hx37_0 : w54.cell? ⟨go37, (t332 : Int).toNat * 3, none⟩ = some (.string ((rd_T68 t321 t332).f0)) := hcc37 0 _ rfl; have hx37_1 : w54.cell? ⟨go37, (t332 : Int).toNat * 3 + 1, none⟩ = some (.string ((rd_T68 t321 t332).f1)) := hcc37 1 _ rfl; have hx37_2 : w54.cell? ⟨go37, (t332 : Int).toNat * 3 + 2, none⟩ = some (.int .i64 ((rd_T68 t321 t332).f2)) := hcc37 2 _ rfl; have hf37_0 : w54.frozen? ⟨go37, (t332 : Int).toNat * 3, none⟩ = false := hfr37 0; have hf37_1 : w54.frozen? ⟨go37, (t332 : Int).toNat * 3 + 1, none⟩ = false := hfr37 1; have hf37_2 : w54.frozen? ⟨go37, (t332 : Int).toNat * 3 + 2, none⟩ = false := hfr37 2; clear hcl37 hcc37 hfr37 hM37; replace p37 := eq_true p37; replace q37 := eq_true q37; have HX56 := Aside0.mk (show Kd.R k68 68 w54 w.heap.size (fun k_ => nb k_ Ao49 t318.length co49) (.slice (some ⟨go37, 0, none⟩) t321.length co50) t321 from (ro HO323)); obtain ⟨ce56, hcl56, hM56, hcc56, hfr56⟩ := Kd.R_elem HX56.out z68 (t332 : Int) (od) (by have h_ : (t332 : Int) < ((t321.length : Int) : Int) := od; first | exact h_ | (have e_ := (Kd.R_reads' HO323.out).1; omega) | simpa using h_); obtain rfl := k68_openM hM56; have HP56 := Kd.R_seg HX56.out (t332 : Int) (od) (by have h_ : (t332 : Int) < ((t321.length : Int) : Int) := od; first | exact h_ | (have e_ := (Kd.R_reads' HO323.out).1; omega) | simpa using h_) (seg := [.int .i64 ji36]) (j := 2) hcl56 hcc56 (show 3 ≤ 3 from by decide) (x' := (⟨(rd_T68 t321 t332).f0, (rd_T68 t321 t332).f1, ji36⟩ : S68)) (k68_mkM _ _ _ (⟨(rd_T68 t321 t332).f0, (rd_T68 t321 t332).f1, ji36⟩ : S68) ) (fun _ hk => hk); have hx56_2 := hcc56 2 _ rfl; (try simp only [show (k68).sz = 3 from rfl, Nat.mul_one, Nat.add_zero] at hx56_2); have hf56_2 := hfr56 2; (try simp only [show (k68).sz = 3 from rfl, Nat.mul_one, Nat.add_zero] at hf56_2); clear hcl56 hcc56 hfr56 hM56) | ((with_reducible refine gate_store (t := 3) (p := 28) rfl ?_); refine store_event (t := 3) (p := 28) (v := ?vo_w57) (w1 := (w54.setCell ⟨go37, (t332 : Int).toNat * 3 + 2, none⟩ (.int .i64 ji36))) ?hg ?ho ?hn ?hr ?_; (case ho => rfl); (case hg => rfl); (case hn => rfl); (case hr => first | (go_simp; done) | (go_simp; rfl)); intro w57 hw; have hg : w54.grownBy w57 (some go37) := (by rw [hw]; exact HP56.2); have hp_ : Kd.R k68 68 w57 w.heap.size (fun k_ => nb k_ Ao49 t318.length co49) (.slice (some ⟨go37, 0, none⟩) t321.length co50) y334 := (by rw [hw, Ny334.out]; exact HP56.1); clear HP56; replace BK313 := Aside0.mk (blk_grown (g := gb313) (o := .cells #[.int .i64 a0_0, .int .i64 a0_1, .slice A0_2 l0_2.length c0_2, .slice A0_3 l0_3.length c0_3, .slice A0_4 l0_4.length c0_4] 30 (0, 0)) (bk BK313) hg (Kd.R_ne HO323.out BK313.out (by decide))); replace BK314 := Aside0.mk (blk_grown (g := gb314) (o := .cells #[.int .i64 0, .int .i64 0, .slice none 0 0, .slice none 0 0, .slice none 0 0] 30 (0, 0)) (bk BK314) hg (Kd.R_ne HO323.out BK314.out (by decide))); replace HO320 := Aside0.mk (Kd.R_after (v := (.slice (some ⟨go37, 0, none⟩) t321.length co50)) (v1 := (.slice (some ⟨go37, 0, none⟩) t321.length co50)) (ok := (fun _ => True)) (by (with_reducible repeat (first | apply Kd.R_alloc | apply Kd.R_drewN | apply Kd.R_drew)); exact rm HO320) hg (.inl rfl)); replace HO326 := Aside0.mk (Kd.R_over' (v := (.slice (some ⟨go37, 0, none⟩) t321.length co50)) (ro HO326) (Kd.R_typed HO323.out) (by decide) hg); replace BK327 := Aside0.mk (blk_grown (g := gb327) (o := .cells #[.int .i64 t316, .int .i64 t317, .slice Ao49 t318.length co49, .slice (some ⟨go37, 0, none⟩) t321.length co50, .slice Ao51 t324.length co51] 30 (0, 0)) (bk BK327) hg (Kd.R_ne HO323.out BK327.out (by decide))); replace HO323 := Aside0.mk (hp_); replace HB := Aside0.mk ((by rw [hw]; exact below_set (HB.out) GB37.out : Below w.heap.size w w57)); clear hg hw hp_; have hcz58_0 := bz5 BK327; have p335 : 0 ≤ (t332 : Int) := od; have q335 : t332 < (y334.length : Int) := (by have h_ : (t332 : Int) < ((t321.length : Int) : Int) := od; first | (have e_ := (Kd.R_reads' HO323.out).1; omega) | simpa only [Ny334.out, List.length_set] using h_); have ql335 : ((t332 : Int) < ((t321.length : Int) : Int)) = True := eq_true (od); obtain ⟨ad335, e335, hx335_0, hx335_1, hx335_2⟩ := at_T68 (Kd.R_reads' HO323.out).2.2 t332 p335 q335; obtain rfl : (⟨go37, 0, none⟩ : Addr) = ad335 := (by injection e335); (first | simp only [add_plain] at hx335_0 | simp only [add_at] at hx335_0 | simp only [Addr.add, Nat.zero_add] at hx335_0 | skip); (first | simp only [add_plain] at hx335_1 | simp only [add_at] at hx335_1 | simp only [Addr.add, Nat.zero_add] at hx335_1 | skip); (first | simp only [add_plain] at hx335_2 | simp only [add_at] at hx335_2 | simp only [Addr.add, Nat.zero_add] at hx335_2 | skip); replace p335 := eq_true p335; replace q335 := eq_true q335; have hcz59_0 := bz5 BK314; have hnb9 : gb314 ≠ go37 := fun e_ => (Kd.R_ne HO323.out BK314.out (by decide)) (by rw [e_]; rfl); have hnc9 : go37 ≠ gb314 := fun e_ => hnb9 e_.symm))
     replace HO320 := Aside0.mk (Kd.R_drew HO320.out)
     replace HO323 := Aside0.mk (Kd.R_drew HO323.out)
     replace HO326 := Aside0.mk (Kd.R_drew HO326.out)
     replace BK313 := Aside0.mk (blk_drew BK313.out)
     replace BK314 := Aside0.mk (blk_drew BK314.out)
     replace BK327 := Aside0.mk (blk_drew BK327.out)
     replace HB := Aside0.mk (below_drew1 HB.out)
     have hv9 : w57.drew.cell? ⟨go37, (t332 : Int).toNat * 3 + 1, none⟩ = some (.string ((rd_T68 y334 t332).f1)) := hx335_1
     refine start_ (n := 8) (S := fun w' => w'.cell? ⟨gb327, 0, none⟩ = some (.int .i64 t316) ∧ w'.cell? ⟨gb327, 1, none⟩ = some (.int .i64 t317) ∧ w'.cell? ⟨gb327, 2, none⟩ = some (.slice Ao49 t318.length co49) ∧ w'.cell? ⟨gb327, 3, none⟩ = some (.slice (some ⟨go37, 0, none⟩) t321.length co50) ∧ w'.cell? ⟨gb327, 4, none⟩ = some (.slice Ao51 t324.length co51) ∧ w'.cell? ⟨go37, (t332 : Int).toNat * 3 + 1, none⟩ = some (.string ((rd_T68 y334 t332).f1))) (ds := []) #[false, false, false, false, false, false, false, false] (by kernel_rfl) rfl rfl ⟨bc0 BK327, bc1 BK327, bc2 BK327, bc3 BK327, bc4 BK327, hv9⟩ (fun hHeld => ?_)
     clear hv9
     generalize w57.drew = w99 at HO320 HO323 HO326 BK313 BK314 BK327 HB hHeld ⊢
     refine pure_ (i := 1) (N := some 30) (v := ?_) (a' := ?_) #[false, true, false, false, false, false, false, false] rfl rfl (by kernel_rfl) (fun _ _ _ h => h) (Or.inl ⟨by rfl, ?_⟩) ?_ ?_
     rotate_left
     ·intro w'
      go_simp
      with_reducible rfl
     rotate_left
     ·simp only [aP]
      rfl
     refine pure_ (i := 2) (N := some 31) (v := ?_) (a' := ?_) #[false, true, true, false, false, false, false, false] rfl rfl (by kernel_rfl) (fun _ _ _ h => h) (Or.inl ⟨by rfl, ?_⟩) ?_ ?_
     rotate_left
     ·intro w'
      go_simp
      with_reducible rfl
     rotate_left
     ·simp only [aP]
      rfl
     refine pure_ (i := 3) (N := some 32) (v := ?_) (a' := ?_) #[false, true, true, true, false, false, false, false] rfl rfl (by kernel_rfl) (fun _ _ _ h => h) (Or.inl ⟨by rfl, ?_⟩) ?_ ?_
     rotate_left
     ·intro w'
      go_simp
      with_reducible rfl
     rotate_left
     ·simp only [aP]
      rfl
     refine take_ (i := 0) (N := some 29) (v := ?_) (a' := ?_) #[true, true, true, true, false, false, false, false] rfl rfl (by kernel_rfl) (fun _ _ _ h => h) (Or.inl ⟨by rfl, ?_⟩) hHeld ?_ ?_
     rotate_left
     ·rintro w' ⟨s0, s1, s2, s3, s4, s5⟩
      go_simp
      with_reducible rfl
     rotate_left
     ·simp only [aP]
      rfl
     refine take_ (i := 4) (N := some 33) (v := ?_) (a' := ?_) #[true, true, true, true, true, false, false, false] rfl rfl (by kernel_rfl) (fun _ _ _ h => h) (Or.inl ⟨by rfl, ?_⟩) hHeld ?_ ?_
     rotate_left
     ·rintro w' ⟨s0, s1, s2, s3, s4, s5⟩
      go_simp
      with_reducible rfl
     rotate_left
     ·simp only [aP]
      rfl
     refine one_ (i := 5) (N := none) #[true, true, true, true, true, true, false, false] rfl rfl (by kernel_rfl) (by decide) (fun K hK => ?_)
     have hs09 : w99.cell? ⟨gb314, 0, none⟩ = some (.int .i64 0) := bc0 BK314
     have hfs09 := blk_frozen BK314.out 0
     have hs19 : w99.cell? ⟨gb314, 1, none⟩ = some (.int .i64 0) := bc1 BK314
     have hfs19 := blk_frozen BK314.out 1
     have hs29 : w99.cell? ⟨gb314, 2, none⟩ = some (.slice none 0 0) := bc2 BK314
     have hfs29 := blk_frozen BK314.out 2
     have hs39 : w99.cell? ⟨gb314, 3, none⟩ = some (.slice none 0 0) := bc3 BK314
     have hfs39 := blk_frozen BK314.out 3
     have hs49 : w99.cell? ⟨gb314, 4, none⟩ = some (.slice none 0 0) := bc4 BK314
     have hfs49 := blk_frozen BK314.out 4
     have hns9 := NB327_314.out
     have hms9 := NB314_327.out
     refine skip_ (w1 := ?_) (by rfl) rfl ?_ ?_
     rotate_left
     ·go_simp
      rfl
     refine hK.out _ _ ⟨((cell_far (p := ⟨gb314, _, none⟩) NB327_314.out _).trans ((cell_far (p := ⟨gb314, _, none⟩) NB327_314.out _).trans ((cell_far (p := ⟨gb314, _, none⟩) NB327_314.out _).trans ((cell_far (p := ⟨gb314, _, none⟩) NB327_314.out _).trans ((cell_far (p := ⟨gb314, _, none⟩) NB327_314.out _).trans (hHeld.1)))))), ((cell_far (p := ⟨gb314, _, none⟩) NB327_314.out _).trans ((cell_far (p := ⟨gb314, _, none⟩) NB327_314.out _).trans ((cell_far (p := ⟨gb314, _, none⟩) NB327_314.out _).trans ((cell_far (p := ⟨gb314, _, none⟩) NB327_314.out _).trans ((cell_far (p := ⟨gb314, _, none⟩) NB327_314.out _).trans (hHeld.2.1)))))), ((cell_far (p := ⟨gb314, _, none⟩) NB327_314.out _).trans ((cell_far (p := ⟨gb314, _, none⟩) NB327_314.out _).trans ((cell_far (p := ⟨gb314, _, none⟩) NB327_314.out _).trans ((cell_far (p := ⟨gb314, _, none⟩) NB327_314.out _).trans ((cell_far (p := ⟨gb314, _, none⟩) NB327_314.out _).trans (hHeld.2.2.1)))))), ((cell_far (p := ⟨gb314, _, none⟩) NB327_314.out _).trans ((cell_far (p := ⟨gb314, _, none⟩) NB327_314.out _).trans ((cell_far (p := ⟨gb314, _, none⟩) NB327_314.out _).trans ((cell_far (p := ⟨gb314, _, none⟩) NB327_314.out _).trans ((cell_far (p := ⟨gb314, _, none⟩) NB327_314.out _).trans (hHeld.2.2.2.1)))))), ((cell_far (p := ⟨gb314, _, none⟩) NB327_314.out _).trans ((cell_far (p := ⟨gb314, _, none⟩) NB327_314.out _).trans ((cell_far (p := ⟨gb314, _, none⟩) NB327_314.out _).trans ((cell_far (p := ⟨gb314, _, none⟩) NB327_314.out _).trans ((cell_far (p := ⟨gb314, _, none⟩) NB327_314.out _).trans (hHeld.2.2.2.2.1)))))), ((cell_far (p := ⟨gb314, _, none⟩) hnc9 _).trans ((cell_far (p := ⟨gb314, _, none⟩) hnc9 _).trans ((cell_far (p := ⟨gb314, _, none⟩) hnc9 _).trans ((cell_far (p := ⟨gb314, _, none⟩) hnc9 _).trans ((cell_far (p := ⟨gb314, _, none⟩) hnc9 _).trans (hHeld.2.2.2.2.2))))))⟩ (fun hHeld => ?_)
     clear hK K
     refine pure_ (i := 6) (N := some 5) (v := ?_) (a' := ?_) #[true, true, true, true, true, true, true, false] rfl rfl (by kernel_rfl) (fun _ _ _ h => h) (Or.inl ⟨by rfl, ?_⟩) ?_ ?_
     rotate_left
     ·intro w'
      go_simp
      with_reducible rfl
     rotate_left
     ·simp only [aP]
      rfl
     refine pure_ (i := 7) (N := some 6) (v := ?_) (a' := ?_) #[true, true, true, true, true, true, true, true] rfl rfl (by kernel_rfl) (fun _ _ _ h => h) (Or.inl ⟨by rfl, ?_⟩) ?_ ?_
     rotate_left
     ·intro w'
      go_simp
      with_reducible rfl
     rotate_left
     ·simp only [aP]
      rfl
     refine done_ (by kernel_rfl) ?_
     try go_wp2
     refine bodyPost_ret (results_ctt rfl _ _ gb314 30 #[.int .i64 t316, .int .i64 t317, .slice Ao49 t318.length co49, .slice (some ⟨go37, 0, none⟩) t321.length co50, .slice Ao51 t324.length co51] (0, 0) _ rfl (by (with_reducible repeat (first | refine blk_drewN ?_ _ | refine blk_drew ?_ | refine blk_alloc ?_ _)); refine blk_put (cs := #[.int .i64 t316, .int .i64 t317, .slice Ao49 t318.length co49, .slice (some ⟨go37, 0, none⟩) t321.length co50, .slice none 0 0]) ?_ 4 _ rfl; (with_reducible repeat (first | refine blk_drewN ?_ _ | refine blk_drew ?_ | refine blk_alloc ?_ _)); refine blk_put (cs := #[.int .i64 t316, .int .i64 t317, .slice Ao49 t318.length co49, .slice none 0 0, .slice none 0 0]) ?_ 3 _ rfl; (with_reducible repeat (first | refine blk_drewN ?_ _ | refine blk_drew ?_ | refine blk_alloc ?_ _)); refine blk_put (cs := #[.int .i64 t316, .int .i64 t317, .slice none 0 0, .slice none 0 0, .slice none 0 0]) ?_ 2 _ rfl; (with_reducible repeat (first | refine blk_drewN ?_ _ | refine blk_drew ?_ | refine blk_alloc ?_ _)); refine blk_put (cs := #[.int .i64 t316, .int .i64 0, .slice none 0 0, .slice none 0 0, .slice none 0 0]) ?_ 1 _ rfl; (with_reducible repeat (first | refine blk_drewN ?_ _ | refine blk_drew ?_ | refine blk_alloc ?_ _)); refine blk_put (cs := #[.int .i64 0, .int .i64 0, .slice none 0 0, .slice none 0 0, .slice none 0 0]) ?_ 0 _ rfl; (with_reducible repeat (first | refine blk_drewN ?_ _ | refine blk_drew ?_ | refine blk_alloc ?_ _)); exact BK314.out) Try.underlying30 rfl (by kernel_rfl)) rfl ?_
     exact ⟨_, _, _, by first | rfl | (simp [errW_none, errW_some] <;> rfl) | (simp only [← hji36]; first | rfl | (simp [errW_none, errW_some] <;> rfl)) | (simp [*, errW_none, errW_some] <;> rfl), by (with_reducible repeat (first | apply Kd.R_alloc | apply Kd.R_drewN | apply Kd.R_drew)); exact Kd.R_mono (Kd.R_far (p := ⟨gb314, 4, none⟩) (Kd.R_far (p := ⟨gb314, 3, none⟩) (Kd.R_far (p := ⟨gb314, 2, none⟩) (Kd.R_far (p := ⟨gb314, 1, none⟩) (Kd.R_far (p := ⟨gb314, 0, none⟩) (Kd.R_types HO320.out BK314.out (by decide)) (fun _ hk => hk.2) (.int .i64 t316)) (fun _ hk => hk.2) (.int .i64 t317)) (fun _ hk => hk.2) (.slice Ao49 t318.length co49)) (fun _ hk => hk.2) (.slice (some ⟨go37, 0, none⟩) t321.length co50)) (fun _ hk => hk.2) (.slice Ao51 t324.length co51)) (fun _ hk => hk.1.2), by (with_reducible repeat (first | apply Kd.R_alloc | apply Kd.R_drewN | apply Kd.R_drew)); exact Kd.R_mono (Kd.R_far (p := ⟨gb314, 4, none⟩) (Kd.R_far (p := ⟨gb314, 3, none⟩) (Kd.R_far (p := ⟨gb314, 2, none⟩) (Kd.R_far (p := ⟨gb314, 1, none⟩) (Kd.R_far (p := ⟨gb314, 0, none⟩) (Kd.R_types HO323.out BK314.out (by decide)) (fun _ hk => hk.2) (.int .i64 t316)) (fun _ hk => hk.2) (.int .i64 t317)) (fun _ hk => hk.2) (.slice Ao49 t318.length co49)) (fun _ hk => hk.2) (.slice (some ⟨go37, 0, none⟩) t321.length co50)) (fun _ hk => hk.2) (.slice Ao51 t324.length co51)) (fun _ hk => hk.1), by (with_reducible repeat (first | apply Kd.R_alloc | apply Kd.R_drewN | apply Kd.R_drew)); exact Kd.R_mono (Kd.R_far (p := ⟨gb314, 4, none⟩) (Kd.R_far (p := ⟨gb314, 3, none⟩) (Kd.R_far (p := ⟨gb314, 2, none⟩) (Kd.R_far (p := ⟨gb314, 1, none⟩) (Kd.R_far (p := ⟨gb314, 0, none⟩) (Kd.R_types HO326.out BK314.out (by decide)) (fun _ hk => hk.2) (.int .i64 t316)) (fun _ hk => hk.2) (.int .i64 t317)) (fun _ hk => hk.2) (.slice Ao49 t318.length co49)) (fun _ hk => hk.2) (.slice (some ⟨go37, 0, none⟩) t321.length co50)) (fun _ hk => hk.2) (.slice Ao51 t324.length co51)) (fun _ hk => trivial), be3 HB GE313 GE314 GE327⟩
    rw [if_neg c35] at H
    exact absurd H (by simp)
   rw [if_neg c34] at H
   exact absurd H (by simp)
  rw [if_neg c33] at H
  have c33b0 : decide (0 ≤ t332) = false := decide_eq_false c33
  clear c33
  simp only [Option.some.injEq, Prod.mk.injEq] at H
  obtain ⟨rfl, rfl, rfl, rfl, rfl, rfl, rfl⟩ := H
  go_enter Try.func36, Try.ntmps36
  go_wp2_with (first | ((with_reducible refine gate_dst (N := 2) rfl ?_); refine bx 2 #[.int .i64 a0_0, .int .i64 a0_1, .slice A0_2 l0_2.length c0_2, .slice A0_3 l0_3.length c0_3, .slice A0_4 l0_4.length c0_4] 30 ?_; intro gb313 hg w60 hbox hb; have BK313 := am hbox; have GW313 := gs0 hg HB; have GE313 := gs0 hg HB; replace HB := s0 HB hb; clear hb hbox hg) | ((with_reducible refine gate_dst (N := 4) rfl ?_); refine bx 4 #[.int .i64 0, .int .i64 0, .slice none 0 0, .slice none 0 0, .slice none 0 0] 30 ?_; intro gb314 hg w61 hbox hb; have BK314 := am hbox; have GW314 := gs1 hg HB GE313; have GE314 := gs1 hg HB GE313; replace HB := Aside0.mk (below_step (be1 HB GE313) hb); have NB313_314 := Aside0.mk ((by rw [hg]; exact Nat.ne_of_lt (bl BK313) : gb313 ≠ gb314)); have NB314_313 := Aside0.mk ((by rw [hg]; exact Nat.ne_of_gt (bl BK313) : gb314 ≠ gb313)); replace BK313 := bb BK313 hb; clear hb hbox hg; have hnb62 := NB313_314.out; have hnc62 := NB314_313.out; have hcz63_0 := bz5 BK313) | ((with_reducible refine gate_callee (f := 19) rfl ?_); refine gl 10 Try.func19 #[.agg #[.int .i64 a0_0, .int .i64 a0_1, .slice A0_2 l0_2.length c0_2, .slice A0_3 l0_3.length c0_3, .slice A0_4 l0_4.length c0_4]] ?_; (with_reducible refine (impl_ThreeOk.calls k a0_0 a0_1 _ _ l0_2 _ _ l0_3 _ _ l0_4 true _ (cb HR0_2 HB) HC0_2.out (cb HR0_3 HB) HC0_3.out (cb HR0_4 HB) HC0_4.out A3.out).mono ?_); rintro e w64 ⟨rfl, hb⟩; refine ⟨_, rfl, ?_⟩; replace BK313 := bb BK313 hb; replace BK314 := bb BK314 hb; replace HB := Aside0.mk (below_step (be2 HB GE313 GE314) hb); (try clear hb); have hcz65_0 := bz5 BK313) | ((with_reducible refine gate_callee (f := 87) rfl ?_); refine gl 14 Try.func87 #[.agg #[.int .i64 a0_0, .int .i64 a0_1, .slice A0_2 l0_2.length c0_2, .slice A0_3 l0_3.length c0_3, .slice A0_4 l0_4.length c0_4]] ?_; (with_reducible refine (impl_copyThree.calls a0_0 a0_1 _ _ l0_2 _ _ l0_3 _ _ l0_4 t316 t317 t318 t321 t324 _ (cb HR0_2 HB) HC0_2.out (cb HR0_3 HB) HC0_3.out (cb HR0_4 HB) HC0_4.out A5.out).mono ?_); rintro e w66 ⟨v319, v322, v325, rfl, ho0, ho1, ho2, hb⟩; refine ⟨_, rfl, ?_⟩; have HO320 := Aside0.mk (Kd.R_lower ho0 (below_size (be2 HB GE313 GE314))); have HO323 := Aside0.mk (Kd.R_lower ho1 (below_size (be2 HB GE313 GE314))); have HO326 := Aside0.mk (Kd.R_lower ho2 (below_size (be2 HB GE313 GE314))); replace BK313 := bb BK313 hb; replace BK314 := bb BK314 hb; replace HB := Aside0.mk (below_step (be2 HB GE313 GE314) hb); (try clear hb); (try clear ho0); (try clear ho1); (try clear ho2)) | ((with_reducible refine gate_dst (N := 7) rfl ?_); refine bx 7 #[.int .i64 0, .int .i64 0, .slice none 0 0, .slice none 0 0, .slice none 0 0] 30 ?_; intro gb327 hg w67 hbox hb; replace HO320 := rb HO320 hb; replace HO323 := rb HO323 hb; replace HO326 := rb HO326 hb; have BK327 := am hbox; have GW327 := gs2 hg HB GE313 GE314; have GE327 := gs2 hg HB GE313 GE314; replace HB := Aside0.mk (below_step (be2 HB GE313 GE314) hb); have NB313_327 := Aside0.mk ((by rw [hg]; exact Nat.ne_of_lt (bl BK313) : gb313 ≠ gb327)); have NB327_313 := Aside0.mk ((by rw [hg]; exact Nat.ne_of_gt (bl BK313) : gb327 ≠ gb313)); replace BK313 := bb BK313 hb; have NB314_327 := Aside0.mk ((by rw [hg]; exact Nat.ne_of_lt (bl BK314) : gb314 ≠ gb327)); have NB327_314 := Aside0.mk ((by rw [hg]; exact Nat.ne_of_gt (bl BK314) : gb327 ≠ gb314)); replace BK314 := bb BK314 hb; clear hb hbox hg; have hnb68 := NB327_313.out; have hnc68 := NB313_327.out; have hnb69 := NB327_314.out; have hnc69 := NB314_327.out; have hcz70_0 := bz5 BK327; obtain ⟨Ao71, co71, eo71⟩ := Kd.R_slice HO320.out; subst eo71; obtain ⟨Ao72, co72, eo72⟩ := Kd.R_slice HO323.out; subst eo72; obtain ⟨Ao73, co73, eo73⟩ := Kd.R_slice HO326.out; subst eo73) | ((with_reducible refine gate_callee (f := 91) rfl ?_); have hn9 : ¬ (0 ≤ t328) := of_decide_eq_false (by assumption); have hn8 : ¬ (0 ≤ t332) := of_decide_eq_false (by assumption); refine gl 16 Try.func91 #[.pointer (some ⟨gb327, 0, none⟩), .string a1] ?_; (with_reducible refine (item_none k gb327 t316 t317 Ao71 co71 t318 Ao72 co72 t321 (.slice Ao73 t324.length co73) a1 t328 t332 _ ?sideP ?side1 ((Kd.R_reads' HO320.out).2.1) ?side2 ((Kd.R_reads' HO323.out).2.1) A6.out (by omega) A32.out (by omega)).mono ?_); (case sideP => exact (by (with_reducible repeat (first | refine blk_drewN ?_ _ | refine blk_drew ?_ | refine blk_alloc ?_ _)); refine blk_put (cs := #[.int .i64 t316, .int .i64 t317, .slice Ao71 t318.length co71, .slice Ao72 t321.length co72, .slice none 0 0]) ?_ 4 _ rfl; (with_reducible repeat (first | refine blk_drewN ?_ _ | refine blk_drew ?_ | refine blk_alloc ?_ _)); refine blk_put (cs := #[.int .i64 t316, .int .i64 t317, .slice Ao71 t318.length co71, .slice none 0 0, .slice none 0 0]) ?_ 3 _ rfl; (with_reducible repeat (first | refine blk_drewN ?_ _ | refine blk_drew ?_ | refine blk_alloc ?_ _)); refine blk_put (cs := #[.int .i64 t316, .int .i64 t317, .slice none 0 0, .slice none 0 0, .slice none 0 0]) ?_ 2 _ rfl; (with_reducible repeat (first | refine blk_drewN ?_ _ | refine blk_drew ?_ | refine blk_alloc ?_ _)); refine blk_put (cs := #[.int .i64 t316, .int .i64 0, .slice none 0 0, .slice none 0 0, .slice none 0 0]) ?_ 1 _ rfl; (with_reducible repeat (first | refine blk_drewN ?_ _ | refine blk_drew ?_ | refine blk_alloc ?_ _)); refine blk_put (cs := #[.int .i64 0, .int .i64 0, .slice none 0 0, .slice none 0 0, .slice none 0 0]) ?_ 0 _ rfl; (with_reducible repeat (first | refine blk_drewN ?_ _ | refine blk_drew ?_ | refine blk_alloc ?_ _)); exact BK327.out)); (case side1 => exact rfr _ HO320 BK327); (case side2 => exact rfr _ HO323 BK327); rintro e w76 ⟨rfl, hb⟩; refine ⟨_, rfl, ?_⟩; clear hn9; clear hn8; replace HO320 := Aside0.mk (Kd.R_below (rf HO320 BK327) hb); replace HO323 := Aside0.mk (Kd.R_below (rf HO323 BK327) hb); replace HO326 := Aside0.mk (Kd.R_below (rf HO326 BK327) hb); replace BK313 := Aside0.mk (blk_below (g := gb313) (o := .cells #[.int .i64 a0_0, .int .i64 a0_1, .slice A0_2 l0_2.length c0_2, .slice A0_3 l0_3.length c0_3, .slice A0_4 l0_4.length c0_4] 30 (0, 0)) (bf1 BK313 NB313_327) hb); replace BK314 := Aside0.mk (blk_below (g := gb314) (o := .cells #[.int .i64 0, .int .i64 0, .slice none 0 0, .slice none 0 0, .slice none 0 0] 30 (0, 0)) (bf1 BK314 NB314_327) hb); replace BK327 := Aside0.mk (blk_below (g := gb327) (o := .cells #[.int .i64 t316, .int .i64 t317, .slice Ao71 t318.length co71, .slice Ao72 t321.length co72, .slice Ao73 t324.length co73] 30 (0, 0)) (by (with_reducible repeat (first | refine blk_drewN ?_ _ | refine blk_drew ?_ | refine blk_alloc ?_ _)); refine blk_put (cs := #[.int .i64 t316, .int .i64 t317, .slice Ao71 t318.length co71, .slice Ao72 t321.length co72, .slice none 0 0]) ?_ 4 _ rfl; (with_reducible repeat (first | refine blk_drewN ?_ _ | refine blk_drew ?_ | refine blk_alloc ?_ _)); refine blk_put (cs := #[.int .i64 t316, .int .i64 t317, .slice Ao71 t318.length co71, .slice none 0 0, .slice none 0 0]) ?_ 3 _ rfl; (with_reducible repeat (first | refine blk_drewN ?_ _ | refine blk_drew ?_ | refine blk_alloc ?_ _)); refine blk_put (cs := #[.int .i64 t316, .int .i64 t317, .slice none 0 0, .slice none 0 0, .slice none 0 0]) ?_ 2 _ rfl; (with_reducible repeat (first | refine blk_drewN ?_ _ | refine blk_drew ?_ | refine blk_alloc ?_ _)); refine blk_put (cs := #[.int .i64 t316, .int .i64 0, .slice none 0 0, .slice none 0 0, .slice none 0 0]) ?_ 1 _ rfl; (with_reducible repeat (first | refine blk_drewN ?_ _ | refine blk_drew ?_ | refine blk_alloc ?_ _)); refine blk_put (cs := #[.int .i64 0, .int .i64 0, .slice none 0 0, .slice none 0 0, .slice none 0 0]) ?_ 0 _ rfl; (with_reducible repeat (first | refine blk_drewN ?_ _ | refine blk_drew ?_ | refine blk_alloc ?_ _)); exact BK327.out) hb); replace HB := Aside0.mk (below_step (be3 HB GE313 GE314 GE327) hb); (try clear hb); have hcz77_0 := bz5 BK327; have hcz78_0 := bz5 BK314))
  refine bodyPost_ret (results_ctt rfl _ _ gb314 30 #[.int .i64 t316, .int .i64 t317, .slice Ao71 t318.length co71, .slice Ao72 t321.length co72, .slice Ao73 t324.length co73] (0, 0) _ rfl (by (with_reducible repeat (first | refine blk_drewN ?_ _ | refine blk_drew ?_ | refine blk_alloc ?_ _)); refine blk_put (cs := #[.int .i64 t316, .int .i64 t317, .slice Ao71 t318.length co71, .slice Ao72 t321.length co72, .slice none 0 0]) ?_ 4 _ rfl; (with_reducible repeat (first | refine blk_drewN ?_ _ | refine blk_drew ?_ | refine blk_alloc ?_ _)); refine blk_put (cs := #[.int .i64 t316, .int .i64 t317, .slice Ao71 t318.length co71, .slice none 0 0, .slice none 0 0]) ?_ 3 _ rfl; (with_reducible repeat (first | refine blk_drewN ?_ _ | refine blk_drew ?_ | refine blk_alloc ?_ _)); refine blk_put (cs := #[.int .i64 t316, .int .i64 t317, .slice none 0 0, .slice none 0 0, .slice none 0 0]) ?_ 2 _ rfl; (with_reducible repeat (first | refine blk_drewN ?_ _ | refine blk_drew ?_ | refine blk_alloc ?_ _)); refine blk_put (cs := #[.int .i64 t316, .int .i64 0, .slice none 0 0, .slice none 0 0, .slice none 0 0]) ?_ 1 _ rfl; (with_reducible repeat (first | refine blk_drewN ?_ _ | refine blk_drew ?_ | refine blk_alloc ?_ _)); refine blk_put (cs := #[.int .i64 0, .int .i64 0, .slice none 0 0, .slice none 0 0, .slice none 0 0]) ?_ 0 _ rfl; (with_reducible repeat (first | refine blk_drewN ?_ _ | refine blk_drew ?_ | refine blk_alloc ?_ _)); exact BK314.out) Try.underlying30 rfl (by kernel_rfl)) rfl ?_
  exact ⟨_, _, _, er, by (with_reducible repeat (first | apply Kd.R_alloc | apply Kd.R_drewN | apply Kd.R_drew)); exact Kd.R_mono (Kd.R_far (p := ⟨gb314, 4, none⟩) (Kd.R_far (p := ⟨gb314, 3, none⟩) (Kd.R_far (p := ⟨gb314, 2, none⟩) (Kd.R_far (p := ⟨gb314, 1, none⟩) (Kd.R_far (p := ⟨gb314, 0, none⟩) (Kd.R_types HO320.out BK314.out (by decide)) (fun _ hk => hk.2) (.int .i64 t316)) (fun _ hk => hk.2) (.int .i64 t317)) (fun _ hk => hk.2) (.slice Ao71 t318.length co71)) (fun _ hk => hk.2) (.slice Ao72 t321.length co72)) (fun _ hk => hk.2) (.slice Ao73 t324.length co73)) (fun _ hk => hk.1), by (with_reducible repeat (first | apply Kd.R_alloc | apply Kd.R_drewN | apply Kd.R_drew)); exact Kd.R_mono (Kd.R_far (p := ⟨gb314, 4, none⟩) (Kd.R_far (p := ⟨gb314, 3, none⟩) (Kd.R_far (p := ⟨gb314, 2, none⟩) (Kd.R_far (p := ⟨gb314, 1, none⟩) (Kd.R_far (p := ⟨gb314, 0, none⟩) (Kd.R_types HO323.out BK314.out (by decide)) (fun _ hk => hk.2) (.int .i64 t316)) (fun _ hk => hk.2) (.int .i64 t317)) (fun _ hk => hk.2) (.slice Ao71 t318.length co71)) (fun _ hk => hk.2) (.slice Ao72 t321.length co72)) (fun _ hk => hk.2) (.slice Ao73 t324.length co73)) (fun _ hk => hk.1), by (with_reducible repeat (first | apply Kd.R_alloc | apply Kd.R_drewN | apply Kd.R_drew)); exact Kd.R_mono (Kd.R_far (p := ⟨gb314, 4, none⟩) (Kd.R_far (p := ⟨gb314, 3, none⟩) (Kd.R_far (p := ⟨gb314, 2, none⟩) (Kd.R_far (p := ⟨gb314, 1, none⟩) (Kd.R_far (p := ⟨gb314, 0, none⟩) (Kd.R_types HO326.out BK314.out (by decide)) (fun _ hk => hk.2) (.int .i64 t316)) (fun _ hk => hk.2) (.int .i64 t317)) (fun _ hk => hk.2) (.slice Ao71 t318.length co71)) (fun _ hk => hk.2) (.slice Ao72 t321.length co72)) (fun _ hk => hk.2) (.slice Ao73 t324.length co73)) (fun _ hk => trivial), be3 HB GE313 GE314 GE327⟩
 replace c4 := Bool.eq_false_iff.mpr c4
 subst c4
 have H1 : (some (0, 0, ([] : List (S68)), ([] : List (S68)), ([] : List Int), (⟨#[]⟩ : ByteArray), false)) = some (r1, r2, r3, r4, r5, r6, r7) := by rw [if_neg (show ¬ (false = true) by decide)] at H; exact H
 clear H
 have H := H1
 clear H1
 simp only [Option.some.injEq, Prod.mk.injEq] at H
 obtain ⟨rfl, rfl, rfl, rfl, rfl, rfl, rfl⟩ := H
 go_enter Try.func36, Try.ntmps36
 go_wp2_with (first | ((with_reducible refine gate_dst (N := 2) rfl ?_); refine bx 2 #[.int .i64 a0_0, .int .i64 a0_1, .slice A0_2 l0_2.length c0_2, .slice A0_3 l0_3.length c0_3, .slice A0_4 l0_4.length c0_4] 30 ?_; intro gb313 hg w79 hbox hb; have BK313 := am hbox; have GW313 := gs0 hg HB; have GE313 := gs0 hg HB; replace HB := s0 HB hb; clear hb hbox hg) | ((with_reducible refine gate_dst (N := 4) rfl ?_); refine bx 4 #[.int .i64 0, .int .i64 0, .slice none 0 0, .slice none 0 0, .slice none 0 0] 30 ?_; intro gb314 hg w80 hbox hb; have BK314 := am hbox; have GW314 := gs1 hg HB GE313; have GE314 := gs1 hg HB GE313; replace HB := Aside0.mk (below_step (be1 HB GE313) hb); have NB313_314 := Aside0.mk ((by rw [hg]; exact Nat.ne_of_lt (bl BK313) : gb313 ≠ gb314)); have NB314_313 := Aside0.mk ((by rw [hg]; exact Nat.ne_of_gt (bl BK313) : gb314 ≠ gb313)); replace BK313 := bb BK313 hb; clear hb hbox hg; have hnb81 := NB313_314.out; have hnc81 := NB314_313.out; have hcz82_0 := bz5 BK313) | ((with_reducible refine gate_callee (f := 19) rfl ?_); refine gl 10 Try.func19 #[.agg #[.int .i64 a0_0, .int .i64 a0_1, .slice A0_2 l0_2.length c0_2, .slice A0_3 l0_3.length c0_3, .slice A0_4 l0_4.length c0_4]] ?_; (with_reducible refine (impl_ThreeOk.calls k a0_0 a0_1 _ _ l0_2 _ _ l0_3 _ _ l0_4 false _ (cb HR0_2 HB) HC0_2.out (cb HR0_3 HB) HC0_3.out (cb HR0_4 HB) HC0_4.out A3.out).mono ?_); rintro e w83 ⟨rfl, hb⟩; refine ⟨_, rfl, ?_⟩; replace BK313 := bb BK313 hb; replace BK314 := bb BK314 hb; replace HB := Aside0.mk (below_step (be2 HB GE313 GE314) hb); (try clear hb); have hcz84_0 := bz5 BK314))
 refine bodyPost_ret (results_ctt rfl _ _ gb314 30 #[.int .i64 0, .int .i64 0, .slice none 0 0, .slice none 0 0, .slice none 0 0] (0, 0) _ rfl (by (with_reducible repeat (first | refine blk_drewN ?_ _ | refine blk_drew ?_ | refine blk_alloc ?_ _)); refine blk_put (cs := #[.int .i64 0, .int .i64 0, .slice none 0 0, .slice none 0 0, .slice none 0 0]) ?_ 4 _ rfl; (with_reducible repeat (first | refine blk_drewN ?_ _ | refine blk_drew ?_ | refine blk_alloc ?_ _)); refine blk_put (cs := #[.int .i64 0, .int .i64 0, .slice none 0 0, .slice none 0 0, .slice none 0 0]) ?_ 3 _ rfl; (with_reducible repeat (first | refine blk_drewN ?_ _ | refine blk_drew ?_ | refine blk_alloc ?_ _)); refine blk_put (cs := #[.int .i64 0, .int .i64 0, .slice none 0 0, .slice none 0 0, .slice none 0 0]) ?_ 2 _ rfl; (with_reducible repeat (first | refine blk_drewN ?_ _ | refine blk_drew ?_ | refine blk_alloc ?_ _)); refine blk_put (cs := #[.int .i64 0, .int .i64 0, .slice none 0 0, .slice none 0 0, .slice none 0 0]) ?_ 1 _ rfl; (with_reducible repeat (first | refine blk_drewN ?_ _ | refine blk_drew ?_ | refine blk_alloc ?_ _)); refine blk_put (cs := #[.int .i64 0, .int .i64 0, .slice none 0 0, .slice none 0 0, .slice none 0 0]) ?_ 0 _ rfl; (with_reducible repeat (first | refine blk_drewN ?_ _ | refine blk_drew ?_ | refine blk_alloc ?_ _)); exact BK314.out) Try.underlying30 rfl (by kernel_rfl)) rfl ?_
 exact ⟨_, _, _, er, by first | exact Kd.R_nil _ _ _ _ _ | exact Kd.N_nil _ _ _ _ _ | exact Kd.V_nil _ _ _ _ _ | exact Kd.Q_nil _ _ _ _ _ | exact Kd.S_nil _ _ _ _ _, by first | exact Kd.R_nil _ _ _ _ _ | exact Kd.N_nil _ _ _ _ _ | exact Kd.V_nil _ _ _ _ _ | exact Kd.Q_nil _ _ _ _ _ | exact Kd.S_nil _ _ _ _ _, by first | exact Kd.R_nil _ _ _ _ _ | exact Kd.N_nil _ _ _ _ _ | exact Kd.V_nil _ _ _ _ _ | exact Kd.Q_nil _ _ _ _ _ | exact Kd.S_nil _ _ _ _ _, be2 HB GE313 GE314⟩

end Go.Proofs.Ytfjhkediaholmaa.QFnExactGet
