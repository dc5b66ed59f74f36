-- made by a program of this session (myprint.py)
import Derived.Test.YtdgpidhlbpaolaaDel
import Derived.Test.YtdgpidhlbpaolaaOw
import Derived.Test.YtdgpidhlbpaolaaSh
import Derived.Test.YtdgpidhlbpaolaaQFnExactGiveUpx0
import Derived.Test.YtdgpidhlbpaolaaQFnExactGiveUpx8
import Derived.Test.YtdgpidhlbpaolaaQFnExactGiveUpx9
namespace Go.Proofs.Ytdgpidhlbpaolaa.QFnExactGiveUp
open Go.RowKit Go.Proofs.YtdgpidhlbpaolaaW.PrintWords Go.Proofs.YtdgpidhlbpaolaaW.PrintLast Go.Proofs.YtdgpidhlbpaolaaW.PrintMore
attribute [local go_sem] max2_int min2_int max_two min_two max_three min_three max_four min_four   -- for this text's walks alone
set_option linter.unusedVariables false
set_option linter.unusedSimpArgs false

/-! ### impl_copyAges: function 96 -/
def impl_copyAges.f (a0_0 : Int) (l0_1 : List Int) (l0_2 : List (S70)) : Option (Int × List Int × (List (S70))) := (some (([] : List (S70)) : List (S70))).bind fun y365 => ((impl_copyInts.f l0_1).bind fun t370 => (if y365.length + l0_2.length < 8796093022208 then (some (a0_0, t370, (y365 ++ l0_2))) else (none)))
def impl_copyAges.T1 : Bool × List (List Nat × List Nat) := (true, [([], []), ([0], [0]), ([], []), ([2], [2]), ([3], [3]), ([], []), ([5], [5]), ([6, 4], [6]), ([1, 4, 7], [1, 4, 7]), ([8, 7, 0, 1, 2, 3, 4, 5, 6, 7, 8], [8])])
def impl_copyAges.B1 : List Nat := [0, 1, 0, 4, 12, 0, 32, 124, 255, 511]
theorem impl_copyAges.tab1 : rtab .any (opsOf Try.f96 1) = impl_copyAges.T1 := by kernel_rfl
theorem impl_copyAges.bits1 : waitsOk impl_copyAges.T1.2 impl_copyAges.B1 = true := by kernel_rfl
set_option maxHeartbeats 8000000 in
set_option maxRecDepth 100000 in
theorem impl_copyAges.calls (a0_0 : Int) (A0_1 : Option Addr) (c0_1 : Nat) (l0_1 : List Int) (A0_2 : Option Addr) (c0_2 : Nat) (l0_2 : List (S70)) (r1 : Int) (r2 : List Int) (r3 : List (S70)) (w : World) (hr0_1 : Kd.C (Kd.int .i64) w A0_1 l0_1.length l0_1) (hc0_1 : l0_1.length ≤ c0_1) (hr0_2 : Kd.C k70 w A0_2 l0_2.length l0_2) (hc0_2 : l0_2.length ≤ c0_2) (h : impl_copyAges.f a0_0 l0_1 l0_2 = some (r1, r2, r3)) :
  Calls Try.prog 96 #[.agg #[.int .i64 a0_0, .slice A0_1 l0_1.length c0_1, .slice A0_2 l0_2.length c0_2]] w fun e w' => ∃ v1_ v2_ : Value, e = .returned (.agg #[.int .i64 r1, v1_, v2_]) ∧ Kd.R (Kd.int .i64) 3 w' w.heap.size (fun _ => True) v1_ r2 ∧ Kd.R k70 70 w' w.heap.size (fun _ => True) v2_ r3 ∧ Below w.heap.size w w' := by
 have hu25 := Try.underlying25
 have HR0_1 := Aside0.mk hr0_1
 have HC0_1 := Aside0.mk hc0_1
 clear hr0_1 hc0_1
 have HR0_2 := Aside0.mk hr0_2
 have HC0_2 := Aside0.mk hc0_2
 clear hr0_2 hc0_2
 have HB := Aside0.mk (Below.refl w.heap.size w)
 have H : ((some (([] : List (S70)) : List (S70))).bind fun y365 => ((impl_copyInts.f l0_1).bind fun t370 => (if y365.length + l0_2.length < 8796093022208 then (some (a0_0, t370, (y365 ++ l0_2))) else (none)))) = some (r1, r2, r3) := h
 clear h
 obtain ⟨y365, hy365⟩ : ∃ y_ : List (S70), y_ = (([] : List (S70))) := ⟨_, rfl⟩
 replace H : ((impl_copyInts.f l0_1).bind fun t370 => (if y365.length + l0_2.length < 8796093022208 then (some (a0_0, t370, (y365 ++ l0_2))) else (none))) = some (r1, r2, r3) := by first | (rw [hy365]; with_reducible exact H) | (have H2_ := (Option.bind_some _ _).symm.trans H; rw [hy365]; with_reducible exact H2_) | (have H2_ := (Option.bind_some _ _).symm.trans H; with_reducible exact H2_) | with_reducible exact H | (rw [hy365]; exact H) | exact H
 have Ny365 := Aside0.mk hy365
 clear hy365
 replace H := Option.bind_eq_some_iff.mp H
 obtain ⟨t370, A20, H⟩ := H
 replace H : (if y365.length + l0_2.length < 8796093022208 then (some (a0_0, t370, (y365 ++ l0_2))) else (none)) = some (r1, r2, r3) := H
 have A2 := Aside0.mk A20
 clear A20
 by_cases c3 : y365.length + l0_2.length < 8796093022208
 ·rw [if_pos c3] at H
  have LMc3 := Aside0.mk c3
  clear c3
  obtain ⟨y373, hy373⟩ : ∃ y_ : List (S70), y_ = (y365 ++ l0_2) := ⟨_, rfl⟩
  replace H : (some (a0_0, t370, y373)) = some (r1, r2, r3) := by first | (rw [hy373]; with_reducible exact H) | (have H2_ := (Option.bind_some _ _).symm.trans H; rw [hy373]; with_reducible exact H2_) | (have H2_ := (Option.bind_some _ _).symm.trans H; with_reducible exact H2_) | with_reducible exact H | (rw [hy373]; exact H) | exact H
  have Ny373 := Aside0.mk hy373
  clear hy373
  simp only [Option.some.injEq, Prod.mk.injEq] at H
  obtain ⟨rfl, rfl, rfl⟩ := H
  go_enter Try.func96, Try.ntmps96
  have HO367 := Aside0.mk (show Kd.R k70 70 w w.heap.size (fun _ => True) (.slice none 0 0) y365 from by rw [Ny365.out]; exact Kd.R_nil _ _ _ _ _)
  try go_wp2_with (first | ((with_reducible refine gate_dst (N := 1) rfl ?_); refine bx 1 #[.int .i64 a0_0, .slice A0_1 l0_1.length c0_1, .slice A0_2 l0_2.length c0_2] 25 ?_; intro gb368 hg w6 hbox hb; replace HO367 := rb HO367 hb; have BK368 := am hbox; have GW368 := gs0 hg HB; have GE368 := gs0 hg HB; replace HB := s0 HB hb; clear hb hbox hg) | ((with_reducible refine gate_dst (N := 2) rfl ?_); refine bx 2 #[.int .i64 0, .slice none 0 0, .slice none 0 0] 25 ?_; intro gb369 hg w7 hbox hb; replace HO367 := rb HO367 hb; have BK369 := am hbox; have GW369 := gs1 hg HB GE368; have GE369 := gs1 hg HB GE368; replace HB := Aside0.mk (below_step (be1 HB GE368) hb); have NB368_369 := Aside0.mk ((by rw [hg]; exact Nat.ne_of_lt (bl BK368) : gb368 ≠ gb369)); have NB369_368 := Aside0.mk ((by rw [hg]; exact Nat.ne_of_gt (bl BK368) : gb369 ≠ gb368)); replace BK368 := bb BK368 hb; clear hb hbox hg))
  have n0_ := Aside0.mk (Kd.R_drew HO367.out)
  have n1_ := Aside0.mk (blk_drew BK368.out)
  have n2_ := Aside0.mk (blk_drew BK369.out)
  have n3_ := Aside0.mk (below_drew1 HB.out)
  clear HO367
  clear BK368
  clear BK369
  clear HB
  have HO367 := n0_
  have BK368 := n1_
  have BK369 := n2_
  have HB := n3_
  clear n0_ n1_ n2_ n3_
  refine start_ (n := 10) (S := fun w' => w'.cell? ⟨gb368, 0, none⟩ = some (.int .i64 a0_0) ∧ w'.cell? ⟨gb368, 1, none⟩ = some (.slice A0_1 l0_1.length c0_1) ∧ w'.cell? ⟨gb368, 2, none⟩ = some (.slice A0_2 l0_2.length c0_2)) (ds := []) (bv 10 0x0) (by kernel_rfl) rfl rfl ⟨bc0 BK368, bc1 BK368, bc2 BK368⟩ (fun hHeld => ?_); refine with_tabW impl_copyAges.tab1 impl_copyAges.bits1 (fun HT_ HW_ => ?_)
  generalize w7.drew = w8 at HO367 BK368 BK369 HB hHeld ⊢
  refine py HT_ 0 3 (bv 10 0x1) ?_
  refine py HT_ 2 5 (bv 10 0x5) ?_
  refine py HT_ 5 8 (bv 10 0x25) ?_
  refine tk HT_ HW_ hHeld 1 4 (bv 10 0x27) ?_
  refine tk HT_ HW_ hHeld 3 6 (bv 10 0x2f) ?_
  refine tk HT_ HW_ hHeld 6 9 (bv 10 0x6f) ?_
  refine one_ (i := 4) (N := some 7) (bv 10 0x7f) rfl rfl (one_of HT_.out (by kernel_rfl)) (by decide) (fun K hK => ?_)
  refine goes_ Try.func57 (by kernel_rfl) rfl #[.slice A0_1 l0_1.length c0_1] (by rfl) rfl rfl ml ?_
  with_reducible refine (impl_copyInts.calls _ _ l0_1 t370 _ ?side1 ?side2 A2.out).mono ?_
  (case side1 => exact cb HR0_1 HB)
  (case side2 => exact HC0_1.out)
  rintro e w9 ⟨v371, rfl, ho0, hb⟩
  refine ⟨_, rfl, ?_⟩
  have n0_ := rb HO367 hb
  have n1_ := Aside0.mk (Kd.R_lower ho0 (below_size (be2 HB GE368 GE369)))
  have n2_ := bb BK368 hb
  have n3_ := bb BK369 hb
  have n4_ := Aside0.mk (below_step (be2 HB GE368 GE369) hb)
  clear HO367
  clear BK368
  clear BK369
  clear HB
  have HO367 := n0_
  have HO372 := n1_
  have BK368 := n2_
  have BK369 := n3_
  have HB := n4_
  clear n0_ n1_ n2_ n3_ n4_
  (try clear hb)
  (try clear hb2)
  (try clear hk)
  (try clear hi)
  (try clear ho0)
  refine hK.out _ _ ⟨bc0 BK368, bc1 BK368, bc2 BK368⟩ (fun hHeld => ?_)
  clear hK K
  refine norm_ (a' := ?_) ?_ ?_
  rotate_left
  ·show Act.put _ (some 7) _ = _
   simp only [aP]
   rfl
  refine one_ (i := 7) (N := some 10) (bv 10 0xff) rfl rfl (one_of HT_.out (by kernel_rfl)) (by decide) (fun K hK => ?_)
  refine Kd.R_append_rows_step k70 (w0 := w) w.heap.size (by rfl) (.const (.slice none 0 0)) (.tmp 9) 23 70 (.agg #[(.int .i64 0), (.int .i64 0)]) 16 rfl Try.underlying23 info70 rfl (by decide) (by omega) (.slice none 0 0) y365 l0_2 _ _ _ (fun _ => True) (fun _ => False) rfl rfl ?aO ?aR (fun _ _ h => h) (fun _ h => h.elim) ?aF ?aB ?aS ?aL ?_
  (case aR => repeat (first | exact (Kd.C_below HR0_2.out HB.out) | (with_reducible refine Kd.C_alloc ?_ _) | (with_reducible refine Kd.C_drewN ?_ _) | (with_reducible refine Kd.C_drew ?_)))
  (case aB => exact (be2 HB GE368 GE369))
  (case aF => exact (fun _ _ => trivial))
  (case aO => exact (ro HO367))
  (case aS => exact (below_size (be2 HB GE368 GE369)))
  (case aL => have := LMc3.out; omega)
  intro v374 w10 ho hb hg hat
  rw [← Ny373.out] at ho
  have n0_ := Aside0.mk (blk_grown (g := gb368) (o := .cells #[.int .i64 a0_0, .slice A0_1 l0_1.length c0_1, .slice A0_2 l0_2.length c0_2] 25 (0, 0)) (bk BK368) hg (Kd.R_ne HO367.out BK368.out (by decide)))
  have n1_ := Aside0.mk (blk_grown (g := gb369) (o := .cells #[.int .i64 0, .slice none 0 0, .slice none 0 0] 25 (0, 0)) (bk BK369) hg (Kd.R_ne HO367.out BK369.out (by decide)))
  have n2_ := Aside0.mk (Kd.R_over' (ro HO372) (Kd.R_typed (ro HO367)) (by decide) hg)
  have n3_ := Aside0.mk (hb)
  have n4_ := Aside0.mk (ho)
  clear BK368
  clear BK369
  clear HO372
  clear HB
  clear HO367
  have BK368 := n0_
  have BK369 := n1_
  have HO372 := n2_
  have HB := n3_
  have HO375 := n4_
  clear n0_ n1_ n2_ n3_ n4_
  clear ho hb hg hat
  obtain ⟨Ao11, co11, eo11⟩ := Kd.R_slice HO375.out
  (first | subst eo11 | (injection eo11 with f1_ f2_ f3_; have f4_ := f1_.symm; have f5_ := f3_.symm; clear f1_ f2_ f3_; subst f4_; subst f5_))
  obtain ⟨Ao12, co12, eo12⟩ := Kd.R_slice HO372.out
  (first | subst eo12 | (injection eo12 with f1_ f2_ f3_; have f4_ := f1_.symm; have f5_ := f3_.symm; clear f1_ f2_ f3_; subst f4_; subst f5_))
  refine hK.out _ _ ⟨bc0 BK368, bc1 BK368, bc2 BK368⟩ (fun hHeld => ?_)
  clear hK K
  refine norm_ (a' := ?_) ?_ ?_
  rotate_left
  ·show Act.put _ (some 10) _ = _
   simp only [aP]
   rfl
  refine py HT_ 8 11 (bv 10 0x1ff) ?_
  refine one_ (i := 9) (N := none) (bv 10 0x3ff) rfl rfl (one_of HT_.out (by kernel_rfl)) (by decide) (fun K hK => ?_)
  have hs13 : w10.cell? ⟨gb369, 0, none⟩ = some (.int .i64 0) := bc0 BK369
  have hfs13 := blk_frozen BK369.out 0
  have hns13_0 := NB368_369.out
  have hms13_0 := NB369_368.out
  have hs14 : w10.cell? ⟨gb369, 1, none⟩ = some (.slice none 0 0) := bc1 BK369
  have hfs14 := blk_frozen BK369.out 1
  have hns14_0 := NB368_369.out
  have hms14_0 := NB369_368.out
  have hs15 : w10.cell? ⟨gb369, 2, none⟩ = some (.slice none 0 0) := bc2 BK369
  have hfs15 := blk_frozen BK369.out 2
  have hns15_0 := NB368_369.out
  have hms15_0 := NB369_368.out
  refine skip_ (w1 := ?_) (by rfl) rfl ?_ ?_
  rotate_left
  ·go_simp
   rfl
  refine hK.out _ _ ⟨((cell_far (p := ⟨gb369, _, none⟩) NB368_369.out _).trans (((cell_far (p := ⟨gb369, _, none⟩) NB368_369.out _).trans (((cell_far (p := ⟨gb369, _, none⟩) NB368_369.out _).trans (hHeld.1)))))), ((cell_far (p := ⟨gb369, _, none⟩) NB368_369.out _).trans (((cell_far (p := ⟨gb369, _, none⟩) NB368_369.out _).trans (((cell_far (p := ⟨gb369, _, none⟩) NB368_369.out _).trans (hHeld.2.1)))))), ((cell_far (p := ⟨gb369, _, none⟩) NB368_369.out _).trans (((cell_far (p := ⟨gb369, _, none⟩) NB368_369.out _).trans (((cell_far (p := ⟨gb369, _, none⟩) NB368_369.out _).trans (hHeld.2.2))))))⟩ (fun hHeld => ?_)
  clear hK K
  refine done_ (done_of HT_.out (by kernel_rfl)) ?_
  try go_wp2
  refine bodyPost_ret (results_cell_row rfl _ _ gb369 25 #[.int .i64 a0_0, .slice Ao12 t370.length co12, .slice Ao11 y373.length co11] (0, 0) _ rfl (by (with_reducible repeat (first | refine blk_drewN ?_ _ | refine blk_drew ?_ | refine blk_alloc ?_ _)); refine blk_put (cs := #[.int .i64 a0_0, .slice Ao12 t370.length co12, .slice none 0 0]) ?_ 2 _ rfl; (with_reducible repeat (first | refine blk_drewN ?_ _ | refine blk_drew ?_ | refine blk_alloc ?_ _)); refine blk_put (cs := #[.int .i64 a0_0, .slice none 0 0, .slice none 0 0]) ?_ 1 _ rfl; (with_reducible repeat (first | refine blk_drewN ?_ _ | refine blk_drew ?_ | refine blk_alloc ?_ _)); refine blk_put (cs := #[.int .i64 0, .slice none 0 0, .slice none 0 0]) ?_ 0 _ rfl; (with_reducible repeat (first | refine blk_drewN ?_ _ | refine blk_drew ?_ | refine blk_alloc ?_ _)); exact BK369.out) Try.underlying25 rfl (by kernel_rfl)) rfl ?_
  exact ⟨_, _, er, by (with_reducible repeat (first | apply Kd.R_alloc | apply Kd.R_drewN | apply Kd.R_drew)); exact Kd.R_mono (Kd.R_far (p := ⟨gb369, 2, none⟩) (Kd.R_far (p := ⟨gb369, 1, none⟩) (Kd.R_far (p := ⟨gb369, 0, none⟩) (Kd.R_types HO372.out BK369.out (by decide)) (fun _ hk => hk.2) (.int .i64 a0_0)) (fun _ hk => hk.2) (.slice Ao12 t370.length co12)) (fun _ hk => hk.2) (.slice Ao11 y373.length co11)) (fun _ hk => trivial), by (with_reducible repeat (first | apply Kd.R_alloc | apply Kd.R_drewN | apply Kd.R_drew)); exact Kd.R_mono (Kd.R_far (p := ⟨gb369, 2, none⟩) (Kd.R_far (p := ⟨gb369, 1, none⟩) (Kd.R_far (p := ⟨gb369, 0, none⟩) (Kd.R_types HO375.out BK369.out (by decide)) (fun _ hk => hk.2) (.int .i64 a0_0)) (fun _ hk => hk.2) (.slice Ao12 t370.length co12)) (fun _ hk => hk.2) (.slice Ao11 y373.length co11)) (fun _ hk => trivial), be2 HB GE368 GE369⟩
 rw [if_neg c3] at H
 exact absurd H (by simp)

/-! ### impl_copyPool: function 66 -/
def impl_copyPool.f (l0_0 : List Int) (a0_1 : Int) (l0_2 : List Int) (l0_3 : List (S70)) (l0_4 : List Int) : Option (List Int × Int × List Int × (List (S70)) × List Int) := (impl_copyInts.f l0_0).bind fun t378 => ((impl_copyAges.f a0_1 l0_2 l0_3).bind fun bt381 => ((impl_copyInts.f l0_4).bind fun t388 => (some (t378, bt381.1, bt381.2.1, bt381.2.2, t388))))
def impl_copyPool.T1 : Bool × List (List Nat × List Nat) := (true, [([], []), ([0], [0]), ([1], [1]), ([], []), ([3], [3]), ([4, 2], [4]), ([], []), ([6], [6]), ([7, 5], [7]), ([2, 5, 8], [2, 5, 8]), ([9, 8, 0, 1, 2, 3, 4, 5, 6, 7, 8, 9], [9])])
def impl_copyPool.B1 : List Nat := [0, 1, 3, 0, 8, 31, 0, 64, 255, 511, 1023]
theorem impl_copyPool.tab1 : rtab .any (opsOf Try.f66 1) = impl_copyPool.T1 := by kernel_rfl
theorem impl_copyPool.bits1 : waitsOk impl_copyPool.T1.2 impl_copyPool.B1 = true := by kernel_rfl
set_option maxHeartbeats 8000000 in
set_option maxRecDepth 100000 in
theorem impl_copyPool.calls (A0_0 : Option Addr) (c0_0 : Nat) (l0_0 : List Int) (a0_1 : Int) (A0_2 : Option Addr) (c0_2 : Nat) (l0_2 : List Int) (A0_3 : Option Addr) (c0_3 : Nat) (l0_3 : List (S70)) (A0_4 : Option Addr) (c0_4 : Nat) (l0_4 : List Int) (r1 : List Int) (r2 : Int) (r3 : List Int) (r4 : List (S70)) (r5 : List Int) (w : World) (hr0_0 : Kd.C (Kd.int .i64) w A0_0 l0_0.length l0_0) (hc0_0 : l0_0.length ≤ c0_0) (hr0_2 : Kd.C (Kd.int .i64) w A0_2 l0_2.length l0_2) (hc0_2 : l0_2.length ≤ c0_2) (hr0_3 : Kd.C k70 w A0_3 l0_3.length l0_3) (hc0_3 : l0_3.length ≤ c0_3) (hr0_4 : Kd.C (Kd.int .i64) w A0_4 l0_4.length l0_4) (hc0_4 : l0_4.length ≤ c0_4) (h : impl_copyPool.f l0_0 a0_1 l0_2 l0_3 l0_4 = some (r1, r2, r3, r4, r5)) :
  Calls Try.prog 66 #[.agg #[.slice A0_0 l0_0.length c0_0, .int .i64 a0_1, .slice A0_2 l0_2.length c0_2, .slice A0_3 l0_3.length c0_3, .slice A0_4 l0_4.length c0_4]] w fun e w' => ∃ v0_ v2_ v3_ v4_ : Value, e = .returned (.agg #[v0_, .int .i64 r2, v2_, v3_, v4_]) ∧ Kd.R (Kd.int .i64) 3 w' w.heap.size (fun k_ => some k_ ≠ (v2_ : Value).ownBlock ∧ some k_ ≠ (v4_ : Value).ownBlock) v0_ r1 ∧ Kd.R (Kd.int .i64) 3 w' w.heap.size (fun k_ => some k_ ≠ (v0_ : Value).ownBlock ∧ some k_ ≠ (v4_ : Value).ownBlock) v2_ r3 ∧ Kd.R k70 70 w' w.heap.size (fun _ => True) v3_ r4 ∧ Kd.R (Kd.int .i64) 3 w' w.heap.size (fun k_ => some k_ ≠ (v0_ : Value).ownBlock ∧ some k_ ≠ (v2_ : Value).ownBlock) v4_ r5 ∧ Below w.heap.size w w' := by
 have hu27 := Try.underlying27
 have hu25 := Try.underlying25
 have HR0_0 := Aside0.mk hr0_0
 have HC0_0 := Aside0.mk hc0_0
 clear hr0_0 hc0_0
 have HR0_2 := Aside0.mk hr0_2
 have HC0_2 := Aside0.mk hc0_2
 clear hr0_2 hc0_2
 have HR0_3 := Aside0.mk hr0_3
 have HC0_3 := Aside0.mk hc0_3
 clear hr0_3 hc0_3
 have HR0_4 := Aside0.mk hr0_4
 have HC0_4 := Aside0.mk hc0_4
 clear hr0_4 hc0_4
 have HB := Aside0.mk (Below.refl w.heap.size w)
 have H : ((impl_copyInts.f l0_0).bind fun t378 => ((impl_copyAges.f a0_1 l0_2 l0_3).bind fun bt381 => ((impl_copyInts.f l0_4).bind fun t388 => (some (t378, bt381.1, bt381.2.1, bt381.2.2, t388))))) = some (r1, r2, r3, r4, r5) := h
 clear h
 replace H := Option.bind_eq_some_iff.mp H
 obtain ⟨t378, A20, H⟩ := H
 replace H : ((impl_copyAges.f a0_1 l0_2 l0_3).bind fun bt381 => ((impl_copyInts.f l0_4).bind fun t388 => (some (t378, bt381.1, bt381.2.1, bt381.2.2, t388)))) = some (r1, r2, r3, r4, r5) := H
 have A2 := Aside0.mk A20
 clear A20
 replace H := Option.bind_eq_some_iff.mp H
 obtain ⟨⟨t381, t382, t385⟩, A30, H⟩ := H
 replace H : ((impl_copyInts.f l0_4).bind fun t388 => (some (t378, t381, t382, t385, t388))) = some (r1, r2, r3, r4, r5) := H
 have A3 := Aside0.mk A30
 clear A30
 replace H := Option.bind_eq_some_iff.mp H
 obtain ⟨t388, A40, H⟩ := H
 replace H : (some (t378, t381, t382, t385, t388)) = some (r1, r2, r3, r4, r5) := H
 have A4 := Aside0.mk A40
 clear A40
 simp only [Option.some.injEq, Prod.mk.injEq] at H
 obtain ⟨rfl, rfl, rfl, rfl, rfl⟩ := H
 go_enter Try.func66, Try.ntmps66
 try go_wp2_with (first | ((with_reducible refine gate_dst (N := 1) rfl ?_); refine bx 1 #[.slice A0_0 l0_0.length c0_0, .int .i64 a0_1, .slice A0_2 l0_2.length c0_2, .slice A0_3 l0_3.length c0_3, .slice A0_4 l0_4.length c0_4] 27 ?_; intro gb376 hg w5 hbox hb; have BK376 := am hbox; have GW376 := gs0 hg HB; have GE376 := gs0 hg HB; replace HB := s0 HB hb; clear hb hbox hg) | ((with_reducible refine gate_dst (N := 2) rfl ?_); refine bx 2 #[.slice none 0 0, .int .i64 0, .slice none 0 0, .slice none 0 0, .slice none 0 0] 27 ?_; intro gb377 hg w6 hbox hb; have BK377 := am hbox; have GW377 := gs1 hg HB GE376; have GE377 := gs1 hg HB GE376; replace HB := Aside0.mk (below_step (be1 HB GE376) hb); have NB376_377 := Aside0.mk ((by rw [hg]; exact Nat.ne_of_lt (bl BK376) : gb376 ≠ gb377)); have NB377_376 := Aside0.mk ((by rw [hg]; exact Nat.ne_of_gt (bl BK376) : gb377 ≠ gb376)); replace BK376 := bb BK376 hb; clear hb hbox hg))
 have n0_ := Aside0.mk (blk_drew BK376.out)
 have n1_ := Aside0.mk (blk_drew BK377.out)
 have n2_ := Aside0.mk (below_drew1 HB.out)
 clear BK376
 clear BK377
 clear HB
 have BK376 := n0_
 have BK377 := n1_
 have HB := n2_
 clear n0_ n1_ n2_
 refine start_ (n := 11) (S := fun w' => w'.cell? ⟨gb376, 0, none⟩ = some (.slice A0_0 l0_0.length c0_0) ∧ w'.cell? ⟨gb376, 1, none⟩ = some (.int .i64 a0_1) ∧ w'.cell? ⟨gb376, 2, none⟩ = some (.slice A0_2 l0_2.length c0_2) ∧ w'.cell? ⟨gb376, 3, none⟩ = some (.slice A0_3 l0_3.length c0_3) ∧ w'.cell? ⟨gb376, 4, none⟩ = some (.slice A0_4 l0_4.length c0_4)) (ds := []) (bv 11 0x0) (by kernel_rfl) rfl rfl ⟨bc0 BK376, bc1 BK376, bc2 BK376, bc3 BK376, bc4 BK376⟩ (fun hHeld => ?_); refine with_tabW impl_copyPool.tab1 impl_copyPool.bits1 (fun HT_ HW_ => ?_)
 generalize w6.drew = w7 at BK376 BK377 HB hHeld ⊢
 refine py HT_ 0 3 (bv 11 0x1) ?_
 refine py HT_ 3 6 (bv 11 0x9) ?_
 refine py HT_ 6 9 (bv 11 0x49) ?_
 refine tk HT_ HW_ hHeld 1 4 (bv 11 0x4b) ?_
 refine tk HT_ HW_ hHeld 4 7 (bv 11 0x5b) ?_
 refine tk HT_ HW_ hHeld 7 10 (bv 11 0xdb) ?_
 refine one_ (i := 2) (N := some 5) (bv 11 0xdf) rfl rfl (one_of HT_.out (by kernel_rfl)) (by decide) (fun K hK => ?_)
 refine goes_ Try.func57 (by kernel_rfl) rfl #[.slice A0_0 l0_0.length c0_0] (by rfl) rfl rfl ml ?_
 with_reducible refine (impl_copyInts.calls _ _ l0_0 t378 _ ?side1 ?side2 A2.out).mono ?_
 (case side1 => exact cb HR0_0 HB)
 (case side2 => exact HC0_0.out)
 rintro e w8 ⟨v379, rfl, ho0, hb⟩
 refine ⟨_, rfl, ?_⟩
 have n0_ := Aside0.mk (Kd.R_lower ho0 (below_size (be2 HB GE376 GE377)))
 have n1_ := bb BK376 hb
 have n2_ := bb BK377 hb
 have n3_ := Aside0.mk (below_step (be2 HB GE376 GE377) hb)
 clear BK376
 clear BK377
 clear HB
 have HO380 := n0_
 have BK376 := n1_
 have BK377 := n2_
 have HB := n3_
 clear n0_ n1_ n2_ n3_
 (try clear hb)
 (try clear hb2)
 (try clear hk)
 (try clear hi)
 (try clear ho0)
 refine hK.out _ _ ⟨bc0 BK376, bc1 BK376, bc2 BK376, bc3 BK376, bc4 BK376⟩ (fun hHeld => ?_)
 clear hK K
 refine norm_ (a' := ?_) ?_ ?_
 rotate_left
 ·show Act.put _ (some 5) _ = _
  simp only [aP]
  rfl
 refine one_ (i := 5) (N := some 8) (bv 11 0xff) rfl rfl (one_of HT_.out (by kernel_rfl)) (by decide) (fun K hK => ?_)
 refine goes_ Try.func96 (by kernel_rfl) rfl #[.agg #[.int .i64 a0_1, .slice A0_2 l0_2.length c0_2, .slice A0_3 l0_3.length c0_3]] (by rfl) rfl rfl ml ?_
 with_reducible refine (impl_copyAges.calls a0_1 _ _ l0_2 _ _ l0_3 t381 t382 t385 _ ?side1 ?side2 ?side3 ?side4 A3.out).mono ?_
 (case side1 => exact cb HR0_2 HB)
 (case side2 => exact HC0_2.out)
 (case side3 => exact cb HR0_3 HB)
 (case side4 => exact HC0_3.out)
 rintro e w9 ⟨v383, v386, rfl, ho0, ho1, hb⟩
 refine ⟨_, rfl, ?_⟩
 have n0_ := Aside0.mk (Kd.R_elder' (ro HO380) (Kd.R_base ho0) hb)
 have n1_ := Aside0.mk (Kd.R_lower (nw ho0 HO380) (below_size (be2 HB GE376 GE377)))
 have n2_ := Aside0.mk (Kd.R_lower ho1 (below_size (be2 HB GE376 GE377)))
 have n3_ := bb BK376 hb
 have n4_ := bb BK377 hb
 have n5_ := Aside0.mk (below_step (be2 HB GE376 GE377) hb)
 clear HO380
 clear BK376
 clear BK377
 clear HB
 have HO380 := n0_
 have HO384 := n1_
 have HO387 := n2_
 have BK376 := n3_
 have BK377 := n4_
 have HB := n5_
 clear n0_ n1_ n2_ n3_ n4_ n5_
 (try clear hb)
 (try clear hb2)
 (try clear hk)
 (try clear hi)
 (try clear ho0)
 (try clear ho1)
 refine hK.out _ _ ⟨bc0 BK376, bc1 BK376, bc2 BK376, bc3 BK376, bc4 BK376⟩ (fun hHeld => ?_)
 clear hK K
 refine norm_ (a' := ?_) ?_ ?_
 rotate_left
 ·show Act.put _ (some 8) _ = _
  simp only [aP]
  rfl
 refine one_ (i := 8) (N := some 11) (bv 11 0x1ff) rfl rfl (one_of HT_.out (by kernel_rfl)) (by decide) (fun K hK => ?_)
 refine goes_ Try.func57 (by kernel_rfl) rfl #[.slice A0_4 l0_4.length c0_4] (by rfl) rfl rfl ml ?_
 with_reducible refine (impl_copyInts.calls _ _ l0_4 t388 _ ?side1 ?side2 A4.out).mono ?_
 (case side1 => exact cb HR0_4 HB)
 (case side2 => exact HC0_4.out)
 rintro e w10 ⟨v389, rfl, ho0, hb⟩
 refine ⟨_, rfl, ?_⟩
 have n0_ := Aside0.mk (Kd.R_elder' (ro HO380) (Kd.R_base ho0) hb)
 have n1_ := Aside0.mk (Kd.R_elder' (ro HO384) (Kd.R_base ho0) hb)
 have n2_ := rb HO387 hb
 have n3_ := Aside0.mk (Kd.R_lower (nw (nw ho0 HO380) HO384) (below_size (be2 HB GE376 GE377)))
 have n4_ := bb BK376 hb
 have n5_ := bb BK377 hb
 have n6_ := Aside0.mk (below_step (be2 HB GE376 GE377) hb)
 clear HO380
 clear HO384
 clear HO387
 clear BK376
 clear BK377
 clear HB
 have HO380 := n0_
 have HO384 := n1_
 have HO387 := n2_
 have HO390 := n3_
 have BK376 := n4_
 have BK377 := n5_
 have HB := n6_
 clear n0_ n1_ n2_ n3_ n4_ n5_ n6_
 (try clear hb)
 (try clear hb2)
 (try clear hk)
 (try clear hi)
 (try clear ho0)
 obtain ⟨Ao11, co11, eo11⟩ := Kd.R_slice HO390.out
 (first | subst eo11 | (injection eo11 with f1_ f2_ f3_; have f4_ := f1_.symm; have f5_ := f3_.symm; clear f1_ f2_ f3_; subst f4_; subst f5_))
 obtain ⟨Ao12, co12, eo12⟩ := Kd.R_slice HO387.out
 (first | subst eo12 | (injection eo12 with f1_ f2_ f3_; have f4_ := f1_.symm; have f5_ := f3_.symm; clear f1_ f2_ f3_; subst f4_; subst f5_))
 obtain ⟨Ao13, co13, eo13⟩ := Kd.R_slice HO384.out
 (first | subst eo13 | (injection eo13 with f1_ f2_ f3_; have f4_ := f1_.symm; have f5_ := f3_.symm; clear f1_ f2_ f3_; subst f4_; subst f5_))
 obtain ⟨Ao14, co14, eo14⟩ := Kd.R_slice HO380.out
 (first | subst eo14 | (injection eo14 with f1_ f2_ f3_; have f4_ := f1_.symm; have f5_ := f3_.symm; clear f1_ f2_ f3_; subst f4_; subst f5_))
 refine hK.out _ _ ⟨bc0 BK376, bc1 BK376, bc2 BK376, bc3 BK376, bc4 BK376⟩ (fun hHeld => ?_)
 clear hK K
 refine norm_ (a' := ?_) ?_ ?_
 rotate_left
 ·show Act.put _ (some 11) _ = _
  simp only [aP]
  rfl
 refine py HT_ 9 12 (bv 11 0x3ff) ?_
 refine one_ (i := 10) (N := none) (bv 11 0x7ff) rfl rfl (one_of HT_.out (by kernel_rfl)) (by decide) (fun K hK => ?_)
 have hs15 : w10.cell? ⟨gb377, 0, none⟩ = some (.slice none 0 0) := bc0 BK377
 have hfs15 := blk_frozen BK377.out 0
 have hns15_0 := NB376_377.out
 have hms15_0 := NB377_376.out
 have hs16 : w10.cell? ⟨gb377, 1, none⟩ = some (.int .i64 0) := bc1 BK377
 have hfs16 := blk_frozen BK377.out 1
 have hns16_0 := NB376_377.out
 have hms16_0 := NB377_376.out
 have hs17 : w10.cell? ⟨gb377, 2, none⟩ = some (.slice none 0 0) := bc2 BK377
 have hfs17 := blk_frozen BK377.out 2
 have hns17_0 := NB376_377.out
 have hms17_0 := NB377_376.out
 have hs18 : w10.cell? ⟨gb377, 3, none⟩ = some (.slice none 0 0) := bc3 BK377
 have hfs18 := blk_frozen BK377.out 3
 have hns18_0 := NB376_377.out
 have hms18_0 := NB377_376.out
 have hs19 : w10.cell? ⟨gb377, 4, none⟩ = some (.slice none 0 0) := bc4 BK377
 have hfs19 := blk_frozen BK377.out 4
 have hns19_0 := NB376_377.out
 have hms19_0 := NB377_376.out
 refine skip_ (w1 := ?_) (by rfl) rfl ?_ ?_
 rotate_left
 ·go_simp
  rfl
 refine hK.out _ _ ⟨((cell_far (p := ⟨gb377, _, none⟩) NB376_377.out _).trans (((cell_far (p := ⟨gb377, _, none⟩) NB376_377.out _).trans (((cell_far (p := ⟨gb377, _, none⟩) NB376_377.out _).trans (((cell_far (p := ⟨gb377, _, none⟩) NB376_377.out _).trans (((cell_far (p := ⟨gb377, _, none⟩) NB376_377.out _).trans (hHeld.1)))))))))), ((cell_far (p := ⟨gb377, _, none⟩) NB376_377.out _).trans (((cell_far (p := ⟨gb377, _, none⟩) NB376_377.out _).trans (((cell_far (p := ⟨gb377, _, none⟩) NB376_377.out _).trans (((cell_far (p := ⟨gb377, _, none⟩) NB376_377.out _).trans (((cell_far (p := ⟨gb377, _, none⟩) NB376_377.out _).trans (hHeld.2.1)))))))))), ((cell_far (p := ⟨gb377, _, none⟩) NB376_377.out _).trans (((cell_far (p := ⟨gb377, _, none⟩) NB376_377.out _).trans (((cell_far (p := ⟨gb377, _, none⟩) NB376_377.out _).trans (((cell_far (p := ⟨gb377, _, none⟩) NB376_377.out _).trans (((cell_far (p := ⟨gb377, _, none⟩) NB376_377.out _).trans (hHeld.2.2.1)))))))))), ((cell_far (p := ⟨gb377, _, none⟩) NB376_377.out _).trans (((cell_far (p := ⟨gb377, _, none⟩) NB376_377.out _).trans (((cell_far (p := ⟨gb377, _, none⟩) NB376_377.out _).trans (((cell_far (p := ⟨gb377, _, none⟩) NB376_377.out _).trans (((cell_far (p := ⟨gb377, _, none⟩) NB376_377.out _).trans (hHeld.2.2.2.1)))))))))), ((cell_far (p := ⟨gb377, _, none⟩) NB376_377.out _).trans (((cell_far (p := ⟨gb377, _, none⟩) NB376_377.out _).trans (((cell_far (p := ⟨gb377, _, none⟩) NB376_377.out _).trans (((cell_far (p := ⟨gb377, _, none⟩) NB376_377.out _).trans (((cell_far (p := ⟨gb377, _, none⟩) NB376_377.out _).trans (hHeld.2.2.2.2))))))))))⟩ (fun hHeld => ?_)
 clear hK K
 refine done_ (done_of HT_.out (by kernel_rfl)) ?_
 try go_wp2
 refine bodyPost_ret (results_cell_row rfl _ _ gb377 27 #[.slice Ao14 t378.length co14, .int .i64 t381, .slice Ao13 t382.length co13, .slice Ao12 t385.length co12, .slice Ao11 t388.length co11] (0, 0) _ rfl (by (with_reducible repeat (first | refine blk_drewN ?_ _ | refine blk_drew ?_ | refine blk_alloc ?_ _)); refine blk_put (cs := #[.slice Ao14 t378.length co14, .int .i64 t381, .slice Ao13 t382.length co13, .slice Ao12 t385.length co12, .slice none 0 0]) ?_ 4 _ rfl; (with_reducible repeat (first | refine blk_drewN ?_ _ | refine blk_drew ?_ | refine blk_alloc ?_ _)); refine blk_put (cs := #[.slice Ao14 t378.length co14, .int .i64 t381, .slice Ao13 t382.length co13, .slice none 0 0, .slice none 0 0]) ?_ 3 _ rfl; (with_reducible repeat (first | refine blk_drewN ?_ _ | refine blk_drew ?_ | refine blk_alloc ?_ _)); refine blk_put (cs := #[.slice Ao14 t378.length co14, .int .i64 t381, .slice none 0 0, .slice none 0 0, .slice none 0 0]) ?_ 2 _ rfl; (with_reducible repeat (first | refine blk_drewN ?_ _ | refine blk_drew ?_ | refine blk_alloc ?_ _)); refine blk_put (cs := #[.slice Ao14 t378.length co14, .int .i64 0, .slice none 0 0, .slice none 0 0, .slice none 0 0]) ?_ 1 _ rfl; (with_reducible repeat (first | refine blk_drewN ?_ _ | refine blk_drew ?_ | refine blk_alloc ?_ _)); refine blk_put (cs := #[.slice none 0 0, .int .i64 0, .slice none 0 0, .slice none 0 0, .slice none 0 0]) ?_ 0 _ rfl; (with_reducible repeat (first | refine blk_drewN ?_ _ | refine blk_drew ?_ | refine blk_alloc ?_ _)); exact BK377.out) Try.underlying27 rfl (by kernel_rfl)) rfl ?_
 exact ⟨_, _, _, _, er, by (with_reducible repeat (first | apply Kd.R_alloc | apply Kd.R_drewN | apply Kd.R_drew)); exact Kd.R_mono (Kd.R_far (p := ⟨gb377, 4, none⟩) (Kd.R_far (p := ⟨gb377, 3, none⟩) (Kd.R_far (p := ⟨gb377, 2, none⟩) (Kd.R_far (p := ⟨gb377, 1, none⟩) (Kd.R_far (p := ⟨gb377, 0, none⟩) (Kd.R_types HO380.out BK377.out (by decide)) (fun _ hk => hk.2) (.slice Ao14 t378.length co14)) (fun _ hk => hk.2) (.int .i64 t381)) (fun _ hk => hk.2) (.slice Ao13 t382.length co13)) (fun _ hk => hk.2) (.slice Ao12 t385.length co12)) (fun _ hk => hk.2) (.slice Ao11 t388.length co11)) (fun _ hk => ⟨hk.1.1.2, hk.1.2⟩), by (with_reducible repeat (first | apply Kd.R_alloc | apply Kd.R_drewN | apply Kd.R_drew)); exact Kd.R_mono (Kd.R_far (p := ⟨gb377, 4, none⟩) (Kd.R_far (p := ⟨gb377, 3, none⟩) (Kd.R_far (p := ⟨gb377, 2, none⟩) (Kd.R_far (p := ⟨gb377, 1, none⟩) (Kd.R_far (p := ⟨gb377, 0, none⟩) (Kd.R_types HO384.out BK377.out (by decide)) (fun _ hk => hk.2) (.slice Ao14 t378.length co14)) (fun _ hk => hk.2) (.int .i64 t381)) (fun _ hk => hk.2) (.slice Ao13 t382.length co13)) (fun _ hk => hk.2) (.slice Ao12 t385.length co12)) (fun _ hk => hk.2) (.slice Ao11 t388.length co11)) (fun _ hk => ⟨hk.1.1.2, hk.1.2⟩), by (with_reducible repeat (first | apply Kd.R_alloc | apply Kd.R_drewN | apply Kd.R_drew)); exact Kd.R_mono (Kd.R_far (p := ⟨gb377, 4, none⟩) (Kd.R_far (p := ⟨gb377, 3, none⟩) (Kd.R_far (p := ⟨gb377, 2, none⟩) (Kd.R_far (p := ⟨gb377, 1, none⟩) (Kd.R_far (p := ⟨gb377, 0, none⟩) (Kd.R_types HO387.out BK377.out (by decide)) (fun _ hk => hk.2) (.slice Ao14 t378.length co14)) (fun _ hk => hk.2) (.int .i64 t381)) (fun _ hk => hk.2) (.slice Ao13 t382.length co13)) (fun _ hk => hk.2) (.slice Ao12 t385.length co12)) (fun _ hk => hk.2) (.slice Ao11 t388.length co11)) (fun _ hk => trivial), by (with_reducible repeat (first | apply Kd.R_alloc | apply Kd.R_drewN | apply Kd.R_drew)); exact Kd.R_mono (Kd.R_far (p := ⟨gb377, 4, none⟩) (Kd.R_far (p := ⟨gb377, 3, none⟩) (Kd.R_far (p := ⟨gb377, 2, none⟩) (Kd.R_far (p := ⟨gb377, 1, none⟩) (Kd.R_far (p := ⟨gb377, 0, none⟩) (Kd.R_types HO390.out BK377.out (by decide)) (fun _ hk => hk.2) (.slice Ao14 t378.length co14)) (fun _ hk => hk.2) (.int .i64 t381)) (fun _ hk => hk.2) (.slice Ao13 t382.length co13)) (fun _ hk => hk.2) (.slice Ao12 t385.length co12)) (fun _ hk => hk.2) (.slice Ao11 t388.length co11)) (fun _ hk => ⟨hk.1.1.2, hk.1.2⟩), be2 HB GE376 GE377⟩

/-! ### impl_Retire: function 79 -/
def impl_Retire.f (k : Nat) (a0_0 : Int) (l0_1 : List Int) (l0_2 : List (S70)) (a1 : Int) : Option (Int × List Int × (List (S70)) × Bool) := (impl_AgesOk.f k a0_0 l0_1 l0_2).bind fun t393 => (if t393 = true then ((impl_Ages_inLimbo.f k a0_0 l0_1 l0_2 a1).bind fun t394 => (if t394 ≥ 0 then (some (0, ([] : List Int), ([] : List (S70)), false)) else (if (l0_2.length : Int) = 100 then (some (0, ([] : List Int), ([] : List (S70)), false)) else ((impl_copyAges.f a0_0 l0_1 l0_2).bind fun bt395 => (if bt395.2.2.length < 8796093022208 then (some (bt395.1, bt395.2.1, (bt395.2.2 ++ [(⟨a1, a0_0⟩ : S70)]), true)) else (none)))))) else (some (0, ([] : List Int), ([] : List (S70)), false)))
theorem impl_Retire.mono : ∀ a0 a1 a2 a3 k, LeO (impl_Retire.f k a0 a1 a2 a3) (impl_Retire.f (k + 1) a0 a1 a2 a3) := by
 intro a0 a1 a2 a3 k
 unfold impl_Retire.f
 repeat' first
   | (with_reducible exact impl_AgesOk.mono _ _ _ _)
   | (with_reducible exact impl_Ages_inLimbo.mono _ _ _ _ _)
   | (with_reducible exact LeO.refl _)
   | (with_reducible exact LeO.none _)
   | (with_reducible refine LeO.ite ?_ ?_)
   | (with_reducible refine LeO.bind ?_ (fun _ => ?_))
   | exact impl_AgesOk.mono _ _ _ _
   | exact impl_Ages_inLimbo.mono _ _ _ _ _
   | exact LeO.none _
   | refine LeO.ite ?_ ?_
   | refine LeO.bind ?_ (fun _ => ?_)
set_option maxHeartbeats 8000000 in
set_option maxRecDepth 100000 in
theorem impl_Retire.calls (k : Nat) (a0_0 : Int) (A0_1 : Option Addr) (c0_1 : Nat) (l0_1 : List Int) (A0_2 : Option Addr) (c0_2 : Nat) (l0_2 : List (S70)) (a1 : Int) (r1 : Int) (r2 : List Int) (r3 : List (S70)) (r4 : Bool) (w : World) (hr0_1 : Kd.C (Kd.int .i64) w A0_1 l0_1.length l0_1) (hc0_1 : l0_1.length ≤ c0_1) (hr0_2 : Kd.C k70 w A0_2 l0_2.length l0_2) (hc0_2 : l0_2.length ≤ c0_2) (h : impl_Retire.f k a0_0 l0_1 l0_2 a1 = some (r1, r2, r3, r4)) :
  Calls Try.prog 79 #[.agg #[.int .i64 a0_0, .slice A0_1 l0_1.length c0_1, .slice A0_2 l0_2.length c0_2], .int .i64 a1] w fun e w' => ∃ v1_ v2_ : Value, e = .returned (.tuple #[.agg #[.int .i64 r1, v1_, v2_], .bool r4]) ∧ Kd.R (Kd.int .i64) 3 w' w.heap.size (fun _ => True) v1_ r2 ∧ Kd.R k70 70 w' w.heap.size (fun _ => True) v2_ r3 ∧ Below w.heap.size w w' := by
 have hu25 := Try.underlying25
 have hu70 := Try.underlying70
 have HR0_1 := Aside0.mk hr0_1
 have HC0_1 := Aside0.mk hc0_1
 clear hr0_1 hc0_1
 have HR0_2 := Aside0.mk hr0_2
 have HC0_2 := Aside0.mk hc0_2
 clear hr0_2 hc0_2
 have HB := Aside0.mk (Below.refl w.heap.size w)
 have H : ((impl_AgesOk.f k a0_0 l0_1 l0_2).bind fun t393 => (if t393 = true then ((impl_Ages_inLimbo.f k a0_0 l0_1 l0_2 a1).bind fun t394 => (if t394 ≥ 0 then (some (0, ([] : List Int), ([] : List (S70)), false)) else (if (l0_2.length : Int) = 100 then (some (0, ([] : List Int), ([] : List (S70)), false)) else ((impl_copyAges.f a0_0 l0_1 l0_2).bind fun bt395 => (if bt395.2.2.length < 8796093022208 then (some (bt395.1, bt395.2.1, (bt395.2.2 ++ [(⟨a1, a0_0⟩ : S70)]), true)) else (none)))))) else (some (0, ([] : List Int), ([] : List (S70)), false)))) = some (r1, r2, r3, r4) := h
 clear h
 replace H := Option.bind_eq_some_iff.mp H
 obtain ⟨t393, A30, H⟩ := H
 replace H : (if t393 = true then ((impl_Ages_inLimbo.f k a0_0 l0_1 l0_2 a1).bind fun t394 => (if t394 ≥ 0 then (some (0, ([] : List Int), ([] : List (S70)), false)) else (if (l0_2.length : Int) = 100 then (some (0, ([] : List Int), ([] : List (S70)), false)) else ((impl_copyAges.f a0_0 l0_1 l0_2).bind fun bt395 => (if bt395.2.2.length < 8796093022208 then (some (bt395.1, bt395.2.1, (bt395.2.2 ++ [(⟨a1, a0_0⟩ : S70)]), true)) else (none)))))) else (some (0, ([] : List Int), ([] : List (S70)), false))) = some (r1, r2, r3, r4) := H
 have A3 := Aside0.mk A30
 clear A30
 by_cases c4 : t393 = true
 ·subst c4
  have H1 : ((impl_Ages_inLimbo.f k a0_0 l0_1 l0_2 a1).bind fun t394 => (if t394 ≥ 0 then (some (0, ([] : List Int), ([] : List (S70)), false)) else (if (l0_2.length : Int) = 100 then (some (0, ([] : List Int), ([] : List (S70)), false)) else ((impl_copyAges.f a0_0 l0_1 l0_2).bind fun bt395 => (if bt395.2.2.length < 8796093022208 then (some (bt395.1, bt395.2.1, (bt395.2.2 ++ [(⟨a1, a0_0⟩ : S70)]), true)) else (none)))))) = some (r1, r2, r3, r4) := by rw [if_pos rfl] at H; exact H
  clear H
  have H := H1
  clear H1
  replace H := Option.bind_eq_some_iff.mp H
  obtain ⟨t394, A50, H⟩ := H
  replace H : (if t394 ≥ 0 then (some (0, ([] : List Int), ([] : List (S70)), false)) else (if (l0_2.length : Int) = 100 then (some (0, ([] : List Int), ([] : List (S70)), false)) else ((impl_copyAges.f a0_0 l0_1 l0_2).bind fun bt395 => (if bt395.2.2.length < 8796093022208 then (some (bt395.1, bt395.2.1, (bt395.2.2 ++ [(⟨a1, a0_0⟩ : S70)]), true)) else (none))))) = some (r1, r2, r3, r4) := H
  have A5 := Aside0.mk A50
  clear A50
  by_cases c6 : t394 ≥ 0
  ·rw [if_pos c6] at H
   have c6b0 : decide (0 ≤ t394) = true := decide_eq_true c6
   clear c6
   simp only [Option.some.injEq, Prod.mk.injEq] at H
   obtain ⟨rfl, rfl, rfl, rfl⟩ := H
   go_enter Try.func79, Try.ntmps79
   go_wp2_with (first | ((with_reducible refine gate_dst (N := 2) rfl ?_); (try (refine gate_guard (by rfl) ?_; dsimp only)); refine bx 2 #[.int .i64 a0_0, .slice A0_1 l0_1.length c0_1, .slice A0_2 l0_2.length c0_2] 25 ?_; intro gb391 hg w7 hbox hb; have BK391 := am hbox; have GW391 := gs0 hg HB; have GE391 := gs0 hg HB; replace HB := s0 HB hb; clear hb hbox hg) | ((with_reducible refine gate_dst (N := 4) rfl ?_); (try (refine gate_guard (by rfl) ?_; dsimp only)); refine bx 4 #[.int .i64 0, .slice none 0 0, .slice none 0 0] 25 ?_; intro gb392 hg w8 hbox hb; have BK392 := am hbox; have GW392 := gs1 hg HB GE391; have GE392 := gs1 hg HB GE391; replace HB := Aside0.mk (below_step (be1 HB GE391) hb); have NB391_392 := Aside0.mk ((by rw [hg]; exact Nat.ne_of_lt (bl BK391) : gb391 ≠ gb392)); have NB392_391 := Aside0.mk ((by rw [hg]; exact Nat.ne_of_gt (bl BK391) : gb392 ≠ gb391)); replace BK391 := bb BK391 hb; clear hb hbox hg; have hnb9 := NB391_392.out; have hnc9 := NB392_391.out; have hcz10_0 := bz3 BK391) | ((with_reducible refine gate_callee (f := 59) rfl ?_); refine gl 8 Try.func59 #[.agg #[.int .i64 a0_0, .slice A0_1 l0_1.length c0_1, .slice A0_2 l0_2.length c0_2]] ?_; (with_reducible refine (impl_AgesOk.calls k a0_0 _ _ l0_1 _ _ l0_2 true _ (cb HR0_1 HB) HC0_1.out (cb HR0_2 HB) HC0_2.out A3.out).mono ?_); rintro e w11 ⟨rfl, hb⟩; refine ⟨_, rfl, ?_⟩; replace BK391 := bb BK391 hb; replace BK392 := bb BK392 hb; replace HB := Aside0.mk (below_step (be2 HB GE391 GE392) hb); (try clear hb); have hcz12_0 := bz3 BK391) | (go_at_call 62; (with_reducible refine (impl_Ages_inLimbo.calls k a0_0 _ _ l0_1 _ _ l0_2 a1 t394 _ (cb HR0_1 HB) HC0_1.out (cb HR0_2 HB) HC0_2.out A5.out).mono ?_); rintro e w13 ⟨rfl, hb⟩; replace BK391 := bb BK391 hb; replace BK392 := bb BK392 hb; replace HB := Aside0.mk (below_step (be2 HB GE391 GE392) hb); (try clear hb); have hcz14_0 := bz3 BK392))
   refine bodyPost_ret (results_ct rfl _ _ gb392 25 #[.int .i64 0, .slice none 0 0, .slice none 0 0] (0, 0) _ rfl (by (with_reducible repeat (first | refine blk_drewN ?_ _ | refine blk_drew ?_ | refine blk_alloc ?_ _)); refine blk_put (cs := #[.int .i64 0, .slice none 0 0, .slice none 0 0]) ?_ 2 _ rfl; (with_reducible repeat (first | refine blk_drewN ?_ _ | refine blk_drew ?_ | refine blk_alloc ?_ _)); refine blk_put (cs := #[.int .i64 0, .slice none 0 0, .slice none 0 0]) ?_ 1 _ rfl; (with_reducible repeat (first | refine blk_drewN ?_ _ | refine blk_drew ?_ | refine blk_alloc ?_ _)); refine blk_put (cs := #[.int .i64 0, .slice none 0 0, .slice none 0 0]) ?_ 0 _ rfl; (with_reducible repeat (first | refine blk_drewN ?_ _ | refine blk_drew ?_ | refine blk_alloc ?_ _)); exact BK392.out) Try.underlying25 rfl (by kernel_rfl)) rfl ?_
   exact ⟨_, _, er, by first | exact Kd.R_nil _ _ _ _ _ | exact Kd.N_nil _ _ _ _ _ | exact Kd.V_nil _ _ _ _ _ | exact Kd.Q_nil _ _ _ _ _ | exact Kd.S_nil _ _ _ _ _, by first | exact Kd.R_nil _ _ _ _ _ | exact Kd.N_nil _ _ _ _ _ | exact Kd.V_nil _ _ _ _ _ | exact Kd.Q_nil _ _ _ _ _ | exact Kd.S_nil _ _ _ _ _, be2 HB GE391 GE392⟩
  rw [if_neg c6] at H
  have c6b0 : decide (0 ≤ t394) = false := decide_eq_false c6
  clear c6
  by_cases c15 : (l0_2.length : Int) = 100
  ·rw [if_pos c15] at H
   have c15b0 : ((l0_2.length : Int) == 100) = true := beq_iff_eq.mpr c15
   have c15b1 : ((l0_2.length : Int) != 100) = false := bne_eq_false_iff_eq.mpr c15
   clear c15
   simp only [Option.some.injEq, Prod.mk.injEq] at H
   obtain ⟨rfl, rfl, rfl, rfl⟩ := H
   go_enter Try.func79, Try.ntmps79
   go_wp2_with (first | ((with_reducible refine gate_dst (N := 2) rfl ?_); (try (refine gate_guard (by rfl) ?_; dsimp only)); refine bx 2 #[.int .i64 a0_0, .slice A0_1 l0_1.length c0_1, .slice A0_2 l0_2.length c0_2] 25 ?_; intro gb391 hg w16 hbox hb; have BK391 := am hbox; have GW391 := gs0 hg HB; have GE391 := gs0 hg HB; replace HB := s0 HB hb; clear hb hbox hg) | ((with_reducible refine gate_dst (N := 4) rfl ?_); (try (refine gate_guard (by rfl) ?_; dsimp only)); refine bx 4 #[.int .i64 0, .slice none 0 0, .slice none 0 0] 25 ?_; intro gb392 hg w17 hbox hb; have BK392 := am hbox; have GW392 := gs1 hg HB GE391; have GE392 := gs1 hg HB GE391; replace HB := Aside0.mk (below_step (be1 HB GE391) hb); have NB391_392 := Aside0.mk ((by rw [hg]; exact Nat.ne_of_lt (bl BK391) : gb391 ≠ gb392)); have NB392_391 := Aside0.mk ((by rw [hg]; exact Nat.ne_of_gt (bl BK391) : gb392 ≠ gb391)); replace BK391 := bb BK391 hb; clear hb hbox hg; have hnb18 := NB391_392.out; have hnc18 := NB392_391.out; have hcz19_0 := bz3 BK391) | ((with_reducible refine gate_callee (f := 59) rfl ?_); refine gl 8 Try.func59 #[.agg #[.int .i64 a0_0, .slice A0_1 l0_1.length c0_1, .slice A0_2 l0_2.length c0_2]] ?_; (with_reducible refine (impl_AgesOk.calls k a0_0 _ _ l0_1 _ _ l0_2 true _ (cb HR0_1 HB) HC0_1.out (cb HR0_2 HB) HC0_2.out A3.out).mono ?_); rintro e w20 ⟨rfl, hb⟩; refine ⟨_, rfl, ?_⟩; replace BK391 := bb BK391 hb; replace BK392 := bb BK392 hb; replace HB := Aside0.mk (below_step (be2 HB GE391 GE392) hb); (try clear hb); have hcz21_0 := bz3 BK391) | (go_at_call 62; (with_reducible refine (impl_Ages_inLimbo.calls k a0_0 _ _ l0_1 _ _ l0_2 a1 t394 _ (cb HR0_1 HB) HC0_1.out (cb HR0_2 HB) HC0_2.out A5.out).mono ?_); rintro e w22 ⟨rfl, hb⟩; replace BK391 := bb BK391 hb; replace BK392 := bb BK392 hb; replace HB := Aside0.mk (below_step (be2 HB GE391 GE392) hb); (try clear hb); have hcz23_0 := bz3 BK391; have hcz24_0 := bz3 BK392))
   refine bodyPost_ret (results_ct rfl _ _ gb392 25 #[.int .i64 0, .slice none 0 0, .slice none 0 0] (0, 0) _ rfl (by (with_reducible repeat (first | refine blk_drewN ?_ _ | refine blk_drew ?_ | refine blk_alloc ?_ _)); refine blk_put (cs := #[.int .i64 0, .slice none 0 0, .slice none 0 0]) ?_ 2 _ rfl; (with_reducible repeat (first | refine blk_drewN ?_ _ | refine blk_drew ?_ | refine blk_alloc ?_ _)); refine blk_put (cs := #[.int .i64 0, .slice none 0 0, .slice none 0 0]) ?_ 1 _ rfl; (with_reducible repeat (first | refine blk_drewN ?_ _ | refine blk_drew ?_ | refine blk_alloc ?_ _)); refine blk_put (cs := #[.int .i64 0, .slice none 0 0, .slice none 0 0]) ?_ 0 _ rfl; (with_reducible repeat (first | refine blk_drewN ?_ _ | refine blk_drew ?_ | refine blk_alloc ?_ _)); exact BK392.out) Try.underlying25 rfl (by kernel_rfl)) rfl ?_
   exact ⟨_, _, er, by first | exact Kd.R_nil _ _ _ _ _ | exact Kd.N_nil _ _ _ _ _ | exact Kd.V_nil _ _ _ _ _ | exact Kd.Q_nil _ _ _ _ _ | exact Kd.S_nil _ _ _ _ _, by first | exact Kd.R_nil _ _ _ _ _ | exact Kd.N_nil _ _ _ _ _ | exact Kd.V_nil _ _ _ _ _ | exact Kd.Q_nil _ _ _ _ _ | exact Kd.S_nil _ _ _ _ _, be2 HB GE391 GE392⟩
  rw [if_neg c15] at H
  have c15b0 : ((l0_2.length : Int) == 100) = false := beq_eq_false_iff_ne.mpr c15
  have c15b1 : ((l0_2.length : Int) != 100) = true := bne_iff_ne.mpr c15
  replace H := Option.bind_eq_some_iff.mp H
  obtain ⟨⟨t395, t396, t399⟩, A250, H⟩ := H
  replace H : (if t399.length < 8796093022208 then (some (t395, t396, (t399 ++ [(⟨a1, a0_0⟩ : S70)]), true)) else (none)) = some (r1, r2, r3, r4) := H
  have A25 := Aside0.mk A250
  clear A250
  by_cases c26 : t399.length < 8796093022208
  ·rw [if_pos c26] at H
   have LMc26 := Aside0.mk c26
   clear c26
   obtain ⟨y403, hy403⟩ : ∃ y_ : List (S70), y_ = (t399 ++ [(⟨a1, a0_0⟩ : S70)]) := ⟨_, rfl⟩
   replace H : (some (t395, t396, y403, true)) = some (r1, r2, r3, r4) := by first | (rw [hy403]; with_reducible exact H) | (have H2_ := (Option.bind_some _ _).symm.trans H; rw [hy403]; with_reducible exact H2_) | (have H2_ := (Option.bind_some _ _).symm.trans H; with_reducible exact H2_) | with_reducible exact H | (rw [hy403]; exact H) | exact H
   have Ny403 := Aside0.mk hy403
   clear hy403
   simp only [Option.some.injEq, Prod.mk.injEq] at H
   obtain ⟨rfl, rfl, rfl, rfl⟩ := H
   go_enter Try.func79, Try.ntmps79
   go_wp2_with (first | ((with_reducible refine gate_dst (N := 2) rfl ?_); (try (refine gate_guard (by rfl) ?_; dsimp only)); refine bx 2 #[.int .i64 a0_0, .slice A0_1 l0_1.length c0_1, .slice A0_2 l0_2.length c0_2] 25 ?_; intro gb391 hg w27 hbox hb; have BK391 := am hbox; have GW391 := gs0 hg HB; have GE391 := gs0 hg HB; replace HB := s0 HB hb; clear hb hbox hg) | ((with_reducible refine gate_dst (N := 4) rfl ?_); (try (refine gate_guard (by rfl) ?_; dsimp only)); refine bx 4 #[.int .i64 0, .slice none 0 0, .slice none 0 0] 25 ?_; intro gb392 hg w28 hbox hb; have BK392 := am hbox; have GW392 := gs1 hg HB GE391; have GE392 := gs1 hg HB GE391; replace HB := Aside0.mk (below_step (be1 HB GE391) hb); have NB391_392 := Aside0.mk ((by rw [hg]; exact Nat.ne_of_lt (bl BK391) : gb391 ≠ gb392)); have NB392_391 := Aside0.mk ((by rw [hg]; exact Nat.ne_of_gt (bl BK391) : gb392 ≠ gb391)); replace BK391 := bb BK391 hb; clear hb hbox hg; have hnb29 := NB391_392.out; have hnc29 := NB392_391.out; have hcz30_0 := bz3 BK391) | ((with_reducible refine gate_callee (f := 59) rfl ?_); refine gl 8 Try.func59 #[.agg #[.int .i64 a0_0, .slice A0_1 l0_1.length c0_1, .slice A0_2 l0_2.length c0_2]] ?_; (with_reducible refine (impl_AgesOk.calls k a0_0 _ _ l0_1 _ _ l0_2 true _ (cb HR0_1 HB) HC0_1.out (cb HR0_2 HB) HC0_2.out A3.out).mono ?_); rintro e w31 ⟨rfl, hb⟩; refine ⟨_, rfl, ?_⟩; replace BK391 := bb BK391 hb; replace BK392 := bb BK392 hb; replace HB := Aside0.mk (below_step (be2 HB GE391 GE392) hb); (try clear hb); have hcz32_0 := bz3 BK391) | (go_at_call 62; (with_reducible refine (impl_Ages_inLimbo.calls k a0_0 _ _ l0_1 _ _ l0_2 a1 t394 _ (cb HR0_1 HB) HC0_1.out (cb HR0_2 HB) HC0_2.out A5.out).mono ?_); rintro e w33 ⟨rfl, hb⟩; replace BK391 := bb BK391 hb; replace BK392 := bb BK392 hb; replace HB := Aside0.mk (below_step (be2 HB GE391 GE392) hb); (try clear hb); have hcz34_0 := bz3 BK391) | ((with_reducible refine gate_callee (f := 96) rfl ?_); refine gl 24 Try.func96 #[.agg #[.int .i64 a0_0, .slice A0_1 l0_1.length c0_1, .slice A0_2 l0_2.length c0_2]] ?_; (with_reducible refine (impl_copyAges.calls a0_0 _ _ l0_1 _ _ l0_2 t395 t396 t399 _ (cb HR0_1 HB) HC0_1.out (cb HR0_2 HB) HC0_2.out A25.out).mono ?_); rintro e w35 ⟨v397, v400, rfl, ho0, ho1, hb⟩; refine ⟨_, rfl, ?_⟩; have HO398 := Aside0.mk (Kd.R_lower ho0 (below_size (be2 HB GE391 GE392))); have HO401 := Aside0.mk (Kd.R_lower ho1 (below_size (be2 HB GE391 GE392))); replace BK391 := bb BK391 hb; replace BK392 := bb BK392 hb; replace HB := Aside0.mk (below_step (be2 HB GE391 GE392) hb); (try clear hb); (try clear ho0); (try clear ho1)) | ((with_reducible refine gate_dst (N := 6) rfl ?_); (try (refine gate_guard (by rfl) ?_; dsimp only)); refine bx 6 #[.int .i64 0, .slice none 0 0, .slice none 0 0] 25 ?_; intro gb402 hg w36 hbox hb; replace HO398 := rb HO398 hb; replace HO401 := rb HO401 hb; have BK402 := am hbox; have GW402 := gs2 hg HB GE391 GE392; have GE402 := gs2 hg HB GE391 GE392; replace HB := Aside0.mk (below_step (be2 HB GE391 GE392) hb); have NB391_402 := Aside0.mk ((by rw [hg]; exact Nat.ne_of_lt (bl BK391) : gb391 ≠ gb402)); have NB402_391 := Aside0.mk ((by rw [hg]; exact Nat.ne_of_gt (bl BK391) : gb402 ≠ gb391)); replace BK391 := bb BK391 hb; have NB392_402 := Aside0.mk ((by rw [hg]; exact Nat.ne_of_lt (bl BK392) : gb392 ≠ gb402)); have NB402_392 := Aside0.mk ((by rw [hg]; exact Nat.ne_of_gt (bl BK392) : gb402 ≠ gb392)); replace BK392 := bb BK392 hb; clear hb hbox hg; have hnb37 := NB402_391.out; have hnc37 := NB391_402.out; have hnb38 := NB402_392.out; have hnc38 := NB392_402.out; have hcz39_0 := bz3 BK402; obtain ⟨Ao40, co40, eo40⟩ := Kd.R_slice HO398.out; subst eo40; obtain ⟨Ao41, co41, eo41⟩ := Kd.R_slice HO401.out; subst eo41; have hcz42_0 := bz3 BK391) | ((with_reducible refine gate_builtin (b := .append) (xs := #[.tmp 26, .tmp 31]) rfl ?_); (try (refine gate_guard (by rfl) ?_; dsimp only)); at_builtin; refine Kd.R_append k70 (w0 := w) w.heap.size rfl (.tmp 26) (.tmp 31) 23 70 (.agg #[(.int .i64 0), (.int .i64 0)]) 16 rfl Try.underlying23 info70 rfl (by decide) (by omega) (.slice Ao41 t399.length co41) t399 (⟨a1, a0_0⟩ : S70) [.int .i64 a1, .int .i64 a0_0] (fun _ => True) (fun _ => False) rfl (by first | (go_simp; done) | (go_simp; rfl)) ?aP (fun _ hk => hk.elim) ?aF ?aO ?aB ?aS ?aL ?_; (case aP => exact k70_mkM _ _ _ (⟨a1, a0_0⟩ : S70)); (case aB => exact (be3 HB GE391 GE392 GE402)); (case aF => exact (fun _ _ => trivial)); (case aO => exact (by (with_reducible repeat (first | apply Kd.R_alloc | apply Kd.R_drewN | apply Kd.R_drew)); exact Kd.R_mono (Kd.R_far (p := ⟨gb402, 2, none⟩) (Kd.R_far (p := ⟨gb402, 1, none⟩) (Kd.R_far (p := ⟨gb402, 0, none⟩) (Kd.R_types HO401.out BK402.out (by decide)) (fun _ hk => hk.2) (.int .i64 t395)) (fun _ hk => hk.2) (.slice Ao40 t396.length co40)) (fun _ hk => hk.2) (.slice Ao41 t399.length co41)) (fun _ hk => trivial))); (case aS => exact (below_size (be3 HB GE391 GE392 GE402))); (case aL => have := LMc26.out; omega); intro v404 w43 ho hb hg hat; rw [← Ny403.out] at ho; replace BK391 := Aside0.mk (blk_grown (g := gb391) (o := .cells #[.int .i64 a0_0, .slice A0_1 l0_1.length c0_1, .slice A0_2 l0_2.length c0_2] 25 (0, 0)) (bf1 BK391 NB391_402) hg (Kd.R_ne HO401.out BK391.out (by decide))); replace BK392 := Aside0.mk (blk_grown (g := gb392) (o := .cells #[.int .i64 0, .slice none 0 0, .slice none 0 0] 25 (0, 0)) (bf1 BK392 NB392_402) hg (Kd.R_ne HO401.out BK392.out (by decide))); replace HO398 := Aside0.mk (Kd.R_over' (rf HO398 BK402) (Kd.R_typed (rf HO401 BK402)) (by decide) hg); replace BK402 := Aside0.mk (blk_grown (g := gb402) (o := .cells #[.int .i64 t395, .slice Ao40 t396.length co40, .slice Ao41 t399.length co41] 25 (0, 0)) (by (with_reducible repeat (first | refine blk_drewN ?_ _ | refine blk_drew ?_ | refine blk_alloc ?_ _)); refine blk_put (cs := #[.int .i64 t395, .slice Ao40 t396.length co40, .slice none 0 0]) ?_ 2 _ rfl; (with_reducible repeat (first | refine blk_drewN ?_ _ | refine blk_drew ?_ | refine blk_alloc ?_ _)); refine blk_put (cs := #[.int .i64 t395, .slice none 0 0, .slice none 0 0]) ?_ 1 _ rfl; (with_reducible repeat (first | refine blk_drewN ?_ _ | refine blk_drew ?_ | refine blk_alloc ?_ _)); refine blk_put (cs := #[.int .i64 0, .slice none 0 0, .slice none 0 0]) ?_ 0 _ rfl; (with_reducible repeat (first | refine blk_drewN ?_ _ | refine blk_drew ?_ | refine blk_alloc ?_ _)); exact BK402.out) hg (Kd.R_ne HO401.out BK402.out (by decide))); replace HB := Aside0.mk (hb); have HO405 := Aside0.mk (ho); clear HO401; clear ho hb hg hat; obtain ⟨Ao44, co44, eo44⟩ := Kd.R_slice HO405.out; subst eo44; have hcz45_0 := bz3 BK402; have hcz46_0 := bz3 BK392))
   refine bodyPost_ret (results_ct rfl _ _ gb392 25 #[.int .i64 t395, .slice Ao40 t396.length co40, .slice Ao44 y403.length co44] (0, 0) _ rfl (by (with_reducible repeat (first | refine blk_drewN ?_ _ | refine blk_drew ?_ | refine blk_alloc ?_ _)); refine blk_put (cs := #[.int .i64 t395, .slice Ao40 t396.length co40, .slice none 0 0]) ?_ 2 _ rfl; (with_reducible repeat (first | refine blk_drewN ?_ _ | refine blk_drew ?_ | refine blk_alloc ?_ _)); refine blk_put (cs := #[.int .i64 t395, .slice none 0 0, .slice none 0 0]) ?_ 1 _ rfl; (with_reducible repeat (first | refine blk_drewN ?_ _ | refine blk_drew ?_ | refine blk_alloc ?_ _)); refine blk_put (cs := #[.int .i64 0, .slice none 0 0, .slice none 0 0]) ?_ 0 _ rfl; (with_reducible repeat (first | refine blk_drewN ?_ _ | refine blk_drew ?_ | refine blk_alloc ?_ _)); refine blk_far ?_ NB392_402.out _; (with_reducible repeat (first | refine blk_drewN ?_ _ | refine blk_drew ?_ | refine blk_alloc ?_ _)); exact BK392.out) Try.underlying25 rfl (by kernel_rfl)) rfl ?_
   exact ⟨_, _, er, by (with_reducible repeat (first | apply Kd.R_alloc | apply Kd.R_drewN | apply Kd.R_drew)); exact Kd.R_mono (Kd.R_far (p := ⟨gb392, 2, none⟩) (Kd.R_far (p := ⟨gb392, 1, none⟩) (Kd.R_far (p := ⟨gb392, 0, none⟩) (Kd.R_far (p := ⟨gb402, 2, none⟩) (Kd.R_types (Kd.R_types HO398.out BK402.out (by decide)) BK392.out (by decide)) (fun _ hk => hk.1.2) (.slice Ao44 y403.length co44)) (fun _ hk => hk.2) (.int .i64 t395)) (fun _ hk => hk.2) (.slice Ao40 t396.length co40)) (fun _ hk => hk.2) (.slice Ao44 y403.length co44)) (fun _ hk => trivial), by (with_reducible repeat (first | apply Kd.R_alloc | apply Kd.R_drewN | apply Kd.R_drew)); exact Kd.R_mono (Kd.R_far (p := ⟨gb392, 2, none⟩) (Kd.R_far (p := ⟨gb392, 1, none⟩) (Kd.R_far (p := ⟨gb392, 0, none⟩) (Kd.R_far (p := ⟨gb402, 2, none⟩) (Kd.R_types (Kd.R_types HO405.out BK402.out (by decide)) BK392.out (by decide)) (fun _ hk => hk.1.2) (.slice Ao44 y403.length co44)) (fun _ hk => hk.2) (.int .i64 t395)) (fun _ hk => hk.2) (.slice Ao40 t396.length co40)) (fun _ hk => hk.2) (.slice Ao44 y403.length co44)) (fun _ hk => trivial), be3 HB GE391 GE392 GE402⟩
  rw [if_neg c26] at H
  exact absurd H (by simp)
 replace c4 := Bool.eq_false_iff.mpr c4
 subst c4
 have H1 : (some (0, ([] : List Int), ([] : List (S70)), false)) = some (r1, r2, r3, r4) := by rw [if_neg (show ¬ (false = true) by decide)] at H; exact H
 clear H
 have H := H1
 clear H1
 simp only [Option.some.injEq, Prod.mk.injEq] at H
 obtain ⟨rfl, rfl, rfl, rfl⟩ := H
 go_enter Try.func79, Try.ntmps79
 go_wp2_with (first | ((with_reducible refine gate_dst (N := 2) rfl ?_); (try (refine gate_guard (by rfl) ?_; dsimp only)); refine bx 2 #[.int .i64 a0_0, .slice A0_1 l0_1.length c0_1, .slice A0_2 l0_2.length c0_2] 25 ?_; intro gb391 hg w47 hbox hb; have BK391 := am hbox; have GW391 := gs0 hg HB; have GE391 := gs0 hg HB; replace HB := s0 HB hb; clear hb hbox hg) | ((with_reducible refine gate_dst (N := 4) rfl ?_); (try (refine gate_guard (by rfl) ?_; dsimp only)); refine bx 4 #[.int .i64 0, .slice none 0 0, .slice none 0 0] 25 ?_; intro gb392 hg w48 hbox hb; have BK392 := am hbox; have GW392 := gs1 hg HB GE391; have GE392 := gs1 hg HB GE391; replace HB := Aside0.mk (below_step (be1 HB GE391) hb); have NB391_392 := Aside0.mk ((by rw [hg]; exact Nat.ne_of_lt (bl BK391) : gb391 ≠ gb392)); have NB392_391 := Aside0.mk ((by rw [hg]; exact Nat.ne_of_gt (bl BK391) : gb392 ≠ gb391)); replace BK391 := bb BK391 hb; clear hb hbox hg; have hnb49 := NB391_392.out; have hnc49 := NB392_391.out; have hcz50_0 := bz3 BK391) | ((with_reducible refine gate_callee (f := 59) rfl ?_); refine gl 8 Try.func59 #[.agg #[.int .i64 a0_0, .slice A0_1 l0_1.length c0_1, .slice A0_2 l0_2.length c0_2]] ?_; (with_reducible refine (impl_AgesOk.calls k a0_0 _ _ l0_1 _ _ l0_2 false _ (cb HR0_1 HB) HC0_1.out (cb HR0_2 HB) HC0_2.out A3.out).mono ?_); rintro e w51 ⟨rfl, hb⟩; refine ⟨_, rfl, ?_⟩; replace BK391 := bb BK391 hb; replace BK392 := bb BK392 hb; replace HB := Aside0.mk (below_step (be2 HB GE391 GE392) hb); (try clear hb); have hcz52_0 := bz3 BK392))
 refine bodyPost_ret (results_ct rfl _ _ gb392 25 #[.int .i64 0, .slice none 0 0, .slice none 0 0] (0, 0) _ rfl (by (with_reducible repeat (first | refine blk_drewN ?_ _ | refine blk_drew ?_ | refine blk_alloc ?_ _)); refine blk_put (cs := #[.int .i64 0, .slice none 0 0, .slice none 0 0]) ?_ 2 _ rfl; (with_reducible repeat (first | refine blk_drewN ?_ _ | refine blk_drew ?_ | refine blk_alloc ?_ _)); refine blk_put (cs := #[.int .i64 0, .slice none 0 0, .slice none 0 0]) ?_ 1 _ rfl; (with_reducible repeat (first | refine blk_drewN ?_ _ | refine blk_drew ?_ | refine blk_alloc ?_ _)); refine blk_put (cs := #[.int .i64 0, .slice none 0 0, .slice none 0 0]) ?_ 0 _ rfl; (with_reducible repeat (first | refine blk_drewN ?_ _ | refine blk_drew ?_ | refine blk_alloc ?_ _)); exact BK392.out) Try.underlying25 rfl (by kernel_rfl)) rfl ?_
 exact ⟨_, _, er, by first | exact Kd.R_nil _ _ _ _ _ | exact Kd.N_nil _ _ _ _ _ | exact Kd.V_nil _ _ _ _ _ | exact Kd.Q_nil _ _ _ _ _ | exact Kd.S_nil _ _ _ _ _, by first | exact Kd.R_nil _ _ _ _ _ | exact Kd.N_nil _ _ _ _ _ | exact Kd.V_nil _ _ _ _ _ | exact Kd.Q_nil _ _ _ _ _ | exact Kd.S_nil _ _ _ _ _, be2 HB GE391 GE392⟩

/-! ### slices_DeleteFunc_int_int: function 80 -/
def slices_DeleteFunc_int_int.f (l0 : List Int) (a1 : Int) : Option (List Int) := if 0 < l0.length then some (l0.filter fun x => !decide (x = a1)) else none
set_option maxHeartbeats 8000000 in
set_option maxRecDepth 100000 in
theorem slices_DeleteFunc_int_int.calls (P0_ : Nat → Prop) (u9000_ : Value) (l0 : List Int) (a1 : Int) (gP : Nat) (r : List Int) (w0 w : World) (hP : w.heap[gP]? = some (.cells #[.int .i64 a1] 3 (0, 0))) (hN : ∀ k, u9000_.ownBlock = some k → k ≠ gP) (hB : Below w0.heap.size w0 w) (ho0 : Kd.R (Kd.int .i64) 3 w w0.heap.size P0_ u9000_ l0) (h : slices_DeleteFunc_int_int.f l0 a1 = some r) :
  Calls Try.prog 80 #[u9000_, .func (.func 81) #[] #[.pointer (some ⟨gP, 0, none⟩)]] w fun e w' => ∃ v0_ : Value, e = .returned (v0_) ∧ Kd.R (Kd.int .i64) 3 w' w0.heap.size (fun k_ => (P0_ k_ ∨ w.heap.size ≤ k_)) v0_ r ∧ Below w0.heap.size w0 w' ∧ Kept w w' (fun k_ => P0_ k_) := by
 have h' : (if 0 < l0.length then some (l0.filter fun x => !decide (x = a1)) else none) = some r := h
 clear h
 by_cases hn : 0 < l0.length
 case neg => rw [if_neg hn] at h'; cases h'
 rw [if_pos hn] at h'
 obtain rfl := Option.some.inj h'
 clear h'
 obtain ⟨g, cap, cur, rfl, hg, hh, hc1, hc2, hs, ht, hok⟩ := Ow.opened ho0 hn
 have hm : cap ≤ 9223372036854775807 := hc2
 have hH := Go.holds_of_blockI hh ht
 refine (Del.calls a1 gP g 0 cap l0.toArray w (blk_lt hP) (fun e => hN g rfl e.symm) ((blk_cell hP 0).trans rfl) hH (by simp; omega) (by simpa using hc1)).mono ?_
 rintro e w' ⟨rfl, q, rfl⟩
 have hF := List.length_filter_le (fun x => !decide (x = a1)) l0
 simp only [List.size_toArray, List.toList_toArray]
 generalize (l0.filter fun x => !decide (x = a1)) = F at hF ⊢
 have hy : (F ++ List.replicate (l0.length - F.length) (0 : Int)).length = l0.length := by simp; omega
 rw [Go.Lib.putRow_eq_setCells (Value.int .i64) w g 0 l0.toArray _ q hH (by rw [hy]; simp)]
 obtain ⟨cur', h1, h2, h3⟩ := Ow.heap_setCells g 3 ((F ++ List.replicate (l0.length - F.length) (0 : Int)).map (Value.int .i64)) 0 (w.drewN q) cur hh (by rw [List.length_map, hy]; omega)
 refine ⟨_, rfl, ?_, Ow.below_setCells hg _ _ _ (pw_below_drewN hB q), Ow.kept_setCells (W := w.drewN q) hok _ _ _ (Kept.refl w _)⟩
 refine Ow.made (.inl hok) hg h1 (by omega) hc2 (by omega) ?_
 rw [h3, List.take_zero, List.nil_append, List.map_append, List.append_assoc, List.take_append_of_le_length (by simp), List.take_of_length_le (by simp)]


