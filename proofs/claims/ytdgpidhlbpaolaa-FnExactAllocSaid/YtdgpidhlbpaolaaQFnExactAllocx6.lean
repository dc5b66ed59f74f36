-- made by a program of this session (myprint.py)
import Derived.Test.YtdgpidhlbpaolaaQFnExactAllocx0
namespace Go.Proofs.Ytdgpidhlbpaolaa.QFnExactAlloc
open Go.RowKit Go.Proofs.YtdgpidhlbpaolaaW.PrintWords Go.Proofs.YtdgpidhlbpaolaaW.PrintLast Go.Proofs.YtdgpidhlbpaolaaW.PrintMore
attribute [local go_sem] max2_int min2_int max_two min_two max_three min_three max_four min_four   -- for this text's walks alone
set_option linter.unusedVariables false
set_option linter.unusedSimpArgs false

/-! ### spec_l06Copy: function 95 -/
def spec_l06Copy.f (a0_0 : Int) (l0_1 : List Int) (l0_2 : List (S70)) : Option (Int × List Int × (List (S70))) := (some (([] : List Int) : List Int)).bind fun y239 => (if y239.length + l0_1.length < 17592186044416 then ((some (([] : List (S70)) : List (S70))).bind fun y245 => (if y245.length + l0_2.length < 8796093022208 then (some (a0_0, (y239 ++ l0_1), (y245 ++ l0_2))) else (none))) else (none))
def spec_l06Copy.T1 : Bool × List (List Nat × List Nat) := (true, [([], []), ([0], [0]), ([], []), ([], []), ([3], [3]), ([2, 4], [2, 4]), ([], []), ([], []), ([7], [7]), ([6, 8, 5], [6, 8]), ([1, 5, 9], [1, 5, 9]), ([10, 9, 0, 1, 2, 3, 4, 5, 6, 7, 8, 9, 10], [10])])
def spec_l06Copy.B1 : List Nat := [0, 1, 0, 0, 8, 28, 0, 0, 128, 508, 1023, 2047]
theorem spec_l06Copy.tab1 : rtab .any (opsOf Try.f95 1) = spec_l06Copy.T1 := by kernel_rfl
theorem spec_l06Copy.bits1 : waitsOk spec_l06Copy.T1.2 spec_l06Copy.B1 = true := by kernel_rfl
set_option maxHeartbeats 8000000 in
set_option maxRecDepth 100000 in
theorem spec_l06Copy.calls (a0_0 : Int) (A0_1 : Option Addr) (c0_1 : Nat) (l0_1 : List Int) (A0_2 : Option Addr) (c0_2 : Nat) (l0_2 : List (S70)) (r1 : Int) (r2 : List Int) (r3 : List (S70)) (w : World) (hr0_1 : Kd.C (Kd.int .i64) w A0_1 l0_1.length l0_1) (hc0_1 : l0_1.length ≤ c0_1) (hr0_2 : Kd.C k70 w A0_2 l0_2.length l0_2) (hc0_2 : l0_2.length ≤ c0_2) (h : spec_l06Copy.f a0_0 l0_1 l0_2 = some (r1, r2, r3)) :
  Calls Try.prog 95 #[.agg #[.int .i64 a0_0, .slice A0_1 l0_1.length c0_1, .slice A0_2 l0_2.length c0_2]] w fun e w' => ∃ v1_ v2_ : Value, e = .returned (.agg #[.int .i64 r1, v1_, v2_]) ∧ Kd.R (Kd.int .i64) 3 w' w.heap.size (fun _ => True) v1_ r2 ∧ Kd.R k70 70 w' w.heap.size (fun _ => True) v2_ r3 ∧ Below w.heap.size w w' := by
 have hu25 := Try.underlying25
 have HR0_1 := Aside0.mk hr0_1
 have HC0_1 := Aside0.mk hc0_1
 clear hr0_1 hc0_1
 have HR0_2 := Aside0.mk hr0_2
 have HC0_2 := Aside0.mk hc0_2
 clear hr0_2 hc0_2
 have HB := Aside0.mk (Below.refl w.heap.size w)
 have H : ((some (([] : List Int) : List Int)).bind fun y239 => (if y239.length + l0_1.length < 17592186044416 then ((some (([] : List (S70)) : List (S70))).bind fun y245 => (if y245.length + l0_2.length < 8796093022208 then (some (a0_0, (y239 ++ l0_1), (y245 ++ l0_2))) else (none))) else (none))) = some (r1, r2, r3) := h
 clear h
 obtain ⟨y239, hy239⟩ : ∃ y_ : List Int, y_ = (([] : List Int)) := ⟨_, rfl⟩
 replace H : (if y239.length + l0_1.length < 17592186044416 then ((some (([] : List (S70)) : List (S70))).bind fun y245 => (if y245.length + l0_2.length < 8796093022208 then (some (a0_0, (y239 ++ l0_1), (y245 ++ l0_2))) else (none))) else (none)) = some (r1, r2, r3) := by first | (rw [hy239]; with_reducible exact H) | (have H2_ := (Option.bind_some _ _).symm.trans H; rw [hy239]; with_reducible exact H2_) | (have H2_ := (Option.bind_some _ _).symm.trans H; with_reducible exact H2_) | with_reducible exact H | (rw [hy239]; exact H) | exact H
 have Ny239 := Aside0.mk hy239
 clear hy239
 by_cases c2 : y239.length + l0_1.length < 17592186044416
 ·rw [if_pos c2] at H
  have LMc2 := Aside0.mk c2
  clear c2
  obtain ⟨y242, hy242⟩ : ∃ y_ : List Int, y_ = (y239 ++ l0_1) := ⟨_, rfl⟩
  replace H : ((some (([] : List (S70)) : List (S70))).bind fun y245 => (if y245.length + l0_2.length < 8796093022208 then (some (a0_0, y242, (y245 ++ l0_2))) else (none))) = some (r1, r2, r3) := by first | (rw [hy242]; with_reducible exact H) | (have H2_ := (Option.bind_some _ _).symm.trans H; rw [hy242]; with_reducible exact H2_) | (have H2_ := (Option.bind_some _ _).symm.trans H; with_reducible exact H2_) | with_reducible exact H | (rw [hy242]; exact H) | exact H
  have Ny242 := Aside0.mk hy242
  clear hy242
  obtain ⟨y245, hy245⟩ : ∃ y_ : List (S70), y_ = (([] : List (S70))) := ⟨_, rfl⟩
  replace H : (if y245.length + l0_2.length < 8796093022208 then (some (a0_0, y242, (y245 ++ l0_2))) else (none)) = some (r1, r2, r3) := by first | (rw [hy245]; with_reducible exact H) | (have H2_ := (Option.bind_some _ _).symm.trans H; rw [hy245]; with_reducible exact H2_) | (have H2_ := (Option.bind_some _ _).symm.trans H; with_reducible exact H2_) | with_reducible exact H | (rw [hy245]; exact H) | exact H
  have Ny245 := Aside0.mk hy245
  clear hy245
  by_cases c3 : y245.length + l0_2.length < 8796093022208
  ·rw [if_pos c3] at H
   have LMc3 := Aside0.mk c3
   clear c3
   obtain ⟨y248, hy248⟩ : ∃ y_ : List (S70), y_ = (y245 ++ l0_2) := ⟨_, rfl⟩
   replace H : (some (a0_0, y242, y248)) = some (r1, r2, r3) := by first | (rw [hy248]; with_reducible exact H) | (have H2_ := (Option.bind_some _ _).symm.trans H; rw [hy248]; with_reducible exact H2_) | (have H2_ := (Option.bind_some _ _).symm.trans H; with_reducible exact H2_) | with_reducible exact H | (rw [hy248]; exact H) | exact H
   have Ny248 := Aside0.mk hy248
   clear hy248
   simp only [Option.some.injEq, Prod.mk.injEq] at H
   obtain ⟨rfl, rfl, rfl⟩ := H
   go_enter Try.func95, Try.ntmps95
   try go_wp2_with (first | ((with_reducible refine gate_dst (N := 1) rfl ?_); refine bx 1 #[.int .i64 a0_0, .slice A0_1 l0_1.length c0_1, .slice A0_2 l0_2.length c0_2] 25 ?_; intro gb237 hg w4 hbox hb; have BK237 := am hbox; have GW237 := gs0 hg HB; have GE237 := gs0 hg HB; replace HB := s0 HB hb; clear hb hbox hg) | ((with_reducible refine gate_dst (N := 2) rfl ?_); refine bx 2 #[.int .i64 0, .slice none 0 0, .slice none 0 0] 25 ?_; intro gb238 hg w5 hbox hb; have BK238 := am hbox; have GW238 := gs1 hg HB GE237; have GE238 := gs1 hg HB GE237; replace HB := Aside0.mk (below_step (be1 HB GE237) hb); have NB237_238 := Aside0.mk ((by rw [hg]; exact Nat.ne_of_lt (bl BK237) : gb237 ≠ gb238)); have NB238_237 := Aside0.mk ((by rw [hg]; exact Nat.ne_of_gt (bl BK237) : gb238 ≠ gb237)); replace BK237 := bb BK237 hb; clear hb hbox hg))
   have n0_ := Aside0.mk (blk_drew BK237.out)
   have n1_ := Aside0.mk (blk_drew BK238.out)
   have n2_ := Aside0.mk (below_drew1 HB.out)
   clear BK237
   clear BK238
   clear HB
   have BK237 := n0_
   have BK238 := n1_
   have HB := n2_
   clear n0_ n1_ n2_
   refine start_ (n := 12) (S := fun w' => w'.cell? ⟨gb237, 0, none⟩ = some (.int .i64 a0_0) ∧ w'.cell? ⟨gb237, 1, none⟩ = some (.slice A0_1 l0_1.length c0_1) ∧ w'.cell? ⟨gb237, 2, none⟩ = some (.slice A0_2 l0_2.length c0_2)) (ds := []) (bv 12 0x0) (by kernel_rfl) rfl rfl ⟨bc0 BK237, bc1 BK237, bc2 BK237⟩ (fun hHeld => ?_); refine with_tabW spec_l06Copy.tab1 spec_l06Copy.bits1 (fun HT_ HW_ => ?_)
   generalize w5.drew = w6 at BK237 BK238 HB hHeld ⊢
   refine py HT_ 0 3 (bv 12 0x1) ?_
   refine py HT_ 3 6 (bv 12 0x9) ?_
   refine py HT_ 7 10 (bv 12 0x89) ?_
   refine tk HT_ HW_ hHeld 1 4 (bv 12 0x8b) ?_
   refine tk HT_ HW_ hHeld 4 7 (bv 12 0x9b) ?_
   refine tk HT_ HW_ hHeld 8 11 (bv 12 0x19b) ?_
   refine join_ (σ := Value × Value × Value) 3 (bv 12 0x1ff) (fun s_ => [(5, s_.1), (8, s_.2.1), (9, s_.2.2)]) (fun s_ w' => (w'.cell? ⟨gb237, 0, none⟩ = some (.int .i64 a0_0) ∧ w'.cell? ⟨gb237, 1, none⟩ = some (.slice A0_1 l0_1.length c0_1) ∧ w'.cell? ⟨gb237, 2, none⟩ = some (.slice A0_2 l0_2.length c0_2)) ∧ (Kd.R (Kd.int .i64) 3 w' w.heap.size (fun _ => True) s_.2.1 y242) ∧ (Kd.R k70 70 w' w.heap.size (fun _ => True) s_.2.2 y245) ∧ (w'.heap[gb237]? = some (.cells #[.int .i64 a0_0, .slice A0_1 l0_1.length c0_1, .slice A0_2 l0_2.length c0_2] 25 (0, 0))) ∧ (w'.heap[gb238]? = some (.cells #[.int .i64 0, .slice none 0 0, .slice none 0 0] 25 (0, 0))) ∧ (Below w.heap.size w w')) ?_ ?_
   rotate_left
   ·intro hCont
    refine two_ (i := 2) (j := 6) (Ni := some 5) (Nj := some 9) (bv 12 0x19f) (bv 12 0x1db) rfl rfl rfl rfl (two_of HT_.out (by kernel_rfl)) (by decide) (by decide) (fun K hK => ?_) (fun K hK => ?_)
    ·skip
     refine Kd.R_lit_step (Kd.int .i64) _ 3 ?hg (N := 5) ?hd (xs := ([] : List Int)) (inner := []) (ok := fun _ => True) (okp := fun _ => True) ?hr ?hp (fun _ hk => hk) trivial (Below.refl _ _) (Nat.le_refl _) (by simp) ?_; (case hd => rfl); (case hg => rfl); (case hr => first | (go_simp; done) | (go_simp; rfl)); (case hp => exact (Reps.none _ _))
     intro v240 w7 ho8 hb hg_ hnew_
     clear hg_ hnew_
     (first | rw [← Ny239.out] at ho8 | (simp only [Int.reduceToNat] at ho8; rw [← Ny239.out] at ho8))
     have n0_ := Aside0.mk (Kd.R_lower ho8 (below_size (be2 HB GE237 GE238)))
     have n1_ := bb BK237 hb
     have n2_ := bb BK238 hb
     have n3_ := Aside0.mk (below_step (be2 HB GE237 GE238) hb)
     clear BK237
     clear BK238
     clear HB
     have HO241 := n0_
     have BK237 := n1_
     have BK238 := n2_
     have HB := n3_
     clear n0_ n1_ n2_ n3_
     clear hb ho8
     refine hK.out _ _ ⟨bc0 BK237, bc1 BK237, bc2 BK237⟩ (fun hHeld => ?_)
     clear hK K
     refine norm_ (a' := ?_) ?_ ?_
     rotate_left
     ·show Act.put _ (some 5) _ = _
      simp only [aP]
      rfl
     refine two_ (i := 5) (j := 6) (Ni := some 8) (Nj := some 9) (bv 12 0x1bf) (bv 12 0x1df) rfl rfl rfl rfl (two_of HT_.out (by kernel_rfl)) (by decide) (by decide) (fun K hK => ?_) (fun K hK => ?_)
     ·skip
      refine Kd.R_append_rows_step (Kd.int .i64) (w0 := w) w.heap.size (by rfl) (.tmp 5) (.tmp 7) 22 3 (.int .i64 0) 8 rfl Try.underlying22 info3 rfl (by decide) (by omega) v240 y239 l0_1 _ _ _ (fun _ => True) (fun _ => False) rfl rfl ?aO ?aR (fun _ _ h => h) (fun _ h => h.elim) ?aF ?aB ?aS ?aL ?_
      (case aR => repeat (first | exact (Kd.C_below HR0_1.out HB.out) | (with_reducible refine Kd.C_alloc ?_ _) | (with_reducible refine Kd.C_drewN ?_ _) | (with_reducible refine Kd.C_drew ?_)))
      (case aB => exact (be2 HB GE237 GE238))
      (case aF => exact (fun _ _ => trivial))
      (case aO => exact (ro HO241))
      (case aS => exact (below_size (be2 HB GE237 GE238)))
      (case aL => have := LMc2.out; omega)
      intro v243 w9 ho hb hg hat
      rw [← Ny242.out] at ho
      have n0_ := Aside0.mk (blk_grown (g := gb237) (o := .cells #[.int .i64 a0_0, .slice A0_1 l0_1.length c0_1, .slice A0_2 l0_2.length c0_2] 25 (0, 0)) (bk BK237) hg (Kd.R_ne HO241.out BK237.out (by decide)))
      have n1_ := Aside0.mk (blk_grown (g := gb238) (o := .cells #[.int .i64 0, .slice none 0 0, .slice none 0 0] 25 (0, 0)) (bk BK238) hg (Kd.R_ne HO241.out BK238.out (by decide)))
      have n2_ := Aside0.mk (hb)
      have n3_ := Aside0.mk (ho)
      clear BK237
      clear BK238
      clear HB
      clear HO241
      have BK237 := n0_
      have BK238 := n1_
      have HB := n2_
      have HO244 := n3_
      clear n0_ n1_ n2_ n3_
      clear ho hb hg hat
      refine hK.out _ _ ⟨bc0 BK237, bc1 BK237, bc2 BK237⟩ (fun hHeld => ?_)
      clear hK K
      refine norm_ (a' := ?_) ?_ ?_
      rotate_left
      ·show Act.put _ (some 8) _ = _
       simp only [aP]
       rfl
      refine one_ (i := 6) (N := some 9) (bv 12 0x1ff) rfl rfl (one_of HT_.out (by kernel_rfl)) (by decide) (fun K hK => ?_)
      refine Kd.R_lit_step k70 _ 70 ?hg (N := 9) ?hd (xs := ([] : List (S70))) (inner := []) (ok := fun _ => True) (okp := fun _ => True) ?hr ?hp (fun _ hk => hk) trivial (Below.refl _ _) (Nat.le_refl _) (by simp) ?_; (case hd => rfl); (case hg => rfl); (case hr => first | (go_simp; done) | (go_simp; rfl)); (case hp => exact (Reps.none _ _))
      intro v246 w10 ho11 hb hg_ hnew_
      clear hg_ hnew_
      (first | rw [← Ny245.out] at ho11 | (simp only [Int.reduceToNat] at ho11; rw [← Ny245.out] at ho11))
      have n0_ := rb HO244 hb
      have n1_ := Aside0.mk (Kd.R_lower ho11 (below_size (be2 HB GE237 GE238)))
      have n2_ := bb BK237 hb
      have n3_ := bb BK238 hb
      have n4_ := Aside0.mk (below_step (be2 HB GE237 GE238) hb)
      clear HO244
      clear BK237
      clear BK238
      clear HB
      have HO244 := n0_
      have HO247 := n1_
      have BK237 := n2_
      have BK238 := n3_
      have HB := n4_
      clear n0_ n1_ n2_ n3_ n4_
      clear hb ho11
      refine hK.out _ _ ⟨bc0 BK237, bc1 BK237, bc2 BK237⟩ (fun hHeld => ?_)
      clear hK K
      refine norm_ (a' := ?_) ?_ ?_
      rotate_left
      ·show Act.put _ (some 9) _ = _
       simp only [aP]
       rfl
      exact norm_ (by simp only [putAll, Act.put, List.setIfInBounds_toArray, List.set_cons_zero, List.set_cons_succ]) (hCont (v240, v243, v246) _ ⟨hHeld, (ro HO244), (ro HO247), (bk BK237), (bk BK238), (be2 HB GE237 GE238)⟩)
     skip
     refine Kd.R_lit_step k70 _ 70 ?hg (N := 9) ?hd (xs := ([] : List (S70))) (inner := []) (ok := fun _ => True) (okp := fun _ => True) ?hr ?hp (fun _ hk => hk) trivial (Below.refl _ _) (Nat.le_refl _) (by simp) ?_; (case hd => rfl); (case hg => rfl); (case hr => first | (go_simp; done) | (go_simp; rfl)); (case hp => exact (Reps.none _ _))
     intro v246 w9 ho10 hb hg_ hnew_
     clear hg_ hnew_
     (first | rw [← Ny245.out] at ho10 | (simp only [Int.reduceToNat] at ho10; rw [← Ny245.out] at ho10))
     have n0_ := rb HO241 hb
     have n1_ := Aside0.mk (Kd.R_lower ho10 (below_size (be2 HB GE237 GE238)))
     have n2_ := bb BK237 hb
     have n3_ := bb BK238 hb
     have n4_ := Aside0.mk (below_step (be2 HB GE237 GE238) hb)
     clear HO241
     clear BK237
     clear BK238
     clear HB
     have HO241 := n0_
     have HO247 := n1_
     have BK237 := n2_
     have BK238 := n3_
     have HB := n4_
     clear n0_ n1_ n2_ n3_ n4_
     clear hb ho10
     refine hK.out _ _ ⟨bc0 BK237, bc1 BK237, bc2 BK237⟩ (fun hHeld => ?_)
     clear hK K
     refine norm_ (a' := ?_) ?_ ?_
     rotate_left
     ·show Act.put _ (some 9) _ = _
      simp only [aP]
      rfl
     refine one_ (i := 5) (N := some 8) (bv 12 0x1ff) rfl rfl (one_of HT_.out (by kernel_rfl)) (by decide) (fun K hK => ?_)
     refine Kd.R_append_rows_step (Kd.int .i64) (w0 := w) w.heap.size (by rfl) (.tmp 5) (.tmp 7) 22 3 (.int .i64 0) 8 rfl Try.underlying22 info3 rfl (by decide) (by omega) v240 y239 l0_1 _ _ _ (fun _ => True) (fun _ => False) rfl rfl ?aO ?aR (fun _ _ h => h) (fun _ h => h.elim) ?aF ?aB ?aS ?aL ?_
     (case aR => repeat (first | exact (Kd.C_below HR0_1.out HB.out) | (with_reducible refine Kd.C_alloc ?_ _) | (with_reducible refine Kd.C_drewN ?_ _) | (with_reducible refine Kd.C_drew ?_)))
     (case aB => exact (be2 HB GE237 GE238))
     (case aF => exact (fun _ _ => trivial))
     (case aO => exact (ro HO241))
     (case aS => exact (below_size (be2 HB GE237 GE238)))
     (case aL => have := LMc2.out; omega)
     intro v243 w11 ho hb hg hat
     rw [← Ny242.out] at ho
     have n0_ := Aside0.mk (blk_grown (g := gb237) (o := .cells #[.int .i64 a0_0, .slice A0_1 l0_1.length c0_1, .slice A0_2 l0_2.length c0_2] 25 (0, 0)) (bk BK237) hg (Kd.R_ne HO241.out BK237.out (by decide)))
     have n1_ := Aside0.mk (blk_grown (g := gb238) (o := .cells #[.int .i64 0, .slice none 0 0, .slice none 0 0] 25 (0, 0)) (bk BK238) hg (Kd.R_ne HO241.out BK238.out (by decide)))
     have n2_ := Aside0.mk (Kd.R_over' (ro HO247) (Kd.R_typed (ro HO241)) (by decide) hg)
     have n3_ := Aside0.mk (hb)
     have n4_ := Aside0.mk (ho)
     clear BK237
     clear BK238
     clear HO247
     clear HB
     clear HO241
     have BK237 := n0_
     have BK238 := n1_
     have HO247 := n2_
     have HB := n3_
     have HO244 := n4_
     clear n0_ n1_ n2_ n3_ n4_
     clear ho hb hg hat
     refine hK.out _ _ ⟨bc0 BK237, bc1 BK237, bc2 BK237⟩ (fun hHeld => ?_)
     clear hK K
     refine norm_ (a' := ?_) ?_ ?_
     rotate_left
     ·show Act.put _ (some 8) _ = _
      simp only [aP]
      rfl
     exact norm_ (by simp only [putAll, Act.put, List.setIfInBounds_toArray, List.set_cons_zero, List.set_cons_succ]) (hCont (v240, v243, v246) _ ⟨hHeld, (ro HO244), (ro HO247), (bk BK237), (bk BK238), (be2 HB GE237 GE238)⟩)
    skip
    refine Kd.R_lit_step k70 _ 70 ?hg (N := 9) ?hd (xs := ([] : List (S70))) (inner := []) (ok := fun _ => True) (okp := fun _ => True) ?hr ?hp (fun _ hk => hk) trivial (Below.refl _ _) (Nat.le_refl _) (by simp) ?_; (case hd => rfl); (case hg => rfl); (case hr => first | (go_simp; done) | (go_simp; rfl)); (case hp => exact (Reps.none _ _))
    intro v246 w7 ho8 hb hg_ hnew_
    clear hg_ hnew_
    (first | rw [← Ny245.out] at ho8 | (simp only [Int.reduceToNat] at ho8; rw [← Ny245.out] at ho8))
    have n0_ := Aside0.mk (Kd.R_lower ho8 (below_size (be2 HB GE237 GE238)))
    have n1_ := bb BK237 hb
    have n2_ := bb BK238 hb
    have n3_ := Aside0.mk (below_step (be2 HB GE237 GE238) hb)
    clear BK237
    clear BK238
    clear HB
    have HO247 := n0_
    have BK237 := n1_
    have BK238 := n2_
    have HB := n3_
    clear n0_ n1_ n2_ n3_
    clear hb ho8
    refine hK.out _ _ ⟨bc0 BK237, bc1 BK237, bc2 BK237⟩ (fun hHeld => ?_)
    clear hK K
    refine norm_ (a' := ?_) ?_ ?_
    rotate_left
    ·show Act.put _ (some 9) _ = _
     simp only [aP]
     rfl
    refine one_ (i := 2) (N := some 5) (bv 12 0x1df) rfl rfl (one_of HT_.out (by kernel_rfl)) (by decide) (fun K hK => ?_)
    refine Kd.R_lit_step (Kd.int .i64) _ 3 ?hg (N := 5) ?hd (xs := ([] : List Int)) (inner := []) (ok := fun _ => True) (okp := fun _ => True) ?hr ?hp (fun _ hk => hk) trivial (Below.refl _ _) (Nat.le_refl _) (by simp) ?_; (case hd => rfl); (case hg => rfl); (case hr => first | (go_simp; done) | (go_simp; rfl)); (case hp => exact (Reps.none _ _))
    intro v240 w9 ho10 hb hg_ hnew_
    clear hg_ hnew_
    (first | rw [← Ny239.out] at ho10 | (simp only [Int.reduceToNat] at ho10; rw [← Ny239.out] at ho10))
    have n0_ := rb HO247 hb
    have n1_ := Aside0.mk (Kd.R_lower ho10 (below_size (be2 HB GE237 GE238)))
    have n2_ := bb BK237 hb
    have n3_ := bb BK238 hb
    have n4_ := Aside0.mk (below_step (be2 HB GE237 GE238) hb)
    clear HO247
    clear BK237
    clear BK238
    clear HB
    have HO247 := n0_
    have HO241 := n1_
    have BK237 := n2_
    have BK238 := n3_
    have HB := n4_
    clear n0_ n1_ n2_ n3_ n4_
    clear hb ho10
    refine hK.out _ _ ⟨bc0 BK237, bc1 BK237, bc2 BK237⟩ (fun hHeld => ?_)
    clear hK K
    refine norm_ (a' := ?_) ?_ ?_
    rotate_left
    ·show Act.put _ (some 5) _ = _
     simp only [aP]
     rfl
    refine one_ (i := 5) (N := some 8) (bv 12 0x1ff) rfl rfl (one_of HT_.out (by kernel_rfl)) (by decide) (fun K hK => ?_)
    refine Kd.R_append_rows_step (Kd.int .i64) (w0 := w) w.heap.size (by rfl) (.tmp 5) (.tmp 7) 22 3 (.int .i64 0) 8 rfl Try.underlying22 info3 rfl (by decide) (by omega) v240 y239 l0_1 _ _ _ (fun _ => True) (fun _ => False) rfl rfl ?aO ?aR (fun _ _ h => h) (fun _ h => h.elim) ?aF ?aB ?aS ?aL ?_
    (case aR => repeat (first | exact (Kd.C_below HR0_1.out HB.out) | (with_reducible refine Kd.C_alloc ?_ _) | (with_reducible refine Kd.C_drewN ?_ _) | (with_reducible refine Kd.C_drew ?_)))
    (case aB => exact (be2 HB GE237 GE238))
    (case aF => exact (fun _ _ => trivial))
    (case aO => exact (ro HO241))
    (case aS => exact (below_size (be2 HB GE237 GE238)))
    (case aL => have := LMc2.out; omega)
    intro v243 w11 ho hb hg hat
    rw [← Ny242.out] at ho
    have n0_ := Aside0.mk (blk_grown (g := gb237) (o := .cells #[.int .i64 a0_0, .slice A0_1 l0_1.length c0_1, .slice A0_2 l0_2.length c0_2] 25 (0, 0)) (bk BK237) hg (Kd.R_ne HO241.out BK237.out (by decide)))
    have n1_ := Aside0.mk (blk_grown (g := gb238) (o := .cells #[.int .i64 0, .slice none 0 0, .slice none 0 0] 25 (0, 0)) (bk BK238) hg (Kd.R_ne HO241.out BK238.out (by decide)))
    have n2_ := Aside0.mk (Kd.R_over' (ro HO247) (Kd.R_typed (ro HO241)) (by decide) hg)
    have n3_ := Aside0.mk (hb)
    have n4_ := Aside0.mk (ho)
    clear BK237
    clear BK238
    clear HO247
    clear HB
    clear HO241
    have BK237 := n0_
    have BK238 := n1_
    have HO247 := n2_
    have HB := n3_
    have HO244 := n4_
    clear n0_ n1_ n2_ n3_ n4_
    clear ho hb hg hat
    refine hK.out _ _ ⟨bc0 BK237, bc1 BK237, bc2 BK237⟩ (fun hHeld => ?_)
    clear hK K
    refine norm_ (a' := ?_) ?_ ?_
    rotate_left
    ·show Act.put _ (some 8) _ = _
     simp only [aP]
     rfl
    exact norm_ (by simp only [putAll, Act.put, List.setIfInBounds_toArray, List.set_cons_zero, List.set_cons_succ]) (hCont (v240, v243, v246) _ ⟨hHeld, (ro HO244), (ro HO247), (bk BK237), (bk BK238), (be2 HB GE237 GE238)⟩)
   rintro ⟨v240, v243, v246⟩ w12 ⟨hS_, h0_, h1_, h2_, h3_, h4_⟩
   have n0_ : Aside0 (Kd.R (Kd.int .i64) 3 w12 w.heap.size (fun _ => True) v243 y242) := ⟨h0_⟩
   have n1_ : Aside0 (Kd.R k70 70 w12 w.heap.size (fun _ => True) v246 y245) := ⟨h1_⟩
   have n2_ : Aside0 (w12.heap[gb237]? = some (.cells #[.int .i64 a0_0, .slice A0_1 l0_1.length c0_1, .slice A0_2 l0_2.length c0_2] 25 (0, 0))) := ⟨h2_⟩
   have n3_ : Aside0 (w12.heap[gb238]? = some (.cells #[.int .i64 0, .slice none 0 0, .slice none 0 0] 25 (0, 0))) := ⟨h3_⟩
   have n4_ : Aside0 (Below w.heap.size w w12) := ⟨h4_⟩
   clear BK237
   clear BK238
   clear HB
   clear h0_ h1_ h2_ h3_ h4_
   have HO244 := n0_
   have HO247 := n1_
   have BK237 := n2_
   have BK238 := n3_
   have HB := n4_
   clear n0_ n1_ n2_ n3_ n4_
   have hHeld : w12.cell? ⟨gb237, 0, none⟩ = some (.int .i64 a0_0) ∧ w12.cell? ⟨gb237, 1, none⟩ = some (.slice A0_1 l0_1.length c0_1) ∧ w12.cell? ⟨gb237, 2, none⟩ = some (.slice A0_2 l0_2.length c0_2) := hS_
   refine norm_ (a' := ?_) ?_ ?_
   rotate_left
   ·simp only [putAll, Act.put, List.setIfInBounds_toArray, List.set_cons_zero, List.set_cons_succ]
    rfl
   refine one_ (i := 9) (N := some 12) (bv 12 0x3ff) rfl rfl (one_of HT_.out (by kernel_rfl)) (by decide) (fun K hK => ?_)
   refine Kd.R_append_rows_step k70 (w0 := w) w.heap.size (by rfl) (.tmp 9) (.tmp 11) 23 70 (.agg #[(.int .i64 0), (.int .i64 0)]) 16 rfl Try.underlying23 info70 rfl (by decide) (by omega) v246 y245 l0_2 _ _ _ (fun _ => True) (fun _ => False) rfl rfl ?aO ?aR (fun _ _ h => h) (fun _ h => h.elim) ?aF ?aB ?aS ?aL ?_
   (case aR => repeat (first | exact (Kd.C_below HR0_2.out HB.out) | (with_reducible refine Kd.C_alloc ?_ _) | (with_reducible refine Kd.C_drewN ?_ _) | (with_reducible refine Kd.C_drew ?_)))
   (case aB => exact (be2 HB GE237 GE238))
   (case aF => exact (fun _ _ => trivial))
   (case aO => exact (ro HO247))
   (case aS => exact (below_size (be2 HB GE237 GE238)))
   (case aL => have := LMc3.out; omega)
   intro v249 w13 ho hb hg hat
   rw [← Ny248.out] at ho
   have n0_ := Aside0.mk (blk_grown (g := gb237) (o := .cells #[.int .i64 a0_0, .slice A0_1 l0_1.length c0_1, .slice A0_2 l0_2.length c0_2] 25 (0, 0)) (bk BK237) hg (Kd.R_ne HO247.out BK237.out (by decide)))
   have n1_ := Aside0.mk (blk_grown (g := gb238) (o := .cells #[.int .i64 0, .slice none 0 0, .slice none 0 0] 25 (0, 0)) (bk BK238) hg (Kd.R_ne HO247.out BK238.out (by decide)))
   have n2_ := Aside0.mk (Kd.R_over' (ro HO244) (Kd.R_typed (ro HO247)) (by decide) hg)
   have n3_ := Aside0.mk (hb)
   have n4_ := Aside0.mk (ho)
   clear BK237
   clear BK238
   clear HO244
   clear HB
   clear HO247
   have BK237 := n0_
   have BK238 := n1_
   have HO244 := n2_
   have HB := n3_
   have HO250 := n4_
   clear n0_ n1_ n2_ n3_ n4_
   clear ho hb hg hat
   obtain ⟨Ao14, co14, eo14⟩ := Kd.R_slice HO250.out
   (first | subst eo14 | (injection eo14 with f1_ f2_ f3_; have f4_ := f1_.symm; have f5_ := f3_.symm; clear f1_ f2_ f3_; subst f4_; subst f5_))
   obtain ⟨Ao15, co15, eo15⟩ := Kd.R_slice HO244.out
   (first | subst eo15 | (injection eo15 with f1_ f2_ f3_; have f4_ := f1_.symm; have f5_ := f3_.symm; clear f1_ f2_ f3_; subst f4_; subst f5_))
   refine hK.out _ _ ⟨bc0 BK237, bc1 BK237, bc2 BK237⟩ (fun hHeld => ?_)
   clear hK K
   refine norm_ (a' := ?_) ?_ ?_
   rotate_left
   ·show Act.put _ (some 12) _ = _
    simp only [aP]
    rfl
   refine py HT_ 10 13 (bv 12 0x7ff) ?_
   refine one_ (i := 11) (N := none) (bv 12 0xfff) rfl rfl (one_of HT_.out (by kernel_rfl)) (by decide) (fun K hK => ?_)
   have hs16 : w13.cell? ⟨gb238, 0, none⟩ = some (.int .i64 0) := bc0 BK238
   have hfs16 := blk_frozen BK238.out 0
   have hns16_0 := NB237_238.out
   have hms16_0 := NB238_237.out
   have hs17 : w13.cell? ⟨gb238, 1, none⟩ = some (.slice none 0 0) := bc1 BK238
   have hfs17 := blk_frozen BK238.out 1
   have hns17_0 := NB237_238.out
   have hms17_0 := NB238_237.out
   have hs18 : w13.cell? ⟨gb238, 2, none⟩ = some (.slice none 0 0) := bc2 BK238
   have hfs18 := blk_frozen BK238.out 2
   have hns18_0 := NB237_238.out
   have hms18_0 := NB238_237.out
   refine skip_ (w1 := ?_) (by rfl) rfl ?_ ?_
   rotate_left
   ·go_simp
    rfl
   refine hK.out _ _ ⟨((cell_far (p := ⟨gb238, _, none⟩) NB237_238.out _).trans (((cell_far (p := ⟨gb238, _, none⟩) NB237_238.out _).trans (((cell_far (p := ⟨gb238, _, none⟩) NB237_238.out _).trans (hHeld.1)))))), ((cell_far (p := ⟨gb238, _, none⟩) NB237_238.out _).trans (((cell_far (p := ⟨gb238, _, none⟩) NB237_238.out _).trans (((cell_far (p := ⟨gb238, _, none⟩) NB237_238.out _).trans (hHeld.2.1)))))), ((cell_far (p := ⟨gb238, _, none⟩) NB237_238.out _).trans (((cell_far (p := ⟨gb238, _, none⟩) NB237_238.out _).trans (((cell_far (p := ⟨gb238, _, none⟩) NB237_238.out _).trans (hHeld.2.2))))))⟩ (fun hHeld => ?_)
   clear hK K
   refine done_ (done_of HT_.out (by kernel_rfl)) ?_
   try go_wp2
   refine bodyPost_ret (results_cell_row rfl _ _ gb238 25 #[.int .i64 a0_0, .slice Ao15 y242.length co15, .slice Ao14 y248.length co14] (0, 0) _ rfl (by (with_reducible repeat (first | refine blk_drewN ?_ _ | refine blk_drew ?_ | refine blk_alloc ?_ _)); refine blk_put (cs := #[.int .i64 a0_0, .slice Ao15 y242.length co15, .slice none 0 0]) ?_ 2 _ rfl; (with_reducible repeat (first | refine blk_drewN ?_ _ | refine blk_drew ?_ | refine blk_alloc ?_ _)); refine blk_put (cs := #[.int .i64 a0_0, .slice none 0 0, .slice none 0 0]) ?_ 1 _ rfl; (with_reducible repeat (first | refine blk_drewN ?_ _ | refine blk_drew ?_ | refine blk_alloc ?_ _)); refine blk_put (cs := #[.int .i64 0, .slice none 0 0, .slice none 0 0]) ?_ 0 _ rfl; (with_reducible repeat (first | refine blk_drewN ?_ _ | refine blk_drew ?_ | refine blk_alloc ?_ _)); exact BK238.out) Try.underlying25 rfl (by kernel_rfl)) rfl ?_
   exact ⟨_, _, er, by (with_reducible repeat (first | apply Kd.R_alloc | apply Kd.R_drewN | apply Kd.R_drew)); exact Kd.R_mono (Kd.R_far (p := ⟨gb238, 2, none⟩) (Kd.R_far (p := ⟨gb238, 1, none⟩) (Kd.R_far (p := ⟨gb238, 0, none⟩) (Kd.R_types HO244.out BK238.out (by decide)) (fun _ hk => hk.2) (.int .i64 a0_0)) (fun _ hk => hk.2) (.slice Ao15 y242.length co15)) (fun _ hk => hk.2) (.slice Ao14 y248.length co14)) (fun _ hk => trivial), by (with_reducible repeat (first | apply Kd.R_alloc | apply Kd.R_drewN | apply Kd.R_drew)); exact Kd.R_mono (Kd.R_far (p := ⟨gb238, 2, none⟩) (Kd.R_far (p := ⟨gb238, 1, none⟩) (Kd.R_far (p := ⟨gb238, 0, none⟩) (Kd.R_types HO250.out BK238.out (by decide)) (fun _ hk => hk.2) (.int .i64 a0_0)) (fun _ hk => hk.2) (.slice Ao15 y242.length co15)) (fun _ hk => hk.2) (.slice Ao14 y248.length co14)) (fun _ hk => trivial), be2 HB GE237 GE238⟩
  rw [if_neg c3] at H
  exact absurd H (by simp)
 rw [if_neg c2] at H
 exact absurd H (by simp)

end Go.Proofs.Ytdgpidhlbpaolaa.QFnExactAlloc
