-- made by a program of this session (myprint.py)
import Derived.Test.YtdgpidhlbpaolaaQFnExactEnterx0
import Derived.Test.YtdgpidhlbpaolaaQFnExactEnterx4
namespace Go.Proofs.Ytdgpidhlbpaolaa.QFnExactEnter
open Go.RowKit Go.Proofs.YtdgpidhlbpaolaaW.PrintWords Go.Proofs.YtdgpidhlbpaolaaW.PrintLast Go.Proofs.YtdgpidhlbpaolaaW.PrintMore
attribute [local go_sem] max2_int min2_int max_two min_two max_three min_three max_four min_four   -- for this text's walks alone
set_option linter.unusedVariables false
set_option linter.unusedSimpArgs false

/-! ### spec_l06Copy: function 95 -/
def spec_l06Copy.f (a0_0 : Int) (l0_1 : List Int) (l0_2 : List (S70)) : Option (Int × List Int × (List (S70))) := (some (([] : List Int) : List Int)).bind fun y210 => (if y210.length + l0_1.length < 17592186044416 then ((some (([] : List (S70)) : List (S70))).bind fun y216 => (if y216.length + l0_2.length < 8796093022208 then (some (a0_0, (y210 ++ l0_1), (y216 ++ l0_2))) else (none))) else (none))
def spec_l06Copy.T1 : Bool × List (List Nat × List Nat) := (true, [([], []), ([0], [0]), ([], []), ([], []), ([3], [3]), ([2, 4], [2, 4]), ([], []), ([], []), ([7], [7]), ([6, 8, 5], [6, 8]), ([1, 5, 9], [1, 5, 9]), ([10, 9, 0, 1, 2, 3, 4, 5, 6, 7, 8, 9, 10], [10])])
def spec_l06Copy.B1 : List Nat := [0, 1, 0, 0, 8, 28, 0, 0, 128, 508, 1023, 2047]
theorem spec_l06Copy.tab1 : rtab .any (opsOf Try.f95 1) = spec_l06Copy.T1 := by kernel_rfl
theorem spec_l06Copy.bits1 : waitsOk spec_l06Copy.T1.2 spec_l06Copy.B1 = true := by kernel_rfl
set_option maxHeartbeats 8000000 in
set_option maxRecDepth 100000 in
theorem spec_l06Copy.calls (a0_0 : Int) (A0_1 : Option Addr) (c0_1 : Nat) (l0_1 : List Int) (A0_2 : Option Addr) (c0_2 : Nat) (l0_2 : List (S70)) (r1 : Int) (r2 : List Int) (r3 : List (S70)) (w : World) (hr0_1 : Kd.C (Kd.int .i64) w A0_1 l0_1.length l0_1) (hc0_1 : l0_1.length ≤ c0_1) (hr0_2 : Kd.C k70 w A0_2 l0_2.length l0_2) (hc0_2 : l0_2.length ≤ c0_2) (h : spec_l06Copy.f a0_0 l0_1 l0_2 = some (r1, r2, r3)) :
  Calls Try.prog 95 #[.agg #[.int .i64 a0_0, .slice A0_1 l0_1.length c0_1, .slice A0_2 l0_2.length c0_2]] w fun e w' => ∃ v1_ v2_ : Value, e = .returned (.agg #[.int .i64 r1, v1_, v2_]) ∧ Kd.R (Kd.int .i64) 3 w' w.heap.size (fun _ => True) v1_ r2 ∧ Kd.R k70 70 w' w.heap.size (fun _ => True) v2_ r3 ∧ Below w.heap.size w w' := by
 have hu25 := Try.underlying25
 have HR0_1 := Aside0.mk hr0_1
 have HC0_1 := Aside0.mk hc0_1
 clear hr0_1 hc0_1
 have HR0_2 := Aside0.mk hr0_2
 have HC0_2 := Aside0.mk hc0_2
 clear hr0_2 hc0_2
 have HB := Aside0.mk (Below.refl w.heap.size w)
 have H : ((some (([] : List Int) : List Int)).bind fun y210 => (if y210.length + l0_1.length < 17592186044416 then ((some (([] : List (S70)) : List (S70))).bind fun y216 => (if y216.length + l0_2.length < 8796093022208 then (some (a0_0, (y210 ++ l0_1), (y216 ++ l0_2))) else (none))) else (none))) = some (r1, r2, r3) := h
 clear h
 obtain ⟨y210, hy210⟩ : ∃ y_ : List Int, y_ = (([] : List Int)) := ⟨_, rfl⟩
 replace H : (if y210.length + l0_1.length < 17592186044416 then ((some (([] : List (S70)) : List (S70))).bind fun y216 => (if y216.length + l0_2.length < 8796093022208 then (some (a0_0, (y210 ++ l0_1), (y216 ++ l0_2))) else (none))) else (none)) = some (r1, r2, r3) := by first | (rw [hy210]; with_reducible exact H) | (have H2_ := (Option.bind_some _ _).symm.trans H; rw [hy210]; with_reducible exact H2_) | (have H2_ := (Option.bind_some _ _).symm.trans H; with_reducible exact H2_) | with_reducible exact H | (rw [hy210]; exact H) | exact H
 have Ny210 := Aside0.mk hy210
 clear hy210
 by_cases c2 : y210.length + l0_1.length < 17592186044416
 ·rw [if_pos c2] at H
  have LMc2 := Aside0.mk c2
  clear c2
  obtain ⟨y213, hy213⟩ : ∃ y_ : List Int, y_ = (y210 ++ l0_1) := ⟨_, rfl⟩
  replace H : ((some (([] : List (S70)) : List (S70))).bind fun y216 => (if y216.length + l0_2.length < 8796093022208 then (some (a0_0, y213, (y216 ++ l0_2))) else (none))) = some (r1, r2, r3) := by first | (rw [hy213]; with_reducible exact H) | (have H2_ := (Option.bind_some _ _).symm.trans H; rw [hy213]; with_reducible exact H2_) | (have H2_ := (Option.bind_some _ _).symm.trans H; with_reducible exact H2_) | with_reducible exact H | (rw [hy213]; exact H) | exact H
  have Ny213 := Aside0.mk hy213
  clear hy213
  obtain ⟨y216, hy216⟩ : ∃ y_ : List (S70), y_ = (([] : List (S70))) := ⟨_, rfl⟩
  replace H : (if y216.length + l0_2.length < 8796093022208 then (some (a0_0, y213, (y216 ++ l0_2))) else (none)) = some (r1, r2, r3) := by first | (rw [hy216]; with_reducible exact H) | (have H2_ := (Option.bind_some _ _).symm.trans H; rw [hy216]; with_reducible exact H2_) | (have H2_ := (Option.bind_some _ _).symm.trans H; with_reducible exact H2_) | with_reducible exact H | (rw [hy216]; exact H) | exact H
  have Ny216 := Aside0.mk hy216
  clear hy216
  by_cases c3 : y216.length + l0_2.length < 8796093022208
  ·rw [if_pos c3] at H
   have LMc3 := Aside0.mk c3
   clear c3
   obtain ⟨y219, hy219⟩ : ∃ y_ : List (S70), y_ = (y216 ++ l0_2) := ⟨_, rfl⟩
   replace H : (some (a0_0, y213, y219)) = some (r1, r2, r3) := by first | (rw [hy219]; with_reducible exact H) | (have H2_ := (Option.bind_some _ _).symm.trans H; rw [hy219]; with_reducible exact H2_) | (have H2_ := (Option.bind_some _ _).symm.trans H; with_reducible exact H2_) | with_reducible exact H | (rw [hy219]; exact H) | exact H
   have Ny219 := Aside0.mk hy219
   clear hy219
   simp only [Option.some.injEq, Prod.mk.injEq] at H
   obtain ⟨rfl, rfl, rfl⟩ := H
   go_enter Try.func95, Try.ntmps95
   try go_wp2_with (first | ((with_reducible refine gate_dst (N := 1) rfl ?_); refine bx 1 #[.int .i64 a0_0, .slice A0_1 l0_1.length c0_1, .slice A0_2 l0_2.length c0_2] 25 ?_; intro gb208 hg w4 hbox hb; have BK208 := am hbox; have GW208 := gs0 hg HB; have GE208 := gs0 hg HB; replace HB := s0 HB hb; clear hb hbox hg) | ((with_reducible refine gate_dst (N := 2) rfl ?_); refine bx 2 #[.int .i64 0, .slice none 0 0, .slice none 0 0] 25 ?_; intro gb209 hg w5 hbox hb; have BK209 := am hbox; have GW209 := gs1 hg HB GE208; have GE209 := gs1 hg HB GE208; replace HB := Aside0.mk (below_step (be1 HB GE208) hb); have NB208_209 := Aside0.mk ((by rw [hg]; exact Nat.ne_of_lt (bl BK208) : gb208 ≠ gb209)); have NB209_208 := Aside0.mk ((by rw [hg]; exact Nat.ne_of_gt (bl BK208) : gb209 ≠ gb208)); replace BK208 := bb BK208 hb; clear hb hbox hg))
   have n0_ := Aside0.mk (blk_drew BK208.out)
   have n1_ := Aside0.mk (blk_drew BK209.out)
   have n2_ := Aside0.mk (below_drew1 HB.out)
   clear BK208
   clear BK209
   clear HB
   have BK208 := n0_
   have BK209 := n1_
   have HB := n2_
   clear n0_ n1_ n2_
   refine start_ (n := 12) (S := fun w' => w'.cell? ⟨gb208, 0, none⟩ = some (.int .i64 a0_0) ∧ w'.cell? ⟨gb208, 1, none⟩ = some (.slice A0_1 l0_1.length c0_1) ∧ w'.cell? ⟨gb208, 2, none⟩ = some (.slice A0_2 l0_2.length c0_2)) (ds := []) (bv 12 0x0) (by kernel_rfl) rfl rfl ⟨bc0 BK208, bc1 BK208, bc2 BK208⟩ (fun hHeld => ?_); refine with_tabW spec_l06Copy.tab1 spec_l06Copy.bits1 (fun HT_ HW_ => ?_)
   generalize w5.drew = w6 at BK208 BK209 HB hHeld ⊢
   refine py HT_ 0 3 (bv 12 0x1) ?_
   refine py HT_ 3 6 (bv 12 0x9) ?_
   refine py HT_ 7 10 (bv 12 0x89) ?_
   refine tk HT_ HW_ hHeld 1 4 (bv 12 0x8b) ?_
   refine tk HT_ HW_ hHeld 4 7 (bv 12 0x9b) ?_
   refine tk HT_ HW_ hHeld 8 11 (bv 12 0x19b) ?_
   refine join_ (σ := Value × Value × Value) 3 (bv 12 0x1ff) (fun s_ => [(5, s_.1), (8, s_.2.1), (9, s_.2.2)]) (fun s_ w' => (w'.cell? ⟨gb208, 0, none⟩ = some (.int .i64 a0_0) ∧ w'.cell? ⟨gb208, 1, none⟩ = some (.slice A0_1 l0_1.length c0_1) ∧ w'.cell? ⟨gb208, 2, none⟩ = some (.slice A0_2 l0_2.length c0_2)) ∧ (Kd.R (Kd.int .i64) 3 w' w.heap.size (fun _ => True) s_.2.1 y213) ∧ (Kd.R k70 70 w' w.heap.size (fun _ => True) s_.2.2 y216) ∧ (w'.heap[gb208]? = some (.cells #[.int .i64 a0_0, .slice A0_1 l0_1.length c0_1, .slice A0_2 l0_2.length c0_2] 25 (0, 0))) ∧ (w'.heap[gb209]? = some (.cells #[.int .i64 0, .slice none 0 0, .slice none 0 0] 25 (0, 0))) ∧ (Below w.heap.size w w')) ?_ ?_
   rotate_left
   ·intro hCont
    refine two_ (i := 2) (j := 6) (Ni := some 5) (Nj := some 9) (bv 12 0x19f) (bv 12 0x1db) rfl rfl rfl rfl (two_of HT_.out (by kernel_rfl)) (by decide) (by decide) (fun K hK => ?_) (fun K hK => ?_)
    ·skip
     refine Kd.R_lit_step (Kd.int .i64) _ 3 ?hg (N := 5) ?hd (xs := ([] : List Int)) (inner := []) (ok := fun _ => True) (okp := fun _ => True) ?hr ?hp (fun _ hk => hk) trivial (Below.refl _ _) (Nat.le_refl _) (by simp) ?_; (case hd => rfl); (case hg => rfl); (case hr => first | (go_simp; done) | (go_simp; rfl)); (case hp => exact (Reps.none _ _))
     intro v211 w7 ho8 hb hg_ hnew_
     clear hg_ hnew_
     (first | rw [← Ny210.out] at ho8 | (simp only [Int.reduceToNat] at ho8; rw [← Ny210.out] at ho8))
     have n0_ := Aside0.mk (Kd.R_lower ho8 (below_size (be2 HB GE208 GE209)))
     have n1_ := bb BK208 hb
     have n2_ := bb BK209 hb
     have n3_ := Aside0.mk (below_step (be2 HB GE208 GE209) hb)
     clear BK208
     clear BK209
     clear HB
     have HO212 := n0_
     have BK208 := n1_
     have BK209 := n2_
     have HB := n3_
     clear n0_ n1_ n2_ n3_
     clear hb ho8
     refine hK.out _ _ ⟨bc0 BK208, bc1 BK208, bc2 BK208⟩ (fun hHeld => ?_)
     clear hK K
     refine norm_ (a' := ?_) ?_ ?_
     rotate_left
     ·show Act.put _ (some 5) _ = _
      simp only [aP]
      rfl
     refine two_ (i := 5) (j := 6) (Ni := some 8) (Nj := some 9) (bv 12 0x1bf) (bv 12 0x1df) rfl rfl rfl rfl (two_of HT_.out (by kernel_rfl)) (by decide) (by decide) (fun K hK => ?_) (fun K hK => ?_)
     ·skip
      refine Kd.R_append_rows_step (Kd.int .i64) (w0 := w) w.heap.size (by rfl) (.tmp 5) (.tmp 7) 22 3 (.int .i64 0) 8 rfl Try.underlying22 info3 rfl (by decide) (by omega) v211 y210 l0_1 _ _ _ (fun _ => True) (fun _ => False) rfl rfl ?aO ?aR (fun _ _ h => h) (fun _ h => h.elim) ?aF ?aB ?aS ?aL ?_
      (case aR => repeat (first | exact (Kd.C_below HR0_1.out HB.out) | (with_reducible refine Kd.C_alloc ?_ _) | (with_reducible refine Kd.C_drewN ?_ _) | (with_reducible refine Kd.C_drew ?_)))
      (case aB => exact (be2 HB GE208 GE209))
      (case aF => exact (fun _ _ => trivial))
      (case aO => exact (ro HO212))
      (case aS => exact (below_size (be2 HB GE208 GE209)))
      (case aL => have := LMc2.out; omega)
      intro v214 w9 ho hb hg hat
      rw [← Ny213.out] at ho
      have n0_ := Aside0.mk (blk_grown (g := gb208) (o := .cells #[.int .i64 a0_0, .slice A0_1 l0_1.length c0_1, .slice A0_2 l0_2.length c0_2] 25 (0, 0)) (bk BK208) hg (Kd.R_ne HO212.out BK208.out (by decide)))
      have n1_ := Aside0.mk (blk_grown (g := gb209) (o := .cells #[.int .i64 0, .slice none 0 0, .slice none 0 0] 25 (0, 0)) (bk BK209) hg (Kd.R_ne HO212.out BK209.out (by decide)))
      have n2_ := Aside0.mk (hb)
      have n3_ := Aside0.mk (ho)
      clear BK208
      clear BK209
      clear HB
      clear HO212
      have BK208 := n0_
      have BK209 := n1_
      have HB := n2_
      have HO215 := n3_
      clear n0_ n1_ n2_ n3_
      clear ho hb hg hat
      refine hK.out _ _ ⟨bc0 BK208, bc1 BK208, bc2 BK208⟩ (fun hHeld => ?_)
      clear hK K
      refine norm_ (a' := ?_) ?_ ?_
      rotate_left
      ·show Act.put _ (some 8) _ = _
       simp only [aP]
       rfl
      refine one_ (i := 6) (N := some 9) (bv 12 0x1ff) rfl rfl (one_of HT_.out (by kernel_rfl)) (by decide) (fun K hK => ?_)
      refine Kd.R_lit_step k70 _ 70 ?hg (N := 9) ?hd (xs := ([] : List (S70))) (inner := []) (ok := fun _ => True) (okp := fun _ => True) ?hr ?hp (fun _ hk => hk) trivial (Below.refl _ _) (Nat.le_refl _) (by simp) ?_; (case hd => rfl); (case hg => rfl); (case hr => first | (go_simp; done) | (go_simp; rfl)); (case hp => exact (Reps.none _ _))
      intro v217 w10 ho11 hb hg_ hnew_
      clear hg_ hnew_
      (first | rw [← Ny216.out] at ho11 | (simp only [Int.reduceToNat] at ho11; rw [← Ny216.out] at ho11))
      have n0_ := rb HO215 hb
      have n1_ := Aside0.mk (Kd.R_lower ho11 (below_size (be2 HB GE208 GE209)))
      have n2_ := bb BK208 hb
      have n3_ := bb BK209 hb
      have n4_ := Aside0.mk (below_step (be2 HB GE208 GE209) hb)
      clear HO215
      clear BK208
      clear BK209
      clear HB
      have HO215 := n0_
      have HO218 := n1_
      have BK208 := n2_
      have BK209 := n3_
      have HB := n4_
      clear n0_ n1_ n2_ n3_ n4_
      clear hb ho11
      refine hK.out _ _ ⟨bc0 BK208, bc1 BK208, bc2 BK208⟩ (fun hHeld => ?_)
      clear hK K
      refine norm_ (a' := ?_) ?_ ?_
      rotate_left
      ·show Act.put _ (some 9) _ = _
       simp only [aP]
       rfl
      exact norm_ (by simp only [putAll, Act.put, List.setIfInBounds_toArray, List.set_cons_zero, List.set_cons_succ]) (hCont (v211, v214, v217) _ ⟨hHeld, (ro HO215), (ro HO218), (bk BK208), (bk BK209), (be2 HB GE208 GE209)⟩)
     skip
     refine Kd.R_lit_step k70 _ 70 ?hg (N := 9) ?hd (xs := ([] : List (S70))) (inner := []) (ok := fun _ => True) (okp := fun _ => True) ?hr ?hp (fun _ hk => hk) trivial (Below.refl _ _) (Nat.le_refl _) (by simp) ?_; (case hd => rfl); (case hg => rfl); (case hr => first | (go_simp; done) | (go_simp; rfl)); (case hp => exact (Reps.none _ _))
     intro v217 w9 ho10 hb hg_ hnew_
     clear hg_ hnew_
     (first | rw [← Ny216.out] at ho10 | (simp only [Int.reduceToNat] at ho10; rw [← Ny216.out] at ho10))
     have n0_ := rb HO212 hb
     have n1_ := Aside0.mk (Kd.R_lower ho10 (below_size (be2 HB GE208 GE209)))
     have n2_ := bb BK208 hb
     have n3_ := bb BK209 hb
     have n4_ := Aside0.mk (below_step (be2 HB GE208 GE209) hb)
     clear HO212
     clear BK208
     clear BK209
     clear HB
     have HO212 := n0_
     have HO218 := n1_
     have BK208 := n2_
     have BK209 := n3_
     have HB := n4_
     clear n0_ n1_ n2_ n3_ n4_
     clear hb ho10
     refine hK.out _ _ ⟨bc0 BK208, bc1 BK208, bc2 BK208⟩ (fun hHeld => ?_)
     clear hK K
     refine norm_ (a' := ?_) ?_ ?_
     rotate_left
     ·show Act.put _ (some 9) _ = _
      simp only [aP]
      rfl
     refine one_ (i := 5) (N := some 8) (bv 12 0x1ff) rfl rfl (one_of HT_.out (by kernel_rfl)) (by decide) (fun K hK => ?_)
     refine Kd.R_append_rows_step (Kd.int .i64) (w0 := w) w.heap.size (by rfl) (.tmp 5) (.tmp 7) 22 3 (.int .i64 0) 8 rfl Try.underlying22 info3 rfl (by decide) (by omega) v211 y210 l0_1 _ _ _ (fun _ => True) (fun _ => False) rfl rfl ?aO ?aR (fun _ _ h => h) (fun _ h => h.elim) ?aF ?aB ?aS ?aL ?_
     (case aR => repeat (first | exact (Kd.C_below HR0_1.out HB.out) | (with_reducible refine Kd.C_alloc ?_ _) | (with_reducible refine Kd.C_drewN ?_ _) | (with_reducible refine Kd.C_drew ?_)))
     (case aB => exact (be2 HB GE208 GE209))
     (case aF => exact (fun _ _ => trivial))
     (case aO => exact (ro HO212))
     (case aS => exact (below_size (be2 HB GE208 GE209)))
     (case aL => have := LMc2.out; omega)
     intro v214 w11 ho hb hg hat
     rw [← Ny213.out] at ho
     have n0_ := Aside0.mk (blk_grown (g := gb208) (o := .cells #[.int .i64 a0_0, .slice A0_1 l0_1.length c0_1, .slice A0_2 l0_2.length c0_2] 25 (0, 0)) (bk BK208) hg (Kd.R_ne HO212.out BK208.out (by decide)))
     have n1_ := Aside0.mk (blk_grown (g := gb209) (o := .cells #[.int .i64 0, .slice none 0 0, .slice none 0 0] 25 (0, 0)) (bk BK209) hg (Kd.R_ne HO212.out BK209.out (by decide)))
     have n2_ := Aside0.mk (Kd.R_over' (ro HO218) (Kd.R_typed (ro HO212)) (by decide) hg)
     have n3_ := Aside0.mk (hb)
     have n4_ := Aside0.mk (ho)
     clear BK208
     clear BK209
     clear HO218
     clear HB
     clear HO212
     have BK208 := n0_
     have BK209 := n1_
     have HO218 := n2_
     have HB := n3_
     have HO215 := n4_
     clear n0_ n1_ n2_ n3_ n4_
     clear ho hb hg hat
     refine hK.out _ _ ⟨bc0 BK208, bc1 BK208, bc2 BK208⟩ (fun hHeld => ?_)
     clear hK K
     refine norm_ (a' := ?_) ?_ ?_
     rotate_left
     ·show Act.put _ (some 8) _ = _
      simp only [aP]
      rfl
     exact norm_ (by simp only [putAll, Act.put, List.setIfInBounds_toArray, List.set_cons_zero, List.set_cons_succ]) (hCont (v211, v214, v217) _ ⟨hHeld, (ro HO215), (ro HO218), (bk BK208), (bk BK209), (be2 HB GE208 GE209)⟩)
    skip
    refine Kd.R_lit_step k70 _ 70 ?hg (N := 9) ?hd (xs := ([] : List (S70))) (inner := []) (ok := fun _ => True) (okp := fun _ => True) ?hr ?hp (fun _ hk => hk) trivial (Below.refl _ _) (Nat.le_refl _) (by simp) ?_; (case hd => rfl); (case hg => rfl); (case hr => first | (go_simp; done) | (go_simp; rfl)); (case hp => exact (Reps.none _ _))
    intro v217 w7 ho8 hb hg_ hnew_
    clear hg_ hnew_
    (first | rw [← Ny216.out] at ho8 | (simp only [Int.reduceToNat] at ho8; rw [← Ny216.out] at ho8))
    have n0_ := Aside0.mk (Kd.R_lower ho8 (below_size (be2 HB GE208 GE209)))
    have n1_ := bb BK208 hb
    have n2_ := bb BK209 hb
    have n3_ := Aside0.mk (below_step (be2 HB GE208 GE209) hb)
    clear BK208
    clear BK209
    clear HB
    have HO218 := n0_
    have BK208 := n1_
    have BK209 := n2_
    have HB := n3_
    clear n0_ n1_ n2_ n3_
    clear hb ho8
    refine hK.out _ _ ⟨bc0 BK208, bc1 BK208, bc2 BK208⟩ (fun hHeld => ?_)
    clear hK K
    refine norm_ (a' := ?_) ?_ ?_
    rotate_left
    ·show Act.put _ (some 9) _ = _
     simp only [aP]
     rfl
    refine one_ (i := 2) (N := some 5) (bv 12 0x1df) rfl rfl (one_of HT_.out (by kernel_rfl)) (by decide) (fun K hK => ?_)
    refine Kd.R_lit_step (Kd.int .i64) _ 3 ?hg (N := 5) ?hd (xs := ([] : List Int)) (inner := []) (ok := fun _ => True) (okp := fun _ => True) ?hr ?hp (fun _ hk => hk) trivial (Below.refl _ _) (Nat.le_refl _) (by simp) ?_; (case hd => rfl); (case hg => rfl); (case hr => first | (go_simp; done) | (go_simp; rfl)); (case hp => exact (Reps.none _ _))
    intro v211 w9 ho10 hb hg_ hnew_
    clear hg_ hnew_
    (first | rw [← Ny210.out] at ho10 | (simp only [Int.reduceToNat] at ho10; rw [← Ny210.out] at ho10))
    have n0_ := rb HO218 hb
    have n1_ := Aside0.mk (Kd.R_lower ho10 (below_size (be2 HB GE208 GE209)))
    have n2_ := bb BK208 hb
    have n3_ := bb BK209 hb
    have n4_ := Aside0.mk (below_step (be2 HB GE208 GE209) hb)
    clear HO218
    clear BK208
    clear BK209
    clear HB
    have HO218 := n0_
    have HO212 := n1_
    have BK208 := n2_
    have BK209 := n3_
    have HB := n4_
    clear n0_ n1_ n2_ n3_ n4_
    clear hb ho10
    refine hK.out _ _ ⟨bc0 BK208, bc1 BK208, bc2 BK208⟩ (fun hHeld => ?_)
    clear hK K
    refine norm_ (a' := ?_) ?_ ?_
    rotate_left
    ·show Act.put _ (some 5) _ = _
     simp only [aP]
     rfl
    refine one_ (i := 5) (N := some 8) (bv 12 0x1ff) rfl rfl (one_of HT_.out (by kernel_rfl)) (by decide) (fun K hK => ?_)
    refine Kd.R_append_rows_step (Kd.int .i64) (w0 := w) w.heap.size (by rfl) (.tmp 5) (.tmp 7) 22 3 (.int .i64 0) 8 rfl Try.underlying22 info3 rfl (by decide) (by omega) v211 y210 l0_1 _ _ _ (fun _ => True) (fun _ => False) rfl rfl ?aO ?aR (fun _ _ h => h) (fun _ h => h.elim) ?aF ?aB ?aS ?aL ?_
    (case aR => repeat (first | exact (Kd.C_below HR0_1.out HB.out) | (with_reducible refine Kd.C_alloc ?_ _) | (with_reducible refine Kd.C_drewN ?_ _) | (with_reducible refine Kd.C_drew ?_)))
    (case aB => exact (be2 HB GE208 GE209))
    (case aF => exact (fun _ _ => trivial))
    (case aO => exact (ro HO212))
    (case aS => exact (below_size (be2 HB GE208 GE209)))
    (case aL => have := LMc2.out; omega)
    intro v214 w11 ho hb hg hat
    rw [← Ny213.out] at ho
    have n0_ := Aside0.mk (blk_grown (g := gb208) (o := .cells #[.int .i64 a0_0, .slice A0_1 l0_1.length c0_1, .slice A0_2 l0_2.length c0_2] 25 (0, 0)) (bk BK208) hg (Kd.R_ne HO212.out BK208.out (by decide)))
    have n1_ := Aside0.mk (blk_grown (g := gb209) (o := .cells #[.int .i64 0, .slice none 0 0, .slice none 0 0] 25 (0, 0)) (bk BK209) hg (Kd.R_ne HO212.out BK209.out (by decide)))
    have n2_ := Aside0.mk (Kd.R_over' (ro HO218) (Kd.R_typed (ro HO212)) (by decide) hg)
    have n3_ := Aside0.mk (hb)
    have n4_ := Aside0.mk (ho)
    clear BK208
    clear BK209
    clear HO218
    clear HB
    clear HO212
    have BK208 := n0_
    have BK209 := n1_
    have HO218 := n2_
    have HB := n3_
    have HO215 := n4_
    clear n0_ n1_ n2_ n3_ n4_
    clear ho hb hg hat
    refine hK.out _ _ ⟨bc0 BK208, bc1 BK208, bc2 BK208⟩ (fun hHeld => ?_)
    clear hK K
    refine norm_ (a' := ?_) ?_ ?_
    rotate_left
    ·show Act.put _ (some 8) _ = _
     simp only [aP]
     rfl
    exact norm_ (by simp only [putAll, Act.put, List.setIfInBounds_toArray, List.set_cons_zero, List.set_cons_succ]) (hCont (v211, v214, v217) _ ⟨hHeld, (ro HO215), (ro HO218), (bk BK208), (bk BK209), (be2 HB GE208 GE209)⟩)
   rintro ⟨v211, v214, v217⟩ w12 ⟨hS_, h0_, h1_, h2_, h3_, h4_⟩
   have n0_ : Aside0 (Kd.R (Kd.int .i64) 3 w12 w.heap.size (fun _ => True) v214 y213) := ⟨h0_⟩
   have n1_ : Aside0 (Kd.R k70 70 w12 w.heap.size (fun _ => True) v217 y216) := ⟨h1_⟩
   have n2_ : Aside0 (w12.heap[gb208]? = some (.cells #[.int .i64 a0_0, .slice A0_1 l0_1.length c0_1, .slice A0_2 l0_2.length c0_2] 25 (0, 0))) := ⟨h2_⟩
   have n3_ : Aside0 (w12.heap[gb209]? = some (.cells #[.int .i64 0, .slice none 0 0, .slice none 0 0] 25 (0, 0))) := ⟨h3_⟩
   have n4_ : Aside0 (Below w.heap.size w w12) := ⟨h4_⟩
   clear BK208
   clear BK209
   clear HB
   clear h0_ h1_ h2_ h3_ h4_
   have HO215 := n0_
   have HO218 := n1_
   have BK208 := n2_
   have BK209 := n3_
   have HB := n4_
   clear n0_ n1_ n2_ n3_ n4_
   have hHeld : w12.cell? ⟨gb208, 0, none⟩ = some (.int .i64 a0_0) ∧ w12.cell? ⟨gb208, 1, none⟩ = some (.slice A0_1 l0_1.length c0_1) ∧ w12.cell? ⟨gb208, 2, none⟩ = some (.slice A0_2 l0_2.length c0_2) := hS_
   refine norm_ (a' := ?_) ?_ ?_
   rotate_left
   ·simp only [putAll, Act.put, List.setIfInBounds_toArray, List.set_cons_zero, List.set_cons_succ]
    rfl
   refine one_ (i := 9) (N := some 12) (bv 12 0x3ff) rfl rfl (one_of HT_.out (by kernel_rfl)) (by decide) (fun K hK => ?_)
   refine Kd.R_append_rows_step k70 (w0 := w) w.heap.size (by rfl) (.tmp 9) (.tmp 11) 23 70 (.agg #[(.int .i64 0), (.int .i64 0)]) 16 rfl Try.underlying23 info70 rfl (by decide) (by omega) v217 y216 l0_2 _ _ _ (fun _ => True) (fun _ => False) rfl rfl ?aO ?aR (fun _ _ h => h) (fun _ h => h.elim) ?aF ?aB ?aS ?aL ?_
   (case aR => repeat (first | exact (Kd.C_below HR0_2.out HB.out) | (with_reducible refine Kd.C_alloc ?_ _) | (with_reducible refine Kd.C_drewN ?_ _) | (with_reducible refine Kd.C_drew ?_)))
   (case aB => exact (be2 HB GE208 GE209))
   (case aF => exact (fun _ _ => trivial))
   (case aO => exact (ro HO218))
   (case aS => exact (below_size (be2 HB GE208 GE209)))
   (case aL => have := LMc3.out; omega)
   intro v220 w13 ho hb hg hat
   rw [← Ny219.out] at ho
   have n0_ := Aside0.mk (blk_grown (g := gb208) (o := .cells #[.int .i64 a0_0, .slice A0_1 l0_1.length c0_1, .slice A0_2 l0_2.length c0_2] 25 (0, 0)) (bk BK208) hg (Kd.R_ne HO218.out BK208.out (by decide)))
   have n1_ := Aside0.mk (blk_grown (g := gb209) (o := .cells #[.int .i64 0, .slice none 0 0, .slice none 0 0] 25 (0, 0)) (bk BK209) hg (Kd.R_ne HO218.out BK209.out (by decide)))
   have n2_ := Aside0.mk (Kd.R_over' (ro HO215) (Kd.R_typed (ro HO218)) (by decide) hg)
   have n3_ := Aside0.mk (hb)
   have n4_ := Aside0.mk (ho)
   clear BK208
   clear BK209
   clear HO215
   clear HB
   clear HO218
   have BK208 := n0_
   have BK209 := n1_
   have HO215 := n2_
   have HB := n3_
   have HO221 := n4_
   clear n0_ n1_ n2_ n3_ n4_
   clear ho hb hg hat
   obtain ⟨Ao14, co14, eo14⟩ := Kd.R_slice HO221.out
   (first | subst eo14 | (injection eo14 with f1_ f2_ f3_; have f4_ := f1_.symm; have f5_ := f3_.symm; clear f1_ f2_ f3_; subst f4_; subst f5_))
   obtain ⟨Ao15, co15, eo15⟩ := Kd.R_slice HO215.out
   (first | subst eo15 | (injection eo15 with f1_ f2_ f3_; have f4_ := f1_.symm; have f5_ := f3_.symm; clear f1_ f2_ f3_; subst f4_; subst f5_))
   refine hK.out _ _ ⟨bc0 BK208, bc1 BK208, bc2 BK208⟩ (fun hHeld => ?_)
   clear hK K
   refine norm_ (a' := ?_) ?_ ?_
   rotate_left
   ·show Act.put _ (some 12) _ = _
    simp only [aP]
    rfl
   refine py HT_ 10 13 (bv 12 0x7ff) ?_
   refine one_ (i := 11) (N := none) (bv 12 0xfff) rfl rfl (one_of HT_.out (by kernel_rfl)) (by decide) (fun K hK => ?_)
   have hs16 : w13.cell? ⟨gb209, 0, none⟩ = some (.int .i64 0) := bc0 BK209
   have hfs16 := blk_frozen BK209.out 0
   have hns16_0 := NB208_209.out
   have hms16_0 := NB209_208.out
   have hs17 : w13.cell? ⟨gb209, 1, none⟩ = some (.slice none 0 0) := bc1 BK209
   have hfs17 := blk_frozen BK209.out 1
   have hns17_0 := NB208_209.out
   have hms17_0 := NB209_208.out
   have hs18 : w13.cell? ⟨gb209, 2, none⟩ = some (.slice none 0 0) := bc2 BK209
   have hfs18 := blk_frozen BK209.out 2
   have hns18_0 := NB208_209.out
   have hms18_0 := NB209_208.out
   refine skip_ (w1 := ?_) (by rfl) rfl ?_ ?_
   rotate_left
   ·go_simp
    rfl
   refine hK.out _ _ ⟨((cell_far (p := ⟨gb209, _, none⟩) NB208_209.out _).trans (((cell_far (p := ⟨gb209, _, none⟩) NB208_209.out _).trans (((cell_far (p := ⟨gb209, _, none⟩) NB208_209.out _).trans (hHeld.1)))))), ((cell_far (p := ⟨gb209, _, none⟩) NB208_209.out _).trans (((cell_far (p := ⟨gb209, _, none⟩) NB208_209.out _).trans (((cell_far (p := ⟨gb209, _, none⟩) NB208_209.out _).trans (hHeld.2.1)))))), ((cell_far (p := ⟨gb209, _, none⟩) NB208_209.out _).trans (((cell_far (p := ⟨gb209, _, none⟩) NB208_209.out _).trans (((cell_far (p := ⟨gb209, _, none⟩) NB208_209.out _).trans (hHeld.2.2))))))⟩ (fun hHeld => ?_)
   clear hK K
   refine done_ (done_of HT_.out (by kernel_rfl)) ?_
   try go_wp2
   refine bodyPost_ret (results_cell_row rfl _ _ gb209 25 #[.int .i64 a0_0, .slice Ao15 y213.length co15, .slice Ao14 y219.length co14] (0, 0) _ rfl (by (with_reducible repeat (first | refine blk_drewN ?_ _ | refine blk_drew ?_ | refine blk_alloc ?_ _)); refine blk_put (cs := #[.int .i64 a0_0, .slice Ao15 y213.length co15, .slice none 0 0]) ?_ 2 _ rfl; (with_reducible repeat (first | refine blk_drewN ?_ _ | refine blk_drew ?_ | refine blk_alloc ?_ _)); refine blk_put (cs := #[.int .i64 a0_0, .slice none 0 0, .slice none 0 0]) ?_ 1 _ rfl; (with_reducible repeat (first | refine blk_drewN ?_ _ | refine blk_drew ?_ | refine blk_alloc ?_ _)); refine blk_put (cs := #[.int .i64 0, .slice none 0 0, .slice none 0 0]) ?_ 0 _ rfl; (with_reducible repeat (first | refine blk_drewN ?_ _ | refine blk_drew ?_ | refine blk_alloc ?_ _)); exact BK209.out) Try.underlying25 rfl (by kernel_rfl)) rfl ?_
   exact ⟨_, _, er, by (with_reducible repeat (first | apply Kd.R_alloc | apply Kd.R_drewN | apply Kd.R_drew)); exact Kd.R_mono (Kd.R_far (p := ⟨gb209, 2, none⟩) (Kd.R_far (p := ⟨gb209, 1, none⟩) (Kd.R_far (p := ⟨gb209, 0, none⟩) (Kd.R_types HO215.out BK209.out (by decide)) (fun _ hk => hk.2) (.int .i64 a0_0)) (fun _ hk => hk.2) (.slice Ao15 y213.length co15)) (fun _ hk => hk.2) (.slice Ao14 y219.length co14)) (fun _ hk => trivial), by (with_reducible repeat (first | apply Kd.R_alloc | apply Kd.R_drewN | apply Kd.R_drew)); exact Kd.R_mono (Kd.R_far (p := ⟨gb209, 2, none⟩) (Kd.R_far (p := ⟨gb209, 1, none⟩) (Kd.R_far (p := ⟨gb209, 0, none⟩) (Kd.R_types HO221.out BK209.out (by decide)) (fun _ hk => hk.2) (.int .i64 a0_0)) (fun _ hk => hk.2) (.slice Ao15 y213.length co15)) (fun _ hk => hk.2) (.slice Ao14 y219.length co14)) (fun _ hk => trivial), be2 HB GE208 GE209⟩
  rw [if_neg c3] at H
  exact absurd H (by simp)
 rw [if_neg c2] at H
 exact absurd H (by simp)

/-! ### spec_l06Set: function 97 -/
def spec_l06Set.f (k : Nat) (a0_0 : Int) (l0_1 : List Int) (l0_2 : List (S70)) (a1 : Int) (a2 : Bool) (a3 : Int) : Option (Int × List Int × (List (S70)) × Bool) := (spec_AgesOk.f k a0_0 l0_1 l0_2).bind fun t224 => (if t224 = true then (if a1 < 0 then (some (0, ([] : List Int), ([] : List (S70)), false)) else (if a1 ≥ (l0_1.length : Int) then (some (0, ([] : List Int), ([] : List (S70)), false)) else (if 0 ≤ a1 then (if a1 < (l0_1.length : Int) then (if (((rd l0_1 a1) != (-1)) != a2) = true then (some (0, ([] : List Int), ([] : List (S70)), false)) else ((spec_l06Copy.f a0_0 l0_1 l0_2).bind fun bt226 => (if a1 < (bt226.2.1.length : Int) then (some (bt226.1, (bt226.2.1.set (a1 : Int).toNat a3), bt226.2.2, true)) else (none)))) else (none)) else (none)))) else (some (0, ([] : List Int), ([] : List (S70)), false)))
theorem spec_l06Set.mono : ∀ a0 a1 a2 a3 a4 a5 k, LeO (spec_l06Set.f k a0 a1 a2 a3 a4 a5) (spec_l06Set.f (k + 1) a0 a1 a2 a3 a4 a5) := by
 intro a0 a1 a2 a3 a4 a5 k
 unfold spec_l06Set.f
 repeat' first
   | (with_reducible exact spec_AgesOk.mono _ _ _ _)
   | (with_reducible exact LeO.refl _)
   | (with_reducible exact LeO.none _)
   | (with_reducible refine LeO.ite ?_ ?_)
   | (with_reducible refine LeO.bind ?_ (fun _ => ?_))
   | exact spec_AgesOk.mono _ _ _ _
   | exact LeO.none _
   | refine LeO.ite ?_ ?_
   | refine LeO.bind ?_ (fun _ => ?_)
set_option maxHeartbeats 8000000 in
set_option maxRecDepth 100000 in
theorem spec_l06Set.calls (k : Nat) (a0_0 : Int) (A0_1 : Option Addr) (c0_1 : Nat) (l0_1 : List Int) (A0_2 : Option Addr) (c0_2 : Nat) (l0_2 : List (S70)) (a1 : Int) (a2 : Bool) (a3 : Int) (r1 : Int) (r2 : List Int) (r3 : List (S70)) (r4 : Bool) (w : World) (hr0_1 : Kd.C (Kd.int .i64) w A0_1 l0_1.length l0_1) (hc0_1 : l0_1.length ≤ c0_1) (hr0_2 : Kd.C k70 w A0_2 l0_2.length l0_2) (hc0_2 : l0_2.length ≤ c0_2) (h : spec_l06Set.f k a0_0 l0_1 l0_2 a1 a2 a3 = some (r1, r2, r3, r4)) :
  Calls Try.prog 97 #[.agg #[.int .i64 a0_0, .slice A0_1 l0_1.length c0_1, .slice A0_2 l0_2.length c0_2], .int .i64 a1, .bool a2, .int .i64 a3] w fun e w' => ∃ v1_ v2_ : Value, e = .returned (.tuple #[.agg #[.int .i64 r1, v1_, v2_], .bool r4]) ∧ Kd.R (Kd.int .i64) 3 w' w.heap.size (fun _ => True) v1_ r2 ∧ Kd.R k70 70 w' w.heap.size (fun _ => True) v2_ r3 ∧ Below w.heap.size w w' := by
 have hu25 := Try.underlying25
 have HR0_1 := Aside0.mk hr0_1
 have HC0_1 := Aside0.mk hc0_1
 clear hr0_1 hc0_1
 have HR0_2 := Aside0.mk hr0_2
 have HC0_2 := Aside0.mk hc0_2
 clear hr0_2 hc0_2
 have HB := Aside0.mk (Below.refl w.heap.size w)
 have H : ((spec_AgesOk.f k a0_0 l0_1 l0_2).bind fun t224 => (if t224 = true then (if a1 < 0 then (some (0, ([] : List Int), ([] : List (S70)), false)) else (if a1 ≥ (l0_1.length : Int) then (some (0, ([] : List Int), ([] : List (S70)), false)) else (if 0 ≤ a1 then (if a1 < (l0_1.length : Int) then (if (((rd l0_1 a1) != (-1)) != a2) = true then (some (0, ([] : List Int), ([] : List (S70)), false)) else ((spec_l06Copy.f a0_0 l0_1 l0_2).bind fun bt226 => (if a1 < (bt226.2.1.length : Int) then (some (bt226.1, (bt226.2.1.set (a1 : Int).toNat a3), bt226.2.2, true)) else (none)))) else (none)) else (none)))) else (some (0, ([] : List Int), ([] : List (S70)), false)))) = some (r1, r2, r3, r4) := h
 clear h
 replace H := Option.bind_eq_some_iff.mp H
 obtain ⟨t224, A50, H⟩ := H
 replace H : (if t224 = true then (if a1 < 0 then (some (0, ([] : List Int), ([] : List (S70)), false)) else (if a1 ≥ (l0_1.length : Int) then (some (0, ([] : List Int), ([] : List (S70)), false)) else (if 0 ≤ a1 then (if a1 < (l0_1.length : Int) then (if (((rd l0_1 a1) != (-1)) != a2) = true then (some (0, ([] : List Int), ([] : List (S70)), false)) else ((spec_l06Copy.f a0_0 l0_1 l0_2).bind fun bt226 => (if a1 < (bt226.2.1.length : Int) then (some (bt226.1, (bt226.2.1.set (a1 : Int).toNat a3), bt226.2.2, true)) else (none)))) else (none)) else (none)))) else (some (0, ([] : List Int), ([] : List (S70)), false))) = some (r1, r2, r3, r4) := H
 have A5 := Aside0.mk A50
 clear A50
 by_cases c6 : t224 = true
 ·subst c6
  have H1 : (if a1 < 0 then (some (0, ([] : List Int), ([] : List (S70)), false)) else (if a1 ≥ (l0_1.length : Int) then (some (0, ([] : List Int), ([] : List (S70)), false)) else (if 0 ≤ a1 then (if a1 < (l0_1.length : Int) then (if (((rd l0_1 a1) != (-1)) != a2) = true then (some (0, ([] : List Int), ([] : List (S70)), false)) else ((spec_l06Copy.f a0_0 l0_1 l0_2).bind fun bt226 => (if a1 < (bt226.2.1.length : Int) then (some (bt226.1, (bt226.2.1.set (a1 : Int).toNat a3), bt226.2.2, true)) else (none)))) else (none)) else (none)))) = some (r1, r2, r3, r4) := by rw [if_pos rfl] at H; exact H
  clear H
  have H := H1
  clear H1
  by_cases c7 : a1 < 0
  ·rw [if_pos c7] at H
   have c7b0 : decide (a1 < 0) = true := decide_eq_true c7
   clear c7
   simp only [Option.some.injEq, Prod.mk.injEq] at H
   obtain ⟨rfl, rfl, rfl, rfl⟩ := H
   go_enter Try.func97, Try.ntmps97
   go_wp2_with (first | ((with_reducible refine gate_dst (N := 4) rfl ?_); (try (refine gate_guard (by rfl) ?_; dsimp only)); refine bx 4 #[.int .i64 a0_0, .slice A0_1 l0_1.length c0_1, .slice A0_2 l0_2.length c0_2] 25 ?_; intro gb222 hg w8 hbox hb; have BK222 := am hbox; have GW222 := gs0 hg HB; have GE222 := gs0 hg HB; replace HB := s0 HB hb; clear hb hbox hg) | ((with_reducible refine gate_dst (N := 8) rfl ?_); (try (refine gate_guard (by rfl) ?_; dsimp only)); refine bx 8 #[.int .i64 0, .slice none 0 0, .slice none 0 0] 25 ?_; intro gb223 hg w9 hbox hb; have BK223 := am hbox; have GW223 := gs1 hg HB GE222; have GE223 := gs1 hg HB GE222; replace HB := Aside0.mk (below_step (be1 HB GE222) hb); have NB222_223 := Aside0.mk ((by rw [hg]; exact Nat.ne_of_lt (bl BK222) : gb222 ≠ gb223)); have NB223_222 := Aside0.mk ((by rw [hg]; exact Nat.ne_of_gt (bl BK222) : gb223 ≠ gb222)); replace BK222 := bb BK222 hb; clear hb hbox hg; have hnb10 := NB222_223.out; have hnc10 := NB223_222.out; have hcz11_0 := bz3 BK222) | ((with_reducible refine gate_callee (f := 53) rfl ?_); refine gl 12 Try.func53 #[.agg #[.int .i64 a0_0, .slice A0_1 l0_1.length c0_1, .slice A0_2 l0_2.length c0_2]] ?_; (with_reducible refine (spec_AgesOk.calls k a0_0 _ _ l0_1 _ _ l0_2 true _ (cb HR0_1 HB) HC0_1.out (cb HR0_2 HB) HC0_2.out A5.out).mono ?_); rintro e w12 ⟨rfl, hb⟩; refine ⟨_, rfl, ?_⟩; replace BK222 := bb BK222 hb; replace BK223 := bb BK223 hb; replace HB := Aside0.mk (below_step (be2 HB GE222 GE223) hb); (try clear hb); have hcz13_0 := bz3 BK223))
   refine bodyPost_ret (results_ct rfl _ _ gb223 25 #[.int .i64 0, .slice none 0 0, .slice none 0 0] (0, 0) _ rfl (by (with_reducible repeat (first | refine blk_drewN ?_ _ | refine blk_drew ?_ | refine blk_alloc ?_ _)); refine blk_put (cs := #[.int .i64 0, .slice none 0 0, .slice none 0 0]) ?_ 2 _ rfl; (with_reducible repeat (first | refine blk_drewN ?_ _ | refine blk_drew ?_ | refine blk_alloc ?_ _)); refine blk_put (cs := #[.int .i64 0, .slice none 0 0, .slice none 0 0]) ?_ 1 _ rfl; (with_reducible repeat (first | refine blk_drewN ?_ _ | refine blk_drew ?_ | refine blk_alloc ?_ _)); refine blk_put (cs := #[.int .i64 0, .slice none 0 0, .slice none 0 0]) ?_ 0 _ rfl; (with_reducible repeat (first | refine blk_drewN ?_ _ | refine blk_drew ?_ | refine blk_alloc ?_ _)); exact BK223.out) Try.underlying25 rfl (by kernel_rfl)) rfl ?_
   exact ⟨_, _, er, by first | exact Kd.R_nil _ _ _ _ _ | exact Kd.N_nil _ _ _ _ _ | exact Kd.V_nil _ _ _ _ _ | exact Kd.Q_nil _ _ _ _ _ | exact Kd.S_nil _ _ _ _ _, by first | exact Kd.R_nil _ _ _ _ _ | exact Kd.N_nil _ _ _ _ _ | exact Kd.V_nil _ _ _ _ _ | exact Kd.Q_nil _ _ _ _ _ | exact Kd.S_nil _ _ _ _ _, be2 HB GE222 GE223⟩
  rw [if_neg c7] at H
  have c7b0 : decide (a1 < 0) = false := decide_eq_false c7
  clear c7
  by_cases c14 : a1 ≥ (l0_1.length : Int)
  ·rw [if_pos c14] at H
   have c14b0 : decide ((l0_1.length : Int) ≤ a1) = true := decide_eq_true c14
   clear c14
   simp only [Option.some.injEq, Prod.mk.injEq] at H
   obtain ⟨rfl, rfl, rfl, rfl⟩ := H
   go_enter Try.func97, Try.ntmps97
   go_wp2_with (first | ((with_reducible refine gate_dst (N := 4) rfl ?_); (try (refine gate_guard (by rfl) ?_; dsimp only)); refine bx 4 #[.int .i64 a0_0, .slice A0_1 l0_1.length c0_1, .slice A0_2 l0_2.length c0_2] 25 ?_; intro gb222 hg w15 hbox hb; have BK222 := am hbox; have GW222 := gs0 hg HB; have GE222 := gs0 hg HB; replace HB := s0 HB hb; clear hb hbox hg) | ((with_reducible refine gate_dst (N := 8) rfl ?_); (try (refine gate_guard (by rfl) ?_; dsimp only)); refine bx 8 #[.int .i64 0, .slice none 0 0, .slice none 0 0] 25 ?_; intro gb223 hg w16 hbox hb; have BK223 := am hbox; have GW223 := gs1 hg HB GE222; have GE223 := gs1 hg HB GE222; replace HB := Aside0.mk (below_step (be1 HB GE222) hb); have NB222_223 := Aside0.mk ((by rw [hg]; exact Nat.ne_of_lt (bl BK222) : gb222 ≠ gb223)); have NB223_222 := Aside0.mk ((by rw [hg]; exact Nat.ne_of_gt (bl BK222) : gb223 ≠ gb222)); replace BK222 := bb BK222 hb; clear hb hbox hg; have hnb17 := NB222_223.out; have hnc17 := NB223_222.out; have hcz18_0 := bz3 BK222) | ((with_reducible refine gate_callee (f := 53) rfl ?_); refine gl 12 Try.func53 #[.agg #[.int .i64 a0_0, .slice A0_1 l0_1.length c0_1, .slice A0_2 l0_2.length c0_2]] ?_; (with_reducible refine (spec_AgesOk.calls k a0_0 _ _ l0_1 _ _ l0_2 true _ (cb HR0_1 HB) HC0_1.out (cb HR0_2 HB) HC0_2.out A5.out).mono ?_); rintro e w19 ⟨rfl, hb⟩; refine ⟨_, rfl, ?_⟩; replace BK222 := bb BK222 hb; replace BK223 := bb BK223 hb; replace HB := Aside0.mk (below_step (be2 HB GE222 GE223) hb); (try clear hb); have hcz20_0 := bz3 BK222; have hcz21_0 := bz3 BK223))
   refine bodyPost_ret (results_ct rfl _ _ gb223 25 #[.int .i64 0, .slice none 0 0, .slice none 0 0] (0, 0) _ rfl (by (with_reducible repeat (first | refine blk_drewN ?_ _ | refine blk_drew ?_ | refine blk_alloc ?_ _)); refine blk_put (cs := #[.int .i64 0, .slice none 0 0, .slice none 0 0]) ?_ 2 _ rfl; (with_reducible repeat (first | refine blk_drewN ?_ _ | refine blk_drew ?_ | refine blk_alloc ?_ _)); refine blk_put (cs := #[.int .i64 0, .slice none 0 0, .slice none 0 0]) ?_ 1 _ rfl; (with_reducible repeat (first | refine blk_drewN ?_ _ | refine blk_drew ?_ | refine blk_alloc ?_ _)); refine blk_put (cs := #[.int .i64 0, .slice none 0 0, .slice none 0 0]) ?_ 0 _ rfl; (with_reducible repeat (first | refine blk_drewN ?_ _ | refine blk_drew ?_ | refine blk_alloc ?_ _)); exact BK223.out) Try.underlying25 rfl (by kernel_rfl)) rfl ?_
   exact ⟨_, _, er, by first | exact Kd.R_nil _ _ _ _ _ | exact Kd.N_nil _ _ _ _ _ | exact Kd.V_nil _ _ _ _ _ | exact Kd.Q_nil _ _ _ _ _ | exact Kd.S_nil _ _ _ _ _, by first | exact Kd.R_nil _ _ _ _ _ | exact Kd.N_nil _ _ _ _ _ | exact Kd.V_nil _ _ _ _ _ | exact Kd.Q_nil _ _ _ _ _ | exact Kd.S_nil _ _ _ _ _, be2 HB GE222 GE223⟩
  rw [if_neg c14] at H
  have c14b0 : decide ((l0_1.length : Int) ≤ a1) = false := decide_eq_false c14
  clear c14
  by_cases c22 : 0 ≤ a1
  ·rw [if_pos c22] at H
   have c22b0 : decide (0 ≤ a1) = true := decide_eq_true c22
   clear c22
   by_cases c23 : a1 < (l0_1.length : Int)
   ·rw [if_pos c23] at H
    have c23b0 : decide (a1 < (l0_1.length : Int)) = true := decide_eq_true c23
    clear c23
    by_cases c24 : (((rd l0_1 a1) != (-1)) != a2) = true
    ·rw [if_pos c24] at H
     have c24b0 : (((rd l0_1 a1) != (-1)) != a2) = true := c24
     (try (have c24b1 : decide (((rd l0_1 a1) != (-1)) = a2) = false := by simpa using c24))
     (try (have c24b2 : (((rd l0_1 a1) != (-1)) == a2) = false := by simpa using c24))
     (try (have c24b3 : ¬ (((rd l0_1 a1) != (-1)) = a2) := by simpa using c24))
     clear c24
     simp only [Option.some.injEq, Prod.mk.injEq] at H
     obtain ⟨rfl, rfl, rfl, rfl⟩ := H
     go_enter Try.func97, Try.ntmps97
     go_wp2_with (first | ((with_reducible refine gate_dst (N := 4) rfl ?_); (try (refine gate_guard (by rfl) ?_; dsimp only)); refine bx 4 #[.int .i64 a0_0, .slice A0_1 l0_1.length c0_1, .slice A0_2 l0_2.length c0_2] 25 ?_; intro gb222 hg w25 hbox hb; have BK222 := am hbox; have GW222 := gs0 hg HB; have GE222 := gs0 hg HB; replace HB := s0 HB hb; clear hb hbox hg) | ((with_reducible refine gate_dst (N := 8) rfl ?_); (try (refine gate_guard (by rfl) ?_; dsimp only)); refine bx 8 #[.int .i64 0, .slice none 0 0, .slice none 0 0] 25 ?_; intro gb223 hg w26 hbox hb; have BK223 := am hbox; have GW223 := gs1 hg HB GE222; have GE223 := gs1 hg HB GE222; replace HB := Aside0.mk (below_step (be1 HB GE222) hb); have NB222_223 := Aside0.mk ((by rw [hg]; exact Nat.ne_of_lt (bl BK222) : gb222 ≠ gb223)); have NB223_222 := Aside0.mk ((by rw [hg]; exact Nat.ne_of_gt (bl BK222) : gb223 ≠ gb222)); replace BK222 := bb BK222 hb; clear hb hbox hg; have hnb27 := NB222_223.out; have hnc27 := NB223_222.out; have hcz28_0 := bz3 BK222) | ((with_reducible refine gate_callee (f := 53) rfl ?_); refine gl 12 Try.func53 #[.agg #[.int .i64 a0_0, .slice A0_1 l0_1.length c0_1, .slice A0_2 l0_2.length c0_2]] ?_; (with_reducible refine (spec_AgesOk.calls k a0_0 _ _ l0_1 _ _ l0_2 true _ (cb HR0_1 HB) HC0_1.out (cb HR0_2 HB) HC0_2.out A5.out).mono ?_); rintro e w29 ⟨rfl, hb⟩; refine ⟨_, rfl, ?_⟩; replace BK222 := bb BK222 hb; replace BK223 := bb BK223 hb; replace HB := Aside0.mk (below_step (be2 HB GE222 GE223) hb); (try clear hb); have hcz30_0 := bz3 BK222; have p225 : 0 ≤ (a1 : Int) := od; have q225 : a1 < (l0_1.length : Int) := od; obtain ⟨ad225, e225, hx225_0⟩ := Kd.at_int HR0_1.out a1 p225 q225; cases e225; replace hx225_0 := hc HB hx225_0; replace p225 := eq_true p225; replace q225 := eq_true q225; have hcz31_0 := bz3 BK223))
     refine bodyPost_ret (results_ct rfl _ _ gb223 25 #[.int .i64 0, .slice none 0 0, .slice none 0 0] (0, 0) _ rfl (by (with_reducible repeat (first | refine blk_drewN ?_ _ | refine blk_drew ?_ | refine blk_alloc ?_ _)); refine blk_put (cs := #[.int .i64 0, .slice none 0 0, .slice none 0 0]) ?_ 2 _ rfl; (with_reducible repeat (first | refine blk_drewN ?_ _ | refine blk_drew ?_ | refine blk_alloc ?_ _)); refine blk_put (cs := #[.int .i64 0, .slice none 0 0, .slice none 0 0]) ?_ 1 _ rfl; (with_reducible repeat (first | refine blk_drewN ?_ _ | refine blk_drew ?_ | refine blk_alloc ?_ _)); refine blk_put (cs := #[.int .i64 0, .slice none 0 0, .slice none 0 0]) ?_ 0 _ rfl; (with_reducible repeat (first | refine blk_drewN ?_ _ | refine blk_drew ?_ | refine blk_alloc ?_ _)); exact BK223.out) Try.underlying25 rfl (by kernel_rfl)) rfl ?_
     exact ⟨_, _, er, by first | exact Kd.R_nil _ _ _ _ _ | exact Kd.N_nil _ _ _ _ _ | exact Kd.V_nil _ _ _ _ _ | exact Kd.Q_nil _ _ _ _ _ | exact Kd.S_nil _ _ _ _ _, by first | exact Kd.R_nil _ _ _ _ _ | exact Kd.N_nil _ _ _ _ _ | exact Kd.V_nil _ _ _ _ _ | exact Kd.Q_nil _ _ _ _ _ | exact Kd.S_nil _ _ _ _ _, be2 HB GE222 GE223⟩
    rw [if_neg c24] at H
    have c24b0 : (((rd l0_1 a1) != (-1)) != a2) = false := by simpa using c24
    (try (have c24b1 : decide (((rd l0_1 a1) != (-1)) = a2) = true := by simpa using c24))
    (try (have c24b2 : (((rd l0_1 a1) != (-1)) == a2) = true := by simpa using c24))
    clear c24
    replace H := Option.bind_eq_some_iff.mp H
    obtain ⟨⟨t226, t227, t230⟩, A320, H⟩ := H
    replace H : (if a1 < (t227.length : Int) then (some (t226, (t227.set (a1 : Int).toNat a3), t230, true)) else (none)) = some (r1, r2, r3, r4) := H
    have A32 := Aside0.mk A320
    clear A320
    by_cases c33 : a1 < (t227.length : Int)
    ·rw [if_pos c33] at H
     have c33b0 : decide (a1 < (t227.length : Int)) = true := decide_eq_true c33
     clear c33
     obtain ⟨y234, hy234⟩ : ∃ y_ : List Int, y_ = (t227.set (a1 : Int).toNat a3) := ⟨_, rfl⟩
     replace H : (some (t226, y234, t230, true)) = some (r1, r2, r3, r4) := by first | (rw [hy234]; with_reducible exact H) | (have H2_ := (Option.bind_some _ _).symm.trans H; rw [hy234]; with_reducible exact H2_) | (have H2_ := (Option.bind_some _ _).symm.trans H; with_reducible exact H2_) | with_reducible exact H | (rw [hy234]; exact H) | exact H
     have Ny234 := Aside0.mk hy234
     clear hy234
     simp only [Option.some.injEq, Prod.mk.injEq] at H
     obtain ⟨rfl, rfl, rfl, rfl⟩ := H
     go_enter Try.func97, Try.ntmps97
     go_wp2_with (first | ((with_reducible refine gate_dst (N := 4) rfl ?_); (try (refine gate_guard (by rfl) ?_; dsimp only)); refine bx 4 #[.int .i64 a0_0, .slice A0_1 l0_1.length c0_1, .slice A0_2 l0_2.length c0_2] 25 ?_; intro gb222 hg w35 hbox hb; have BK222 := am hbox; have GW222 := gs0 hg HB; have GE222 := gs0 hg HB; replace HB := s0 HB hb; clear hb hbox hg) | ((with_reducible refine gate_dst (N := 8) rfl ?_); (try (refine gate_guard (by rfl) ?_; dsimp only)); refine bx 8 #[.int .i64 0, .slice none 0 0, .slice none 0 0] 25 ?_; intro gb223 hg w36 hbox hb; have BK223 := am hbox; have GW223 := gs1 hg HB GE222; have GE223 := gs1 hg HB GE222; replace HB := Aside0.mk (below_step (be1 HB GE222) hb); have NB222_223 := Aside0.mk ((by rw [hg]; exact Nat.ne_of_lt (bl BK222) : gb222 ≠ gb223)); have NB223_222 := Aside0.mk ((by rw [hg]; exact Nat.ne_of_gt (bl BK222) : gb223 ≠ gb222)); replace BK222 := bb BK222 hb; clear hb hbox hg; have hnb37 := NB222_223.out; have hnc37 := NB223_222.out; have hcz38_0 := bz3 BK222) | ((with_reducible refine gate_callee (f := 53) rfl ?_); refine gl 12 Try.func53 #[.agg #[.int .i64 a0_0, .slice A0_1 l0_1.length c0_1, .slice A0_2 l0_2.length c0_2]] ?_; (with_reducible refine (spec_AgesOk.calls k a0_0 _ _ l0_1 _ _ l0_2 true _ (cb HR0_1 HB) HC0_1.out (cb HR0_2 HB) HC0_2.out A5.out).mono ?_); rintro e w39 ⟨rfl, hb⟩; refine ⟨_, rfl, ?_⟩; replace BK222 := bb BK222 hb; replace BK223 := bb BK223 hb; replace HB := Aside0.mk (below_step (be2 HB GE222 GE223) hb); (try clear hb); have hcz40_0 := bz3 BK222; have p225 : 0 ≤ (a1 : Int) := od; have q225 : a1 < (l0_1.length : Int) := od; obtain ⟨ad225, e225, hx225_0⟩ := Kd.at_int HR0_1.out a1 p225 q225; cases e225; replace hx225_0 := hc HB hx225_0; replace p225 := eq_true p225; replace q225 := eq_true q225) | ((with_reducible refine gate_callee (f := 95) rfl ?_); refine gl 37 Try.func95 #[.agg #[.int .i64 a0_0, .slice (some ad225) l0_1.length c0_1, .slice A0_2 l0_2.length c0_2]] ?_; (with_reducible refine (spec_l06Copy.calls a0_0 _ _ l0_1 _ _ l0_2 t226 t227 t230 _ (cb HR0_1 HB) HC0_1.out (cb HR0_2 HB) HC0_2.out A32.out).mono ?_); rintro e w41 ⟨v228, v231, rfl, ho0, ho1, hb⟩; refine ⟨_, rfl, ?_⟩; have HO229 := Aside0.mk (Kd.R_lower ho0 (below_size (be2 HB GE222 GE223))); have HO232 := Aside0.mk (Kd.R_lower ho1 (below_size (be2 HB GE222 GE223))); replace BK222 := bb BK222 hb; replace BK223 := bb BK223 hb; replace HB := Aside0.mk (below_step (be2 HB GE222 GE223) hb); (try clear hb); (try clear ho0); (try clear ho1)) | ((with_reducible refine gate_dst (N := 10) rfl ?_); (try (refine gate_guard (by rfl) ?_; dsimp only)); refine bx 10 #[.int .i64 0, .slice none 0 0, .slice none 0 0] 25 ?_; intro gb233 hg w42 hbox hb; replace HO229 := rb HO229 hb; replace HO232 := rb HO232 hb; have BK233 := am hbox; have GW233 := gs2 hg HB GE222 GE223; have GE233 := gs2 hg HB GE222 GE223; replace HB := Aside0.mk (below_step (be2 HB GE222 GE223) hb); have NB222_233 := Aside0.mk ((by rw [hg]; exact Nat.ne_of_lt (bl BK222) : gb222 ≠ gb233)); have NB233_222 := Aside0.mk ((by rw [hg]; exact Nat.ne_of_gt (bl BK222) : gb233 ≠ gb222)); replace BK222 := bb BK222 hb; have NB223_233 := Aside0.mk ((by rw [hg]; exact Nat.ne_of_lt (bl BK223) : gb223 ≠ gb233)); have NB233_223 := Aside0.mk ((by rw [hg]; exact Nat.ne_of_gt (bl BK223) : gb233 ≠ gb223)); replace BK223 := bb BK223 hb; clear hb hbox hg; have hnb43 := NB233_222.out; have hnc43 := NB222_233.out; have hnb44 := NB233_223.out; have hnc44 := NB223_233.out; have hcz45_0 := bz3 BK233; obtain ⟨Ao46, co46, eo46⟩ := Kd.R_slice HO229.out; subst eo46; obtain ⟨Ao47, co47, eo47⟩ := Kd.R_slice HO232.out; subst eo47) | ((with_reducible refine gate_store (t := 25) (p := 10) rfl ?_); refine store_event (t := 25) (p := 10) (v := ?vo_w48) (w1 := (((w42.setCell ⟨gb233, 0, none⟩ (.int .i64 t226)).setCell ⟨gb233, 1, none⟩ (.slice Ao46 t227.length co46)).setCell ⟨gb233, 2, none⟩ (.slice Ao47 t230.length co47))) ?hg ?ho ?hn ?hr ?_; (case ho => rfl); (case hg => rfl); (case hn => rfl); (case hr => first | (go_simp; done) | (go_simp; rfl)); intro w48 hw; have n0_ : Aside0 (Kd.R (Kd.int .i64) 3 w48 w.heap.size (fun _ => True) (.slice Ao46 t227.length co46) t227) := ⟨(by rw [hw]; exact (by (with_reducible repeat (first | apply Kd.R_alloc | apply Kd.R_drewN | apply Kd.R_drew)); exact Kd.R_mono (Kd.R_far (p := ⟨gb233, 2, none⟩) (Kd.R_far (p := ⟨gb233, 1, none⟩) (Kd.R_far (p := ⟨gb233, 0, none⟩) (Kd.R_types HO229.out BK233.out (by decide)) (fun _ hk => hk.2) (.int .i64 t226)) (fun _ hk => hk.2) (.slice Ao46 t227.length co46)) (fun _ hk => hk.2) (.slice Ao47 t230.length co47)) (fun _ hk => trivial)))⟩; have n1_ : Aside0 (Kd.R k70 70 w48 w.heap.size (fun _ => True) (.slice Ao47 t230.length co47) t230) := ⟨(by rw [hw]; exact (by (with_reducible repeat (first | apply Kd.R_alloc | apply Kd.R_drewN | apply Kd.R_drew)); exact Kd.R_mono (Kd.R_far (p := ⟨gb233, 2, none⟩) (Kd.R_far (p := ⟨gb233, 1, none⟩) (Kd.R_far (p := ⟨gb233, 0, none⟩) (Kd.R_types HO232.out BK233.out (by decide)) (fun _ hk => hk.2) (.int .i64 t226)) (fun _ hk => hk.2) (.slice Ao46 t227.length co46)) (fun _ hk => hk.2) (.slice Ao47 t230.length co47)) (fun _ hk => trivial)))⟩; have n2_ : Aside0 (w48.heap[gb222]? = some (.cells #[.int .i64 a0_0, .slice (some ad225) l0_1.length c0_1, .slice A0_2 l0_2.length c0_2] 25 (0, 0))) := ⟨(by rw [hw]; exact (bf1 BK222 NB222_233))⟩; have n3_ : Aside0 (w48.heap[gb223]? = some (.cells #[.int .i64 0, .slice none 0 0, .slice none 0 0] 25 (0, 0))) := ⟨(by rw [hw]; exact (bf1 BK223 NB223_233))⟩; have n4_ : Aside0 (w48.heap[gb233]? = some (.cells #[.int .i64 t226, .slice Ao46 t227.length co46, .slice Ao47 t230.length co47] 25 (0, 0))) := ⟨(by rw [hw]; exact (by (with_reducible repeat (first | refine blk_drewN ?_ _ | refine blk_drew ?_ | refine blk_alloc ?_ _)); refine blk_put (cs := #[.int .i64 t226, .slice Ao46 t227.length co46, .slice none 0 0]) ?_ 2 _ rfl; (with_reducible repeat (first | refine blk_drewN ?_ _ | refine blk_drew ?_ | refine blk_alloc ?_ _)); refine blk_put (cs := #[.int .i64 t226, .slice none 0 0, .slice none 0 0]) ?_ 1 _ rfl; (with_reducible repeat (first | refine blk_drewN ?_ _ | refine blk_drew ?_ | refine blk_alloc ?_ _)); refine blk_put (cs := #[.int .i64 0, .slice none 0 0, .slice none 0 0]) ?_ 0 _ rfl; (with_reducible repeat (first | refine blk_drewN ?_ _ | refine blk_drew ?_ | refine blk_alloc ?_ _)); exact BK233.out))⟩; have n5_ : Aside0 (Below w.heap.size w w48) := ⟨(by rw [hw]; exact (be3 HB GE222 GE223 GE233))⟩; clear hw; clear HO229; clear HO232; clear BK222; clear BK223; clear BK233; clear HB; have HO229 := n0_; have HO232 := n1_; have BK222 := n2_; have BK223 := n3_; have BK233 := n4_; have HB := n5_; clear n0_ n1_ n2_ n3_ n4_ n5_; have hcz49_0 := bz3 BK233; have p34 : 0 ≤ (a1 : Int) := od; have q34 : (a1 : Int) < ((t227.length : Int) : Int) := od; obtain ⟨go34, co34, eo34, gb34, gl34, cl34, HG34⟩ := Kd.R_form HO229.out (by omega); (first | cases eo34 | (injection eo34 with ea_ en_ ec_; (first | subst ea_ | (injection ea_ with ea_; subst ea_)); subst ec_; clear en_)); have GB34 := Aside0.mk gb34; have GG34 := Aside0.mk HG34; clear gb34 gl34 HG34; obtain ⟨hx34_0, hf34_0⟩ := Kd.R_celln 0 HO229.out (a1 : Int) p34 q34; replace p34 := eq_true p34; replace q34 := eq_true q34; obtain ⟨hy50_, hz50_⟩ := Kd.R_celln 0 HO229.out (a1 : Int) (od) (od); have HP50 := Kd.R_putg HO229.out (a1 : Int) a3) | ((with_reducible refine gate_store (t := 3) (p := 42) rfl ?_); refine store_event (t := 3) (p := 42) (v := ?vo_w51) (w1 := (w48.setCell ⟨go34, (a1 : Int).toNat, none⟩ (.int .i64 a3))) ?hg ?ho ?hn ?hr ?_; (case ho => rfl); (case hg => rfl); (case hn => rfl); (case hr => first | (go_simp; done) | (go_simp; rfl)); intro w51 hw; have hg : w48.grownBy w51 (some go34) := (by rw [hw]; exact HP50.2); have hp_ : Kd.R (Kd.int .i64) 3 w51 w.heap.size (fun _ => True) (.slice (some ⟨go34, 0, none⟩) t227.length co46) y234 := (by rw [hw, Ny234.out]; exact HP50.1); clear HP50; replace BK222 := Aside0.mk (blk_grown (g := gb222) (o := .cells #[.int .i64 a0_0, .slice (some ad225) l0_1.length c0_1, .slice A0_2 l0_2.length c0_2] 25 (0, 0)) (bk BK222) hg (Kd.R_ne HO229.out BK222.out (by decide))); replace BK223 := Aside0.mk (blk_grown (g := gb223) (o := .cells #[.int .i64 0, .slice none 0 0, .slice none 0 0] 25 (0, 0)) (bk BK223) hg (Kd.R_ne HO229.out BK223.out (by decide))); replace HO232 := Aside0.mk (Kd.R_over' (v := (.slice (some ⟨go34, 0, none⟩) t227.length co46)) (ro HO232) (Kd.R_typed HO229.out) (by decide) hg); replace BK233 := Aside0.mk (blk_grown (g := gb233) (o := .cells #[.int .i64 t226, .slice (some ⟨go34, 0, none⟩) t227.length co46, .slice Ao47 t230.length co47] 25 (0, 0)) (bk BK233) hg (Kd.R_ne HO229.out BK233.out (by decide))); replace HO229 := Aside0.mk (hp_); replace HB := Aside0.mk ((by rw [hw]; exact below_set (HB.out) GB34.out : Below w.heap.size w w51)); clear hg hw hp_; have hcz52_0 := bz3 BK233; have hcz53_0 := bz3 BK223))
     refine bodyPost_ret (results_ct rfl _ _ gb223 25 #[.int .i64 t226, .slice (some ⟨go34, 0, none⟩) t227.length co46, .slice Ao47 t230.length co47] (0, 0) _ rfl (by (with_reducible repeat (first | refine blk_drewN ?_ _ | refine blk_drew ?_ | refine blk_alloc ?_ _)); refine blk_put (cs := #[.int .i64 t226, .slice (some ⟨go34, 0, none⟩) t227.length co46, .slice none 0 0]) ?_ 2 _ rfl; (with_reducible repeat (first | refine blk_drewN ?_ _ | refine blk_drew ?_ | refine blk_alloc ?_ _)); refine blk_put (cs := #[.int .i64 t226, .slice none 0 0, .slice none 0 0]) ?_ 1 _ rfl; (with_reducible repeat (first | refine blk_drewN ?_ _ | refine blk_drew ?_ | refine blk_alloc ?_ _)); refine blk_put (cs := #[.int .i64 0, .slice none 0 0, .slice none 0 0]) ?_ 0 _ rfl; (with_reducible repeat (first | refine blk_drewN ?_ _ | refine blk_drew ?_ | refine blk_alloc ?_ _)); exact BK223.out) Try.underlying25 rfl (by kernel_rfl)) rfl ?_
     exact ⟨_, _, er, by (with_reducible repeat (first | apply Kd.R_alloc | apply Kd.R_drewN | apply Kd.R_drew)); exact Kd.R_mono (Kd.R_far (p := ⟨gb223, 2, none⟩) (Kd.R_far (p := ⟨gb223, 1, none⟩) (Kd.R_far (p := ⟨gb223, 0, none⟩) (Kd.R_types HO229.out BK223.out (by decide)) (fun _ hk => hk.2) (.int .i64 t226)) (fun _ hk => hk.2) (.slice (some ⟨go34, 0, none⟩) t227.length co46)) (fun _ hk => hk.2) (.slice Ao47 t230.length co47)) (fun _ hk => trivial), by (with_reducible repeat (first | apply Kd.R_alloc | apply Kd.R_drewN | apply Kd.R_drew)); exact Kd.R_mono (Kd.R_far (p := ⟨gb223, 2, none⟩) (Kd.R_far (p := ⟨gb223, 1, none⟩) (Kd.R_far (p := ⟨gb223, 0, none⟩) (Kd.R_types HO232.out BK223.out (by decide)) (fun _ hk => hk.2) (.int .i64 t226)) (fun _ hk => hk.2) (.slice (some ⟨go34, 0, none⟩) t227.length co46)) (fun _ hk => hk.2) (.slice Ao47 t230.length co47)) (fun _ hk => trivial), be3 HB GE222 GE223 GE233⟩
    rw [if_neg c33] at H
    exact absurd H (by simp)
   rw [if_neg c23] at H
   exact absurd H (by simp)
  rw [if_neg c22] at H
  exact absurd H (by simp)
 replace c6 := Bool.eq_false_iff.mpr c6
 subst c6
 have H1 : (some (0, ([] : List Int), ([] : List (S70)), false)) = some (r1, r2, r3, r4) := by rw [if_neg (show ¬ (false = true) by decide)] at H; exact H
 clear H
 have H := H1
 clear H1
 simp only [Option.some.injEq, Prod.mk.injEq] at H
 obtain ⟨rfl, rfl, rfl, rfl⟩ := H
 go_enter Try.func97, Try.ntmps97
 go_wp2_with (first | ((with_reducible refine gate_dst (N := 4) rfl ?_); (try (refine gate_guard (by rfl) ?_; dsimp only)); refine bx 4 #[.int .i64 a0_0, .slice A0_1 l0_1.length c0_1, .slice A0_2 l0_2.length c0_2] 25 ?_; intro gb222 hg w54 hbox hb; have BK222 := am hbox; have GW222 := gs0 hg HB; have GE222 := gs0 hg HB; replace HB := s0 HB hb; clear hb hbox hg) | ((with_reducible refine gate_dst (N := 8) rfl ?_); (try (refine gate_guard (by rfl) ?_; dsimp only)); refine bx 8 #[.int .i64 0, .slice none 0 0, .slice none 0 0] 25 ?_; intro gb223 hg w55 hbox hb; have BK223 := am hbox; have GW223 := gs1 hg HB GE222; have GE223 := gs1 hg HB GE222; replace HB := Aside0.mk (below_step (be1 HB GE222) hb); have NB222_223 := Aside0.mk ((by rw [hg]; exact Nat.ne_of_lt (bl BK222) : gb222 ≠ gb223)); have NB223_222 := Aside0.mk ((by rw [hg]; exact Nat.ne_of_gt (bl BK222) : gb223 ≠ gb222)); replace BK222 := bb BK222 hb; clear hb hbox hg; have hnb56 := NB222_223.out; have hnc56 := NB223_222.out; have hcz57_0 := bz3 BK222) | ((with_reducible refine gate_callee (f := 53) rfl ?_); refine gl 12 Try.func53 #[.agg #[.int .i64 a0_0, .slice A0_1 l0_1.length c0_1, .slice A0_2 l0_2.length c0_2]] ?_; (with_reducible refine (spec_AgesOk.calls k a0_0 _ _ l0_1 _ _ l0_2 false _ (cb HR0_1 HB) HC0_1.out (cb HR0_2 HB) HC0_2.out A5.out).mono ?_); rintro e w58 ⟨rfl, hb⟩; refine ⟨_, rfl, ?_⟩; replace BK222 := bb BK222 hb; replace BK223 := bb BK223 hb; replace HB := Aside0.mk (below_step (be2 HB GE222 GE223) hb); (try clear hb); have hcz59_0 := bz3 BK223))
 refine bodyPost_ret (results_ct rfl _ _ gb223 25 #[.int .i64 0, .slice none 0 0, .slice none 0 0] (0, 0) _ rfl (by (with_reducible repeat (first | refine blk_drewN ?_ _ | refine blk_drew ?_ | refine blk_alloc ?_ _)); refine blk_put (cs := #[.int .i64 0, .slice none 0 0, .slice none 0 0]) ?_ 2 _ rfl; (with_reducible repeat (first | refine blk_drewN ?_ _ | refine blk_drew ?_ | refine blk_alloc ?_ _)); refine blk_put (cs := #[.int .i64 0, .slice none 0 0, .slice none 0 0]) ?_ 1 _ rfl; (with_reducible repeat (first | refine blk_drewN ?_ _ | refine blk_drew ?_ | refine blk_alloc ?_ _)); refine blk_put (cs := #[.int .i64 0, .slice none 0 0, .slice none 0 0]) ?_ 0 _ rfl; (with_reducible repeat (first | refine blk_drewN ?_ _ | refine blk_drew ?_ | refine blk_alloc ?_ _)); exact BK223.out) Try.underlying25 rfl (by kernel_rfl)) rfl ?_
 exact ⟨_, _, er, by first | exact Kd.R_nil _ _ _ _ _ | exact Kd.N_nil _ _ _ _ _ | exact Kd.V_nil _ _ _ _ _ | exact Kd.Q_nil _ _ _ _ _ | exact Kd.S_nil _ _ _ _ _, by first | exact Kd.R_nil _ _ _ _ _ | exact Kd.N_nil _ _ _ _ _ | exact Kd.V_nil _ _ _ _ _ | exact Kd.Q_nil _ _ _ _ _ | exact Kd.S_nil _ _ _ _ _, be2 HB GE222 GE223⟩

/-! ### spec_Pin: function 67 -/
def spec_Pin.f (k : Nat) (a0_0 : Int) (l0_1 : List Int) (l0_2 : List (S70)) (a1 : Int) : Option (Int × List Int × (List (S70)) × Bool) := (spec_l06Set.f k a0_0 l0_1 l0_2 a1 false a0_0).bind fun bt237 => (some (bt237.1, bt237.2.1, bt237.2.2.1, bt237.2.2.2))
theorem spec_Pin.mono : ∀ a0 a1 a2 a3 k, LeO (spec_Pin.f k a0 a1 a2 a3) (spec_Pin.f (k + 1) a0 a1 a2 a3) := by
 intro a0 a1 a2 a3 k
 unfold spec_Pin.f
 repeat' first
   | (with_reducible exact spec_l06Set.mono _ _ _ _ _ _ _)
   | (with_reducible exact LeO.refl _)
   | (with_reducible exact LeO.none _)
   | (with_reducible refine LeO.ite ?_ ?_)
   | (with_reducible refine LeO.bind ?_ (fun _ => ?_))
   | exact spec_l06Set.mono _ _ _ _ _ _ _
   | exact LeO.none _
   | refine LeO.ite ?_ ?_
   | refine LeO.bind ?_ (fun _ => ?_)
set_option maxHeartbeats 8000000 in
set_option maxRecDepth 100000 in
theorem spec_Pin.calls (k : Nat) (a0_0 : Int) (A0_1 : Option Addr) (c0_1 : Nat) (l0_1 : List Int) (A0_2 : Option Addr) (c0_2 : Nat) (l0_2 : List (S70)) (a1 : Int) (r1 : Int) (r2 : List Int) (r3 : List (S70)) (r4 : Bool) (w : World) (hr0_1 : Kd.C (Kd.int .i64) w A0_1 l0_1.length l0_1) (hc0_1 : l0_1.length ≤ c0_1) (hr0_2 : Kd.C k70 w A0_2 l0_2.length l0_2) (hc0_2 : l0_2.length ≤ c0_2) (h : spec_Pin.f k a0_0 l0_1 l0_2 a1 = some (r1, r2, r3, r4)) :
  Calls Try.prog 67 #[.agg #[.int .i64 a0_0, .slice A0_1 l0_1.length c0_1, .slice A0_2 l0_2.length c0_2], .int .i64 a1] w fun e w' => ∃ v1_ v2_ : Value, e = .returned (.tuple #[.agg #[.int .i64 r1, v1_, v2_], .bool r4]) ∧ Kd.R (Kd.int .i64) 3 w' w.heap.size (fun _ => True) v1_ r2 ∧ Kd.R k70 70 w' w.heap.size (fun _ => True) v2_ r3 ∧ Below w.heap.size w w' := by
 have hu25 := Try.underlying25
 have HR0_1 := Aside0.mk hr0_1
 have HC0_1 := Aside0.mk hc0_1
 clear hr0_1 hc0_1
 have HR0_2 := Aside0.mk hr0_2
 have HC0_2 := Aside0.mk hc0_2
 clear hr0_2 hc0_2
 have HB := Aside0.mk (Below.refl w.heap.size w)
 have H : ((spec_l06Set.f k a0_0 l0_1 l0_2 a1 false a0_0).bind fun bt237 => (some (bt237.1, bt237.2.1, bt237.2.2.1, bt237.2.2.2))) = some (r1, r2, r3, r4) := h
 clear h
 replace H := Option.bind_eq_some_iff.mp H
 obtain ⟨⟨t237, t238, t241, t244⟩, A30, H⟩ := H
 replace H : (some (t237, t238, t241, t244)) = some (r1, r2, r3, r4) := H
 have A3 := Aside0.mk A30
 clear A30
 simp only [Option.some.injEq, Prod.mk.injEq] at H
 obtain ⟨rfl, rfl, rfl, rfl⟩ := H
 go_enter Try.func67, Try.ntmps67
 go_wp2_with (first | ((with_reducible refine gate_dst (N := 2) rfl ?_); refine bx 2 #[.int .i64 a0_0, .slice A0_1 l0_1.length c0_1, .slice A0_2 l0_2.length c0_2] 25 ?_; intro gb235 hg w4 hbox hb; have BK235 := am hbox; have GW235 := gs0 hg HB; have GE235 := gs0 hg HB; replace HB := s0 HB hb; clear hb hbox hg) | ((with_reducible refine gate_dst (N := 4) rfl ?_); refine bx 4 #[.int .i64 0, .slice none 0 0, .slice none 0 0] 25 ?_; intro gb236 hg w5 hbox hb; have BK236 := am hbox; have GW236 := gs1 hg HB GE235; have GE236 := gs1 hg HB GE235; replace HB := Aside0.mk (below_step (be1 HB GE235) hb); have NB235_236 := Aside0.mk ((by rw [hg]; exact Nat.ne_of_lt (bl BK235) : gb235 ≠ gb236)); have NB236_235 := Aside0.mk ((by rw [hg]; exact Nat.ne_of_gt (bl BK235) : gb236 ≠ gb235)); replace BK235 := bb BK235 hb; clear hb hbox hg; have hnb6 := NB235_236.out; have hnc6 := NB236_235.out; have hcz7_0 := bz3 BK235) | ((with_reducible refine gate_callee (f := 97) rfl ?_); refine gl 10 Try.func97 #[.agg #[.int .i64 a0_0, .slice A0_1 l0_1.length c0_1, .slice A0_2 l0_2.length c0_2], .int .i64 a1, .bool false, .int .i64 a0_0] ?_; (with_reducible refine (spec_l06Set.calls k a0_0 _ _ l0_1 _ _ l0_2 a1 false a0_0 t237 t238 t241 t244 _ (cb HR0_1 HB) HC0_1.out (cb HR0_2 HB) HC0_2.out A3.out).mono ?_); rintro e w8 ⟨v239, v242, rfl, ho0, ho1, hb⟩; refine ⟨_, rfl, ?_⟩; have HO240 := Aside0.mk (Kd.R_lower ho0 (below_size (be2 HB GE235 GE236))); have HO243 := Aside0.mk (Kd.R_lower ho1 (below_size (be2 HB GE235 GE236))); replace BK235 := bb BK235 hb; replace BK236 := bb BK236 hb; replace HB := Aside0.mk (below_step (be2 HB GE235 GE236) hb); (try clear hb); (try clear ho0); (try clear ho1); have hcz9_0 := bz3 BK236; obtain ⟨Ao10, co10, eo10⟩ := Kd.R_slice HO240.out; subst eo10; obtain ⟨Ao11, co11, eo11⟩ := Kd.R_slice HO243.out; subst eo11))
 refine bodyPost_ret (results_ct rfl _ _ gb236 25 #[.int .i64 t237, .slice Ao10 t238.length co10, .slice Ao11 t241.length co11] (0, 0) _ rfl (by (with_reducible repeat (first | refine blk_drewN ?_ _ | refine blk_drew ?_ | refine blk_alloc ?_ _)); refine blk_put (cs := #[.int .i64 t237, .slice Ao10 t238.length co10, .slice none 0 0]) ?_ 2 _ rfl; (with_reducible repeat (first | refine blk_drewN ?_ _ | refine blk_drew ?_ | refine blk_alloc ?_ _)); refine blk_put (cs := #[.int .i64 t237, .slice none 0 0, .slice none 0 0]) ?_ 1 _ rfl; (with_reducible repeat (first | refine blk_drewN ?_ _ | refine blk_drew ?_ | refine blk_alloc ?_ _)); refine blk_put (cs := #[.int .i64 0, .slice none 0 0, .slice none 0 0]) ?_ 0 _ rfl; (with_reducible repeat (first | refine blk_drewN ?_ _ | refine blk_drew ?_ | refine blk_alloc ?_ _)); exact BK236.out) Try.underlying25 rfl (by kernel_rfl)) rfl ?_
 exact ⟨_, _, er, by (with_reducible repeat (first | apply Kd.R_alloc | apply Kd.R_drewN | apply Kd.R_drew)); exact Kd.R_mono (Kd.R_far (p := ⟨gb236, 2, none⟩) (Kd.R_far (p := ⟨gb236, 1, none⟩) (Kd.R_far (p := ⟨gb236, 0, none⟩) (Kd.R_types HO240.out BK236.out (by decide)) (fun _ hk => hk.2) (.int .i64 t237)) (fun _ hk => hk.2) (.slice Ao10 t238.length co10)) (fun _ hk => hk.2) (.slice Ao11 t241.length co11)) (fun _ hk => trivial), by (with_reducible repeat (first | apply Kd.R_alloc | apply Kd.R_drewN | apply Kd.R_drew)); exact Kd.R_mono (Kd.R_far (p := ⟨gb236, 2, none⟩) (Kd.R_far (p := ⟨gb236, 1, none⟩) (Kd.R_far (p := ⟨gb236, 0, none⟩) (Kd.R_types HO243.out BK236.out (by decide)) (fun _ hk => hk.2) (.int .i64 t237)) (fun _ hk => hk.2) (.slice Ao10 t238.length co10)) (fun _ hk => hk.2) (.slice Ao11 t241.length co11)) (fun _ hk => trivial), be2 HB GE235 GE236⟩

end Go.Proofs.Ytdgpidhlbpaolaa.QFnExactEnter
