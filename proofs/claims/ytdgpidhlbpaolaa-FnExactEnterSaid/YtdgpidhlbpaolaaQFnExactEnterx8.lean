-- made by a program of this session (myprint.py)
import Derived.Test.YtdgpidhlbpaolaaQFnExactEnterx0
import Derived.Test.YtdgpidhlbpaolaaQFnExactEnterx5
import Derived.Test.YtdgpidhlbpaolaaQFnExactEnterx7
namespace Go.Proofs.Ytdgpidhlbpaolaa.QFnExactEnter
open Go.RowKit Go.Proofs.YtdgpidhlbpaolaaW.PrintWords Go.Proofs.YtdgpidhlbpaolaaW.PrintLast Go.Proofs.YtdgpidhlbpaolaaW.PrintMore
attribute [local go_sem] max2_int min2_int max_two min_two max_three min_three max_four min_four   -- for this text's walks alone
set_option linter.unusedVariables false
set_option linter.unusedSimpArgs false

/-! ### spec_l09Copy: function 64 -/
def spec_l09Copy.f (l0_0 : List Int) (a0_1 : Int) (l0_2 : List Int) (l0_3 : List (S70)) (l0_4 : List Int) : Option (List Int × Int × List Int × (List (S70)) × List Int) := (some (([] : List Int) : List Int)).bind fun y276 => (if y276.length + l0_0.length < 17592186044416 then ((spec_l06Copy.f a0_1 l0_2 l0_3).bind fun bt282 => ((some (([] : List Int) : List Int)).bind fun y289 => (if y289.length + l0_4.length < 17592186044416 then (some ((y276 ++ l0_0), bt282.1, bt282.2.1, bt282.2.2, (y289 ++ l0_4))) else (none)))) else (none))
def spec_l09Copy.T1 : Bool × List (List Nat × List Nat) := (true, [([], []), ([], []), ([1], [1]), ([0, 2], [0, 2]), ([], []), ([4], [4]), ([5, 3], [5]), ([], []), ([], []), ([8], [8]), ([7, 9, 6], [7, 9]), ([3, 6, 10], [3, 6, 10]), ([11, 10, 0, 1, 2, 3, 4, 5, 6, 7, 8, 9, 10, 11], [11])])
def spec_l09Copy.B1 : List Nat := [0, 0, 2, 7, 0, 16, 63, 0, 0, 256, 1023, 2047, 4095]
theorem spec_l09Copy.tab1 : rtab .any (opsOf Try.f64 1) = spec_l09Copy.T1 := by kernel_rfl
theorem spec_l09Copy.bits1 : waitsOk spec_l09Copy.T1.2 spec_l09Copy.B1 = true := by kernel_rfl
set_option maxHeartbeats 8000000 in
set_option maxRecDepth 100000 in
theorem spec_l09Copy.calls (A0_0 : Option Addr) (c0_0 : Nat) (l0_0 : List Int) (a0_1 : Int) (A0_2 : Option Addr) (c0_2 : Nat) (l0_2 : List Int) (A0_3 : Option Addr) (c0_3 : Nat) (l0_3 : List (S70)) (A0_4 : Option Addr) (c0_4 : Nat) (l0_4 : List Int) (r1 : List Int) (r2 : Int) (r3 : List Int) (r4 : List (S70)) (r5 : List Int) (w : World) (hr0_0 : Kd.C (Kd.int .i64) w A0_0 l0_0.length l0_0) (hc0_0 : l0_0.length ≤ c0_0) (hr0_2 : Kd.C (Kd.int .i64) w A0_2 l0_2.length l0_2) (hc0_2 : l0_2.length ≤ c0_2) (hr0_3 : Kd.C k70 w A0_3 l0_3.length l0_3) (hc0_3 : l0_3.length ≤ c0_3) (hr0_4 : Kd.C (Kd.int .i64) w A0_4 l0_4.length l0_4) (hc0_4 : l0_4.length ≤ c0_4) (h : spec_l09Copy.f l0_0 a0_1 l0_2 l0_3 l0_4 = some (r1, r2, r3, r4, r5)) :
  Calls Try.prog 64 #[.agg #[.slice A0_0 l0_0.length c0_0, .int .i64 a0_1, .slice A0_2 l0_2.length c0_2, .slice A0_3 l0_3.length c0_3, .slice A0_4 l0_4.length c0_4]] w fun e w' => ∃ v0_ v2_ v3_ v4_ : Value, e = .returned (.agg #[v0_, .int .i64 r2, v2_, v3_, v4_]) ∧ Kd.R (Kd.int .i64) 3 w' w.heap.size (fun k_ => some k_ ≠ (v2_ : Value).ownBlock ∧ some k_ ≠ (v4_ : Value).ownBlock) v0_ r1 ∧ Kd.R (Kd.int .i64) 3 w' w.heap.size (fun k_ => some k_ ≠ (v0_ : Value).ownBlock ∧ some k_ ≠ (v4_ : Value).ownBlock) v2_ r3 ∧ Kd.R k70 70 w' w.heap.size (fun _ => True) v3_ r4 ∧ Kd.R (Kd.int .i64) 3 w' w.heap.size (fun k_ => some k_ ≠ (v0_ : Value).ownBlock ∧ some k_ ≠ (v2_ : Value).ownBlock) v4_ r5 ∧ Below w.heap.size w w' := by
 have hu27 := Try.underlying27
 have hu25 := Try.underlying25
 have HR0_0 := Aside0.mk hr0_0
 have HC0_0 := Aside0.mk hc0_0
 clear hr0_0 hc0_0
 have HR0_2 := Aside0.mk hr0_2
 have HC0_2 := Aside0.mk hc0_2
 clear hr0_2 hc0_2
 have HR0_3 := Aside0.mk hr0_3
 have HC0_3 := Aside0.mk hc0_3
 clear hr0_3 hc0_3
 have HR0_4 := Aside0.mk hr0_4
 have HC0_4 := Aside0.mk hc0_4
 clear hr0_4 hc0_4
 have HB := Aside0.mk (Below.refl w.heap.size w)
 have H : ((some (([] : List Int) : List Int)).bind fun y276 => (if y276.length + l0_0.length < 17592186044416 then ((spec_l06Copy.f a0_1 l0_2 l0_3).bind fun bt282 => ((some (([] : List Int) : List Int)).bind fun y289 => (if y289.length + l0_4.length < 17592186044416 then (some ((y276 ++ l0_0), bt282.1, bt282.2.1, bt282.2.2, (y289 ++ l0_4))) else (none)))) else (none))) = some (r1, r2, r3, r4, r5) := h
 clear h
 obtain ⟨y276, hy276⟩ : ∃ y_ : List Int, y_ = (([] : List Int)) := ⟨_, rfl⟩
 replace H : (if y276.length + l0_0.length < 17592186044416 then ((spec_l06Copy.f a0_1 l0_2 l0_3).bind fun bt282 => ((some (([] : List Int) : List Int)).bind fun y289 => (if y289.length + l0_4.length < 17592186044416 then (some ((y276 ++ l0_0), bt282.1, bt282.2.1, bt282.2.2, (y289 ++ l0_4))) else (none)))) else (none)) = some (r1, r2, r3, r4, r5) := by first | (rw [hy276]; with_reducible exact H) | (have H2_ := (Option.bind_some _ _).symm.trans H; rw [hy276]; with_reducible exact H2_) | (have H2_ := (Option.bind_some _ _).symm.trans H; with_reducible exact H2_) | with_reducible exact H | (rw [hy276]; exact H) | exact H
 have Ny276 := Aside0.mk hy276
 clear hy276
 by_cases c2 : y276.length + l0_0.length < 17592186044416
 ·rw [if_pos c2] at H
  have LMc2 := Aside0.mk c2
  clear c2
  obtain ⟨y279, hy279⟩ : ∃ y_ : List Int, y_ = (y276 ++ l0_0) := ⟨_, rfl⟩
  replace H : ((spec_l06Copy.f a0_1 l0_2 l0_3).bind fun bt282 => ((some (([] : List Int) : List Int)).bind fun y289 => (if y289.length + l0_4.length < 17592186044416 then (some (y279, bt282.1, bt282.2.1, bt282.2.2, (y289 ++ l0_4))) else (none)))) = some (r1, r2, r3, r4, r5) := by first | (rw [hy279]; with_reducible exact H) | (have H2_ := (Option.bind_some _ _).symm.trans H; rw [hy279]; with_reducible exact H2_) | (have H2_ := (Option.bind_some _ _).symm.trans H; with_reducible exact H2_) | with_reducible exact H | (rw [hy279]; exact H) | exact H
  have Ny279 := Aside0.mk hy279
  clear hy279
  replace H := Option.bind_eq_some_iff.mp H
  obtain ⟨⟨t282, t283, t286⟩, A30, H⟩ := H
  replace H : ((some (([] : List Int) : List Int)).bind fun y289 => (if y289.length + l0_4.length < 17592186044416 then (some (y279, t282, t283, t286, (y289 ++ l0_4))) else (none))) = some (r1, r2, r3, r4, r5) := H
  have A3 := Aside0.mk A30
  clear A30
  obtain ⟨y289, hy289⟩ : ∃ y_ : List Int, y_ = (([] : List Int)) := ⟨_, rfl⟩
  replace H : (if y289.length + l0_4.length < 17592186044416 then (some (y279, t282, t283, t286, (y289 ++ l0_4))) else (none)) = some (r1, r2, r3, r4, r5) := by first | (rw [hy289]; with_reducible exact H) | (have H2_ := (Option.bind_some _ _).symm.trans H; rw [hy289]; with_reducible exact H2_) | (have H2_ := (Option.bind_some _ _).symm.trans H; with_reducible exact H2_) | with_reducible exact H | (rw [hy289]; exact H) | exact H
  have Ny289 := Aside0.mk hy289
  clear hy289
  by_cases c4 : y289.length + l0_4.length < 17592186044416
  ·rw [if_pos c4] at H
   have LMc4 := Aside0.mk c4
   clear c4
   obtain ⟨y292, hy292⟩ : ∃ y_ : List Int, y_ = (y289 ++ l0_4) := ⟨_, rfl⟩
   replace H : (some (y279, t282, t283, t286, y292)) = some (r1, r2, r3, r4, r5) := by first | (rw [hy292]; with_reducible exact H) | (have H2_ := (Option.bind_some _ _).symm.trans H; rw [hy292]; with_reducible exact H2_) | (have H2_ := (Option.bind_some _ _).symm.trans H; with_reducible exact H2_) | with_reducible exact H | (rw [hy292]; exact H) | exact H
   have Ny292 := Aside0.mk hy292
   clear hy292
   simp only [Option.some.injEq, Prod.mk.injEq] at H
   obtain ⟨rfl, rfl, rfl, rfl, rfl⟩ := H
   go_enter Try.func64, Try.ntmps64
   try go_wp2_with (first | ((with_reducible refine gate_dst (N := 1) rfl ?_); refine bx 1 #[.slice A0_0 l0_0.length c0_0, .int .i64 a0_1, .slice A0_2 l0_2.length c0_2, .slice A0_3 l0_3.length c0_3, .slice A0_4 l0_4.length c0_4] 27 ?_; intro gb274 hg w5 hbox hb; have BK274 := am hbox; have GW274 := gs0 hg HB; have GE274 := gs0 hg HB; replace HB := s0 HB hb; clear hb hbox hg) | ((with_reducible refine gate_dst (N := 2) rfl ?_); refine bx 2 #[.slice none 0 0, .int .i64 0, .slice none 0 0, .slice none 0 0, .slice none 0 0] 27 ?_; intro gb275 hg w6 hbox hb; have BK275 := am hbox; have GW275 := gs1 hg HB GE274; have GE275 := gs1 hg HB GE274; replace HB := Aside0.mk (below_step (be1 HB GE274) hb); have NB274_275 := Aside0.mk ((by rw [hg]; exact Nat.ne_of_lt (bl BK274) : gb274 ≠ gb275)); have NB275_274 := Aside0.mk ((by rw [hg]; exact Nat.ne_of_gt (bl BK274) : gb275 ≠ gb274)); replace BK274 := bb BK274 hb; clear hb hbox hg))
   have n0_ := Aside0.mk (blk_drew BK274.out)
   have n1_ := Aside0.mk (blk_drew BK275.out)
   have n2_ := Aside0.mk (below_drew1 HB.out)
   clear BK274
   clear BK275
   clear HB
   have BK274 := n0_
   have BK275 := n1_
   have HB := n2_
   clear n0_ n1_ n2_
   refine start_ (n := 13) (S := fun w' => w'.cell? ⟨gb274, 0, none⟩ = some (.slice A0_0 l0_0.length c0_0) ∧ w'.cell? ⟨gb274, 1, none⟩ = some (.int .i64 a0_1) ∧ w'.cell? ⟨gb274, 2, none⟩ = some (.slice A0_2 l0_2.length c0_2) ∧ w'.cell? ⟨gb274, 3, none⟩ = some (.slice A0_3 l0_3.length c0_3) ∧ w'.cell? ⟨gb274, 4, none⟩ = some (.slice A0_4 l0_4.length c0_4)) (ds := []) (bv 13 0x0) (by kernel_rfl) rfl rfl ⟨bc0 BK274, bc1 BK274, bc2 BK274, bc3 BK274, bc4 BK274⟩ (fun hHeld => ?_); refine with_tabW spec_l09Copy.tab1 spec_l09Copy.bits1 (fun HT_ HW_ => ?_)
   generalize w6.drew = w7 at BK274 BK275 HB hHeld ⊢
   refine py HT_ 1 4 (bv 13 0x2) ?_
   refine py HT_ 4 7 (bv 13 0x12) ?_
   refine py HT_ 8 11 (bv 13 0x112) ?_
   refine tk HT_ HW_ hHeld 2 5 (bv 13 0x116) ?_
   refine tk HT_ HW_ hHeld 5 8 (bv 13 0x136) ?_
   refine tk HT_ HW_ hHeld 9 12 (bv 13 0x336) ?_
   refine join_ (σ := Value × Value × Value × Value × Value) 3 (bv 13 0x3ff) (fun s_ => [(3, s_.1), (6, s_.2.1), (9, .agg #[.int .i64 t282, s_.2.2.1, s_.2.2.2.1]), (10, s_.2.2.2.2)]) (fun s_ w' => (w'.cell? ⟨gb274, 0, none⟩ = some (.slice A0_0 l0_0.length c0_0) ∧ w'.cell? ⟨gb274, 1, none⟩ = some (.int .i64 a0_1) ∧ w'.cell? ⟨gb274, 2, none⟩ = some (.slice A0_2 l0_2.length c0_2) ∧ w'.cell? ⟨gb274, 3, none⟩ = some (.slice A0_3 l0_3.length c0_3) ∧ w'.cell? ⟨gb274, 4, none⟩ = some (.slice A0_4 l0_4.length c0_4)) ∧ (Kd.R (Kd.int .i64) 3 w' w.heap.size (fun k_ => some k_ ≠ (s_.2.2.1 : Value).ownBlock ∧ some k_ ≠ (s_.2.2.2.2 : Value).ownBlock) s_.2.1 y279) ∧ (Kd.R (Kd.int .i64) 3 w' w.heap.size (fun k_ => some k_ ≠ (s_.2.1 : Value).ownBlock ∧ some k_ ≠ (s_.2.2.2.2 : Value).ownBlock) s_.2.2.1 t283) ∧ (Kd.R k70 70 w' w.heap.size (fun _ => True) s_.2.2.2.1 t286) ∧ (Kd.R (Kd.int .i64) 3 w' w.heap.size (fun k_ => some k_ ≠ (s_.2.1 : Value).ownBlock ∧ some k_ ≠ (s_.2.2.1 : Value).ownBlock) s_.2.2.2.2 y289) ∧ (w'.heap[gb274]? = some (.cells #[.slice A0_0 l0_0.length c0_0, .int .i64 a0_1, .slice A0_2 l0_2.length c0_2, .slice A0_3 l0_3.length c0_3, .slice A0_4 l0_4.length c0_4] 27 (0, 0))) ∧ (w'.heap[gb275]? = some (.cells #[.slice none 0 0, .int .i64 0, .slice none 0 0, .slice none 0 0, .slice none 0 0] 27 (0, 0))) ∧ (Below w.heap.size w w')) ?_ ?_
   rotate_left
   ·intro hCont
    refine two_ (i := 0) (j := 7) (Ni := some 3) (Nj := some 10) (bv 13 0x337) (bv 13 0x3b6) rfl rfl rfl rfl (two_of HT_.out (by kernel_rfl)) (by decide) (by decide) (fun K hK => ?_) (fun K hK => ?_)
    ·skip
     refine Kd.R_lit_step (Kd.int .i64) _ 3 ?hg (N := 3) ?hd (xs := ([] : List Int)) (inner := []) (ok := fun _ => True) (okp := fun _ => True) ?hr ?hp (fun _ hk => hk) trivial (Below.refl _ _) (Nat.le_refl _) (by simp) ?_; (case hd => rfl); (case hg => rfl); (case hr => first | (go_simp; done) | (go_simp; rfl)); (case hp => exact (Reps.none _ _))
     intro v277 w8 ho9 hb hg_ hnew_
     clear hg_ hnew_
     (first | rw [← Ny276.out] at ho9 | (simp only [Int.reduceToNat] at ho9; rw [← Ny276.out] at ho9))
     have n0_ := Aside0.mk (Kd.R_lower ho9 (below_size (be2 HB GE274 GE275)))
     have n1_ := bb BK274 hb
     have n2_ := bb BK275 hb
     have n3_ := Aside0.mk (below_step (be2 HB GE274 GE275) hb)
     clear BK274
     clear BK275
     clear HB
     have HO278 := n0_
     have BK274 := n1_
     have BK275 := n2_
     have HB := n3_
     clear n0_ n1_ n2_ n3_
     clear hb ho9
     refine hK.out _ _ ⟨bc0 BK274, bc1 BK274, bc2 BK274, bc3 BK274, bc4 BK274⟩ (fun hHeld => ?_)
     clear hK K
     refine norm_ (a' := ?_) ?_ ?_
     rotate_left
     ·show Act.put _ (some 3) _ = _
      simp only [aP]
      rfl
     refine two_ (i := 3) (j := 7) (Ni := some 6) (Nj := some 10) (bv 13 0x33f) (bv 13 0x3b7) rfl rfl rfl rfl (two_of HT_.out (by kernel_rfl)) (by decide) (by decide) (fun K hK => ?_) (fun K hK => ?_)
     ·skip
      refine Kd.R_append_rows_step (Kd.int .i64) (w0 := w) w.heap.size (by rfl) (.tmp 3) (.tmp 5) 22 3 (.int .i64 0) 8 rfl Try.underlying22 info3 rfl (by decide) (by omega) v277 y276 l0_0 _ _ _ (fun _ => True) (fun _ => False) rfl rfl ?aO ?aR (fun _ _ h => h) (fun _ h => h.elim) ?aF ?aB ?aS ?aL ?_
      (case aR => repeat (first | exact (Kd.C_below HR0_0.out HB.out) | (with_reducible refine Kd.C_alloc ?_ _) | (with_reducible refine Kd.C_drewN ?_ _) | (with_reducible refine Kd.C_drew ?_)))
      (case aB => exact (be2 HB GE274 GE275))
      (case aF => exact (fun _ _ => trivial))
      (case aO => exact (ro HO278))
      (case aS => exact (below_size (be2 HB GE274 GE275)))
      (case aL => have := LMc2.out; omega)
      intro v280 w10 ho hb hg hat
      rw [← Ny279.out] at ho
      have n0_ := Aside0.mk (blk_grown (g := gb274) (o := .cells #[.slice A0_0 l0_0.length c0_0, .int .i64 a0_1, .slice A0_2 l0_2.length c0_2, .slice A0_3 l0_3.length c0_3, .slice A0_4 l0_4.length c0_4] 27 (0, 0)) (bk BK274) hg (Kd.R_ne HO278.out BK274.out (by decide)))
      have n1_ := Aside0.mk (blk_grown (g := gb275) (o := .cells #[.slice none 0 0, .int .i64 0, .slice none 0 0, .slice none 0 0, .slice none 0 0] 27 (0, 0)) (bk BK275) hg (Kd.R_ne HO278.out BK275.out (by decide)))
      have n2_ := Aside0.mk (hb)
      have n3_ := Aside0.mk (ho)
      clear BK274
      clear BK275
      clear HB
      clear HO278
      have BK274 := n0_
      have BK275 := n1_
      have HB := n2_
      have HO281 := n3_
      clear n0_ n1_ n2_ n3_
      clear ho hb hg hat
      refine hK.out _ _ ⟨bc0 BK274, bc1 BK274, bc2 BK274, bc3 BK274, bc4 BK274⟩ (fun hHeld => ?_)
      clear hK K
      refine norm_ (a' := ?_) ?_ ?_
      rotate_left
      ·show Act.put _ (some 6) _ = _
       simp only [aP]
       rfl
      refine two_ (i := 6) (j := 7) (Ni := some 9) (Nj := some 10) (bv 13 0x37f) (bv 13 0x3bf) rfl rfl rfl rfl (two_of HT_.out (by kernel_rfl)) (by decide) (by decide) (fun K hK => ?_) (fun K hK => ?_)
      ·skip
       refine goes_ Try.func95 (by kernel_rfl) rfl #[.agg #[.int .i64 a0_1, .slice A0_2 l0_2.length c0_2, .slice A0_3 l0_3.length c0_3]] (by rfl) rfl rfl ml ?_
       with_reducible refine (spec_l06Copy.calls a0_1 _ _ l0_2 _ _ l0_3 t282 t283 t286 _ ?side1 ?side2 ?side3 ?side4 A3.out).mono ?_
       (case side1 => exact cb HR0_2 HB)
       (case side2 => exact HC0_2.out)
       (case side3 => exact cb HR0_3 HB)
       (case side4 => exact HC0_3.out)
       rintro e w11 ⟨v284, v287, rfl, ho0, ho1, hb⟩
       refine ⟨_, rfl, ?_⟩
       have n0_ := Aside0.mk (Kd.R_elder' (ro HO281) (Kd.R_base ho0) hb)
       have n1_ := Aside0.mk (Kd.R_lower (nw ho0 HO281) (below_size (be2 HB GE274 GE275)))
       have n2_ := Aside0.mk (Kd.R_lower ho1 (below_size (be2 HB GE274 GE275)))
       have n3_ := bb BK274 hb
       have n4_ := bb BK275 hb
       have n5_ := Aside0.mk (below_step (be2 HB GE274 GE275) hb)
       clear HO281
       clear BK274
       clear BK275
       clear HB
       have HO281 := n0_
       have HO285 := n1_
       have HO288 := n2_
       have BK274 := n3_
       have BK275 := n4_
       have HB := n5_
       clear n0_ n1_ n2_ n3_ n4_ n5_
       (try clear hb)
       (try clear hb2)
       (try clear hk)
       (try clear hi)
       (try clear ho0)
       (try clear ho1)
       refine hK.out _ _ ⟨bc0 BK274, bc1 BK274, bc2 BK274, bc3 BK274, bc4 BK274⟩ (fun hHeld => ?_)
       clear hK K
       refine norm_ (a' := ?_) ?_ ?_
       rotate_left
       ·show Act.put _ (some 9) _ = _
        simp only [aP]
        rfl
       refine one_ (i := 7) (N := some 10) (bv 13 0x3ff) rfl rfl (one_of HT_.out (by kernel_rfl)) (by decide) (fun K hK => ?_)
       refine Kd.R_lit_step (Kd.int .i64) _ 3 ?hg (N := 10) ?hd (xs := ([] : List Int)) (inner := []) (ok := fun _ => True) (okp := fun _ => True) ?hr ?hp (fun _ hk => hk) trivial (Below.refl _ _) (Nat.le_refl _) (by simp) ?_; (case hd => rfl); (case hg => rfl); (case hr => first | (go_simp; done) | (go_simp; rfl)); (case hp => exact (Reps.none _ _))
       intro v290 w12 ho13 hb hg_ hnew_
       clear hg_ hnew_
       (first | rw [← Ny289.out] at ho13 | (simp only [Int.reduceToNat] at ho13; rw [← Ny289.out] at ho13))
       have n0_ := Aside0.mk (Kd.R_elder' (ro HO281) (Kd.R_base ho13) hb)
       have n1_ := Aside0.mk (Kd.R_elder' (ro HO285) (Kd.R_base ho13) hb)
       have n2_ := rb HO288 hb
       have n3_ := Aside0.mk (Kd.R_lower (nw (nw ho13 HO281) HO285) (below_size (be2 HB GE274 GE275)))
       have n4_ := bb BK274 hb
       have n5_ := bb BK275 hb
       have n6_ := Aside0.mk (below_step (be2 HB GE274 GE275) hb)
       clear HO281
       clear HO285
       clear HO288
       clear BK274
       clear BK275
       clear HB
       have HO281 := n0_
       have HO285 := n1_
       have HO288 := n2_
       have HO291 := n3_
       have BK274 := n4_
       have BK275 := n5_
       have HB := n6_
       clear n0_ n1_ n2_ n3_ n4_ n5_ n6_
       clear hb ho13
       refine hK.out _ _ ⟨bc0 BK274, bc1 BK274, bc2 BK274, bc3 BK274, bc4 BK274⟩ (fun hHeld => ?_)
       clear hK K
       refine norm_ (a' := ?_) ?_ ?_
       rotate_left
       ·show Act.put _ (some 10) _ = _
        simp only [aP]
        rfl
       exact norm_ (by simp only [putAll, Act.put, List.setIfInBounds_toArray, List.set_cons_zero, List.set_cons_succ]) (hCont (v277, v280, v284, v287, v290) _ ⟨hHeld, (by (with_reducible repeat (first | apply Kd.R_alloc | apply Kd.R_drewN | apply Kd.R_drew)); exact rm HO281), (by (with_reducible repeat (first | apply Kd.R_alloc | apply Kd.R_drewN | apply Kd.R_drew)); exact rm HO285), (ro HO288), (by (with_reducible repeat (first | apply Kd.R_alloc | apply Kd.R_drewN | apply Kd.R_drew)); exact rm HO291), (bk BK274), (bk BK275), (be2 HB GE274 GE275)⟩)
      skip
      refine Kd.R_lit_step (Kd.int .i64) _ 3 ?hg (N := 10) ?hd (xs := ([] : List Int)) (inner := []) (ok := fun _ => True) (okp := fun _ => True) ?hr ?hp (fun _ hk => hk) trivial (Below.refl _ _) (Nat.le_refl _) (by simp) ?_; (case hd => rfl); (case hg => rfl); (case hr => first | (go_simp; done) | (go_simp; rfl)); (case hp => exact (Reps.none _ _))
      intro v290 w11 ho12 hb hg_ hnew_
      clear hg_ hnew_
      (first | rw [← Ny289.out] at ho12 | (simp only [Int.reduceToNat] at ho12; rw [← Ny289.out] at ho12))
      have n0_ := Aside0.mk (Kd.R_elder' (ro HO281) (Kd.R_base ho12) hb)
      have n1_ := Aside0.mk (Kd.R_lower (nw ho12 HO281) (below_size (be2 HB GE274 GE275)))
      have n2_ := bb BK274 hb
      have n3_ := bb BK275 hb
      have n4_ := Aside0.mk (below_step (be2 HB GE274 GE275) hb)
      clear HO281
      clear BK274
      clear BK275
      clear HB
      have HO281 := n0_
      have HO291 := n1_
      have BK274 := n2_
      have BK275 := n3_
      have HB := n4_
      clear n0_ n1_ n2_ n3_ n4_
      clear hb ho12
      refine hK.out _ _ ⟨bc0 BK274, bc1 BK274, bc2 BK274, bc3 BK274, bc4 BK274⟩ (fun hHeld => ?_)
      clear hK K
      refine norm_ (a' := ?_) ?_ ?_
      rotate_left
      ·show Act.put _ (some 10) _ = _
       simp only [aP]
       rfl
      refine one_ (i := 6) (N := some 9) (bv 13 0x3ff) rfl rfl (one_of HT_.out (by kernel_rfl)) (by decide) (fun K hK => ?_)
      refine goes_ Try.func95 (by kernel_rfl) rfl #[.agg #[.int .i64 a0_1, .slice A0_2 l0_2.length c0_2, .slice A0_3 l0_3.length c0_3]] (by rfl) rfl rfl ml ?_
      with_reducible refine (spec_l06Copy.calls a0_1 _ _ l0_2 _ _ l0_3 t282 t283 t286 _ ?side1 ?side2 ?side3 ?side4 A3.out).mono ?_
      (case side1 => exact cb HR0_2 HB)
      (case side2 => exact HC0_2.out)
      (case side3 => exact cb HR0_3 HB)
      (case side4 => exact HC0_3.out)
      rintro e w13 ⟨v284, v287, rfl, ho0, ho1, hb⟩
      refine ⟨_, rfl, ?_⟩
      have n0_ := Aside0.mk (Kd.R_elder' (ro HO281) (Kd.R_base ho0) hb)
      have n1_ := Aside0.mk (Kd.R_elder' (ro HO291) (Kd.R_base ho0) hb)
      have n2_ := Aside0.mk (Kd.R_lower (nw (nw ho0 HO281) HO291) (below_size (be2 HB GE274 GE275)))
      have n3_ := Aside0.mk (Kd.R_lower ho1 (below_size (be2 HB GE274 GE275)))
      have n4_ := bb BK274 hb
      have n5_ := bb BK275 hb
      have n6_ := Aside0.mk (below_step (be2 HB GE274 GE275) hb)
      clear HO281
      clear HO291
      clear BK274
      clear BK275
      clear HB
      have HO281 := n0_
      have HO291 := n1_
      have HO285 := n2_
      have HO288 := n3_
      have BK274 := n4_
      have BK275 := n5_
      have HB := n6_
      clear n0_ n1_ n2_ n3_ n4_ n5_ n6_
      (try clear hb)
      (try clear hb2)
      (try clear hk)
      (try clear hi)
      (try clear ho0)
      (try clear ho1)
      refine hK.out _ _ ⟨bc0 BK274, bc1 BK274, bc2 BK274, bc3 BK274, bc4 BK274⟩ (fun hHeld => ?_)
      clear hK K
      refine norm_ (a' := ?_) ?_ ?_
      rotate_left
      ·show Act.put _ (some 9) _ = _
       simp only [aP]
       rfl
      exact norm_ (by simp only [putAll, Act.put, List.setIfInBounds_toArray, List.set_cons_zero, List.set_cons_succ]) (hCont (v277, v280, v284, v287, v290) _ ⟨hHeld, (by (with_reducible repeat (first | apply Kd.R_alloc | apply Kd.R_drewN | apply Kd.R_drew)); exact rm HO281), (by (with_reducible repeat (first | apply Kd.R_alloc | apply Kd.R_drewN | apply Kd.R_drew)); exact rm HO285), (ro HO288), (by (with_reducible repeat (first | apply Kd.R_alloc | apply Kd.R_drewN | apply Kd.R_drew)); exact rm HO291), (bk BK274), (bk BK275), (be2 HB GE274 GE275)⟩)
     skip
     refine Kd.R_lit_step (Kd.int .i64) _ 3 ?hg (N := 10) ?hd (xs := ([] : List Int)) (inner := []) (ok := fun _ => True) (okp := fun _ => True) ?hr ?hp (fun _ hk => hk) trivial (Below.refl _ _) (Nat.le_refl _) (by simp) ?_; (case hd => rfl); (case hg => rfl); (case hr => first | (go_simp; done) | (go_simp; rfl)); (case hp => exact (Reps.none _ _))
     intro v290 w10 ho11 hb hg_ hnew_
     clear hg_ hnew_
     (first | rw [← Ny289.out] at ho11 | (simp only [Int.reduceToNat] at ho11; rw [← Ny289.out] at ho11))
     have n0_ := Aside0.mk (Kd.R_elder' (ro HO278) (Kd.R_base ho11) hb)
     have n1_ := Aside0.mk (Kd.R_lower (nw ho11 HO278) (below_size (be2 HB GE274 GE275)))
     have n2_ := bb BK274 hb
     have n3_ := bb BK275 hb
     have n4_ := Aside0.mk (below_step (be2 HB GE274 GE275) hb)
     clear HO278
     clear BK274
     clear BK275
     clear HB
     have HO278 := n0_
     have HO291 := n1_
     have BK274 := n2_
     have BK275 := n3_
     have HB := n4_
     clear n0_ n1_ n2_ n3_ n4_
     clear hb ho11
     refine hK.out _ _ ⟨bc0 BK274, bc1 BK274, bc2 BK274, bc3 BK274, bc4 BK274⟩ (fun hHeld => ?_)
     clear hK K
     refine norm_ (a' := ?_) ?_ ?_
     rotate_left
     ·show Act.put _ (some 10) _ = _
      simp only [aP]
      rfl
     refine one_ (i := 3) (N := some 6) (bv 13 0x3bf) rfl rfl (one_of HT_.out (by kernel_rfl)) (by decide) (fun K hK => ?_)
     refine Kd.R_append_rows_step (Kd.int .i64) (w0 := w) w.heap.size (by rfl) (.tmp 3) (.tmp 5) 22 3 (.int .i64 0) 8 rfl Try.underlying22 info3 rfl (by decide) (by omega) v277 y276 l0_0 _ _ _ (fun k_ => some k_ ≠ (v290 : Value).ownBlock) (fun _ => False) rfl rfl ?aO ?aR (fun _ _ h => h) (fun _ h => h.elim) ?aF ?aB ?aS ?aL ?_
     (case aR => repeat (first | exact (Kd.C_below HR0_0.out HB.out) | (with_reducible refine Kd.C_alloc ?_ _) | (with_reducible refine Kd.C_drewN ?_ _) | (with_reducible refine Kd.C_drew ?_)))
     (case aB => exact (be2 HB GE274 GE275))
     (case aF => exact (fun k_ hk => Kd.fresh' (Kd.R_lt (ro HO291)) k_ hk))
     (case aO => exact (by (with_reducible repeat (first | apply Kd.R_alloc | apply Kd.R_drewN | apply Kd.R_drew)); exact Kd.R_mono HO278.out (fun _ hk => hk.2)))
     (case aS => exact (below_size (be2 HB GE274 GE275)))
     (case aL => have := LMc2.out; omega)
     intro v280 w12 ho hb hg hat
     rw [← Ny279.out] at ho
     have n0_ := Aside0.mk (blk_grown (g := gb274) (o := .cells #[.slice A0_0 l0_0.length c0_0, .int .i64 a0_1, .slice A0_2 l0_2.length c0_2, .slice A0_3 l0_3.length c0_3, .slice A0_4 l0_4.length c0_4] 27 (0, 0)) (bk BK274) hg (Kd.R_ne HO278.out BK274.out (by decide)))
     have n1_ := Aside0.mk (blk_grown (g := gb275) (o := .cells #[.slice none 0 0, .int .i64 0, .slice none 0 0, .slice none 0 0, .slice none 0 0] 27 (0, 0)) (bk BK275) hg (Kd.R_ne HO278.out BK275.out (by decide)))
     have n2_ := Aside0.mk (Kd.R_after (ok := (fun _ => True)) (ro HO291) hg hat)
     have n3_ := Aside0.mk (hb)
     have n4_ := Aside0.mk (ho)
     clear BK274
     clear BK275
     clear HO291
     clear HB
     clear HO278
     have BK274 := n0_
     have BK275 := n1_
     have HO291 := n2_
     have HB := n3_
     have HO281 := n4_
     clear n0_ n1_ n2_ n3_ n4_
     clear ho hb hg hat
     refine hK.out _ _ ⟨bc0 BK274, bc1 BK274, bc2 BK274, bc3 BK274, bc4 BK274⟩ (fun hHeld => ?_)
     clear hK K
     refine norm_ (a' := ?_) ?_ ?_
     rotate_left
     ·show Act.put _ (some 6) _ = _
      simp only [aP]
      rfl
     refine one_ (i := 6) (N := some 9) (bv 13 0x3ff) rfl rfl (one_of HT_.out (by kernel_rfl)) (by decide) (fun K hK => ?_)
     refine goes_ Try.func95 (by kernel_rfl) rfl #[.agg #[.int .i64 a0_1, .slice A0_2 l0_2.length c0_2, .slice A0_3 l0_3.length c0_3]] (by rfl) rfl rfl ml ?_
     with_reducible refine (spec_l06Copy.calls a0_1 _ _ l0_2 _ _ l0_3 t282 t283 t286 _ ?side1 ?side2 ?side3 ?side4 A3.out).mono ?_
     (case side1 => exact cb HR0_2 HB)
     (case side2 => exact HC0_2.out)
     (case side3 => exact cb HR0_3 HB)
     (case side4 => exact HC0_3.out)
     rintro e w13 ⟨v284, v287, rfl, ho0, ho1, hb⟩
     refine ⟨_, rfl, ?_⟩
     have n0_ := Aside0.mk (Kd.R_elder' (ro HO291) (Kd.R_base ho0) hb)
     have n1_ := Aside0.mk (Kd.R_elder' (ro HO281) (Kd.R_base ho0) hb)
     have n2_ := Aside0.mk (Kd.R_lower (nw (nw ho0 HO291) HO281) (below_size (be2 HB GE274 GE275)))
     have n3_ := Aside0.mk (Kd.R_lower ho1 (below_size (be2 HB GE274 GE275)))
     have n4_ := bb BK274 hb
     have n5_ := bb BK275 hb
     have n6_ := Aside0.mk (below_step (be2 HB GE274 GE275) hb)
     clear HO291
     clear HO281
     clear BK274
     clear BK275
     clear HB
     have HO291 := n0_
     have HO281 := n1_
     have HO285 := n2_
     have HO288 := n3_
     have BK274 := n4_
     have BK275 := n5_
     have HB := n6_
     clear n0_ n1_ n2_ n3_ n4_ n5_ n6_
     (try clear hb)
     (try clear hb2)
     (try clear hk)
     (try clear hi)
     (try clear ho0)
     (try clear ho1)
     refine hK.out _ _ ⟨bc0 BK274, bc1 BK274, bc2 BK274, bc3 BK274, bc4 BK274⟩ (fun hHeld => ?_)
     clear hK K
     refine norm_ (a' := ?_) ?_ ?_
     rotate_left
     ·show Act.put _ (some 9) _ = _
      simp only [aP]
      rfl
     exact norm_ (by simp only [putAll, Act.put, List.setIfInBounds_toArray, List.set_cons_zero, List.set_cons_succ]) (hCont (v277, v280, v284, v287, v290) _ ⟨hHeld, (by (with_reducible repeat (first | apply Kd.R_alloc | apply Kd.R_drewN | apply Kd.R_drew)); exact rm HO281), (by (with_reducible repeat (first | apply Kd.R_alloc | apply Kd.R_drewN | apply Kd.R_drew)); exact rm HO285), (ro HO288), (by (with_reducible repeat (first | apply Kd.R_alloc | apply Kd.R_drewN | apply Kd.R_drew)); exact rm HO291), (bk BK274), (bk BK275), (be2 HB GE274 GE275)⟩)
    skip
    refine Kd.R_lit_step (Kd.int .i64) _ 3 ?hg (N := 10) ?hd (xs := ([] : List Int)) (inner := []) (ok := fun _ => True) (okp := fun _ => True) ?hr ?hp (fun _ hk => hk) trivial (Below.refl _ _) (Nat.le_refl _) (by simp) ?_; (case hd => rfl); (case hg => rfl); (case hr => first | (go_simp; done) | (go_simp; rfl)); (case hp => exact (Reps.none _ _))
    intro v290 w8 ho9 hb hg_ hnew_
    clear hg_ hnew_
    (first | rw [← Ny289.out] at ho9 | (simp only [Int.reduceToNat] at ho9; rw [← Ny289.out] at ho9))
    have n0_ := Aside0.mk (Kd.R_lower ho9 (below_size (be2 HB GE274 GE275)))
    have n1_ := bb BK274 hb
    have n2_ := bb BK275 hb
    have n3_ := Aside0.mk (below_step (be2 HB GE274 GE275) hb)
    clear BK274
    clear BK275
    clear HB
    have HO291 := n0_
    have BK274 := n1_
    have BK275 := n2_
    have HB := n3_
    clear n0_ n1_ n2_ n3_
    clear hb ho9
    refine hK.out _ _ ⟨bc0 BK274, bc1 BK274, bc2 BK274, bc3 BK274, bc4 BK274⟩ (fun hHeld => ?_)
    clear hK K
    refine norm_ (a' := ?_) ?_ ?_
    rotate_left
    ·show Act.put _ (some 10) _ = _
     simp only [aP]
     rfl
    refine one_ (i := 0) (N := some 3) (bv 13 0x3b7) rfl rfl (one_of HT_.out (by kernel_rfl)) (by decide) (fun K hK => ?_)
    refine Kd.R_lit_step (Kd.int .i64) _ 3 ?hg (N := 3) ?hd (xs := ([] : List Int)) (inner := []) (ok := fun _ => True) (okp := fun _ => True) ?hr ?hp (fun _ hk => hk) trivial (Below.refl _ _) (Nat.le_refl _) (by simp) ?_; (case hd => rfl); (case hg => rfl); (case hr => first | (go_simp; done) | (go_simp; rfl)); (case hp => exact (Reps.none _ _))
    intro v277 w10 ho11 hb hg_ hnew_
    clear hg_ hnew_
    (first | rw [← Ny276.out] at ho11 | (simp only [Int.reduceToNat] at ho11; rw [← Ny276.out] at ho11))
    have n0_ := Aside0.mk (Kd.R_elder' (ro HO291) (Kd.R_base ho11) hb)
    have n1_ := Aside0.mk (Kd.R_lower (nw ho11 HO291) (below_size (be2 HB GE274 GE275)))
    have n2_ := bb BK274 hb
    have n3_ := bb BK275 hb
    have n4_ := Aside0.mk (below_step (be2 HB GE274 GE275) hb)
    clear HO291
    clear BK274
    clear BK275
    clear HB
    have HO291 := n0_
    have HO278 := n1_
    have BK274 := n2_
    have BK275 := n3_
    have HB := n4_
    clear n0_ n1_ n2_ n3_ n4_
    clear hb ho11
    refine hK.out _ _ ⟨bc0 BK274, bc1 BK274, bc2 BK274, bc3 BK274, bc4 BK274⟩ (fun hHeld => ?_)
    clear hK K
    refine norm_ (a' := ?_) ?_ ?_
    rotate_left
    ·show Act.put _ (some 3) _ = _
     simp only [aP]
     rfl
    refine one_ (i := 3) (N := some 6) (bv 13 0x3bf) rfl rfl (one_of HT_.out (by kernel_rfl)) (by decide) (fun K hK => ?_)
    refine Kd.R_append_rows_step (Kd.int .i64) (w0 := w) w.heap.size (by rfl) (.tmp 3) (.tmp 5) 22 3 (.int .i64 0) 8 rfl Try.underlying22 info3 rfl (by decide) (by omega) v277 y276 l0_0 _ _ _ (fun k_ => some k_ ≠ (v290 : Value).ownBlock) (fun _ => False) rfl rfl ?aO ?aR (fun _ _ h => h) (fun _ h => h.elim) ?aF ?aB ?aS ?aL ?_
    (case aR => repeat (first | exact (Kd.C_below HR0_0.out HB.out) | (with_reducible refine Kd.C_alloc ?_ _) | (with_reducible refine Kd.C_drewN ?_ _) | (with_reducible refine Kd.C_drew ?_)))
    (case aB => exact (be2 HB GE274 GE275))
    (case aF => exact (fun k_ hk => Kd.fresh' (Kd.R_lt (ro HO291)) k_ hk))
    (case aO => exact (by (with_reducible repeat (first | apply Kd.R_alloc | apply Kd.R_drewN | apply Kd.R_drew)); exact Kd.R_mono HO278.out (fun _ hk => hk.2)))
    (case aS => exact (below_size (be2 HB GE274 GE275)))
    (case aL => have := LMc2.out; omega)
    intro v280 w12 ho hb hg hat
    rw [← Ny279.out] at ho
    have n0_ := Aside0.mk (blk_grown (g := gb274) (o := .cells #[.slice A0_0 l0_0.length c0_0, .int .i64 a0_1, .slice A0_2 l0_2.length c0_2, .slice A0_3 l0_3.length c0_3, .slice A0_4 l0_4.length c0_4] 27 (0, 0)) (bk BK274) hg (Kd.R_ne HO278.out BK274.out (by decide)))
    have n1_ := Aside0.mk (blk_grown (g := gb275) (o := .cells #[.slice none 0 0, .int .i64 0, .slice none 0 0, .slice none 0 0, .slice none 0 0] 27 (0, 0)) (bk BK275) hg (Kd.R_ne HO278.out BK275.out (by decide)))
    have n2_ := Aside0.mk (Kd.R_after (ok := (fun _ => True)) (ro HO291) hg hat)
    have n3_ := Aside0.mk (hb)
    have n4_ := Aside0.mk (ho)
    clear BK274
    clear BK275
    clear HO291
    clear HB
    clear HO278
    have BK274 := n0_
    have BK275 := n1_
    have HO291 := n2_
    have HB := n3_
    have HO281 := n4_
    clear n0_ n1_ n2_ n3_ n4_
    clear ho hb hg hat
    refine hK.out _ _ ⟨bc0 BK274, bc1 BK274, bc2 BK274, bc3 BK274, bc4 BK274⟩ (fun hHeld => ?_)
    clear hK K
    refine norm_ (a' := ?_) ?_ ?_
    rotate_left
    ·show Act.put _ (some 6) _ = _
     simp only [aP]
     rfl
    refine one_ (i := 6) (N := some 9) (bv 13 0x3ff) rfl rfl (one_of HT_.out (by kernel_rfl)) (by decide) (fun K hK => ?_)
    refine goes_ Try.func95 (by kernel_rfl) rfl #[.agg #[.int .i64 a0_1, .slice A0_2 l0_2.length c0_2, .slice A0_3 l0_3.length c0_3]] (by rfl) rfl rfl ml ?_
    with_reducible refine (spec_l06Copy.calls a0_1 _ _ l0_2 _ _ l0_3 t282 t283 t286 _ ?side1 ?side2 ?side3 ?side4 A3.out).mono ?_
    (case side1 => exact cb HR0_2 HB)
    (case side2 => exact HC0_2.out)
    (case side3 => exact cb HR0_3 HB)
    (case side4 => exact HC0_3.out)
    rintro e w13 ⟨v284, v287, rfl, ho0, ho1, hb⟩
    refine ⟨_, rfl, ?_⟩
    have n0_ := Aside0.mk (Kd.R_elder' (ro HO291) (Kd.R_base ho0) hb)
    have n1_ := Aside0.mk (Kd.R_elder' (ro HO281) (Kd.R_base ho0) hb)
    have n2_ := Aside0.mk (Kd.R_lower (nw (nw ho0 HO291) HO281) (below_size (be2 HB GE274 GE275)))
    have n3_ := Aside0.mk (Kd.R_lower ho1 (below_size (be2 HB GE274 GE275)))
    have n4_ := bb BK274 hb
    have n5_ := bb BK275 hb
    have n6_ := Aside0.mk (below_step (be2 HB GE274 GE275) hb)
    clear HO291
    clear HO281
    clear BK274
    clear BK275
    clear HB
    have HO291 := n0_
    have HO281 := n1_
    have HO285 := n2_
    have HO288 := n3_
    have BK274 := n4_
    have BK275 := n5_
    have HB := n6_
    clear n0_ n1_ n2_ n3_ n4_ n5_ n6_
    (try clear hb)
    (try clear hb2)
    (try clear hk)
    (try clear hi)
    (try clear ho0)
    (try clear ho1)
    refine hK.out _ _ ⟨bc0 BK274, bc1 BK274, bc2 BK274, bc3 BK274, bc4 BK274⟩ (fun hHeld => ?_)
    clear hK K
    refine norm_ (a' := ?_) ?_ ?_
    rotate_left
    ·show Act.put _ (some 9) _ = _
     simp only [aP]
     rfl
    exact norm_ (by simp only [putAll, Act.put, List.setIfInBounds_toArray, List.set_cons_zero, List.set_cons_succ]) (hCont (v277, v280, v284, v287, v290) _ ⟨hHeld, (by (with_reducible repeat (first | apply Kd.R_alloc | apply Kd.R_drewN | apply Kd.R_drew)); exact rm HO281), (by (with_reducible repeat (first | apply Kd.R_alloc | apply Kd.R_drewN | apply Kd.R_drew)); exact rm HO285), (ro HO288), (by (with_reducible repeat (first | apply Kd.R_alloc | apply Kd.R_drewN | apply Kd.R_drew)); exact rm HO291), (bk BK274), (bk BK275), (be2 HB GE274 GE275)⟩)
   rintro ⟨v277, v280, v284, v287, v290⟩ w14 ⟨hS_, h0_, h1_, h2_, h3_, h4_, h5_, h6_⟩
   have n0_ : Aside0 (Kd.R (Kd.int .i64) 3 w14 w.heap.size (fun k_ => some k_ ≠ (v284 : Value).ownBlock ∧ some k_ ≠ (v290 : Value).ownBlock) v280 y279) := ⟨h0_⟩
   have n1_ : Aside0 (Kd.R (Kd.int .i64) 3 w14 w.heap.size (fun k_ => some k_ ≠ (v280 : Value).ownBlock ∧ some k_ ≠ (v290 : Value).ownBlock) v284 t283) := ⟨h1_⟩
   have n2_ : Aside0 (Kd.R k70 70 w14 w.heap.size (fun _ => True) v287 t286) := ⟨h2_⟩
   have n3_ : Aside0 (Kd.R (Kd.int .i64) 3 w14 w.heap.size (fun k_ => some k_ ≠ (v280 : Value).ownBlock ∧ some k_ ≠ (v284 : Value).ownBlock) v290 y289) := ⟨h3_⟩
   have n4_ : Aside0 (w14.heap[gb274]? = some (.cells #[.slice A0_0 l0_0.length c0_0, .int .i64 a0_1, .slice A0_2 l0_2.length c0_2, .slice A0_3 l0_3.length c0_3, .slice A0_4 l0_4.length c0_4] 27 (0, 0))) := ⟨h4_⟩
   have n5_ : Aside0 (w14.heap[gb275]? = some (.cells #[.slice none 0 0, .int .i64 0, .slice none 0 0, .slice none 0 0, .slice none 0 0] 27 (0, 0))) := ⟨h5_⟩
   have n6_ : Aside0 (Below w.heap.size w w14) := ⟨h6_⟩
   clear BK274
   clear BK275
   clear HB
   clear h0_ h1_ h2_ h3_ h4_ h5_ h6_
   have HO281 := n0_
   have HO285 := n1_
   have HO288 := n2_
   have HO291 := n3_
   have BK274 := n4_
   have BK275 := n5_
   have HB := n6_
   clear n0_ n1_ n2_ n3_ n4_ n5_ n6_
   have hHeld : w14.cell? ⟨gb274, 0, none⟩ = some (.slice A0_0 l0_0.length c0_0) ∧ w14.cell? ⟨gb274, 1, none⟩ = some (.int .i64 a0_1) ∧ w14.cell? ⟨gb274, 2, none⟩ = some (.slice A0_2 l0_2.length c0_2) ∧ w14.cell? ⟨gb274, 3, none⟩ = some (.slice A0_3 l0_3.length c0_3) ∧ w14.cell? ⟨gb274, 4, none⟩ = some (.slice A0_4 l0_4.length c0_4) := hS_
   refine norm_ (a' := ?_) ?_ ?_
   rotate_left
   ·simp only [putAll, Act.put, List.setIfInBounds_toArray, List.set_cons_zero, List.set_cons_succ]
    rfl
   refine one_ (i := 10) (N := some 13) (bv 13 0x7ff) rfl rfl (one_of HT_.out (by kernel_rfl)) (by decide) (fun K hK => ?_)
   refine Kd.R_append_rows_step (Kd.int .i64) (w0 := w) w.heap.size (by rfl) (.tmp 10) (.tmp 12) 22 3 (.int .i64 0) 8 rfl Try.underlying22 info3 rfl (by decide) (by omega) v290 y289 l0_4 _ _ _ (fun k_ => some k_ ≠ (v280 : Value).ownBlock ∧ some k_ ≠ (v284 : Value).ownBlock) (fun _ => False) rfl rfl ?aO ?aR (fun _ _ h => h) (fun _ h => h.elim) ?aF ?aB ?aS ?aL ?_
   (case aR => repeat (first | exact (Kd.C_below HR0_4.out HB.out) | (with_reducible refine Kd.C_alloc ?_ _) | (with_reducible refine Kd.C_drewN ?_ _) | (with_reducible refine Kd.C_drew ?_)))
   (case aB => exact (be2 HB GE274 GE275))
   (case aF => exact (fun k_ hk => ⟨Kd.fresh' (Kd.R_lt (ro HO281)) k_ hk, Kd.fresh' (Kd.R_lt (ro HO285)) k_ hk⟩))
   (case aO => exact (ro HO291))
   (case aS => exact (below_size (be2 HB GE274 GE275)))
   (case aL => have := LMc4.out; omega)
   intro v293 w15 ho hb hg hat
   rw [← Ny292.out] at ho
   have n0_ := Aside0.mk (blk_grown (g := gb274) (o := .cells #[.slice A0_0 l0_0.length c0_0, .int .i64 a0_1, .slice A0_2 l0_2.length c0_2, .slice A0_3 l0_3.length c0_3, .slice A0_4 l0_4.length c0_4] 27 (0, 0)) (bk BK274) hg (Kd.R_ne HO291.out BK274.out (by decide)))
   have n1_ := Aside0.mk (blk_grown (g := gb275) (o := .cells #[.slice none 0 0, .int .i64 0, .slice none 0 0, .slice none 0 0, .slice none 0 0] 27 (0, 0)) (bk BK275) hg (Kd.R_ne HO291.out BK275.out (by decide)))
   have n2_ := Aside0.mk (Kd.R_after (ok := (fun k_ => some k_ ≠ (v284 : Value).ownBlock)) (ro HO281) hg hat)
   have n3_ := Aside0.mk (Kd.R_after (ok := (fun k_ => some k_ ≠ (v280 : Value).ownBlock)) (ro HO285) hg hat)
   have n4_ := Aside0.mk (Kd.R_over' (ro HO288) (Kd.R_typed (ro HO291)) (by decide) hg)
   have n5_ := Aside0.mk (hb)
   have n6_ := Aside0.mk (ho)
   clear BK274
   clear BK275
   clear HO281
   clear HO285
   clear HO288
   clear HB
   clear HO291
   have BK274 := n0_
   have BK275 := n1_
   have HO281 := n2_
   have HO285 := n3_
   have HO288 := n4_
   have HB := n5_
   have HO294 := n6_
   clear n0_ n1_ n2_ n3_ n4_ n5_ n6_
   clear ho hb hg hat
   obtain ⟨Ao16, co16, eo16⟩ := Kd.R_slice HO294.out
   (first | subst eo16 | (injection eo16 with f1_ f2_ f3_; have f4_ := f1_.symm; have f5_ := f3_.symm; clear f1_ f2_ f3_; subst f4_; subst f5_))
   obtain ⟨Ao17, co17, eo17⟩ := Kd.R_slice HO288.out
   (first | subst eo17 | (injection eo17 with f1_ f2_ f3_; have f4_ := f1_.symm; have f5_ := f3_.symm; clear f1_ f2_ f3_; subst f4_; subst f5_))
   obtain ⟨Ao18, co18, eo18⟩ := Kd.R_slice HO285.out
   (first | subst eo18 | (injection eo18 with f1_ f2_ f3_; have f4_ := f1_.symm; have f5_ := f3_.symm; clear f1_ f2_ f3_; subst f4_; subst f5_))
   obtain ⟨Ao19, co19, eo19⟩ := Kd.R_slice HO281.out
   (first | subst eo19 | (injection eo19 with f1_ f2_ f3_; have f4_ := f1_.symm; have f5_ := f3_.symm; clear f1_ f2_ f3_; subst f4_; subst f5_))
   refine hK.out _ _ ⟨bc0 BK274, bc1 BK274, bc2 BK274, bc3 BK274, bc4 BK274⟩ (fun hHeld => ?_)
   clear hK K
   refine norm_ (a' := ?_) ?_ ?_
   rotate_left
   ·show Act.put _ (some 13) _ = _
    simp only [aP]
    rfl
   refine py HT_ 11 14 (bv 13 0xfff) ?_
   refine one_ (i := 12) (N := none) (bv 13 0x1fff) rfl rfl (one_of HT_.out (by kernel_rfl)) (by decide) (fun K hK => ?_)
   have hs20 : w15.cell? ⟨gb275, 0, none⟩ = some (.slice none 0 0) := bc0 BK275
   have hfs20 := blk_frozen BK275.out 0
   have hns20_0 := NB274_275.out
   have hms20_0 := NB275_274.out
   have hs21 : w15.cell? ⟨gb275, 1, none⟩ = some (.int .i64 0) := bc1 BK275
   have hfs21 := blk_frozen BK275.out 1
   have hns21_0 := NB274_275.out
   have hms21_0 := NB275_274.out
   have hs22 : w15.cell? ⟨gb275, 2, none⟩ = some (.slice none 0 0) := bc2 BK275
   have hfs22 := blk_frozen BK275.out 2
   have hns22_0 := NB274_275.out
   have hms22_0 := NB275_274.out
   have hs23 : w15.cell? ⟨gb275, 3, none⟩ = some (.slice none 0 0) := bc3 BK275
   have hfs23 := blk_frozen BK275.out 3
   have hns23_0 := NB274_275.out
   have hms23_0 := NB275_274.out
   have hs24 : w15.cell? ⟨gb275, 4, none⟩ = some (.slice none 0 0) := bc4 BK275
   have hfs24 := blk_frozen BK275.out 4
   have hns24_0 := NB274_275.out
   have hms24_0 := NB275_274.out
   refine skip_ (w1 := ?_) (by rfl) rfl ?_ ?_
   rotate_left
   ·go_simp
    rfl
   refine hK.out _ _ ⟨((cell_far (p := ⟨gb275, _, none⟩) NB274_275.out _).trans (((cell_far (p := ⟨gb275, _, none⟩) NB274_275.out _).trans (((cell_far (p := ⟨gb275, _, none⟩) NB274_275.out _).trans (((cell_far (p := ⟨gb275, _, none⟩) NB274_275.out _).trans (((cell_far (p := ⟨gb275, _, none⟩) NB274_275.out _).trans (hHeld.1)))))))))), ((cell_far (p := ⟨gb275, _, none⟩) NB274_275.out _).trans (((cell_far (p := ⟨gb275, _, none⟩) NB274_275.out _).trans (((cell_far (p := ⟨gb275, _, none⟩) NB274_275.out _).trans (((cell_far (p := ⟨gb275, _, none⟩) NB274_275.out _).trans (((cell_far (p := ⟨gb275, _, none⟩) NB274_275.out _).trans (hHeld.2.1)))))))))), ((cell_far (p := ⟨gb275, _, none⟩) NB274_275.out _).trans (((cell_far (p := ⟨gb275, _, none⟩) NB274_275.out _).trans (((cell_far (p := ⟨gb275, _, none⟩) NB274_275.out _).trans (((cell_far (p := ⟨gb275, _, none⟩) NB274_275.out _).trans (((cell_far (p := ⟨gb275, _, none⟩) NB274_275.out _).trans (hHeld.2.2.1)))))))))), ((cell_far (p := ⟨gb275, _, none⟩) NB274_275.out _).trans (((cell_far (p := ⟨gb275, _, none⟩) NB274_275.out _).trans (((cell_far (p := ⟨gb275, _, none⟩) NB274_275.out _).trans (((cell_far (p := ⟨gb275, _, none⟩) NB274_275.out _).trans (((cell_far (p := ⟨gb275, _, none⟩) NB274_275.out _).trans (hHeld.2.2.2.1)))))))))), ((cell_far (p := ⟨gb275, _, none⟩) NB274_275.out _).trans (((cell_far (p := ⟨gb275, _, none⟩) NB274_275.out _).trans (((cell_far (p := ⟨gb275, _, none⟩) NB274_275.out _).trans (((cell_far (p := ⟨gb275, _, none⟩) NB274_275.out _).trans (((cell_far (p := ⟨gb275, _, none⟩) NB274_275.out _).trans (hHeld.2.2.2.2))))))))))⟩ (fun hHeld => ?_)
   clear hK K
   refine done_ (done_of HT_.out (by kernel_rfl)) ?_
   try go_wp2
   refine bodyPost_ret (results_cell_row rfl _ _ gb275 27 #[.slice Ao19 y279.length co19, .int .i64 t282, .slice Ao18 t283.length co18, .slice Ao17 t286.length co17, .slice Ao16 y292.length co16] (0, 0) _ rfl (by (with_reducible repeat (first | refine blk_drewN ?_ _ | refine blk_drew ?_ | refine blk_alloc ?_ _)); refine blk_put (cs := #[.slice Ao19 y279.length co19, .int .i64 t282, .slice Ao18 t283.length co18, .slice Ao17 t286.length co17, .slice none 0 0]) ?_ 4 _ rfl; (with_reducible repeat (first | refine blk_drewN ?_ _ | refine blk_drew ?_ | refine blk_alloc ?_ _)); refine blk_put (cs := #[.slice Ao19 y279.length co19, .int .i64 t282, .slice Ao18 t283.length co18, .slice none 0 0, .slice none 0 0]) ?_ 3 _ rfl; (with_reducible repeat (first | refine blk_drewN ?_ _ | refine blk_drew ?_ | refine blk_alloc ?_ _)); refine blk_put (cs := #[.slice Ao19 y279.length co19, .int .i64 t282, .slice none 0 0, .slice none 0 0, .slice none 0 0]) ?_ 2 _ rfl; (with_reducible repeat (first | refine blk_drewN ?_ _ | refine blk_drew ?_ | refine blk_alloc ?_ _)); refine blk_put (cs := #[.slice Ao19 y279.length co19, .int .i64 0, .slice none 0 0, .slice none 0 0, .slice none 0 0]) ?_ 1 _ rfl; (with_reducible repeat (first | refine blk_drewN ?_ _ | refine blk_drew ?_ | refine blk_alloc ?_ _)); refine blk_put (cs := #[.slice none 0 0, .int .i64 0, .slice none 0 0, .slice none 0 0, .slice none 0 0]) ?_ 0 _ rfl; (with_reducible repeat (first | refine blk_drewN ?_ _ | refine blk_drew ?_ | refine blk_alloc ?_ _)); exact BK275.out) Try.underlying27 rfl (by kernel_rfl)) rfl ?_
   exact ⟨_, _, _, _, er, by (with_reducible repeat (first | apply Kd.R_alloc | apply Kd.R_drewN | apply Kd.R_drew)); exact Kd.R_mono (Kd.R_far (p := ⟨gb275, 4, none⟩) (Kd.R_far (p := ⟨gb275, 3, none⟩) (Kd.R_far (p := ⟨gb275, 2, none⟩) (Kd.R_far (p := ⟨gb275, 1, none⟩) (Kd.R_far (p := ⟨gb275, 0, none⟩) (Kd.R_types HO281.out BK275.out (by decide)) (fun _ hk => hk.2) (.slice Ao19 y279.length co19)) (fun _ hk => hk.2) (.int .i64 t282)) (fun _ hk => hk.2) (.slice Ao18 t283.length co18)) (fun _ hk => hk.2) (.slice Ao17 t286.length co17)) (fun _ hk => hk.2) (.slice Ao16 y292.length co16)) (fun _ hk => ⟨hk.1.1, hk.1.2⟩), by (with_reducible repeat (first | apply Kd.R_alloc | apply Kd.R_drewN | apply Kd.R_drew)); exact Kd.R_mono (Kd.R_far (p := ⟨gb275, 4, none⟩) (Kd.R_far (p := ⟨gb275, 3, none⟩) (Kd.R_far (p := ⟨gb275, 2, none⟩) (Kd.R_far (p := ⟨gb275, 1, none⟩) (Kd.R_far (p := ⟨gb275, 0, none⟩) (Kd.R_types HO285.out BK275.out (by decide)) (fun _ hk => hk.2) (.slice Ao19 y279.length co19)) (fun _ hk => hk.2) (.int .i64 t282)) (fun _ hk => hk.2) (.slice Ao18 t283.length co18)) (fun _ hk => hk.2) (.slice Ao17 t286.length co17)) (fun _ hk => hk.2) (.slice Ao16 y292.length co16)) (fun _ hk => ⟨hk.1.1, hk.1.2⟩), by (with_reducible repeat (first | apply Kd.R_alloc | apply Kd.R_drewN | apply Kd.R_drew)); exact Kd.R_mono (Kd.R_far (p := ⟨gb275, 4, none⟩) (Kd.R_far (p := ⟨gb275, 3, none⟩) (Kd.R_far (p := ⟨gb275, 2, none⟩) (Kd.R_far (p := ⟨gb275, 1, none⟩) (Kd.R_far (p := ⟨gb275, 0, none⟩) (Kd.R_types HO288.out BK275.out (by decide)) (fun _ hk => hk.2) (.slice Ao19 y279.length co19)) (fun _ hk => hk.2) (.int .i64 t282)) (fun _ hk => hk.2) (.slice Ao18 t283.length co18)) (fun _ hk => hk.2) (.slice Ao17 t286.length co17)) (fun _ hk => hk.2) (.slice Ao16 y292.length co16)) (fun _ hk => trivial), by (with_reducible repeat (first | apply Kd.R_alloc | apply Kd.R_drewN | apply Kd.R_drew)); exact Kd.R_mono (Kd.R_far (p := ⟨gb275, 4, none⟩) (Kd.R_far (p := ⟨gb275, 3, none⟩) (Kd.R_far (p := ⟨gb275, 2, none⟩) (Kd.R_far (p := ⟨gb275, 1, none⟩) (Kd.R_far (p := ⟨gb275, 0, none⟩) (Kd.R_types HO294.out BK275.out (by decide)) (fun _ hk => hk.2) (.slice Ao19 y279.length co19)) (fun _ hk => hk.2) (.int .i64 t282)) (fun _ hk => hk.2) (.slice Ao18 t283.length co18)) (fun _ hk => hk.2) (.slice Ao17 t286.length co17)) (fun _ hk => hk.2) (.slice Ao16 y292.length co16)) (fun _ hk => ⟨hk.1.1, hk.1.2⟩), be2 HB GE274 GE275⟩
  rw [if_neg c4] at H
  exact absurd H (by simp)
 rw [if_neg c2] at H
 exact absurd H (by simp)

/-! ### spec_l09With: function 68 -/
def spec_l09With.f (k : Nat) (l0_0 : List Int) (a0_1 : Int) (l0_2 : List Int) (l0_3 : List (S70)) (l0_4 : List Int) (a1_0 : Int) (l1_1 : List Int) (l1_2 : List (S70)) (a2 : Bool) : Option (List Int × Int × List Int × (List (S70)) × List Int × Bool) := (spec_PoolOk.f k l0_0 a0_1 l0_2 l0_3 l0_4).bind fun t298 => (if t298 = true then (if a2 = true then ((spec_l09Copy.f l0_0 a0_1 l0_2 l0_3 l0_4).bind fun bt299 => (some (bt299.1, a1_0, l1_1, l1_2, bt299.2.2.2.2, true))) else (some (([] : List Int), 0, ([] : List Int), ([] : List (S70)), ([] : List Int), false))) else (some (([] : List Int), 0, ([] : List Int), ([] : List (S70)), ([] : List Int), false)))
theorem spec_l09With.mono : ∀ a0 a1 a2 a3 a4 a5 a6 a7 a8 k, LeO (spec_l09With.f k a0 a1 a2 a3 a4 a5 a6 a7 a8) (spec_l09With.f (k + 1) a0 a1 a2 a3 a4 a5 a6 a7 a8) := by
 intro a0 a1 a2 a3 a4 a5 a6 a7 a8 k
 unfold spec_l09With.f
 repeat' first
   | (with_reducible exact spec_PoolOk.mono _ _ _ _ _ _)
   | (with_reducible exact LeO.refl _)
   | (with_reducible exact LeO.none _)
   | (with_reducible refine LeO.ite ?_ ?_)
   | (with_reducible refine LeO.bind ?_ (fun _ => ?_))
   | exact spec_PoolOk.mono _ _ _ _ _ _
   | exact LeO.none _
   | refine LeO.ite ?_ ?_
   | refine LeO.bind ?_ (fun _ => ?_)
set_option maxHeartbeats 8000000 in
set_option maxRecDepth 100000 in
theorem spec_l09With.calls (k : Nat) (A0_0 : Option Addr) (c0_0 : Nat) (l0_0 : List Int) (a0_1 : Int) (A0_2 : Option Addr) (c0_2 : Nat) (l0_2 : List Int) (A0_3 : Option Addr) (c0_3 : Nat) (l0_3 : List (S70)) (A0_4 : Option Addr) (c0_4 : Nat) (l0_4 : List Int) (a1_0 : Int) (P1_1_ : Nat → Prop) (u9000_ : Value) (l1_1 : List Int) (P1_2_ : Nat → Prop) (u9001_ : Value) (l1_2 : List (S70)) (a2 : Bool) (r1 : List Int) (r2 : Int) (r3 : List Int) (r4 : List (S70)) (r5 : List Int) (r6 : Bool) (w0 w : World) (hB : Below w0.heap.size w0 w) (hr0_0 : ∀ W_, Kept w W_ (fun k_ => P1_1_ k_ ∨ P1_2_ k_) → Kd.C (Kd.int .i64) W_ A0_0 l0_0.length l0_0) (hc0_0 : l0_0.length ≤ c0_0) (hr0_2 : ∀ W_, Kept w W_ (fun k_ => P1_1_ k_ ∨ P1_2_ k_) → Kd.C (Kd.int .i64) W_ A0_2 l0_2.length l0_2) (hc0_2 : l0_2.length ≤ c0_2) (hr0_3 : ∀ W_, Kept w W_ (fun k_ => P1_1_ k_ ∨ P1_2_ k_) → Kd.C k70 W_ A0_3 l0_3.length l0_3) (hc0_3 : l0_3.length ≤ c0_3) (hr0_4 : ∀ W_, Kept w W_ (fun k_ => P1_1_ k_ ∨ P1_2_ k_) → Kd.C (Kd.int .i64) W_ A0_4 l0_4.length l0_4) (hc0_4 : l0_4.length ≤ c0_4) (ho1_1 : Kd.R (Kd.int .i64) 3 w w0.heap.size P1_1_ u9000_ l1_1) (ho1_2 : Kd.R k70 70 w w0.heap.size P1_2_ u9001_ l1_2) (h : spec_l09With.f k l0_0 a0_1 l0_2 l0_3 l0_4 a1_0 l1_1 l1_2 a2 = some (r1, r2, r3, r4, r5, r6)) :
  Calls Try.prog 68 #[.agg #[.slice A0_0 l0_0.length c0_0, .int .i64 a0_1, .slice A0_2 l0_2.length c0_2, .slice A0_3 l0_3.length c0_3, .slice A0_4 l0_4.length c0_4], .agg #[.int .i64 a1_0, u9000_, u9001_], .bool a2] w fun e w' => ∃ v0_ v2_ v3_ v4_ : Value, e = .returned (.tuple #[.agg #[v0_, .int .i64 r2, v2_, v3_, v4_], .bool r6]) ∧ Kd.R (Kd.int .i64) 3 w' w0.heap.size (fun k_ => ((P1_1_ k_ ∨ P1_2_ k_) ∨ w.heap.size ≤ k_) ∧ some k_ ≠ (v2_ : Value).ownBlock ∧ some k_ ≠ (v4_ : Value).ownBlock) v0_ r1 ∧ Kd.R (Kd.int .i64) 3 w' w0.heap.size (fun k_ => ((P1_1_ k_ ∨ P1_2_ k_) ∨ w.heap.size ≤ k_) ∧ some k_ ≠ (v0_ : Value).ownBlock ∧ some k_ ≠ (v4_ : Value).ownBlock) v2_ r3 ∧ Kd.R k70 70 w' w0.heap.size (fun k_ => ((P1_1_ k_ ∨ P1_2_ k_) ∨ w.heap.size ≤ k_)) v3_ r4 ∧ Kd.R (Kd.int .i64) 3 w' w0.heap.size (fun k_ => ((P1_1_ k_ ∨ P1_2_ k_) ∨ w.heap.size ≤ k_) ∧ some k_ ≠ (v0_ : Value).ownBlock ∧ some k_ ≠ (v2_ : Value).ownBlock) v4_ r5 ∧ Below w0.heap.size w0 w' ∧ Kept w w' (fun k_ => P1_1_ k_ ∨ P1_2_ k_) := by
 have hu27 := Try.underlying27
 have hu25 := Try.underlying25
 have HR0_0 := Aside0.mk hr0_0
 have HC0_0 := Aside0.mk hc0_0
 clear hr0_0 hc0_0
 have HR0_2 := Aside0.mk hr0_2
 have HC0_2 := Aside0.mk hc0_2
 clear hr0_2 hc0_2
 have HR0_3 := Aside0.mk hr0_3
 have HC0_3 := Aside0.mk hc0_3
 clear hr0_3 hc0_3
 have HR0_4 := Aside0.mk hr0_4
 have HC0_4 := Aside0.mk hc0_4
 clear hr0_4 hc0_4
 have HO1_1 := Aside0.mk (show Kd.R (Kd.int .i64) 3 w w0.heap.size (fun k_ => ((P1_1_ k_ ∨ P1_2_ k_) ∨ w.heap.size ≤ k_)) u9000_ l1_1 from Kd.R_mono ho1_1 (fun k_ hk => (.inl (.inl hk))))
 have HO1_2 := Aside0.mk (show Kd.R k70 70 w w0.heap.size (fun k_ => ((P1_1_ k_ ∨ P1_2_ k_) ∨ w.heap.size ≤ k_)) u9001_ l1_2 from Kd.R_mono ho1_2 (fun k_ hk => (.inl (.inr hk))))
 have HK := Aside0.mk (Kept.refl w (fun k_ => P1_1_ k_ ∨ P1_2_ k_))
 have HW0 := Aside0.mk hB.size
 have HB := Aside0.mk hB
 clear hB
 have H : ((spec_PoolOk.f k l0_0 a0_1 l0_2 l0_3 l0_4).bind fun t298 => (if t298 = true then (if a2 = true then ((spec_l09Copy.f l0_0 a0_1 l0_2 l0_3 l0_4).bind fun bt299 => (some (bt299.1, a1_0, l1_1, l1_2, bt299.2.2.2.2, true))) else (some (([] : List Int), 0, ([] : List Int), ([] : List (S70)), ([] : List Int), false))) else (some (([] : List Int), 0, ([] : List Int), ([] : List (S70)), ([] : List Int), false)))) = some (r1, r2, r3, r4, r5, r6) := h
 clear h
 replace H := Option.bind_eq_some_iff.mp H
 obtain ⟨t298, A40, H⟩ := H
 replace H : (if t298 = true then (if a2 = true then ((spec_l09Copy.f l0_0 a0_1 l0_2 l0_3 l0_4).bind fun bt299 => (some (bt299.1, a1_0, l1_1, l1_2, bt299.2.2.2.2, true))) else (some (([] : List Int), 0, ([] : List Int), ([] : List (S70)), ([] : List Int), false))) else (some (([] : List Int), 0, ([] : List Int), ([] : List (S70)), ([] : List Int), false))) = some (r1, r2, r3, r4, r5, r6) := H
 have A4 := Aside0.mk A40
 clear A40
 by_cases c5 : t298 = true
 ·subst c5
  have H1 : (if a2 = true then ((spec_l09Copy.f l0_0 a0_1 l0_2 l0_3 l0_4).bind fun bt299 => (some (bt299.1, a1_0, l1_1, l1_2, bt299.2.2.2.2, true))) else (some (([] : List Int), 0, ([] : List Int), ([] : List (S70)), ([] : List Int), false))) = some (r1, r2, r3, r4, r5, r6) := by rw [if_pos rfl] at H; exact H
  clear H
  have H := H1
  clear H1
  by_cases c6 : a2 = true
  ·subst c6
   have H1 : ((spec_l09Copy.f l0_0 a0_1 l0_2 l0_3 l0_4).bind fun bt299 => (some (bt299.1, a1_0, l1_1, l1_2, bt299.2.2.2.2, true))) = some (r1, r2, r3, r4, r5, r6) := by rw [if_pos rfl] at H; exact H
   clear H
   have H := H1
   clear H1
   replace H := Option.bind_eq_some_iff.mp H
   obtain ⟨⟨t299, t302, t303, t306, t309⟩, A70, H⟩ := H
   replace H : (some (t299, a1_0, l1_1, l1_2, t309, true)) = some (r1, r2, r3, r4, r5, r6) := H
   have A7 := Aside0.mk A70
   clear A70
   simp only [Option.some.injEq, Prod.mk.injEq] at H
   obtain ⟨rfl, rfl, rfl, rfl, rfl, rfl⟩ := H
   go_enter Try.func68, Try.ntmps68
   go_wp2_with (first | ((with_reducible refine gate_dst (N := 3) rfl ?_); refine bx 3 #[.slice A0_0 l0_0.length c0_0, .int .i64 a0_1, .slice A0_2 l0_2.length c0_2, .slice A0_3 l0_3.length c0_3, .slice A0_4 l0_4.length c0_4] 27 ?_; intro gb295 hg w8 hbox hb; replace HO1_1 := rb HO1_1 hb; replace HO1_2 := rb HO1_2 hb; have BK295 := am hbox; have GW295 := Aside0.mk ((by rw [hg]; exact (by first | exact HK.out.1 | exact (show Kept w _ (fun k_ => P1_1_ k_ ∨ P1_2_ k_) from by repeat (first | (with_reducible first | exact HK.out | apply Kept.alloc | apply Kept.drewN | apply Kept.drew) | exact HK.out)).1) : w.heap.size ≤ gb295)); replace HK := Aside0.mk (Kept.below (S := (fun k_ => P1_1_ k_ ∨ P1_2_ k_)) (by repeat (first | (with_reducible first | exact HK.out | apply Kept.alloc | apply Kept.drewN | apply Kept.drew) | exact HK.out)) hb); have GE295 := Aside0.mk ((by rw [hg]; exact (below_size (be HB)) : w0.heap.size ≤ gb295)); replace HB := s0 HB hb; clear hb hbox hg; obtain ⟨Ao9, co9, eo9⟩ := Kd.R_slice HO1_1.out; subst eo9; obtain ⟨Ao10, co10, eo10⟩ := Kd.R_slice HO1_2.out; subst eo10) | ((with_reducible refine gate_dst (N := 4) rfl ?_); refine bx 4 #[.int .i64 a1_0, .slice Ao9 l1_1.length co9, .slice Ao10 l1_2.length co10] 25 ?_; intro gb296 hg w11 hbox hb; replace HO1_1 := rb HO1_1 hb; replace HO1_2 := rb HO1_2 hb; have BK296 := am hbox; have GW296 := Aside0.mk ((by rw [hg]; exact (by first | exact HK.out.1 | exact (show Kept w _ (fun k_ => P1_1_ k_ ∨ P1_2_ k_) from by repeat (first | (with_reducible first | exact HK.out | apply Kept.alloc | apply Kept.drewN | apply Kept.drew | refine Kept.setCell ?_ (.inr GW295.out) _) | exact HK.out)).1) : w.heap.size ≤ gb296)); replace HK := Aside0.mk (Kept.below (S := (fun k_ => P1_1_ k_ ∨ P1_2_ k_)) (by repeat (first | (with_reducible first | exact HK.out | apply Kept.alloc | apply Kept.drewN | apply Kept.drew | refine Kept.setCell ?_ (.inr GW295.out) _) | exact HK.out)) hb); have GE296 := Aside0.mk ((by rw [hg]; exact (below_size (be1 HB GE295)) : w0.heap.size ≤ gb296)); replace HB := Aside0.mk (below_step (be1 HB GE295) hb); have NB295_296 := Aside0.mk ((by rw [hg]; exact Nat.ne_of_lt (bl BK295) : gb295 ≠ gb296)); have NB296_295 := Aside0.mk ((by rw [hg]; exact Nat.ne_of_gt (bl BK295) : gb296 ≠ gb295)); replace BK295 := bb BK295 hb; clear hb hbox hg) | ((with_reducible refine gate_dst (N := 6) rfl ?_); refine bx 6 #[.slice none 0 0, .int .i64 0, .slice none 0 0, .slice none 0 0, .slice none 0 0] 27 ?_; intro gb297 hg w12 hbox hb; replace HO1_1 := rb HO1_1 hb; replace HO1_2 := rb HO1_2 hb; have BK297 := am hbox; have GW297 := Aside0.mk ((by rw [hg]; exact (by first | exact HK.out.1 | exact (show Kept w _ (fun k_ => P1_1_ k_ ∨ P1_2_ k_) from by repeat (first | (with_reducible first | exact HK.out | apply Kept.alloc | apply Kept.drewN | apply Kept.drew | refine Kept.setCell ?_ (.inr GW295.out) _ | refine Kept.setCell ?_ (.inr GW296.out) _) | exact HK.out)).1) : w.heap.size ≤ gb297)); replace HK := Aside0.mk (Kept.below (S := (fun k_ => P1_1_ k_ ∨ P1_2_ k_)) (by repeat (first | (with_reducible first | exact HK.out | apply Kept.alloc | apply Kept.drewN | apply Kept.drew | refine Kept.setCell ?_ (.inr GW295.out) _ | refine Kept.setCell ?_ (.inr GW296.out) _) | exact HK.out)) hb); have GE297 := Aside0.mk ((by rw [hg]; exact (below_size (be2 HB GE295 GE296)) : w0.heap.size ≤ gb297)); replace HB := Aside0.mk (below_step (be2 HB GE295 GE296) hb); have NB295_297 := Aside0.mk ((by rw [hg]; exact Nat.ne_of_lt (bl BK295) : gb295 ≠ gb297)); have NB297_295 := Aside0.mk ((by rw [hg]; exact Nat.ne_of_gt (bl BK295) : gb297 ≠ gb295)); replace BK295 := bb BK295 hb; have NB296_297 := Aside0.mk ((by rw [hg]; exact Nat.ne_of_lt (bl BK296) : gb296 ≠ gb297)); have NB297_296 := Aside0.mk ((by rw [hg]; exact Nat.ne_of_gt (bl BK296) : gb297 ≠ gb296)); replace BK296 := bb BK296 hb; clear hb hbox hg; have hnb13 := NB295_296.out; have hnc13 := NB296_295.out; have hnb14 := NB295_297.out; have hnc14 := NB297_295.out; have hcz15_0 := bz5 BK295) | ((with_reducible refine gate_callee (f := 20) rfl ?_); refine gl 10 Try.func20 #[.agg #[.slice A0_0 l0_0.length c0_0, .int .i64 a0_1, .slice A0_2 l0_2.length c0_2, .slice A0_3 l0_3.length c0_3, .slice A0_4 l0_4.length c0_4]] ?_; (with_reducible refine (spec_PoolOk.calls k _ _ l0_0 a0_1 _ _ l0_2 _ _ l0_3 _ _ l0_4 true _ ?side1 HC0_0.out ?side3 HC0_2.out ?side5 HC0_3.out ?side7 HC0_4.out A4.out).mono ?_); (case side1 => exact Kd.C_kept_now HR0_0.out (by repeat (first | (with_reducible first | exact HK.out | apply Kept.alloc | apply Kept.drewN | apply Kept.drew | refine Kept.setCell ?_ (.inr GW295.out) _ | refine Kept.setCell ?_ (.inr GW296.out) _ | refine Kept.setCell ?_ (.inr GW297.out) _) | exact HK.out))); (case side3 => exact Kd.C_kept_now HR0_2.out (by repeat (first | (with_reducible first | exact HK.out | apply Kept.alloc | apply Kept.drewN | apply Kept.drew | refine Kept.setCell ?_ (.inr GW295.out) _ | refine Kept.setCell ?_ (.inr GW296.out) _ | refine Kept.setCell ?_ (.inr GW297.out) _) | exact HK.out))); (case side5 => exact Kd.C_kept_now HR0_3.out (by repeat (first | (with_reducible first | exact HK.out | apply Kept.alloc | apply Kept.drewN | apply Kept.drew | refine Kept.setCell ?_ (.inr GW295.out) _ | refine Kept.setCell ?_ (.inr GW296.out) _ | refine Kept.setCell ?_ (.inr GW297.out) _) | exact HK.out))); (case side7 => exact Kd.C_kept_now HR0_4.out (by repeat (first | (with_reducible first | exact HK.out | apply Kept.alloc | apply Kept.drewN | apply Kept.drew | refine Kept.setCell ?_ (.inr GW295.out) _ | refine Kept.setCell ?_ (.inr GW296.out) _ | refine Kept.setCell ?_ (.inr GW297.out) _) | exact HK.out))); rintro e w16 ⟨rfl, hb⟩; refine ⟨_, rfl, ?_⟩; replace HO1_1 := rb HO1_1 hb; replace HO1_2 := rb HO1_2 hb; replace BK295 := bb BK295 hb; replace BK296 := bb BK296 hb; replace BK297 := bb BK297 hb; replace HK := Aside0.mk (Kept.below (S := (fun k_ => P1_1_ k_ ∨ P1_2_ k_)) (by repeat (first | (with_reducible first | exact HK.out | apply Kept.alloc | apply Kept.drewN | apply Kept.drew | refine Kept.setCell ?_ (.inr GW295.out) _ | refine Kept.setCell ?_ (.inr GW296.out) _ | refine Kept.setCell ?_ (.inr GW297.out) _) | exact HK.out)) hb); replace HB := Aside0.mk (below_step (be3 HB GE295 GE296 GE297) hb); (try clear hb); have hcz17_0 := bz5 BK295) | ((with_reducible refine gate_callee (f := 64) rfl ?_); refine gl 18 Try.func64 #[.agg #[.slice A0_0 l0_0.length c0_0, .int .i64 a0_1, .slice A0_2 l0_2.length c0_2, .slice A0_3 l0_3.length c0_3, .slice A0_4 l0_4.length c0_4]] ?_; (with_reducible refine (spec_l09Copy.calls _ _ l0_0 a0_1 _ _ l0_2 _ _ l0_3 _ _ l0_4 t299 t302 t303 t306 t309 _ ?side1 HC0_0.out ?side3 HC0_2.out ?side5 HC0_3.out ?side7 HC0_4.out A7.out).mono ?_); (case side1 => exact Kd.C_kept_now HR0_0.out (by repeat (first | (with_reducible first | exact HK.out | apply Kept.alloc | apply Kept.drewN | apply Kept.drew | refine Kept.setCell ?_ (.inr GW295.out) _ | refine Kept.setCell ?_ (.inr GW296.out) _ | refine Kept.setCell ?_ (.inr GW297.out) _) | exact HK.out))); (case side3 => exact Kd.C_kept_now HR0_2.out (by repeat (first | (with_reducible first | exact HK.out | apply Kept.alloc | apply Kept.drewN | apply Kept.drew | refine Kept.setCell ?_ (.inr GW295.out) _ | refine Kept.setCell ?_ (.inr GW296.out) _ | refine Kept.setCell ?_ (.inr GW297.out) _) | exact HK.out))); (case side5 => exact Kd.C_kept_now HR0_3.out (by repeat (first | (with_reducible first | exact HK.out | apply Kept.alloc | apply Kept.drewN | apply Kept.drew | refine Kept.setCell ?_ (.inr GW295.out) _ | refine Kept.setCell ?_ (.inr GW296.out) _ | refine Kept.setCell ?_ (.inr GW297.out) _) | exact HK.out))); (case side7 => exact Kd.C_kept_now HR0_4.out (by repeat (first | (with_reducible first | exact HK.out | apply Kept.alloc | apply Kept.drewN | apply Kept.drew | refine Kept.setCell ?_ (.inr GW295.out) _ | refine Kept.setCell ?_ (.inr GW296.out) _ | refine Kept.setCell ?_ (.inr GW297.out) _) | exact HK.out))); rintro e w18 ⟨v300, v304, v307, v310, rfl, ho0, ho1, ho2, ho3, hb⟩; refine ⟨_, rfl, ?_⟩; have HO301 := Aside0.mk (Kd.R_lower (nw (Kd.R_newM (M := fun k_ => ((P1_1_ k_ ∨ P1_2_ k_) ∨ w.heap.size ≤ k_)) ho0 (by first | exact HK.out.1 | exact (show Kept w _ (fun k_ => P1_1_ k_ ∨ P1_2_ k_) from by repeat (first | (with_reducible first | exact HK.out | apply Kept.alloc | apply Kept.drewN | apply Kept.drew | refine Kept.setCell ?_ (.inr GW295.out) _ | refine Kept.setCell ?_ (.inr GW296.out) _ | refine Kept.setCell ?_ (.inr GW297.out) _) | exact HK.out)).1) (fun k_ h_ => .inr h_)) HO1_1) (below_size (be3 HB GE295 GE296 GE297))); have HO305 := Aside0.mk (Kd.R_lower (nw (Kd.R_newM (M := fun k_ => ((P1_1_ k_ ∨ P1_2_ k_) ∨ w.heap.size ≤ k_)) ho1 (by first | exact HK.out.1 | exact (show Kept w _ (fun k_ => P1_1_ k_ ∨ P1_2_ k_) from by repeat (first | (with_reducible first | exact HK.out | apply Kept.alloc | apply Kept.drewN | apply Kept.drew | refine Kept.setCell ?_ (.inr GW295.out) _ | refine Kept.setCell ?_ (.inr GW296.out) _ | refine Kept.setCell ?_ (.inr GW297.out) _) | exact HK.out)).1) (fun k_ h_ => .inr h_)) HO1_1) (below_size (be3 HB GE295 GE296 GE297))); have HO308 := Aside0.mk (Kd.R_lower (nw (Kd.R_newM (M := fun k_ => ((P1_1_ k_ ∨ P1_2_ k_) ∨ w.heap.size ≤ k_)) ho2 (by first | exact HK.out.1 | exact (show Kept w _ (fun k_ => P1_1_ k_ ∨ P1_2_ k_) from by repeat (first | (with_reducible first | exact HK.out | apply Kept.alloc | apply Kept.drewN | apply Kept.drew | refine Kept.setCell ?_ (.inr GW295.out) _ | refine Kept.setCell ?_ (.inr GW296.out) _ | refine Kept.setCell ?_ (.inr GW297.out) _) | exact HK.out)).1) (fun k_ h_ => .inr h_)) HO1_2) (below_size (be3 HB GE295 GE296 GE297))); replace HO1_2 := Aside0.mk (Kd.R_elder' (ro HO1_2) (Kd.R_base ho2) hb); have HO311 := Aside0.mk (Kd.R_lower (nw (Kd.R_newM (M := fun k_ => ((P1_1_ k_ ∨ P1_2_ k_) ∨ w.heap.size ≤ k_)) ho3 (by first | exact HK.out.1 | exact (show Kept w _ (fun k_ => P1_1_ k_ ∨ P1_2_ k_) from by repeat (first | (with_reducible first | exact HK.out | apply Kept.alloc | apply Kept.drewN | apply Kept.drew | refine Kept.setCell ?_ (.inr GW295.out) _ | refine Kept.setCell ?_ (.inr GW296.out) _ | refine Kept.setCell ?_ (.inr GW297.out) _) | exact HK.out)).1) (fun k_ h_ => .inr h_)) HO1_1) (below_size (be3 HB GE295 GE296 GE297))); replace HO1_1 := td3 (ro HO1_1) hb ho0 ho1 ho3; replace BK295 := bb BK295 hb; replace BK296 := bb BK296 hb; replace BK297 := bb BK297 hb; replace HK := Aside0.mk (Kept.below (S := (fun k_ => P1_1_ k_ ∨ P1_2_ k_)) (by repeat (first | (with_reducible first | exact HK.out | apply Kept.alloc | apply Kept.drewN | apply Kept.drew | refine Kept.setCell ?_ (.inr GW295.out) _ | refine Kept.setCell ?_ (.inr GW296.out) _ | refine Kept.setCell ?_ (.inr GW297.out) _) | exact HK.out)) hb); replace HB := Aside0.mk (below_step (be3 HB GE295 GE296 GE297) hb); (try clear hb); (try clear ho0); (try clear ho1); (try clear ho2); (try clear ho3)) | ((with_reducible refine gate_dst (N := 8) rfl ?_); refine bx 8 #[.slice none 0 0, .int .i64 0, .slice none 0 0, .slice none 0 0, .slice none 0 0] 27 ?_; intro gb312 hg w19 hbox hb; replace HO1_1 := rb HO1_1 hb; replace HO1_2 := rb HO1_2 hb; replace HO301 := rb HO301 hb; replace HO305 := rb HO305 hb; replace HO308 := rb HO308 hb; replace HO311 := rb HO311 hb; have BK312 := am hbox; have GW312 := Aside0.mk ((by rw [hg]; exact (by first | exact HK.out.1 | exact (show Kept w _ (fun k_ => P1_1_ k_ ∨ P1_2_ k_) from by repeat (first | (with_reducible first | exact HK.out | apply Kept.alloc | apply Kept.drewN | apply Kept.drew | refine Kept.setCell ?_ (.inr GW295.out) _ | refine Kept.setCell ?_ (.inr GW296.out) _ | refine Kept.setCell ?_ (.inr GW297.out) _) | exact HK.out)).1) : w.heap.size ≤ gb312)); replace HK := Aside0.mk (Kept.below (S := (fun k_ => P1_1_ k_ ∨ P1_2_ k_)) (by repeat (first | (with_reducible first | exact HK.out | apply Kept.alloc | apply Kept.drewN | apply Kept.drew | refine Kept.setCell ?_ (.inr GW295.out) _ | refine Kept.setCell ?_ (.inr GW296.out) _ | refine Kept.setCell ?_ (.inr GW297.out) _) | exact HK.out)) hb); have GE312 := Aside0.mk ((by rw [hg]; exact (below_size (be3 HB GE295 GE296 GE297)) : w0.heap.size ≤ gb312)); replace HB := Aside0.mk (below_step (be3 HB GE295 GE296 GE297) hb); have NB295_312 := Aside0.mk ((by rw [hg]; exact Nat.ne_of_lt (bl BK295) : gb295 ≠ gb312)); have NB312_295 := Aside0.mk ((by rw [hg]; exact Nat.ne_of_gt (bl BK295) : gb312 ≠ gb295)); replace BK295 := bb BK295 hb; have NB296_312 := Aside0.mk ((by rw [hg]; exact Nat.ne_of_lt (bl BK296) : gb296 ≠ gb312)); have NB312_296 := Aside0.mk ((by rw [hg]; exact Nat.ne_of_gt (bl BK296) : gb312 ≠ gb296)); replace BK296 := bb BK296 hb; have NB297_312 := Aside0.mk ((by rw [hg]; exact Nat.ne_of_lt (bl BK297) : gb297 ≠ gb312)); have NB312_297 := Aside0.mk ((by rw [hg]; exact Nat.ne_of_gt (bl BK297) : gb312 ≠ gb297)); replace BK297 := bb BK297 hb; clear hb hbox hg; obtain ⟨Ao20, co20, eo20⟩ := Kd.R_slice HO301.out; subst eo20; have hnb21 := NB312_295.out; have hnc21 := NB295_312.out; have hnb22 := NB312_296.out; have hnc22 := NB296_312.out; have hnb23 := NB312_297.out; have hnc23 := NB297_312.out; have hcz24_0 := bz5 BK312; obtain ⟨Ao25, co25, eo25⟩ := Kd.R_slice HO305.out; subst eo25; obtain ⟨Ao26, co26, eo26⟩ := Kd.R_slice HO308.out; subst eo26; obtain ⟨Ao27, co27, eo27⟩ := Kd.R_slice HO311.out; subst eo27; have hnb28 := NB296_297.out; have hnc28 := NB297_296.out; have hcz29_0 := bz3 BK296; have hcz30_0 := bz5 BK297; have hys66_1 := st5 BK312 (.slice Ao20 t299.length co20) (.int .i64 t302) (.slice Ao25 t303.length co25) (.slice Ao26 t306.length co26) (.slice Ao27 t309.length co27)))
   refine bodyPost_ret (results_ct rfl _ _ gb297 27 #[.slice Ao20 t299.length co20, .int .i64 a1_0, .slice Ao9 l1_1.length co9, .slice Ao10 l1_2.length co10, .slice Ao27 t309.length co27] (0, 0) _ rfl (by (with_reducible repeat (first | refine blk_drewN ?_ _ | refine blk_drew ?_ | refine blk_alloc ?_ _)); refine blk_put (cs := #[.slice Ao20 t299.length co20, .int .i64 a1_0, .slice Ao9 l1_1.length co9, .slice Ao10 l1_2.length co10, .slice none 0 0]) ?_ 4 _ rfl; (with_reducible repeat (first | refine blk_drewN ?_ _ | refine blk_drew ?_ | refine blk_alloc ?_ _)); refine blk_put (cs := #[.slice Ao20 t299.length co20, .int .i64 a1_0, .slice Ao9 l1_1.length co9, .slice none 0 0, .slice none 0 0]) ?_ 3 _ rfl; (with_reducible repeat (first | refine blk_drewN ?_ _ | refine blk_drew ?_ | refine blk_alloc ?_ _)); refine blk_put (cs := #[.slice Ao20 t299.length co20, .int .i64 a1_0, .slice none 0 0, .slice none 0 0, .slice none 0 0]) ?_ 2 _ rfl; (with_reducible repeat (first | refine blk_drewN ?_ _ | refine blk_drew ?_ | refine blk_alloc ?_ _)); refine blk_put (cs := #[.slice Ao20 t299.length co20, .int .i64 0, .slice none 0 0, .slice none 0 0, .slice none 0 0]) ?_ 1 _ rfl; (with_reducible repeat (first | refine blk_drewN ?_ _ | refine blk_drew ?_ | refine blk_alloc ?_ _)); refine blk_put (cs := #[.slice none 0 0, .int .i64 0, .slice none 0 0, .slice none 0 0, .slice none 0 0]) ?_ 0 _ rfl; (with_reducible repeat (first | refine blk_drewN ?_ _ | refine blk_drew ?_ | refine blk_alloc ?_ _)); refine blk_far ?_ NB297_312.out _; (with_reducible repeat (first | refine blk_drewN ?_ _ | refine blk_drew ?_ | refine blk_alloc ?_ _)); refine blk_far ?_ NB297_312.out _; (with_reducible repeat (first | refine blk_drewN ?_ _ | refine blk_drew ?_ | refine blk_alloc ?_ _)); refine blk_far ?_ NB297_312.out _; (with_reducible repeat (first | refine blk_drewN ?_ _ | refine blk_drew ?_ | refine blk_alloc ?_ _)); refine blk_far ?_ NB297_312.out _; (with_reducible repeat (first | refine blk_drewN ?_ _ | refine blk_drew ?_ | refine blk_alloc ?_ _)); refine blk_far ?_ NB297_312.out _; (with_reducible repeat (first | refine blk_drewN ?_ _ | refine blk_drew ?_ | refine blk_alloc ?_ _)); refine blk_far ?_ NB297_312.out _; (with_reducible repeat (first | refine blk_drewN ?_ _ | refine blk_drew ?_ | refine blk_alloc ?_ _)); refine blk_far ?_ NB297_312.out _; (with_reducible repeat (first | refine blk_drewN ?_ _ | refine blk_drew ?_ | refine blk_alloc ?_ _)); refine blk_far ?_ NB297_312.out _; (with_reducible repeat (first | refine blk_drewN ?_ _ | refine blk_drew ?_ | refine blk_alloc ?_ _)); exact BK297.out) Try.underlying27 rfl (by kernel_rfl)) rfl ?_
   exact ⟨_, _, _, _, er, by (with_reducible repeat (first | apply Kd.R_alloc | apply Kd.R_drewN | apply Kd.R_drew)); exact Kd.R_mono (Kd.R_far (p := ⟨gb297, 4, none⟩) (Kd.R_far (p := ⟨gb297, 3, none⟩) (Kd.R_far (p := ⟨gb297, 2, none⟩) (Kd.R_far (p := ⟨gb297, 1, none⟩) (Kd.R_far (p := ⟨gb297, 0, none⟩) (Kd.R_far (p := ⟨gb312, 3, none⟩) (Kd.R_far (p := ⟨gb312, 2, none⟩) (Kd.R_far (p := ⟨gb312, 1, none⟩) (Kd.R_far (p := ⟨gb312, 4, none⟩) (Kd.R_far (p := ⟨gb312, 3, none⟩) (Kd.R_far (p := ⟨gb312, 2, none⟩) (Kd.R_far (p := ⟨gb312, 1, none⟩) (Kd.R_far (p := ⟨gb312, 0, none⟩) (Kd.R_types (Kd.R_types HO301.out BK312.out (by decide)) BK297.out (by decide)) (fun _ hk => hk.1.2) (.slice Ao20 t299.length co20)) (fun _ hk => hk.1.2) (.int .i64 t302)) (fun _ hk => hk.1.2) (.slice Ao25 t303.length co25)) (fun _ hk => hk.1.2) (.slice Ao26 t306.length co26)) (fun _ hk => hk.1.2) (.slice Ao27 t309.length co27)) (fun _ hk => hk.1.2) (.int .i64 a1_0)) (fun _ hk => hk.1.2) (.slice Ao9 l1_1.length co9)) (fun _ hk => hk.1.2) (.slice Ao10 l1_2.length co10)) (fun _ hk => hk.2) (.slice Ao20 t299.length co20)) (fun _ hk => hk.2) (.int .i64 a1_0)) (fun _ hk => hk.2) (.slice Ao9 l1_1.length co9)) (fun _ hk => hk.2) (.slice Ao10 l1_2.length co10)) (fun _ hk => hk.2) (.slice Ao27 t309.length co27)) (fun _ hk => ⟨hk.1.1.1.1, ⟨hk.1.1.2, hk.1.1.1.2.2⟩⟩), by (with_reducible repeat (first | apply Kd.R_alloc | apply Kd.R_drewN | apply Kd.R_drew)); exact Kd.R_mono (Kd.R_far (p := ⟨gb297, 4, none⟩) (Kd.R_far (p := ⟨gb297, 3, none⟩) (Kd.R_far (p := ⟨gb297, 2, none⟩) (Kd.R_far (p := ⟨gb297, 1, none⟩) (Kd.R_far (p := ⟨gb297, 0, none⟩) (Kd.R_far (p := ⟨gb312, 3, none⟩) (Kd.R_far (p := ⟨gb312, 2, none⟩) (Kd.R_far (p := ⟨gb312, 1, none⟩) (Kd.R_far (p := ⟨gb312, 4, none⟩) (Kd.R_far (p := ⟨gb312, 3, none⟩) (Kd.R_far (p := ⟨gb312, 2, none⟩) (Kd.R_far (p := ⟨gb312, 1, none⟩) (Kd.R_far (p := ⟨gb312, 0, none⟩) (Kd.R_types (Kd.R_types HO1_1.out BK312.out (by decide)) BK297.out (by decide)) (fun _ hk => hk.1.2) (.slice Ao20 t299.length co20)) (fun _ hk => hk.1.2) (.int .i64 t302)) (fun _ hk => hk.1.2) (.slice Ao25 t303.length co25)) (fun _ hk => hk.1.2) (.slice Ao26 t306.length co26)) (fun _ hk => hk.1.2) (.slice Ao27 t309.length co27)) (fun _ hk => hk.1.2) (.int .i64 a1_0)) (fun _ hk => hk.1.2) (.slice Ao9 l1_1.length co9)) (fun _ hk => hk.1.2) (.slice Ao10 l1_2.length co10)) (fun _ hk => hk.2) (.slice Ao20 t299.length co20)) (fun _ hk => hk.2) (.int .i64 a1_0)) (fun _ hk => hk.2) (.slice Ao9 l1_1.length co9)) (fun _ hk => hk.2) (.slice Ao10 l1_2.length co10)) (fun _ hk => hk.2) (.slice Ao27 t309.length co27)) (fun _ hk => ⟨hk.1.1.1.1.1, ⟨hk.1.1.1.1.2, hk.1.1.2⟩⟩), by (with_reducible repeat (first | apply Kd.R_alloc | apply Kd.R_drewN | apply Kd.R_drew)); exact Kd.R_mono (Kd.R_far (p := ⟨gb297, 4, none⟩) (Kd.R_far (p := ⟨gb297, 3, none⟩) (Kd.R_far (p := ⟨gb297, 2, none⟩) (Kd.R_far (p := ⟨gb297, 1, none⟩) (Kd.R_far (p := ⟨gb297, 0, none⟩) (Kd.R_far (p := ⟨gb312, 3, none⟩) (Kd.R_far (p := ⟨gb312, 2, none⟩) (Kd.R_far (p := ⟨gb312, 1, none⟩) (Kd.R_far (p := ⟨gb312, 4, none⟩) (Kd.R_far (p := ⟨gb312, 3, none⟩) (Kd.R_far (p := ⟨gb312, 2, none⟩) (Kd.R_far (p := ⟨gb312, 1, none⟩) (Kd.R_far (p := ⟨gb312, 0, none⟩) (Kd.R_types (Kd.R_types HO1_2.out BK312.out (by decide)) BK297.out (by decide)) (fun _ hk => hk.1.2) (.slice Ao20 t299.length co20)) (fun _ hk => hk.1.2) (.int .i64 t302)) (fun _ hk => hk.1.2) (.slice Ao25 t303.length co25)) (fun _ hk => hk.1.2) (.slice Ao26 t306.length co26)) (fun _ hk => hk.1.2) (.slice Ao27 t309.length co27)) (fun _ hk => hk.1.2) (.int .i64 a1_0)) (fun _ hk => hk.1.2) (.slice Ao9 l1_1.length co9)) (fun _ hk => hk.1.2) (.slice Ao10 l1_2.length co10)) (fun _ hk => hk.2) (.slice Ao20 t299.length co20)) (fun _ hk => hk.2) (.int .i64 a1_0)) (fun _ hk => hk.2) (.slice Ao9 l1_1.length co9)) (fun _ hk => hk.2) (.slice Ao10 l1_2.length co10)) (fun _ hk => hk.2) (.slice Ao27 t309.length co27)) (fun _ hk => hk.1.1.1), by (with_reducible repeat (first | apply Kd.R_alloc | apply Kd.R_drewN | apply Kd.R_drew)); exact Kd.R_mono (Kd.R_far (p := ⟨gb297, 4, none⟩) (Kd.R_far (p := ⟨gb297, 3, none⟩) (Kd.R_far (p := ⟨gb297, 2, none⟩) (Kd.R_far (p := ⟨gb297, 1, none⟩) (Kd.R_far (p := ⟨gb297, 0, none⟩) (Kd.R_far (p := ⟨gb312, 3, none⟩) (Kd.R_far (p := ⟨gb312, 2, none⟩) (Kd.R_far (p := ⟨gb312, 1, none⟩) (Kd.R_far (p := ⟨gb312, 4, none⟩) (Kd.R_far (p := ⟨gb312, 3, none⟩) (Kd.R_far (p := ⟨gb312, 2, none⟩) (Kd.R_far (p := ⟨gb312, 1, none⟩) (Kd.R_far (p := ⟨gb312, 0, none⟩) (Kd.R_types (Kd.R_types HO311.out BK312.out (by decide)) BK297.out (by decide)) (fun _ hk => hk.1.2) (.slice Ao20 t299.length co20)) (fun _ hk => hk.1.2) (.int .i64 t302)) (fun _ hk => hk.1.2) (.slice Ao25 t303.length co25)) (fun _ hk => hk.1.2) (.slice Ao26 t306.length co26)) (fun _ hk => hk.1.2) (.slice Ao27 t309.length co27)) (fun _ hk => hk.1.2) (.int .i64 a1_0)) (fun _ hk => hk.1.2) (.slice Ao9 l1_1.length co9)) (fun _ hk => hk.1.2) (.slice Ao10 l1_2.length co10)) (fun _ hk => hk.2) (.slice Ao20 t299.length co20)) (fun _ hk => hk.2) (.int .i64 a1_0)) (fun _ hk => hk.2) (.slice Ao9 l1_1.length co9)) (fun _ hk => hk.2) (.slice Ao10 l1_2.length co10)) (fun _ hk => hk.2) (.slice Ao27 t309.length co27)) (fun _ hk => ⟨hk.1.1.1.1, ⟨hk.1.1.1.2.1, hk.1.1.2⟩⟩), be4 HB GE295 GE296 GE297 GE312, by repeat (first | (with_reducible first | exact HK.out | apply Kept.alloc | apply Kept.drewN | apply Kept.drew | refine Kept.setCell ?_ (.inr GW295.out) _ | refine Kept.setCell ?_ (.inr GW296.out) _ | refine Kept.setCell ?_ (.inr GW297.out) _ | refine Kept.setCell ?_ (.inr GW312.out) _) | exact HK.out)⟩
  replace c6 := Bool.eq_false_iff.mpr c6
  subst c6
  have H1 : (some (([] : List Int), 0, ([] : List Int), ([] : List (S70)), ([] : List Int), false)) = some (r1, r2, r3, r4, r5, r6) := by rw [if_neg (show ¬ (false = true) by decide)] at H; exact H
  clear H
  have H := H1
  clear H1
  simp only [Option.some.injEq, Prod.mk.injEq] at H
  obtain ⟨rfl, rfl, rfl, rfl, rfl, rfl⟩ := H
  go_enter Try.func68, Try.ntmps68
  go_wp2_with (first | ((with_reducible refine gate_dst (N := 3) rfl ?_); refine bx 3 #[.slice A0_0 l0_0.length c0_0, .int .i64 a0_1, .slice A0_2 l0_2.length c0_2, .slice A0_3 l0_3.length c0_3, .slice A0_4 l0_4.length c0_4] 27 ?_; intro gb295 hg w31 hbox hb; replace HO1_1 := rb HO1_1 hb; replace HO1_2 := rb HO1_2 hb; have BK295 := am hbox; have GW295 := Aside0.mk ((by rw [hg]; exact (by first | exact HK.out.1 | exact (show Kept w _ (fun k_ => P1_1_ k_ ∨ P1_2_ k_) from by repeat (first | (with_reducible first | exact HK.out | apply Kept.alloc | apply Kept.drewN | apply Kept.drew) | exact HK.out)).1) : w.heap.size ≤ gb295)); replace HK := Aside0.mk (Kept.below (S := (fun k_ => P1_1_ k_ ∨ P1_2_ k_)) (by repeat (first | (with_reducible first | exact HK.out | apply Kept.alloc | apply Kept.drewN | apply Kept.drew) | exact HK.out)) hb); have GE295 := Aside0.mk ((by rw [hg]; exact (below_size (be HB)) : w0.heap.size ≤ gb295)); replace HB := s0 HB hb; clear hb hbox hg; obtain ⟨Ao32, co32, eo32⟩ := Kd.R_slice HO1_1.out; subst eo32; obtain ⟨Ao33, co33, eo33⟩ := Kd.R_slice HO1_2.out; subst eo33) | ((with_reducible refine gate_dst (N := 4) rfl ?_); refine bx 4 #[.int .i64 a1_0, .slice Ao32 l1_1.length co32, .slice Ao33 l1_2.length co33] 25 ?_; intro gb296 hg w34 hbox hb; replace HO1_1 := rb HO1_1 hb; replace HO1_2 := rb HO1_2 hb; have BK296 := am hbox; have GW296 := Aside0.mk ((by rw [hg]; exact (by first | exact HK.out.1 | exact (show Kept w _ (fun k_ => P1_1_ k_ ∨ P1_2_ k_) from by repeat (first | (with_reducible first | exact HK.out | apply Kept.alloc | apply Kept.drewN | apply Kept.drew | refine Kept.setCell ?_ (.inr GW295.out) _) | exact HK.out)).1) : w.heap.size ≤ gb296)); replace HK := Aside0.mk (Kept.below (S := (fun k_ => P1_1_ k_ ∨ P1_2_ k_)) (by repeat (first | (with_reducible first | exact HK.out | apply Kept.alloc | apply Kept.drewN | apply Kept.drew | refine Kept.setCell ?_ (.inr GW295.out) _) | exact HK.out)) hb); have GE296 := Aside0.mk ((by rw [hg]; exact (below_size (be1 HB GE295)) : w0.heap.size ≤ gb296)); replace HB := Aside0.mk (below_step (be1 HB GE295) hb); have NB295_296 := Aside0.mk ((by rw [hg]; exact Nat.ne_of_lt (bl BK295) : gb295 ≠ gb296)); have NB296_295 := Aside0.mk ((by rw [hg]; exact Nat.ne_of_gt (bl BK295) : gb296 ≠ gb295)); replace BK295 := bb BK295 hb; clear hb hbox hg) | ((with_reducible refine gate_dst (N := 6) rfl ?_); refine bx 6 #[.slice none 0 0, .int .i64 0, .slice none 0 0, .slice none 0 0, .slice none 0 0] 27 ?_; intro gb297 hg w35 hbox hb; replace HO1_1 := rb HO1_1 hb; replace HO1_2 := rb HO1_2 hb; have BK297 := am hbox; have GW297 := Aside0.mk ((by rw [hg]; exact (by first | exact HK.out.1 | exact (show Kept w _ (fun k_ => P1_1_ k_ ∨ P1_2_ k_) from by repeat (first | (with_reducible first | exact HK.out | apply Kept.alloc | apply Kept.drewN | apply Kept.drew | refine Kept.setCell ?_ (.inr GW295.out) _ | refine Kept.setCell ?_ (.inr GW296.out) _) | exact HK.out)).1) : w.heap.size ≤ gb297)); replace HK := Aside0.mk (Kept.below (S := (fun k_ => P1_1_ k_ ∨ P1_2_ k_)) (by repeat (first | (with_reducible first | exact HK.out | apply Kept.alloc | apply Kept.drewN | apply Kept.drew | refine Kept.setCell ?_ (.inr GW295.out) _ | refine Kept.setCell ?_ (.inr GW296.out) _) | exact HK.out)) hb); have GE297 := Aside0.mk ((by rw [hg]; exact (below_size (be2 HB GE295 GE296)) : w0.heap.size ≤ gb297)); replace HB := Aside0.mk (below_step (be2 HB GE295 GE296) hb); have NB295_297 := Aside0.mk ((by rw [hg]; exact Nat.ne_of_lt (bl BK295) : gb295 ≠ gb297)); have NB297_295 := Aside0.mk ((by rw [hg]; exact Nat.ne_of_gt (bl BK295) : gb297 ≠ gb295)); replace BK295 := bb BK295 hb; have NB296_297 := Aside0.mk ((by rw [hg]; exact Nat.ne_of_lt (bl BK296) : gb296 ≠ gb297)); have NB297_296 := Aside0.mk ((by rw [hg]; exact Nat.ne_of_gt (bl BK296) : gb297 ≠ gb296)); replace BK296 := bb BK296 hb; clear hb hbox hg; have hnb36 := NB295_296.out; have hnc36 := NB296_295.out; have hnb37 := NB295_297.out; have hnc37 := NB297_295.out; have hcz38_0 := bz5 BK295) | ((with_reducible refine gate_callee (f := 20) rfl ?_); refine gl 10 Try.func20 #[.agg #[.slice A0_0 l0_0.length c0_0, .int .i64 a0_1, .slice A0_2 l0_2.length c0_2, .slice A0_3 l0_3.length c0_3, .slice A0_4 l0_4.length c0_4]] ?_; (with_reducible refine (spec_PoolOk.calls k _ _ l0_0 a0_1 _ _ l0_2 _ _ l0_3 _ _ l0_4 true _ ?side1 HC0_0.out ?side3 HC0_2.out ?side5 HC0_3.out ?side7 HC0_4.out A4.out).mono ?_); (case side1 => exact Kd.C_kept_now HR0_0.out (by repeat (first | (with_reducible first | exact HK.out | apply Kept.alloc | apply Kept.drewN | apply Kept.drew | refine Kept.setCell ?_ (.inr GW295.out) _ | refine Kept.setCell ?_ (.inr GW296.out) _ | refine Kept.setCell ?_ (.inr GW297.out) _) | exact HK.out))); (case side3 => exact Kd.C_kept_now HR0_2.out (by repeat (first | (with_reducible first | exact HK.out | apply Kept.alloc | apply Kept.drewN | apply Kept.drew | refine Kept.setCell ?_ (.inr GW295.out) _ | refine Kept.setCell ?_ (.inr GW296.out) _ | refine Kept.setCell ?_ (.inr GW297.out) _) | exact HK.out))); (case side5 => exact Kd.C_kept_now HR0_3.out (by repeat (first | (with_reducible first | exact HK.out | apply Kept.alloc | apply Kept.drewN | apply Kept.drew | refine Kept.setCell ?_ (.inr GW295.out) _ | refine Kept.setCell ?_ (.inr GW296.out) _ | refine Kept.setCell ?_ (.inr GW297.out) _) | exact HK.out))); (case side7 => exact Kd.C_kept_now HR0_4.out (by repeat (first | (with_reducible first | exact HK.out | apply Kept.alloc | apply Kept.drewN | apply Kept.drew | refine Kept.setCell ?_ (.inr GW295.out) _ | refine Kept.setCell ?_ (.inr GW296.out) _ | refine Kept.setCell ?_ (.inr GW297.out) _) | exact HK.out))); rintro e w39 ⟨rfl, hb⟩; refine ⟨_, rfl, ?_⟩; replace HO1_1 := rb HO1_1 hb; replace HO1_2 := rb HO1_2 hb; replace BK295 := bb BK295 hb; replace BK296 := bb BK296 hb; replace BK297 := bb BK297 hb; replace HK := Aside0.mk (Kept.below (S := (fun k_ => P1_1_ k_ ∨ P1_2_ k_)) (by repeat (first | (with_reducible first | exact HK.out | apply Kept.alloc | apply Kept.drewN | apply Kept.drew | refine Kept.setCell ?_ (.inr GW295.out) _ | refine Kept.setCell ?_ (.inr GW296.out) _ | refine Kept.setCell ?_ (.inr GW297.out) _) | exact HK.out)) hb); replace HB := Aside0.mk (below_step (be3 HB GE295 GE296 GE297) hb); (try clear hb); have hnb40 := NB297_296.out; have hnc40 := NB296_297.out; have hcz41_0 := bz5 BK297))
  refine bodyPost_ret (results_ct rfl _ _ gb297 27 #[.slice none 0 0, .int .i64 0, .slice none 0 0, .slice none 0 0, .slice none 0 0] (0, 0) _ rfl (by (with_reducible repeat (first | refine blk_drewN ?_ _ | refine blk_drew ?_ | refine blk_alloc ?_ _)); refine blk_put (cs := #[.slice none 0 0, .int .i64 0, .slice none 0 0, .slice none 0 0, .slice none 0 0]) ?_ 4 _ rfl; (with_reducible repeat (first | refine blk_drewN ?_ _ | refine blk_drew ?_ | refine blk_alloc ?_ _)); refine blk_put (cs := #[.slice none 0 0, .int .i64 0, .slice none 0 0, .slice none 0 0, .slice none 0 0]) ?_ 3 _ rfl; (with_reducible repeat (first | refine blk_drewN ?_ _ | refine blk_drew ?_ | refine blk_alloc ?_ _)); refine blk_put (cs := #[.slice none 0 0, .int .i64 0, .slice none 0 0, .slice none 0 0, .slice none 0 0]) ?_ 2 _ rfl; (with_reducible repeat (first | refine blk_drewN ?_ _ | refine blk_drew ?_ | refine blk_alloc ?_ _)); refine blk_put (cs := #[.slice none 0 0, .int .i64 0, .slice none 0 0, .slice none 0 0, .slice none 0 0]) ?_ 1 _ rfl; (with_reducible repeat (first | refine blk_drewN ?_ _ | refine blk_drew ?_ | refine blk_alloc ?_ _)); refine blk_put (cs := #[.slice none 0 0, .int .i64 0, .slice none 0 0, .slice none 0 0, .slice none 0 0]) ?_ 0 _ rfl; (with_reducible repeat (first | refine blk_drewN ?_ _ | refine blk_drew ?_ | refine blk_alloc ?_ _)); exact BK297.out) Try.underlying27 rfl (by kernel_rfl)) rfl ?_
  exact ⟨_, _, _, _, er, by first | exact Kd.R_nil _ _ _ _ _ | exact Kd.N_nil _ _ _ _ _ | exact Kd.V_nil _ _ _ _ _ | exact Kd.Q_nil _ _ _ _ _ | exact Kd.S_nil _ _ _ _ _, by first | exact Kd.R_nil _ _ _ _ _ | exact Kd.N_nil _ _ _ _ _ | exact Kd.V_nil _ _ _ _ _ | exact Kd.Q_nil _ _ _ _ _ | exact Kd.S_nil _ _ _ _ _, by first | exact Kd.R_nil _ _ _ _ _ | exact Kd.N_nil _ _ _ _ _ | exact Kd.V_nil _ _ _ _ _ | exact Kd.Q_nil _ _ _ _ _ | exact Kd.S_nil _ _ _ _ _, by first | exact Kd.R_nil _ _ _ _ _ | exact Kd.N_nil _ _ _ _ _ | exact Kd.V_nil _ _ _ _ _ | exact Kd.Q_nil _ _ _ _ _ | exact Kd.S_nil _ _ _ _ _, be3 HB GE295 GE296 GE297, by repeat (first | (with_reducible first | exact HK.out | apply Kept.alloc | apply Kept.drewN | apply Kept.drew | refine Kept.setCell ?_ (.inr GW295.out) _ | refine Kept.setCell ?_ (.inr GW296.out) _ | refine Kept.setCell ?_ (.inr GW297.out) _) | exact HK.out)⟩
 replace c5 := Bool.eq_false_iff.mpr c5
 subst c5
 have H1 : (some (([] : List Int), 0, ([] : List Int), ([] : List (S70)), ([] : List Int), false)) = some (r1, r2, r3, r4, r5, r6) := by rw [if_neg (show ¬ (false = true) by decide)] at H; exact H
 clear H
 have H := H1
 clear H1
 simp only [Option.some.injEq, Prod.mk.injEq] at H
 obtain ⟨rfl, rfl, rfl, rfl, rfl, rfl⟩ := H
 go_enter Try.func68, Try.ntmps68
 go_wp2_with (first | ((with_reducible refine gate_dst (N := 3) rfl ?_); refine bx 3 #[.slice A0_0 l0_0.length c0_0, .int .i64 a0_1, .slice A0_2 l0_2.length c0_2, .slice A0_3 l0_3.length c0_3, .slice A0_4 l0_4.length c0_4] 27 ?_; intro gb295 hg w42 hbox hb; replace HO1_1 := rb HO1_1 hb; replace HO1_2 := rb HO1_2 hb; have BK295 := am hbox; have GW295 := Aside0.mk ((by rw [hg]; exact (by first | exact HK.out.1 | exact (show Kept w _ (fun k_ => P1_1_ k_ ∨ P1_2_ k_) from by repeat (first | (with_reducible first | exact HK.out | apply Kept.alloc | apply Kept.drewN | apply Kept.drew) | exact HK.out)).1) : w.heap.size ≤ gb295)); replace HK := Aside0.mk (Kept.below (S := (fun k_ => P1_1_ k_ ∨ P1_2_ k_)) (by repeat (first | (with_reducible first | exact HK.out | apply Kept.alloc | apply Kept.drewN | apply Kept.drew) | exact HK.out)) hb); have GE295 := Aside0.mk ((by rw [hg]; exact (below_size (be HB)) : w0.heap.size ≤ gb295)); replace HB := s0 HB hb; clear hb hbox hg; obtain ⟨Ao43, co43, eo43⟩ := Kd.R_slice HO1_1.out; subst eo43; obtain ⟨Ao44, co44, eo44⟩ := Kd.R_slice HO1_2.out; subst eo44) | ((with_reducible refine gate_dst (N := 4) rfl ?_); refine bx 4 #[.int .i64 a1_0, .slice Ao43 l1_1.length co43, .slice Ao44 l1_2.length co44] 25 ?_; intro gb296 hg w45 hbox hb; replace HO1_1 := rb HO1_1 hb; replace HO1_2 := rb HO1_2 hb; have BK296 := am hbox; have GW296 := Aside0.mk ((by rw [hg]; exact (by first | exact HK.out.1 | exact (show Kept w _ (fun k_ => P1_1_ k_ ∨ P1_2_ k_) from by repeat (first | (with_reducible first | exact HK.out | apply Kept.alloc | apply Kept.drewN | apply Kept.drew | refine Kept.setCell ?_ (.inr GW295.out) _) | exact HK.out)).1) : w.heap.size ≤ gb296)); replace HK := Aside0.mk (Kept.below (S := (fun k_ => P1_1_ k_ ∨ P1_2_ k_)) (by repeat (first | (with_reducible first | exact HK.out | apply Kept.alloc | apply Kept.drewN | apply Kept.drew | refine Kept.setCell ?_ (.inr GW295.out) _) | exact HK.out)) hb); have GE296 := Aside0.mk ((by rw [hg]; exact (below_size (be1 HB GE295)) : w0.heap.size ≤ gb296)); replace HB := Aside0.mk (below_step (be1 HB GE295) hb); have NB295_296 := Aside0.mk ((by rw [hg]; exact Nat.ne_of_lt (bl BK295) : gb295 ≠ gb296)); have NB296_295 := Aside0.mk ((by rw [hg]; exact Nat.ne_of_gt (bl BK295) : gb296 ≠ gb295)); replace BK295 := bb BK295 hb; clear hb hbox hg) | ((with_reducible refine gate_dst (N := 6) rfl ?_); refine bx 6 #[.slice none 0 0, .int .i64 0, .slice none 0 0, .slice none 0 0, .slice none 0 0] 27 ?_; intro gb297 hg w46 hbox hb; replace HO1_1 := rb HO1_1 hb; replace HO1_2 := rb HO1_2 hb; have BK297 := am hbox; have GW297 := Aside0.mk ((by rw [hg]; exact (by first | exact HK.out.1 | exact (show Kept w _ (fun k_ => P1_1_ k_ ∨ P1_2_ k_) from by repeat (first | (with_reducible first | exact HK.out | apply Kept.alloc | apply Kept.drewN | apply Kept.drew | refine Kept.setCell ?_ (.inr GW295.out) _ | refine Kept.setCell ?_ (.inr GW296.out) _) | exact HK.out)).1) : w.heap.size ≤ gb297)); replace HK := Aside0.mk (Kept.below (S := (fun k_ => P1_1_ k_ ∨ P1_2_ k_)) (by repeat (first | (with_reducible first | exact HK.out | apply Kept.alloc | apply Kept.drewN | apply Kept.drew | refine Kept.setCell ?_ (.inr GW295.out) _ | refine Kept.setCell ?_ (.inr GW296.out) _) | exact HK.out)) hb); have GE297 := Aside0.mk ((by rw [hg]; exact (below_size (be2 HB GE295 GE296)) : w0.heap.size ≤ gb297)); replace HB := Aside0.mk (below_step (be2 HB GE295 GE296) hb); have NB295_297 := Aside0.mk ((by rw [hg]; exact Nat.ne_of_lt (bl BK295) : gb295 ≠ gb297)); have NB297_295 := Aside0.mk ((by rw [hg]; exact Nat.ne_of_gt (bl BK295) : gb297 ≠ gb295)); replace BK295 := bb BK295 hb; have NB296_297 := Aside0.mk ((by rw [hg]; exact Nat.ne_of_lt (bl BK296) : gb296 ≠ gb297)); have NB297_296 := Aside0.mk ((by rw [hg]; exact Nat.ne_of_gt (bl BK296) : gb297 ≠ gb296)); replace BK296 := bb BK296 hb; clear hb hbox hg; have hnb47 := NB295_296.out; have hnc47 := NB296_295.out; have hnb48 := NB295_297.out; have hnc48 := NB297_295.out; have hcz49_0 := bz5 BK295) | ((with_reducible refine gate_callee (f := 20) rfl ?_); refine gl 10 Try.func20 #[.agg #[.slice A0_0 l0_0.length c0_0, .int .i64 a0_1, .slice A0_2 l0_2.length c0_2, .slice A0_3 l0_3.length c0_3, .slice A0_4 l0_4.length c0_4]] ?_; (with_reducible refine (spec_PoolOk.calls k _ _ l0_0 a0_1 _ _ l0_2 _ _ l0_3 _ _ l0_4 false _ ?side1 HC0_0.out ?side3 HC0_2.out ?side5 HC0_3.out ?side7 HC0_4.out A4.out).mono ?_); (case side1 => exact Kd.C_kept_now HR0_0.out (by repeat (first | (with_reducible first | exact HK.out | apply Kept.alloc | apply Kept.drewN | apply Kept.drew | refine Kept.setCell ?_ (.inr GW295.out) _ | refine Kept.setCell ?_ (.inr GW296.out) _ | refine Kept.setCell ?_ (.inr GW297.out) _) | exact HK.out))); (case side3 => exact Kd.C_kept_now HR0_2.out (by repeat (first | (with_reducible first | exact HK.out | apply Kept.alloc | apply Kept.drewN | apply Kept.drew | refine Kept.setCell ?_ (.inr GW295.out) _ | refine Kept.setCell ?_ (.inr GW296.out) _ | refine Kept.setCell ?_ (.inr GW297.out) _) | exact HK.out))); (case side5 => exact Kd.C_kept_now HR0_3.out (by repeat (first | (with_reducible first | exact HK.out | apply Kept.alloc | apply Kept.drewN | apply Kept.drew | refine Kept.setCell ?_ (.inr GW295.out) _ | refine Kept.setCell ?_ (.inr GW296.out) _ | refine Kept.setCell ?_ (.inr GW297.out) _) | exact HK.out))); (case side7 => exact Kd.C_kept_now HR0_4.out (by repeat (first | (with_reducible first | exact HK.out | apply Kept.alloc | apply Kept.drewN | apply Kept.drew | refine Kept.setCell ?_ (.inr GW295.out) _ | refine Kept.setCell ?_ (.inr GW296.out) _ | refine Kept.setCell ?_ (.inr GW297.out) _) | exact HK.out))); rintro e w50 ⟨rfl, hb⟩; refine ⟨_, rfl, ?_⟩; replace HO1_1 := rb HO1_1 hb; replace HO1_2 := rb HO1_2 hb; replace BK295 := bb BK295 hb; replace BK296 := bb BK296 hb; replace BK297 := bb BK297 hb; replace HK := Aside0.mk (Kept.below (S := (fun k_ => P1_1_ k_ ∨ P1_2_ k_)) (by repeat (first | (with_reducible first | exact HK.out | apply Kept.alloc | apply Kept.drewN | apply Kept.drew | refine Kept.setCell ?_ (.inr GW295.out) _ | refine Kept.setCell ?_ (.inr GW296.out) _ | refine Kept.setCell ?_ (.inr GW297.out) _) | exact HK.out)) hb); replace HB := Aside0.mk (below_step (be3 HB GE295 GE296 GE297) hb); (try clear hb); have hnb51 := NB297_296.out; have hnc51 := NB296_297.out; have hcz52_0 := bz5 BK297))
 refine bodyPost_ret (results_ct rfl _ _ gb297 27 #[.slice none 0 0, .int .i64 0, .slice none 0 0, .slice none 0 0, .slice none 0 0] (0, 0) _ rfl (by (with_reducible repeat (first | refine blk_drewN ?_ _ | refine blk_drew ?_ | refine blk_alloc ?_ _)); refine blk_put (cs := #[.slice none 0 0, .int .i64 0, .slice none 0 0, .slice none 0 0, .slice none 0 0]) ?_ 4 _ rfl; (with_reducible repeat (first | refine blk_drewN ?_ _ | refine blk_drew ?_ | refine blk_alloc ?_ _)); refine blk_put (cs := #[.slice none 0 0, .int .i64 0, .slice none 0 0, .slice none 0 0, .slice none 0 0]) ?_ 3 _ rfl; (with_reducible repeat (first | refine blk_drewN ?_ _ | refine blk_drew ?_ | refine blk_alloc ?_ _)); refine blk_put (cs := #[.slice none 0 0, .int .i64 0, .slice none 0 0, .slice none 0 0, .slice none 0 0]) ?_ 2 _ rfl; (with_reducible repeat (first | refine blk_drewN ?_ _ | refine blk_drew ?_ | refine blk_alloc ?_ _)); refine blk_put (cs := #[.slice none 0 0, .int .i64 0, .slice none 0 0, .slice none 0 0, .slice none 0 0]) ?_ 1 _ rfl; (with_reducible repeat (first | refine blk_drewN ?_ _ | refine blk_drew ?_ | refine blk_alloc ?_ _)); refine blk_put (cs := #[.slice none 0 0, .int .i64 0, .slice none 0 0, .slice none 0 0, .slice none 0 0]) ?_ 0 _ rfl; (with_reducible repeat (first | refine blk_drewN ?_ _ | refine blk_drew ?_ | refine blk_alloc ?_ _)); exact BK297.out) Try.underlying27 rfl (by kernel_rfl)) rfl ?_
 exact ⟨_, _, _, _, er, by first | exact Kd.R_nil _ _ _ _ _ | exact Kd.N_nil _ _ _ _ _ | exact Kd.V_nil _ _ _ _ _ | exact Kd.Q_nil _ _ _ _ _ | exact Kd.S_nil _ _ _ _ _, by first | exact Kd.R_nil _ _ _ _ _ | exact Kd.N_nil _ _ _ _ _ | exact Kd.V_nil _ _ _ _ _ | exact Kd.Q_nil _ _ _ _ _ | exact Kd.S_nil _ _ _ _ _, by first | exact Kd.R_nil _ _ _ _ _ | exact Kd.N_nil _ _ _ _ _ | exact Kd.V_nil _ _ _ _ _ | exact Kd.Q_nil _ _ _ _ _ | exact Kd.S_nil _ _ _ _ _, by first | exact Kd.R_nil _ _ _ _ _ | exact Kd.N_nil _ _ _ _ _ | exact Kd.V_nil _ _ _ _ _ | exact Kd.Q_nil _ _ _ _ _ | exact Kd.S_nil _ _ _ _ _, be3 HB GE295 GE296 GE297, by repeat (first | (with_reducible first | exact HK.out | apply Kept.alloc | apply Kept.drewN | apply Kept.drew | refine Kept.setCell ?_ (.inr GW295.out) _ | refine Kept.setCell ?_ (.inr GW296.out) _ | refine Kept.setCell ?_ (.inr GW297.out) _) | exact HK.out)⟩

/-! ### spec_Enter: function 27 -/
def spec_Enter.f (k : Nat) (l0_0 : List Int) (a0_1 : Int) (l0_2 : List Int) (l0_3 : List (S70)) (l0_4 : List Int) (a1 : Int) : Option (List Int × Int × List Int × (List (S70)) × List Int × Bool) := (spec_Pin.f k a0_1 l0_2 l0_3 a1).bind fun bt315 => ((spec_l09With.f k l0_0 a0_1 l0_2 l0_3 l0_4 bt315.1 bt315.2.1 bt315.2.2.1 bt315.2.2.2).bind fun bt324 => (some (bt324.1, bt324.2.1, bt324.2.2.1, bt324.2.2.2.1, bt324.2.2.2.2.1, bt324.2.2.2.2.2)))
theorem spec_Enter.mono : ∀ a0 a1 a2 a3 a4 a5 k, LeO (spec_Enter.f k a0 a1 a2 a3 a4 a5) (spec_Enter.f (k + 1) a0 a1 a2 a3 a4 a5) := by
 intro a0 a1 a2 a3 a4 a5 k
 unfold spec_Enter.f
 repeat' first
   | (with_reducible exact spec_Pin.mono _ _ _ _ _)
   | (with_reducible exact spec_l09With.mono _ _ _ _ _ _ _ _ _ _)
   | (with_reducible exact LeO.refl _)
   | (with_reducible exact LeO.none _)
   | (with_reducible refine LeO.ite ?_ ?_)
   | (with_reducible refine LeO.bind ?_ (fun _ => ?_))
   | exact spec_Pin.mono _ _ _ _ _
   | exact spec_l09With.mono _ _ _ _ _ _ _ _ _ _
   | exact LeO.none _
   | refine LeO.ite ?_ ?_
   | refine LeO.bind ?_ (fun _ => ?_)
set_option maxHeartbeats 8000000 in
set_option maxRecDepth 100000 in
theorem spec_Enter.calls (k : Nat) (A0_0 : Option Addr) (c0_0 : Nat) (l0_0 : List Int) (a0_1 : Int) (A0_2 : Option Addr) (c0_2 : Nat) (l0_2 : List Int) (A0_3 : Option Addr) (c0_3 : Nat) (l0_3 : List (S70)) (A0_4 : Option Addr) (c0_4 : Nat) (l0_4 : List Int) (a1 : Int) (r1 : List Int) (r2 : Int) (r3 : List Int) (r4 : List (S70)) (r5 : List Int) (r6 : Bool) (w : World) (hr0_0 : Kd.C (Kd.int .i64) w A0_0 l0_0.length l0_0) (hc0_0 : l0_0.length ≤ c0_0) (hr0_2 : Kd.C (Kd.int .i64) w A0_2 l0_2.length l0_2) (hc0_2 : l0_2.length ≤ c0_2) (hr0_3 : Kd.C k70 w A0_3 l0_3.length l0_3) (hc0_3 : l0_3.length ≤ c0_3) (hr0_4 : Kd.C (Kd.int .i64) w A0_4 l0_4.length l0_4) (hc0_4 : l0_4.length ≤ c0_4) (h : spec_Enter.f k l0_0 a0_1 l0_2 l0_3 l0_4 a1 = some (r1, r2, r3, r4, r5, r6)) :
  Calls Try.prog 27 #[.agg #[.slice A0_0 l0_0.length c0_0, .int .i64 a0_1, .slice A0_2 l0_2.length c0_2, .slice A0_3 l0_3.length c0_3, .slice A0_4 l0_4.length c0_4], .int .i64 a1] w fun e w' => ∃ v0_ v2_ v3_ v4_ : Value, e = .returned (.tuple #[.agg #[v0_, .int .i64 r2, v2_, v3_, v4_], .bool r6]) ∧ Kd.R (Kd.int .i64) 3 w' w.heap.size (fun k_ => some k_ ≠ (v2_ : Value).ownBlock ∧ some k_ ≠ (v4_ : Value).ownBlock) v0_ r1 ∧ Kd.R (Kd.int .i64) 3 w' w.heap.size (fun k_ => some k_ ≠ (v0_ : Value).ownBlock ∧ some k_ ≠ (v4_ : Value).ownBlock) v2_ r3 ∧ Kd.R k70 70 w' w.heap.size (fun _ => True) v3_ r4 ∧ Kd.R (Kd.int .i64) 3 w' w.heap.size (fun k_ => some k_ ≠ (v0_ : Value).ownBlock ∧ some k_ ≠ (v2_ : Value).ownBlock) v4_ r5 ∧ Below w.heap.size w w' := by
 have hu27 := Try.underlying27
 have hu25 := Try.underlying25
 have HR0_0 := Aside0.mk hr0_0
 have HC0_0 := Aside0.mk hc0_0
 clear hr0_0 hc0_0
 have HR0_2 := Aside0.mk hr0_2
 have HC0_2 := Aside0.mk hc0_2
 clear hr0_2 hc0_2
 have HR0_3 := Aside0.mk hr0_3
 have HC0_3 := Aside0.mk hc0_3
 clear hr0_3 hc0_3
 have HR0_4 := Aside0.mk hr0_4
 have HC0_4 := Aside0.mk hc0_4
 clear hr0_4 hc0_4
 have HB := Aside0.mk (Below.refl w.heap.size w)
 have H : ((spec_Pin.f k a0_1 l0_2 l0_3 a1).bind fun bt315 => ((spec_l09With.f k l0_0 a0_1 l0_2 l0_3 l0_4 bt315.1 bt315.2.1 bt315.2.2.1 bt315.2.2.2).bind fun bt324 => (some (bt324.1, bt324.2.1, bt324.2.2.1, bt324.2.2.2.1, bt324.2.2.2.2.1, bt324.2.2.2.2.2)))) = some (r1, r2, r3, r4, r5, r6) := h
 clear h
 replace H := Option.bind_eq_some_iff.mp H
 obtain ⟨⟨t315, t316, t319, t322⟩, A30, H⟩ := H
 replace H : ((spec_l09With.f k l0_0 a0_1 l0_2 l0_3 l0_4 t315 t316 t319 t322).bind fun bt324 => (some (bt324.1, bt324.2.1, bt324.2.2.1, bt324.2.2.2.1, bt324.2.2.2.2.1, bt324.2.2.2.2.2))) = some (r1, r2, r3, r4, r5, r6) := H
 have A3 := Aside0.mk A30
 clear A30
 replace H := Option.bind_eq_some_iff.mp H
 obtain ⟨⟨t324, t327, t328, t331, t334, t337⟩, A40, H⟩ := H
 replace H : (some (t324, t327, t328, t331, t334, t337)) = some (r1, r2, r3, r4, r5, r6) := H
 have A4 := Aside0.mk A40
 clear A40
 simp only [Option.some.injEq, Prod.mk.injEq] at H
 obtain ⟨rfl, rfl, rfl, rfl, rfl, rfl⟩ := H
 go_enter Try.func27, Try.ntmps27
 go_wp2_with (first | ((with_reducible refine gate_dst (N := 2) rfl ?_); refine bx 2 #[.slice A0_0 l0_0.length c0_0, .int .i64 a0_1, .slice A0_2 l0_2.length c0_2, .slice A0_3 l0_3.length c0_3, .slice A0_4 l0_4.length c0_4] 27 ?_; intro gb313 hg w5 hbox hb; have BK313 := am hbox; have GW313 := gs0 hg HB; have GE313 := gs0 hg HB; replace HB := s0 HB hb; clear hb hbox hg) | ((with_reducible refine gate_dst (N := 4) rfl ?_); refine bx 4 #[.slice none 0 0, .int .i64 0, .slice none 0 0, .slice none 0 0, .slice none 0 0] 27 ?_; intro gb314 hg w6 hbox hb; have BK314 := am hbox; have GW314 := gs1 hg HB GE313; have GE314 := gs1 hg HB GE313; replace HB := Aside0.mk (below_step (be1 HB GE313) hb); have NB313_314 := Aside0.mk ((by rw [hg]; exact Nat.ne_of_lt (bl BK313) : gb313 ≠ gb314)); have NB314_313 := Aside0.mk ((by rw [hg]; exact Nat.ne_of_gt (bl BK313) : gb314 ≠ gb313)); replace BK313 := bb BK313 hb; clear hb hbox hg; have hnb7 := NB313_314.out; have hnc7 := NB314_313.out; have hcz8_0 := bz5 BK313) | ((with_reducible refine gate_callee (f := 67) rfl ?_); refine gl 12 Try.func67 #[.agg #[.int .i64 a0_1, .slice A0_2 l0_2.length c0_2, .slice A0_3 l0_3.length c0_3], .int .i64 a1] ?_; (with_reducible refine (spec_Pin.calls k a0_1 _ _ l0_2 _ _ l0_3 a1 t315 t316 t319 t322 _ (cb HR0_2 HB) HC0_2.out (cb HR0_3 HB) HC0_3.out A3.out).mono ?_); rintro e w9 ⟨v317, v320, rfl, ho0, ho1, hb⟩; refine ⟨_, rfl, ?_⟩; have HO318 := Aside0.mk (Kd.R_lower ho0 (below_size (be2 HB GE313 GE314))); have HO321 := Aside0.mk (Kd.R_lower ho1 (below_size (be2 HB GE313 GE314))); replace BK313 := bb BK313 hb; replace BK314 := bb BK314 hb; replace HB := Aside0.mk (below_step (be2 HB GE313 GE314) hb); (try clear hb); (try clear ho0); (try clear ho1)) | ((with_reducible refine gate_dst (N := 6) rfl ?_); refine bx 6 #[.int .i64 0, .slice none 0 0, .slice none 0 0] 25 ?_; intro gb323 hg w10 hbox hb; replace HO318 := rb HO318 hb; replace HO321 := rb HO321 hb; have BK323 := am hbox; have GW323 := gs2 hg HB GE313 GE314; have GE323 := gs2 hg HB GE313 GE314; replace HB := Aside0.mk (below_step (be2 HB GE313 GE314) hb); have NB313_323 := Aside0.mk ((by rw [hg]; exact Nat.ne_of_lt (bl BK313) : gb313 ≠ gb323)); have NB323_313 := Aside0.mk ((by rw [hg]; exact Nat.ne_of_gt (bl BK313) : gb323 ≠ gb313)); replace BK313 := bb BK313 hb; have NB314_323 := Aside0.mk ((by rw [hg]; exact Nat.ne_of_lt (bl BK314) : gb314 ≠ gb323)); have NB323_314 := Aside0.mk ((by rw [hg]; exact Nat.ne_of_gt (bl BK314) : gb323 ≠ gb314)); replace BK314 := bb BK314 hb; clear hb hbox hg; have hnb11 := NB323_313.out; have hnc11 := NB313_323.out; have hnb12 := NB323_314.out; have hnc12 := NB314_323.out; have hcz13_0 := bz3 BK323; obtain ⟨Ao14, co14, eo14⟩ := Kd.R_slice HO318.out; subst eo14; obtain ⟨Ao15, co15, eo15⟩ := Kd.R_slice HO321.out; subst eo15) | ((with_reducible refine gate_store (t := 25) (p := 6) rfl ?_); refine store_event (t := 25) (p := 6) (v := ?vo_w16) (w1 := (((w10.setCell ⟨gb323, 0, none⟩ (.int .i64 t315)).setCell ⟨gb323, 1, none⟩ (.slice Ao14 t316.length co14)).setCell ⟨gb323, 2, none⟩ (.slice Ao15 t319.length co15))) ?hg ?ho ?hn ?hr ?_; (case ho => rfl); (case hg => rfl); (case hn => rfl); (case hr => first | (go_simp; done) | (go_simp; rfl)); intro w16 hw; have n0_ : Aside0 (Kd.R (Kd.int .i64) 3 w16 w.heap.size (fun _ => True) (.slice Ao14 t316.length co14) t316) := ⟨(by rw [hw]; exact (by (with_reducible repeat (first | apply Kd.R_alloc | apply Kd.R_drewN | apply Kd.R_drew)); exact Kd.R_mono (Kd.R_far (p := ⟨gb323, 2, none⟩) (Kd.R_far (p := ⟨gb323, 1, none⟩) (Kd.R_far (p := ⟨gb323, 0, none⟩) (Kd.R_types HO318.out BK323.out (by decide)) (fun _ hk => hk.2) (.int .i64 t315)) (fun _ hk => hk.2) (.slice Ao14 t316.length co14)) (fun _ hk => hk.2) (.slice Ao15 t319.length co15)) (fun _ hk => trivial)))⟩; have n1_ : Aside0 (Kd.R k70 70 w16 w.heap.size (fun _ => True) (.slice Ao15 t319.length co15) t319) := ⟨(by rw [hw]; exact (by (with_reducible repeat (first | apply Kd.R_alloc | apply Kd.R_drewN | apply Kd.R_drew)); exact Kd.R_mono (Kd.R_far (p := ⟨gb323, 2, none⟩) (Kd.R_far (p := ⟨gb323, 1, none⟩) (Kd.R_far (p := ⟨gb323, 0, none⟩) (Kd.R_types HO321.out BK323.out (by decide)) (fun _ hk => hk.2) (.int .i64 t315)) (fun _ hk => hk.2) (.slice Ao14 t316.length co14)) (fun _ hk => hk.2) (.slice Ao15 t319.length co15)) (fun _ hk => trivial)))⟩; have n2_ : Aside0 (w16.heap[gb313]? = some (.cells #[.slice A0_0 l0_0.length c0_0, .int .i64 a0_1, .slice A0_2 l0_2.length c0_2, .slice A0_3 l0_3.length c0_3, .slice A0_4 l0_4.length c0_4] 27 (0, 0))) := ⟨(by rw [hw]; exact (bf1 BK313 NB313_323))⟩; have n3_ : Aside0 (w16.heap[gb314]? = some (.cells #[.slice none 0 0, .int .i64 0, .slice none 0 0, .slice none 0 0, .slice none 0 0] 27 (0, 0))) := ⟨(by rw [hw]; exact (bf1 BK314 NB314_323))⟩; have n4_ : Aside0 (w16.heap[gb323]? = some (.cells #[.int .i64 t315, .slice Ao14 t316.length co14, .slice Ao15 t319.length co15] 25 (0, 0))) := ⟨(by rw [hw]; exact (by (with_reducible repeat (first | refine blk_drewN ?_ _ | refine blk_drew ?_ | refine blk_alloc ?_ _)); refine blk_put (cs := #[.int .i64 t315, .slice Ao14 t316.length co14, .slice none 0 0]) ?_ 2 _ rfl; (with_reducible repeat (first | refine blk_drewN ?_ _ | refine blk_drew ?_ | refine blk_alloc ?_ _)); refine blk_put (cs := #[.int .i64 t315, .slice none 0 0, .slice none 0 0]) ?_ 1 _ rfl; (with_reducible repeat (first | refine blk_drewN ?_ _ | refine blk_drew ?_ | refine blk_alloc ?_ _)); refine blk_put (cs := #[.int .i64 0, .slice none 0 0, .slice none 0 0]) ?_ 0 _ rfl; (with_reducible repeat (first | refine blk_drewN ?_ _ | refine blk_drew ?_ | refine blk_alloc ?_ _)); exact BK323.out))⟩; have n5_ : Aside0 (Below w.heap.size w w16) := ⟨(by rw [hw]; exact (be3 HB GE313 GE314 GE323))⟩; clear hw; clear HO318; clear HO321; clear BK313; clear BK314; clear BK323; clear HB; have HO318 := n0_; have HO321 := n1_; have BK313 := n2_; have BK314 := n3_; have BK323 := n4_; have HB := n5_; clear n0_ n1_ n2_ n3_ n4_ n5_; have hcz17_0 := bz5 BK313; have hcz18_0 := bz3 BK323) | ((with_reducible refine gate_callee (f := 68) rfl ?_); refine gl 18 Try.func68 #[.agg #[.slice A0_0 l0_0.length c0_0, .int .i64 a0_1, .slice A0_2 l0_2.length c0_2, .slice A0_3 l0_3.length c0_3, .slice A0_4 l0_4.length c0_4], .agg #[.int .i64 t315, .slice Ao14 t316.length co14, .slice Ao15 t319.length co15], .bool t322] ?_; (with_reducible refine (spec_l09With.calls k _ _ l0_0 a0_1 _ _ l0_2 _ _ l0_3 _ _ l0_4 t315 (fun k_ => some k_ = (.slice Ao14 t316.length co14 : Value).ownBlock) (.slice Ao14 t316.length co14) t316 (fun k_ => some k_ = (.slice Ao15 t319.length co15 : Value).ownBlock) (.slice Ao15 t319.length co15) t319 t322 t324 t327 t328 t331 t334 t337 w _ ?side1 ?side2 HC0_0.out ?side4 HC0_2.out ?side6 HC0_3.out ?side8 HC0_4.out ?side10 ?side11 A4.out).mono ?_); (case side1 => repeat (first | (with_reducible first | exact HB.out | apply below_alloc | apply pw_below_drewN | apply below_drew1 | refine below_set ?_ GE313.out | refine below_set ?_ GE314.out | refine below_set ?_ GE323.out) | exact HB.out)); (case side2 => exact Kd.C_kept_came (Kd.heap_int .i64) HR0_0.out (be3 HB GE313 GE314 GE323) (fun k_ hs_ => Or.elim hs_ (fun e_ => (fun e_ => Kd.R_base HO318.out k_ e_.symm) e_) (fun e_ => (fun e_ => Kd.R_base HO321.out k_ e_.symm) e_))); (case side4 => exact Kd.C_kept_came (Kd.heap_int .i64) HR0_2.out (be3 HB GE313 GE314 GE323) (fun k_ hs_ => Or.elim hs_ (fun e_ => (fun e_ => Kd.R_base HO318.out k_ e_.symm) e_) (fun e_ => (fun e_ => Kd.R_base HO321.out k_ e_.symm) e_))); (case side6 => exact Kd.C_kept_came k70_heap HR0_3.out (be3 HB GE313 GE314 GE323) (fun k_ hs_ => Or.elim hs_ (fun e_ => (fun e_ => Kd.R_base HO318.out k_ e_.symm) e_) (fun e_ => (fun e_ => Kd.R_base HO321.out k_ e_.symm) e_))); (case side8 => exact Kd.C_kept_came (Kd.heap_int .i64) HR0_4.out (be3 HB GE313 GE314 GE323) (fun k_ hs_ => Or.elim hs_ (fun e_ => (fun e_ => Kd.R_base HO318.out k_ e_.symm) e_) (fun e_ => (fun e_ => Kd.R_base HO321.out k_ e_.symm) e_))); (case side10 => exact Kd.R_tight rfl HO318.out); (case side11 => exact Kd.R_tight rfl HO321.out); rintro e w19 ⟨v325, v329, v332, v335, rfl, ho0, ho1, ho2, ho3, hb, hkp⟩; refine ⟨_, rfl, ?_⟩; replace BK313 := Aside0.mk (blk_kept (bk BK313) hkp (fun hs_ => Or.elim hs_ (fun e_ => (fun e_ => (Kd.R_ne HO318.out BK313.out (by decide)) e_) e_) (fun e_ => (fun e_ => (Kd.R_ne HO321.out BK313.out (by decide)) e_) e_))); replace BK314 := Aside0.mk (blk_kept (bk BK314) hkp (fun hs_ => Or.elim hs_ (fun e_ => (fun e_ => (Kd.R_ne HO318.out BK314.out (by decide)) e_) e_) (fun e_ => (fun e_ => (Kd.R_ne HO321.out BK314.out (by decide)) e_) e_))); replace BK323 := Aside0.mk (blk_kept (bk BK323) hkp (fun hs_ => Or.elim hs_ (fun e_ => (fun e_ => (Kd.R_ne HO318.out BK323.out (by decide)) e_) e_) (fun e_ => (fun e_ => (Kd.R_ne HO321.out BK323.out (by decide)) e_) e_))); have HO326 := Aside0.mk (Kd.R_mono (ok' := fun k_ => some k_ ≠ (v329 : Value).ownBlock ∧ some k_ ≠ (v335 : Value).ownBlock) ho0 cj); have HO330 := Aside0.mk (Kd.R_mono (ok' := fun k_ => some k_ ≠ (v325 : Value).ownBlock ∧ some k_ ≠ (v335 : Value).ownBlock) ho1 cj); have HO333 := Aside0.mk (Kd.R_mono (ok' := fun k_ => True) ho2 (fun k_ hk_ => trivial)); have HO336 := Aside0.mk (Kd.R_mono (ok' := fun k_ => some k_ ≠ (v325 : Value).ownBlock ∧ some k_ ≠ (v329 : Value).ownBlock) ho3 cj); replace HB := Aside0.mk (hb); clear HO318; clear HO321; (try clear hb); (try clear hkp); (try clear ho0); (try clear ho1); (try clear ho2); (try clear ho3); obtain ⟨Ao20, co20, eo20⟩ := Kd.R_slice HO326.out; subst eo20; have hcz21_0 := bz5 BK314; obtain ⟨Ao22, co22, eo22⟩ := Kd.R_slice HO330.out; subst eo22; obtain ⟨Ao23, co23, eo23⟩ := Kd.R_slice HO333.out; subst eo23; obtain ⟨Ao24, co24, eo24⟩ := Kd.R_slice HO336.out; subst eo24))
 refine bodyPost_ret (results_ct rfl _ _ gb314 27 #[.slice Ao20 t324.length co20, .int .i64 t327, .slice Ao22 t328.length co22, .slice Ao23 t331.length co23, .slice Ao24 t334.length co24] (0, 0) _ rfl (by (with_reducible repeat (first | refine blk_drewN ?_ _ | refine blk_drew ?_ | refine blk_alloc ?_ _)); refine blk_put (cs := #[.slice Ao20 t324.length co20, .int .i64 t327, .slice Ao22 t328.length co22, .slice Ao23 t331.length co23, .slice none 0 0]) ?_ 4 _ rfl; (with_reducible repeat (first | refine blk_drewN ?_ _ | refine blk_drew ?_ | refine blk_alloc ?_ _)); refine blk_put (cs := #[.slice Ao20 t324.length co20, .int .i64 t327, .slice Ao22 t328.length co22, .slice none 0 0, .slice none 0 0]) ?_ 3 _ rfl; (with_reducible repeat (first | refine blk_drewN ?_ _ | refine blk_drew ?_ | refine blk_alloc ?_ _)); refine blk_put (cs := #[.slice Ao20 t324.length co20, .int .i64 t327, .slice none 0 0, .slice none 0 0, .slice none 0 0]) ?_ 2 _ rfl; (with_reducible repeat (first | refine blk_drewN ?_ _ | refine blk_drew ?_ | refine blk_alloc ?_ _)); refine blk_put (cs := #[.slice Ao20 t324.length co20, .int .i64 0, .slice none 0 0, .slice none 0 0, .slice none 0 0]) ?_ 1 _ rfl; (with_reducible repeat (first | refine blk_drewN ?_ _ | refine blk_drew ?_ | refine blk_alloc ?_ _)); refine blk_put (cs := #[.slice none 0 0, .int .i64 0, .slice none 0 0, .slice none 0 0, .slice none 0 0]) ?_ 0 _ rfl; (with_reducible repeat (first | refine blk_drewN ?_ _ | refine blk_drew ?_ | refine blk_alloc ?_ _)); exact BK314.out) Try.underlying27 rfl (by kernel_rfl)) rfl ?_
 exact ⟨_, _, _, _, er, by (with_reducible repeat (first | apply Kd.R_alloc | apply Kd.R_drewN | apply Kd.R_drew)); exact Kd.R_mono (Kd.R_far (p := ⟨gb314, 4, none⟩) (Kd.R_far (p := ⟨gb314, 3, none⟩) (Kd.R_far (p := ⟨gb314, 2, none⟩) (Kd.R_far (p := ⟨gb314, 1, none⟩) (Kd.R_far (p := ⟨gb314, 0, none⟩) (Kd.R_types HO326.out BK314.out (by decide)) (fun _ hk => hk.2) (.slice Ao20 t324.length co20)) (fun _ hk => hk.2) (.int .i64 t327)) (fun _ hk => hk.2) (.slice Ao22 t328.length co22)) (fun _ hk => hk.2) (.slice Ao23 t331.length co23)) (fun _ hk => hk.2) (.slice Ao24 t334.length co24)) (fun _ hk => ⟨hk.1.1, hk.1.2⟩), by (with_reducible repeat (first | apply Kd.R_alloc | apply Kd.R_drewN | apply Kd.R_drew)); exact Kd.R_mono (Kd.R_far (p := ⟨gb314, 4, none⟩) (Kd.R_far (p := ⟨gb314, 3, none⟩) (Kd.R_far (p := ⟨gb314, 2, none⟩) (Kd.R_far (p := ⟨gb314, 1, none⟩) (Kd.R_far (p := ⟨gb314, 0, none⟩) (Kd.R_types HO330.out BK314.out (by decide)) (fun _ hk => hk.2) (.slice Ao20 t324.length co20)) (fun _ hk => hk.2) (.int .i64 t327)) (fun _ hk => hk.2) (.slice Ao22 t328.length co22)) (fun _ hk => hk.2) (.slice Ao23 t331.length co23)) (fun _ hk => hk.2) (.slice Ao24 t334.length co24)) (fun _ hk => ⟨hk.1.1, hk.1.2⟩), by (with_reducible repeat (first | apply Kd.R_alloc | apply Kd.R_drewN | apply Kd.R_drew)); exact Kd.R_mono (Kd.R_far (p := ⟨gb314, 4, none⟩) (Kd.R_far (p := ⟨gb314, 3, none⟩) (Kd.R_far (p := ⟨gb314, 2, none⟩) (Kd.R_far (p := ⟨gb314, 1, none⟩) (Kd.R_far (p := ⟨gb314, 0, none⟩) (Kd.R_types HO333.out BK314.out (by decide)) (fun _ hk => hk.2) (.slice Ao20 t324.length co20)) (fun _ hk => hk.2) (.int .i64 t327)) (fun _ hk => hk.2) (.slice Ao22 t328.length co22)) (fun _ hk => hk.2) (.slice Ao23 t331.length co23)) (fun _ hk => hk.2) (.slice Ao24 t334.length co24)) (fun _ hk => trivial), by (with_reducible repeat (first | apply Kd.R_alloc | apply Kd.R_drewN | apply Kd.R_drew)); exact Kd.R_mono (Kd.R_far (p := ⟨gb314, 4, none⟩) (Kd.R_far (p := ⟨gb314, 3, none⟩) (Kd.R_far (p := ⟨gb314, 2, none⟩) (Kd.R_far (p := ⟨gb314, 1, none⟩) (Kd.R_far (p := ⟨gb314, 0, none⟩) (Kd.R_types HO336.out BK314.out (by decide)) (fun _ hk => hk.2) (.slice Ao20 t324.length co20)) (fun _ hk => hk.2) (.int .i64 t327)) (fun _ hk => hk.2) (.slice Ao22 t328.length co22)) (fun _ hk => hk.2) (.slice Ao23 t331.length co23)) (fun _ hk => hk.2) (.slice Ao24 t334.length co24)) (fun _ hk => ⟨hk.1.1, hk.1.2⟩), be3 HB GE313 GE314 GE323⟩

/-! ### impl_copyInts: function 57 -/
def impl_copyInts.f (l0 : List Int) : Option (List Int) := (some (([] : List Int) : List Int)).bind fun y338 => (if y338.length + l0.length < 17592186044416 then (some (y338 ++ l0)) else (none))
set_option maxHeartbeats 8000000 in
set_option maxRecDepth 100000 in
theorem impl_copyInts.calls (A0 : Option Addr) (c0 : Nat) (l0 : List Int) (r : List Int) (w : World) (hr0 : Kd.C (Kd.int .i64) w A0 l0.length l0) (hc0 : l0.length ≤ c0) (h : impl_copyInts.f l0 = some r) :
  Calls Try.prog 57 #[.slice A0 l0.length c0] w fun e w' => ∃ v0_ : Value, e = .returned (v0_) ∧ Kd.R (Kd.int .i64) 3 w' w.heap.size (fun _ => True) v0_ r ∧ Below w.heap.size w w' := by
 have HR0 := Aside0.mk hr0
 have HC0 := Aside0.mk hc0
 clear hr0 hc0
 have HB := Aside0.mk (Below.refl w.heap.size w)
 have H : ((some (([] : List Int) : List Int)).bind fun y338 => (if y338.length + l0.length < 17592186044416 then (some (y338 ++ l0)) else (none))) = some r := h
 clear h
 obtain ⟨y338, hy338⟩ : ∃ y_ : List Int, y_ = (([] : List Int)) := ⟨_, rfl⟩
 replace H : (if y338.length + l0.length < 17592186044416 then (some (y338 ++ l0)) else (none)) = some r := by first | (rw [hy338]; with_reducible exact H) | (have H2_ := (Option.bind_some _ _).symm.trans H; rw [hy338]; with_reducible exact H2_) | (have H2_ := (Option.bind_some _ _).symm.trans H; with_reducible exact H2_) | with_reducible exact H | (rw [hy338]; exact H) | exact H
 have Ny338 := Aside0.mk hy338
 clear hy338
 by_cases c2 : y338.length + l0.length < 17592186044416
 ·rw [if_pos c2] at H
  have LMc2 := Aside0.mk c2
  clear c2
  obtain ⟨y341, hy341⟩ : ∃ y_ : List Int, y_ = (y338 ++ l0) := ⟨_, rfl⟩
  replace H : (some y341) = some r := by first | (rw [hy341]; with_reducible exact H) | (have H2_ := (Option.bind_some _ _).symm.trans H; rw [hy341]; with_reducible exact H2_) | (have H2_ := (Option.bind_some _ _).symm.trans H; with_reducible exact H2_) | with_reducible exact H | (rw [hy341]; exact H) | exact H
  have Ny341 := Aside0.mk hy341
  clear hy341
  obtain rfl := Option.some.inj H
  go_enter Try.func57, Try.ntmps57
  have HO340 := Aside0.mk (show Kd.R (Kd.int .i64) 3 w w.heap.size (fun _ => True) (.slice none 0 0) y338 from by rw [Ny338.out]; exact Kd.R_nil _ _ _ _ _)
  go_wp2_with (first | ((with_reducible refine gate_builtin (b := .append) (xs := #[.const (.slice none 0 0), .tmp 3]) rfl ?_); at_builtin; refine Kd.R_append_rows (Kd.int .i64) (w0 := w) w.heap.size rfl (.const (.slice none 0 0)) (.tmp 3) 22 3 (.int .i64 0) 8 rfl Try.underlying22 info3 rfl (by decide) (by omega) (.slice none 0 0) y338 l0 _ _ _ (fun _ => True) (fun _ => False) rfl rfl ?aO ?aR (fun _ _ h => h) (fun _ h => h.elim) ?aF ?aB ?aS ?aL ?_; (case aR => repeat (first | exact (Kd.C_below HR0.out HB.out) | (with_reducible refine Kd.C_alloc ?_ _) | (with_reducible refine Kd.C_drewN ?_ _) | (with_reducible refine Kd.C_drew ?_))); (case aB => exact (be HB)); (case aF => exact (fun _ _ => trivial)); (case aO => exact (ro HO340)); (case aS => exact (below_size (be HB))); (case aL => have := LMc2.out; omega); intro v342 w5 ho hb hg hat; rw [← Ny341.out] at ho; replace HB := Aside0.mk (hb); have HO343 := Aside0.mk (ho); clear HO340; clear ho hb hg hat))
  go_ret
  exact ⟨_, er, by (with_reducible repeat (first | apply Kd.R_alloc | apply Kd.R_drewN | apply Kd.R_drew)); exact HO343.out, be HB⟩
 rw [if_neg c2] at H
 exact absurd H (by simp)

end Go.Proofs.Ytdgpidhlbpaolaa.QFnExactEnter
