-- made by a program of this session (myprint.py)
import Derived.Test.YtdgpidhlbpaolaaQFnExactAllocx0
import Derived.Test.YtdgpidhlbpaolaaQFnExactAllocx6
namespace Go.Proofs.Ytdgpidhlbpaolaa.QFnExactAlloc
open Go.RowKit Go.Proofs.YtdgpidhlbpaolaaW.PrintWords Go.Proofs.YtdgpidhlbpaolaaW.PrintLast Go.Proofs.YtdgpidhlbpaolaaW.PrintMore
attribute [local go_sem] max2_int min2_int max_two min_two max_three min_three max_four min_four   -- for this text's walks alone
set_option linter.unusedVariables false
set_option linter.unusedSimpArgs false

/-! ### spec_l09Copy: function 64 -/
def spec_l09Copy.f (l0_0 : List Int) (a0_1 : Int) (l0_2 : List Int) (l0_3 : List (S70)) (l0_4 : List Int) : Option (List Int × Int × List Int × (List (S70)) × List Int) := (some (([] : List Int) : List Int)).bind fun y253 => (if y253.length + l0_0.length < 17592186044416 then ((spec_l06Copy.f a0_1 l0_2 l0_3).bind fun bt259 => ((some (([] : List Int) : List Int)).bind fun y266 => (if y266.length + l0_4.length < 17592186044416 then (some ((y253 ++ l0_0), bt259.1, bt259.2.1, bt259.2.2, (y266 ++ l0_4))) else (none)))) else (none))
def spec_l09Copy.T1 : Bool × List (List Nat × List Nat) := (true, [([], []), ([], []), ([1], [1]), ([0, 2], [0, 2]), ([], []), ([4], [4]), ([5, 3], [5]), ([], []), ([], []), ([8], [8]), ([7, 9, 6], [7, 9]), ([3, 6, 10], [3, 6, 10]), ([11, 10, 0, 1, 2, 3, 4, 5, 6, 7, 8, 9, 10, 11], [11])])
def spec_l09Copy.B1 : List Nat := [0, 0, 2, 7, 0, 16, 63, 0, 0, 256, 1023, 2047, 4095]
theorem spec_l09Copy.tab1 : rtab .any (opsOf Try.f64 1) = spec_l09Copy.T1 := by kernel_rfl
theorem spec_l09Copy.bits1 : waitsOk spec_l09Copy.T1.2 spec_l09Copy.B1 = true := by kernel_rfl
set_option maxHeartbeats 8000000 in
set_option maxRecDepth 100000 in
theorem spec_l09Copy.calls (A0_0 : Option Addr) (c0_0 : Nat) (l0_0 : List Int) (a0_1 : Int) (A0_2 : Option Addr) (c0_2 : Nat) (l0_2 : List Int) (A0_3 : Option Addr) (c0_3 : Nat) (l0_3 : List (S70)) (A0_4 : Option Addr) (c0_4 : Nat) (l0_4 : List Int) (r1 : List Int) (r2 : Int) (r3 : List Int) (r4 : List (S70)) (r5 : List Int) (w : World) (hr0_0 : Kd.C (Kd.int .i64) w A0_0 l0_0.length l0_0) (hc0_0 : l0_0.length ≤ c0_0) (hr0_2 : Kd.C (Kd.int .i64) w A0_2 l0_2.length l0_2) (hc0_2 : l0_2.length ≤ c0_2) (hr0_3 : Kd.C k70 w A0_3 l0_3.length l0_3) (hc0_3 : l0_3.length ≤ c0_3) (hr0_4 : Kd.C (Kd.int .i64) w A0_4 l0_4.length l0_4) (hc0_4 : l0_4.length ≤ c0_4) (h : spec_l09Copy.f l0_0 a0_1 l0_2 l0_3 l0_4 = some (r1, r2, r3, r4, r5)) :
  Calls Try.prog 64 #[.agg #[.slice A0_0 l0_0.length c0_0, .int .i64 a0_1, .slice A0_2 l0_2.length c0_2, .slice A0_3 l0_3.length c0_3, .slice A0_4 l0_4.length c0_4]] w fun e w' => ∃ v0_ v2_ v3_ v4_ : Value, e = .returned (.agg #[v0_, .int .i64 r2, v2_, v3_, v4_]) ∧ Kd.R (Kd.int .i64) 3 w' w.heap.size (fun k_ => some k_ ≠ (v2_ : Value).ownBlock ∧ some k_ ≠ (v4_ : Value).ownBlock) v0_ r1 ∧ Kd.R (Kd.int .i64) 3 w' w.heap.size (fun k_ => some k_ ≠ (v0_ : Value).ownBlock ∧ some k_ ≠ (v4_ : Value).ownBlock) v2_ r3 ∧ Kd.R k70 70 w' w.heap.size (fun _ => True) v3_ r4 ∧ Kd.R (Kd.int .i64) 3 w' w.heap.size (fun k_ => some k_ ≠ (v0_ : Value).ownBlock ∧ some k_ ≠ (v2_ : Value).ownBlock) v4_ r5 ∧ Below w.heap.size w w' := by
 have hu27 := Try.underlying27
 have hu25 := Try.underlying25
 have HR0_0 := Aside0.mk hr0_0
 have HC0_0 := Aside0.mk hc0_0
 clear hr0_0 hc0_0
 have HR0_2 := Aside0.mk hr0_2
 have HC0_2 := Aside0.mk hc0_2
 clear hr0_2 hc0_2
 have HR0_3 := Aside0.mk hr0_3
 have HC0_3 := Aside0.mk hc0_3
 clear hr0_3 hc0_3
 have HR0_4 := Aside0.mk hr0_4
 have HC0_4 := Aside0.mk hc0_4
 clear hr0_4 hc0_4
 have HB := Aside0.mk (Below.refl w.heap.size w)
 have H : ((some (([] : List Int) : List Int)).bind fun y253 => (if y253.length + l0_0.length < 17592186044416 then ((spec_l06Copy.f a0_1 l0_2 l0_3).bind fun bt259 => ((some (([] : List Int) : List Int)).bind fun y266 => (if y266.length + l0_4.length < 17592186044416 then (some ((y253 ++ l0_0), bt259.1, bt259.2.1, bt259.2.2, (y266 ++ l0_4))) else (none)))) else (none))) = some (r1, r2, r3, r4, r5) := h
 clear h
 obtain ⟨y253, hy253⟩ : ∃ y_ : List Int, y_ = (([] : List Int)) := ⟨_, rfl⟩
 replace H : (if y253.length + l0_0.length < 17592186044416 then ((spec_l06Copy.f a0_1 l0_2 l0_3).bind fun bt259 => ((some (([] : List Int) : List Int)).bind fun y266 => (if y266.length + l0_4.length < 17592186044416 then (some ((y253 ++ l0_0), bt259.1, bt259.2.1, bt259.2.2, (y266 ++ l0_4))) else (none)))) else (none)) = some (r1, r2, r3, r4, r5) := by first | (rw [hy253]; with_reducible exact H) | (have H2_ := (Option.bind_some _ _).symm.trans H; rw [hy253]; with_reducible exact H2_) | (have H2_ := (Option.bind_some _ _).symm.trans H; with_reducible exact H2_) | with_reducible exact H | (rw [hy253]; exact H) | exact H
 have Ny253 := Aside0.mk hy253
 clear hy253
 by_cases c2 : y253.length + l0_0.length < 17592186044416
 ·rw [if_pos c2] at H
  have LMc2 := Aside0.mk c2
  clear c2
  obtain ⟨y256, hy256⟩ : ∃ y_ : List Int, y_ = (y253 ++ l0_0) := ⟨_, rfl⟩
  replace H : ((spec_l06Copy.f a0_1 l0_2 l0_3).bind fun bt259 => ((some (([] : List Int) : List Int)).bind fun y266 => (if y266.length + l0_4.length < 17592186044416 then (some (y256, bt259.1, bt259.2.1, bt259.2.2, (y266 ++ l0_4))) else (none)))) = some (r1, r2, r3, r4, r5) := by first | (rw [hy256]; with_reducible exact H) | (have H2_ := (Option.bind_some _ _).symm.trans H; rw [hy256]; with_reducible exact H2_) | (have H2_ := (Option.bind_some _ _).symm.trans H; with_reducible exact H2_) | with_reducible exact H | (rw [hy256]; exact H) | exact H
  have Ny256 := Aside0.mk hy256
  clear hy256
  replace H := Option.bind_eq_some_iff.mp H
  obtain ⟨⟨t259, t260, t263⟩, A30, H⟩ := H
  replace H : ((some (([] : List Int) : List Int)).bind fun y266 => (if y266.length + l0_4.length < 17592186044416 then (some (y256, t259, t260, t263, (y266 ++ l0_4))) else (none))) = some (r1, r2, r3, r4, r5) := H
  have A3 := Aside0.mk A30
  clear A30
  obtain ⟨y266, hy266⟩ : ∃ y_ : List Int, y_ = (([] : List Int)) := ⟨_, rfl⟩
  replace H : (if y266.length + l0_4.length < 17592186044416 then (some (y256, t259, t260, t263, (y266 ++ l0_4))) else (none)) = some (r1, r2, r3, r4, r5) := by first | (rw [hy266]; with_reducible exact H) | (have H2_ := (Option.bind_some _ _).symm.trans H; rw [hy266]; with_reducible exact H2_) | (have H2_ := (Option.bind_some _ _).symm.trans H; with_reducible exact H2_) | with_reducible exact H | (rw [hy266]; exact H) | exact H
  have Ny266 := Aside0.mk hy266
  clear hy266
  by_cases c4 : y266.length + l0_4.length < 17592186044416
  ·rw [if_pos c4] at H
   have LMc4 := Aside0.mk c4
   clear c4
   obtain ⟨y269, hy269⟩ : ∃ y_ : List Int, y_ = (y266 ++ l0_4) := ⟨_, rfl⟩
   replace H : (some (y256, t259, t260, t263, y269)) = some (r1, r2, r3, r4, r5) := by first | (rw [hy269]; with_reducible exact H) | (have H2_ := (Option.bind_some _ _).symm.trans H; rw [hy269]; with_reducible exact H2_) | (have H2_ := (Option.bind_some _ _).symm.trans H; with_reducible exact H2_) | with_reducible exact H | (rw [hy269]; exact H) | exact H
   have Ny269 := Aside0.mk hy269
   clear hy269
   simp only [Option.some.injEq, Prod.mk.injEq] at H
   obtain ⟨rfl, rfl, rfl, rfl, rfl⟩ := H
   go_enter Try.func64, Try.ntmps64
   try go_wp2_with (first | ((with_reducible refine gate_dst (N := 1) rfl ?_); refine bx 1 #[.slice A0_0 l0_0.length c0_0, .int .i64 a0_1, .slice A0_2 l0_2.length c0_2, .slice A0_3 l0_3.length c0_3, .slice A0_4 l0_4.length c0_4] 27 ?_; intro gb251 hg w5 hbox hb; have BK251 := am hbox; have GW251 := gs0 hg HB; have GE251 := gs0 hg HB; replace HB := s0 HB hb; clear hb hbox hg) | ((with_reducible refine gate_dst (N := 2) rfl ?_); refine bx 2 #[.slice none 0 0, .int .i64 0, .slice none 0 0, .slice none 0 0, .slice none 0 0] 27 ?_; intro gb252 hg w6 hbox hb; have BK252 := am hbox; have GW252 := gs1 hg HB GE251; have GE252 := gs1 hg HB GE251; replace HB := Aside0.mk (below_step (be1 HB GE251) hb); have NB251_252 := Aside0.mk ((by rw [hg]; exact Nat.ne_of_lt (bl BK251) : gb251 ≠ gb252)); have NB252_251 := Aside0.mk ((by rw [hg]; exact Nat.ne_of_gt (bl BK251) : gb252 ≠ gb251)); replace BK251 := bb BK251 hb; clear hb hbox hg))
   have n0_ := Aside0.mk (blk_drew BK251.out)
   have n1_ := Aside0.mk (blk_drew BK252.out)
   have n2_ := Aside0.mk (below_drew1 HB.out)
   clear BK251
   clear BK252
   clear HB
   have BK251 := n0_
   have BK252 := n1_
   have HB := n2_
   clear n0_ n1_ n2_
   refine start_ (n := 13) (S := fun w' => w'.cell? ⟨gb251, 0, none⟩ = some (.slice A0_0 l0_0.length c0_0) ∧ w'.cell? ⟨gb251, 1, none⟩ = some (.int .i64 a0_1) ∧ w'.cell? ⟨gb251, 2, none⟩ = some (.slice A0_2 l0_2.length c0_2) ∧ w'.cell? ⟨gb251, 3, none⟩ = some (.slice A0_3 l0_3.length c0_3) ∧ w'.cell? ⟨gb251, 4, none⟩ = some (.slice A0_4 l0_4.length c0_4)) (ds := []) (bv 13 0x0) (by kernel_rfl) rfl rfl ⟨bc0 BK251, bc1 BK251, bc2 BK251, bc3 BK251, bc4 BK251⟩ (fun hHeld => ?_); refine with_tabW spec_l09Copy.tab1 spec_l09Copy.bits1 (fun HT_ HW_ => ?_)
   generalize w6.drew = w7 at BK251 BK252 HB hHeld ⊢
   refine py HT_ 1 4 (bv 13 0x2) ?_
   refine py HT_ 4 7 (bv 13 0x12) ?_
   refine py HT_ 8 11 (bv 13 0x112) ?_
   refine tk HT_ HW_ hHeld 2 5 (bv 13 0x116) ?_
   refine tk HT_ HW_ hHeld 5 8 (bv 13 0x136) ?_
   refine tk HT_ HW_ hHeld 9 12 (bv 13 0x336) ?_
   refine join_ (σ := Value × Value × Value × Value × Value) 3 (bv 13 0x3ff) (fun s_ => [(3, s_.1), (6, s_.2.1), (9, .agg #[.int .i64 t259, s_.2.2.1, s_.2.2.2.1]), (10, s_.2.2.2.2)]) (fun s_ w' => (w'.cell? ⟨gb251, 0, none⟩ = some (.slice A0_0 l0_0.length c0_0) ∧ w'.cell? ⟨gb251, 1, none⟩ = some (.int .i64 a0_1) ∧ w'.cell? ⟨gb251, 2, none⟩ = some (.slice A0_2 l0_2.length c0_2) ∧ w'.cell? ⟨gb251, 3, none⟩ = some (.slice A0_3 l0_3.length c0_3) ∧ w'.cell? ⟨gb251, 4, none⟩ = some (.slice A0_4 l0_4.length c0_4)) ∧ (Kd.R (Kd.int .i64) 3 w' w.heap.size (fun k_ => some k_ ≠ (s_.2.2.1 : Value).ownBlock ∧ some k_ ≠ (s_.2.2.2.2 : Value).ownBlock) s_.2.1 y256) ∧ (Kd.R (Kd.int .i64) 3 w' w.heap.size (fun k_ => some k_ ≠ (s_.2.1 : Value).ownBlock ∧ some k_ ≠ (s_.2.2.2.2 : Value).ownBlock) s_.2.2.1 t260) ∧ (Kd.R k70 70 w' w.heap.size (fun _ => True) s_.2.2.2.1 t263) ∧ (Kd.R (Kd.int .i64) 3 w' w.heap.size (fun k_ => some k_ ≠ (s_.2.1 : Value).ownBlock ∧ some k_ ≠ (s_.2.2.1 : Value).ownBlock) s_.2.2.2.2 y266) ∧ (w'.heap[gb251]? = some (.cells #[.slice A0_0 l0_0.length c0_0, .int .i64 a0_1, .slice A0_2 l0_2.length c0_2, .slice A0_3 l0_3.length c0_3, .slice A0_4 l0_4.length c0_4] 27 (0, 0))) ∧ (w'.heap[gb252]? = some (.cells #[.slice none 0 0, .int .i64 0, .slice none 0 0, .slice none 0 0, .slice none 0 0] 27 (0, 0))) ∧ (Below w.heap.size w w')) ?_ ?_
   rotate_left
   ·intro hCont
    refine two_ (i := 0) (j := 7) (Ni := some 3) (Nj := some 10) (bv 13 0x337) (bv 13 0x3b6) rfl rfl rfl rfl (two_of HT_.out (by kernel_rfl)) (by decide) (by decide) (fun K hK => ?_) (fun K hK => ?_)
    ·skip
     refine Kd.R_lit_step (Kd.int .i64) _ 3 ?hg (N := 3) ?hd (xs := ([] : List Int)) (inner := []) (ok := fun _ => True) (okp := fun _ => True) ?hr ?hp (fun _ hk => hk) trivial (Below.refl _ _) (Nat.le_refl _) (by simp) ?_; (case hd => rfl); (case hg => rfl); (case hr => first | (go_simp; done) | (go_simp; rfl)); (case hp => exact (Reps.none _ _))
     intro v254 w8 ho9 hb hg_ hnew_
     clear hg_ hnew_
     (first | rw [← Ny253.out] at ho9 | (simp only [Int.reduceToNat] at ho9; rw [← Ny253.out] at ho9))
     have n0_ := Aside0.mk (Kd.R_lower ho9 (below_size (be2 HB GE251 GE252)))
     have n1_ := bb BK251 hb
     have n2_ := bb BK252 hb
     have n3_ := Aside0.mk (below_step (be2 HB GE251 GE252) hb)
     clear BK251
     clear BK252
     clear HB
     have HO255 := n0_
     have BK251 := n1_
     have BK252 := n2_
     have HB := n3_
     clear n0_ n1_ n2_ n3_
     clear hb ho9
     refine hK.out _ _ ⟨bc0 BK251, bc1 BK251, bc2 BK251, bc3 BK251, bc4 BK251⟩ (fun hHeld => ?_)
     clear hK K
     refine norm_ (a' := ?_) ?_ ?_
     rotate_left
     ·show Act.put _ (some 3) _ = _
      simp only [aP]
      rfl
     refine two_ (i := 3) (j := 7) (Ni := some 6) (Nj := some 10) (bv 13 0x33f) (bv 13 0x3b7) rfl rfl rfl rfl (two_of HT_.out (by kernel_rfl)) (by decide) (by decide) (fun K hK => ?_) (fun K hK => ?_)
     ·skip
      refine Kd.R_append_rows_step (Kd.int .i64) (w0 := w) w.heap.size (by rfl) (.tmp 3) (.tmp 5) 22 3 (.int .i64 0) 8 rfl Try.underlying22 info3 rfl (by decide) (by omega) v254 y253 l0_0 _ _ _ (fun _ => True) (fun _ => False) rfl rfl ?aO ?aR (fun _ _ h => h) (fun _ h => h.elim) ?aF ?aB ?aS ?aL ?_
      (case aR => repeat (first | exact (Kd.C_below HR0_0.out HB.out) | (with_reducible refine Kd.C_alloc ?_ _) | (with_reducible refine Kd.C_drewN ?_ _) | (with_reducible refine Kd.C_drew ?_)))
      (case aB => exact (be2 HB GE251 GE252))
      (case aF => exact (fun _ _ => trivial))
      (case aO => exact (ro HO255))
      (case aS => exact (below_size (be2 HB GE251 GE252)))
      (case aL => have := LMc2.out; omega)
      intro v257 w10 ho hb hg hat
      rw [← Ny256.out] at ho
      have n0_ := Aside0.mk (blk_grown (g := gb251) (o := .cells #[.slice A0_0 l0_0.length c0_0, .int .i64 a0_1, .slice A0_2 l0_2.length c0_2, .slice A0_3 l0_3.length c0_3, .slice A0_4 l0_4.length c0_4] 27 (0, 0)) (bk BK251) hg (Kd.R_ne HO255.out BK251.out (by decide)))
      have n1_ := Aside0.mk (blk_grown (g := gb252) (o := .cells #[.slice none 0 0, .int .i64 0, .slice none 0 0, .slice none 0 0, .slice none 0 0] 27 (0, 0)) (bk BK252) hg (Kd.R_ne HO255.out BK252.out (by decide)))
      have n2_ := Aside0.mk (hb)
      have n3_ := Aside0.mk (ho)
      clear BK251
      clear BK252
      clear HB
      clear HO255
      have BK251 := n0_
      have BK252 := n1_
      have HB := n2_
      have HO258 := n3_
      clear n0_ n1_ n2_ n3_
      clear ho hb hg hat
      refine hK.out _ _ ⟨bc0 BK251, bc1 BK251, bc2 BK251, bc3 BK251, bc4 BK251⟩ (fun hHeld => ?_)
      clear hK K
      refine norm_ (a' := ?_) ?_ ?_
      rotate_left
      ·show Act.put _ (some 6) _ = _
       simp only [aP]
       rfl
      refine two_ (i := 6) (j := 7) (Ni := some 9) (Nj := some 10) (bv 13 0x37f) (bv 13 0x3bf) rfl rfl rfl rfl (two_of HT_.out (by kernel_rfl)) (by decide) (by decide) (fun K hK => ?_) (fun K hK => ?_)
      ·skip
       refine goes_ Try.func95 (by kernel_rfl) rfl #[.agg #[.int .i64 a0_1, .slice A0_2 l0_2.length c0_2, .slice A0_3 l0_3.length c0_3]] (by rfl) rfl rfl ml ?_
       with_reducible refine (spec_l06Copy.calls a0_1 _ _ l0_2 _ _ l0_3 t259 t260 t263 _ ?side1 ?side2 ?side3 ?side4 A3.out).mono ?_
       (case side1 => exact cb HR0_2 HB)
       (case side2 => exact HC0_2.out)
       (case side3 => exact cb HR0_3 HB)
       (case side4 => exact HC0_3.out)
       rintro e w11 ⟨v261, v264, rfl, ho0, ho1, hb⟩
       refine ⟨_, rfl, ?_⟩
       have n0_ := Aside0.mk (Kd.R_elder' (ro HO258) (Kd.R_base ho0) hb)
       have n1_ := Aside0.mk (Kd.R_lower (nw ho0 HO258) (below_size (be2 HB GE251 GE252)))
       have n2_ := Aside0.mk (Kd.R_lower ho1 (below_size (be2 HB GE251 GE252)))
       have n3_ := bb BK251 hb
       have n4_ := bb BK252 hb
       have n5_ := Aside0.mk (below_step (be2 HB GE251 GE252) hb)
       clear HO258
       clear BK251
       clear BK252
       clear HB
       have HO258 := n0_
       have HO262 := n1_
       have HO265 := n2_
       have BK251 := n3_
       have BK252 := n4_
       have HB := n5_
       clear n0_ n1_ n2_ n3_ n4_ n5_
       (try clear hb)
       (try clear hb2)
       (try clear hk)
       (try clear hi)
       (try clear ho0)
       (try clear ho1)
       refine hK.out _ _ ⟨bc0 BK251, bc1 BK251, bc2 BK251, bc3 BK251, bc4 BK251⟩ (fun hHeld => ?_)
       clear hK K
       refine norm_ (a' := ?_) ?_ ?_
       rotate_left
       ·show Act.put _ (some 9) _ = _
        simp only [aP]
        rfl
       refine one_ (i := 7) (N := some 10) (bv 13 0x3ff) rfl rfl (one_of HT_.out (by kernel_rfl)) (by decide) (fun K hK => ?_)
       refine Kd.R_lit_step (Kd.int .i64) _ 3 ?hg (N := 10) ?hd (xs := ([] : List Int)) (inner := []) (ok := fun _ => True) (okp := fun _ => True) ?hr ?hp (fun _ hk => hk) trivial (Below.refl _ _) (Nat.le_refl _) (by simp) ?_; (case hd => rfl); (case hg => rfl); (case hr => first | (go_simp; done) | (go_simp; rfl)); (case hp => exact (Reps.none _ _))
       intro v267 w12 ho13 hb hg_ hnew_
       clear hg_ hnew_
       (first | rw [← Ny266.out] at ho13 | (simp only [Int.reduceToNat] at ho13; rw [← Ny266.out] at ho13))
       have n0_ := Aside0.mk (Kd.R_elder' (ro HO258) (Kd.R_base ho13) hb)
       have n1_ := Aside0.mk (Kd.R_elder' (ro HO262) (Kd.R_base ho13) hb)
       have n2_ := rb HO265 hb
       have n3_ := Aside0.mk (Kd.R_lower (nw (nw ho13 HO258) HO262) (below_size (be2 HB GE251 GE252)))
       have n4_ := bb BK251 hb
       have n5_ := bb BK252 hb
       have n6_ := Aside0.mk (below_step (be2 HB GE251 GE252) hb)
       clear HO258
       clear HO262
       clear HO265
       clear BK251
       clear BK252
       clear HB
       have HO258 := n0_
       have HO262 := n1_
       have HO265 := n2_
       have HO268 := n3_
       have BK251 := n4_
       have BK252 := n5_
       have HB := n6_
       clear n0_ n1_ n2_ n3_ n4_ n5_ n6_
       clear hb ho13
       refine hK.out _ _ ⟨bc0 BK251, bc1 BK251, bc2 BK251, bc3 BK251, bc4 BK251⟩ (fun hHeld => ?_)
       clear hK K
       refine norm_ (a' := ?_) ?_ ?_
       rotate_left
       ·show Act.put _ (some 10) _ = _
        simp only [aP]
        rfl
       exact norm_ (by simp only [putAll, Act.put, List.setIfInBounds_toArray, List.set_cons_zero, List.set_cons_succ]) (hCont (v254, v257, v261, v264, v267) _ ⟨hHeld, (by (with_reducible repeat (first | apply Kd.R_alloc | apply Kd.R_drewN | apply Kd.R_drew)); exact rm HO258), (by (with_reducible repeat (first | apply Kd.R_alloc | apply Kd.R_drewN | apply Kd.R_drew)); exact rm HO262), (ro HO265), (by (with_reducible repeat (first | apply Kd.R_alloc | apply Kd.R_drewN | apply Kd.R_drew)); exact rm HO268), (bk BK251), (bk BK252), (be2 HB GE251 GE252)⟩)
      skip
      refine Kd.R_lit_step (Kd.int .i64) _ 3 ?hg (N := 10) ?hd (xs := ([] : List Int)) (inner := []) (ok := fun _ => True) (okp := fun _ => True) ?hr ?hp (fun _ hk => hk) trivial (Below.refl _ _) (Nat.le_refl _) (by simp) ?_; (case hd => rfl); (case hg => rfl); (case hr => first | (go_simp; done) | (go_simp; rfl)); (case hp => exact (Reps.none _ _))
      intro v267 w11 ho12 hb hg_ hnew_
      clear hg_ hnew_
      (first | rw [← Ny266.out] at ho12 | (simp only [Int.reduceToNat] at ho12; rw [← Ny266.out] at ho12))
      have n0_ := Aside0.mk (Kd.R_elder' (ro HO258) (Kd.R_base ho12) hb)
      have n1_ := Aside0.mk (Kd.R_lower (nw ho12 HO258) (below_size (be2 HB GE251 GE252)))
      have n2_ := bb BK251 hb
      have n3_ := bb BK252 hb
      have n4_ := Aside0.mk (below_step (be2 HB GE251 GE252) hb)
      clear HO258
      clear BK251
      clear BK252
      clear HB
      have HO258 := n0_
      have HO268 := n1_
      have BK251 := n2_
      have BK252 := n3_
      have HB := n4_
      clear n0_ n1_ n2_ n3_ n4_
      clear hb ho12
      refine hK.out _ _ ⟨bc0 BK251, bc1 BK251, bc2 BK251, bc3 BK251, bc4 BK251⟩ (fun hHeld => ?_)
      clear hK K
      refine norm_ (a' := ?_) ?_ ?_
      rotate_left
      ·show Act.put _ (some 10) _ = _
       simp only [aP]
       rfl
      refine one_ (i := 6) (N := some 9) (bv 13 0x3ff) rfl rfl (one_of HT_.out (by kernel_rfl)) (by decide) (fun K hK => ?_)
      refine goes_ Try.func95 (by kernel_rfl) rfl #[.agg #[.int .i64 a0_1, .slice A0_2 l0_2.length c0_2, .slice A0_3 l0_3.length c0_3]] (by rfl) rfl rfl ml ?_
      with_reducible refine (spec_l06Copy.calls a0_1 _ _ l0_2 _ _ l0_3 t259 t260 t263 _ ?side1 ?side2 ?side3 ?side4 A3.out).mono ?_
      (case side1 => exact cb HR0_2 HB)
      (case side2 => exact HC0_2.out)
      (case side3 => exact cb HR0_3 HB)
      (case side4 => exact HC0_3.out)
      rintro e w13 ⟨v261, v264, rfl, ho0, ho1, hb⟩
      refine ⟨_, rfl, ?_⟩
      have n0_ := Aside0.mk (Kd.R_elder' (ro HO258) (Kd.R_base ho0) hb)
      have n1_ := Aside0.mk (Kd.R_elder' (ro HO268) (Kd.R_base ho0) hb)
      have n2_ := Aside0.mk (Kd.R_lower (nw (nw ho0 HO258) HO268) (below_size (be2 HB GE251 GE252)))
      have n3_ := Aside0.mk (Kd.R_lower ho1 (below_size (be2 HB GE251 GE252)))
      have n4_ := bb BK251 hb
      have n5_ := bb BK252 hb
      have n6_ := Aside0.mk (below_step (be2 HB GE251 GE252) hb)
      clear HO258
      clear HO268
      clear BK251
      clear BK252
      clear HB
      have HO258 := n0_
      have HO268 := n1_
      have HO262 := n2_
      have HO265 := n3_
      have BK251 := n4_
      have BK252 := n5_
      have HB := n6_
      clear n0_ n1_ n2_ n3_ n4_ n5_ n6_
      (try clear hb)
      (try clear hb2)
      (try clear hk)
      (try clear hi)
      (try clear ho0)
      (try clear ho1)
      refine hK.out _ _ ⟨bc0 BK251, bc1 BK251, bc2 BK251, bc3 BK251, bc4 BK251⟩ (fun hHeld => ?_)
      clear hK K
      refine norm_ (a' := ?_) ?_ ?_
      rotate_left
      ·show Act.put _ (some 9) _ = _
       simp only [aP]
       rfl
      exact norm_ (by simp only [putAll, Act.put, List.setIfInBounds_toArray, List.set_cons_zero, List.set_cons_succ]) (hCont (v254, v257, v261, v264, v267) _ ⟨hHeld, (by (with_reducible repeat (first | apply Kd.R_alloc | apply Kd.R_drewN | apply Kd.R_drew)); exact rm HO258), (by (with_reducible repeat (first | apply Kd.R_alloc | apply Kd.R_drewN | apply Kd.R_drew)); exact rm HO262), (ro HO265), (by (with_reducible repeat (first | apply Kd.R_alloc | apply Kd.R_drewN | apply Kd.R_drew)); exact rm HO268), (bk BK251), (bk BK252), (be2 HB GE251 GE252)⟩)
     skip
     refine Kd.R_lit_step (Kd.int .i64) _ 3 ?hg (N := 10) ?hd (xs := ([] : List Int)) (inner := []) (ok := fun _ => True) (okp := fun _ => True) ?hr ?hp (fun _ hk => hk) trivial (Below.refl _ _) (Nat.le_refl _) (by simp) ?_; (case hd => rfl); (case hg => rfl); (case hr => first | (go_simp; done) | (go_simp; rfl)); (case hp => exact (Reps.none _ _))
     intro v267 w10 ho11 hb hg_ hnew_
     clear hg_ hnew_
     (first | rw [← Ny266.out] at ho11 | (simp only [Int.reduceToNat] at ho11; rw [← Ny266.out] at ho11))
     have n0_ := Aside0.mk (Kd.R_elder' (ro HO255) (Kd.R_base ho11) hb)
     have n1_ := Aside0.mk (Kd.R_lower (nw ho11 HO255) (below_size (be2 HB GE251 GE252)))
     have n2_ := bb BK251 hb
     have n3_ := bb BK252 hb
     have n4_ := Aside0.mk (below_step (be2 HB GE251 GE252) hb)
     clear HO255
     clear BK251
     clear BK252
     clear HB
     have HO255 := n0_
     have HO268 := n1_
     have BK251 := n2_
     have BK252 := n3_
     have HB := n4_
     clear n0_ n1_ n2_ n3_ n4_
     clear hb ho11
     refine hK.out _ _ ⟨bc0 BK251, bc1 BK251, bc2 BK251, bc3 BK251, bc4 BK251⟩ (fun hHeld => ?_)
     clear hK K
     refine norm_ (a' := ?_) ?_ ?_
     rotate_left
     ·show Act.put _ (some 10) _ = _
      simp only [aP]
      rfl
     refine one_ (i := 3) (N := some 6) (bv 13 0x3bf) rfl rfl (one_of HT_.out (by kernel_rfl)) (by decide) (fun K hK => ?_)
     refine Kd.R_append_rows_step (Kd.int .i64) (w0 := w) w.heap.size (by rfl) (.tmp 3) (.tmp 5) 22 3 (.int .i64 0) 8 rfl Try.underlying22 info3 rfl (by decide) (by omega) v254 y253 l0_0 _ _ _ (fun k_ => some k_ ≠ (v267 : Value).ownBlock) (fun _ => False) rfl rfl ?aO ?aR (fun _ _ h => h) (fun _ h => h.elim) ?aF ?aB ?aS ?aL ?_
     (case aR => repeat (first | exact (Kd.C_below HR0_0.out HB.out) | (with_reducible refine Kd.C_alloc ?_ _) | (with_reducible refine Kd.C_drewN ?_ _) | (with_reducible refine Kd.C_drew ?_)))
     (case aB => exact (be2 HB GE251 GE252))
     (case aF => exact (fun k_ hk => Kd.fresh' (Kd.R_lt (ro HO268)) k_ hk))
     (case aO => exact (by (with_reducible repeat (first | apply Kd.R_alloc | apply Kd.R_drewN | apply Kd.R_drew)); exact Kd.R_mono HO255.out (fun _ hk => hk.2)))
     (case aS => exact (below_size (be2 HB GE251 GE252)))
     (case aL => have := LMc2.out; omega)
     intro v257 w12 ho hb hg hat
     rw [← Ny256.out] at ho
     have n0_ := Aside0.mk (blk_grown (g := gb251) (o := .cells #[.slice A0_0 l0_0.length c0_0, .int .i64 a0_1, .slice A0_2 l0_2.length c0_2, .slice A0_3 l0_3.length c0_3, .slice A0_4 l0_4.length c0_4] 27 (0, 0)) (bk BK251) hg (Kd.R_ne HO255.out BK251.out (by decide)))
     have n1_ := Aside0.mk (blk_grown (g := gb252) (o := .cells #[.slice none 0 0, .int .i64 0, .slice none 0 0, .slice none 0 0, .slice none 0 0] 27 (0, 0)) (bk BK252) hg (Kd.R_ne HO255.out BK252.out (by decide)))
     have n2_ := Aside0.mk (Kd.R_after (ok := (fun _ => True)) (ro HO268) hg hat)
     have n3_ := Aside0.mk (hb)
     have n4_ := Aside0.mk (ho)
     clear BK251
     clear BK252
     clear HO268
     clear HB
     clear HO255
     have BK251 := n0_
     have BK252 := n1_
     have HO268 := n2_
     have HB := n3_
     have HO258 := n4_
     clear n0_ n1_ n2_ n3_ n4_
     clear ho hb hg hat
     refine hK.out _ _ ⟨bc0 BK251, bc1 BK251, bc2 BK251, bc3 BK251, bc4 BK251⟩ (fun hHeld => ?_)
     clear hK K
     refine norm_ (a' := ?_) ?_ ?_
     rotate_left
     ·show Act.put _ (some 6) _ = _
      simp only [aP]
      rfl
     refine one_ (i := 6) (N := some 9) (bv 13 0x3ff) rfl rfl (one_of HT_.out (by kernel_rfl)) (by decide) (fun K hK => ?_)
     refine goes_ Try.func95 (by kernel_rfl) rfl #[.agg #[.int .i64 a0_1, .slice A0_2 l0_2.length c0_2, .slice A0_3 l0_3.length c0_3]] (by rfl) rfl rfl ml ?_
     with_reducible refine (spec_l06Copy.calls a0_1 _ _ l0_2 _ _ l0_3 t259 t260 t263 _ ?side1 ?side2 ?side3 ?side4 A3.out).mono ?_
     (case side1 => exact cb HR0_2 HB)
     (case side2 => exact HC0_2.out)
     (case side3 => exact cb HR0_3 HB)
     (case side4 => exact HC0_3.out)
     rintro e w13 ⟨v261, v264, rfl, ho0, ho1, hb⟩
     refine ⟨_, rfl, ?_⟩
     have n0_ := Aside0.mk (Kd.R_elder' (ro HO268) (Kd.R_base ho0) hb)
     have n1_ := Aside0.mk (Kd.R_elder' (ro HO258) (Kd.R_base ho0) hb)
     have n2_ := Aside0.mk (Kd.R_lower (nw (nw ho0 HO268) HO258) (below_size (be2 HB GE251 GE252)))
     have n3_ := Aside0.mk (Kd.R_lower ho1 (below_size (be2 HB GE251 GE252)))
     have n4_ := bb BK251 hb
     have n5_ := bb BK252 hb
     have n6_ := Aside0.mk (below_step (be2 HB GE251 GE252) hb)
     clear HO268
     clear HO258
     clear BK251
     clear BK252
     clear HB
     have HO268 := n0_
     have HO258 := n1_
     have HO262 := n2_
     have HO265 := n3_
     have BK251 := n4_
     have BK252 := n5_
     have HB := n6_
     clear n0_ n1_ n2_ n3_ n4_ n5_ n6_
     (try clear hb)
     (try clear hb2)
     (try clear hk)
     (try clear hi)
     (try clear ho0)
     (try clear ho1)
     refine hK.out _ _ ⟨bc0 BK251, bc1 BK251, bc2 BK251, bc3 BK251, bc4 BK251⟩ (fun hHeld => ?_)
     clear hK K
     refine norm_ (a' := ?_) ?_ ?_
     rotate_left
     ·show Act.put _ (some 9) _ = _
      simp only [aP]
      rfl
     exact norm_ (by simp only [putAll, Act.put, List.setIfInBounds_toArray, List.set_cons_zero, List.set_cons_succ]) (hCont (v254, v257, v261, v264, v267) _ ⟨hHeld, (by (with_reducible repeat (first | apply Kd.R_alloc | apply Kd.R_drewN | apply Kd.R_drew)); exact rm HO258), (by (with_reducible repeat (first | apply Kd.R_alloc | apply Kd.R_drewN | apply Kd.R_drew)); exact rm HO262), (ro HO265), (by (with_reducible repeat (first | apply Kd.R_alloc | apply Kd.R_drewN | apply Kd.R_drew)); exact rm HO268), (bk BK251), (bk BK252), (be2 HB GE251 GE252)⟩)
    skip
    refine Kd.R_lit_step (Kd.int .i64) _ 3 ?hg (N := 10) ?hd (xs := ([] : List Int)) (inner := []) (ok := fun _ => True) (okp := fun _ => True) ?hr ?hp (fun _ hk => hk) trivial (Below.refl _ _) (Nat.le_refl _) (by simp) ?_; (case hd => rfl); (case hg => rfl); (case hr => first | (go_simp; done) | (go_simp; rfl)); (case hp => exact (Reps.none _ _))
    intro v267 w8 ho9 hb hg_ hnew_
    clear hg_ hnew_
    (first | rw [← Ny266.out] at ho9 | (simp only [Int.reduceToNat] at ho9; rw [← Ny266.out] at ho9))
    have n0_ := Aside0.mk (Kd.R_lower ho9 (below_size (be2 HB GE251 GE252)))
    have n1_ := bb BK251 hb
    have n2_ := bb BK252 hb
    have n3_ := Aside0.mk (below_step (be2 HB GE251 GE252) hb)
    clear BK251
    clear BK252
    clear HB
    have HO268 := n0_
    have BK251 := n1_
    have BK252 := n2_
    have HB := n3_
    clear n0_ n1_ n2_ n3_
    clear hb ho9
    refine hK.out _ _ ⟨bc0 BK251, bc1 BK251, bc2 BK251, bc3 BK251, bc4 BK251⟩ (fun hHeld => ?_)
    clear hK K
    refine norm_ (a' := ?_) ?_ ?_
    rotate_left
    ·show Act.put _ (some 10) _ = _
     simp only [aP]
     rfl
    refine one_ (i := 0) (N := some 3) (bv 13 0x3b7) rfl rfl (one_of HT_.out (by kernel_rfl)) (by decide) (fun K hK => ?_)
    refine Kd.R_lit_step (Kd.int .i64) _ 3 ?hg (N := 3) ?hd (xs := ([] : List Int)) (inner := []) (ok := fun _ => True) (okp := fun _ => True) ?hr ?hp (fun _ hk => hk) trivial (Below.refl _ _) (Nat.le_refl _) (by simp) ?_; (case hd => rfl); (case hg => rfl); (case hr => first | (go_simp; done) | (go_simp; rfl)); (case hp => exact (Reps.none _ _))
    intro v254 w10 ho11 hb hg_ hnew_
    clear hg_ hnew_
    (first | rw [← Ny253.out] at ho11 | (simp only [Int.reduceToNat] at ho11; rw [← Ny253.out] at ho11))
    have n0_ := Aside0.mk (Kd.R_elder' (ro HO268) (Kd.R_base ho11) hb)
    have n1_ := Aside0.mk (Kd.R_lower (nw ho11 HO268) (below_size (be2 HB GE251 GE252)))
    have n2_ := bb BK251 hb
    have n3_ := bb BK252 hb
    have n4_ := Aside0.mk (below_step (be2 HB GE251 GE252) hb)
    clear HO268
    clear BK251
    clear BK252
    clear HB
    have HO268 := n0_
    have HO255 := n1_
    have BK251 := n2_
    have BK252 := n3_
    have HB := n4_
    clear n0_ n1_ n2_ n3_ n4_
    clear hb ho11
    refine hK.out _ _ ⟨bc0 BK251, bc1 BK251, bc2 BK251, bc3 BK251, bc4 BK251⟩ (fun hHeld => ?_)
    clear hK K
    refine norm_ (a' := ?_) ?_ ?_
    rotate_left
    ·show Act.put _ (some 3) _ = _
     simp only [aP]
     rfl
    refine one_ (i := 3) (N := some 6) (bv 13 0x3bf) rfl rfl (one_of HT_.out (by kernel_rfl)) (by decide) (fun K hK => ?_)
    refine Kd.R_append_rows_step (Kd.int .i64) (w0 := w) w.heap.size (by rfl) (.tmp 3) (.tmp 5) 22 3 (.int .i64 0) 8 rfl Try.underlying22 info3 rfl (by decide) (by omega) v254 y253 l0_0 _ _ _ (fun k_ => some k_ ≠ (v267 : Value).ownBlock) (fun _ => False) rfl rfl ?aO ?aR (fun _ _ h => h) (fun _ h => h.elim) ?aF ?aB ?aS ?aL ?_
    (case aR => repeat (first | exact (Kd.C_below HR0_0.out HB.out) | (with_reducible refine Kd.C_alloc ?_ _) | (with_reducible refine Kd.C_drewN ?_ _) | (with_reducible refine Kd.C_drew ?_)))
    (case aB => exact (be2 HB GE251 GE252))
    (case aF => exact (fun k_ hk => Kd.fresh' (Kd.R_lt (ro HO268)) k_ hk))
    (case aO => exact (by (with_reducible repeat (first | apply Kd.R_alloc | apply Kd.R_drewN | apply Kd.R_drew)); exact Kd.R_mono HO255.out (fun _ hk => hk.2)))
    (case aS => exact (below_size (be2 HB GE251 GE252)))
    (case aL => have := LMc2.out; omega)
    intro v257 w12 ho hb hg hat
    rw [← Ny256.out] at ho
    have n0_ := Aside0.mk (blk_grown (g := gb251) (o := .cells #[.slice A0_0 l0_0.length c0_0, .int .i64 a0_1, .slice A0_2 l0_2.length c0_2, .slice A0_3 l0_3.length c0_3, .slice A0_4 l0_4.length c0_4] 27 (0, 0)) (bk BK251) hg (Kd.R_ne HO255.out BK251.out (by decide)))
    have n1_ := Aside0.mk (blk_grown (g := gb252) (o := .cells #[.slice none 0 0, .int .i64 0, .slice none 0 0, .slice none 0 0, .slice none 0 0] 27 (0, 0)) (bk BK252) hg (Kd.R_ne HO255.out BK252.out (by decide)))
    have n2_ := Aside0.mk (Kd.R_after (ok := (fun _ => True)) (ro HO268) hg hat)
    have n3_ := Aside0.mk (hb)
    have n4_ := Aside0.mk (ho)
    clear BK251
    clear BK252
    clear HO268
    clear HB
    clear HO255
    have BK251 := n0_
    have BK252 := n1_
    have HO268 := n2_
    have HB := n3_
    have HO258 := n4_
    clear n0_ n1_ n2_ n3_ n4_
    clear ho hb hg hat
    refine hK.out _ _ ⟨bc0 BK251, bc1 BK251, bc2 BK251, bc3 BK251, bc4 BK251⟩ (fun hHeld => ?_)
    clear hK K
    refine norm_ (a' := ?_) ?_ ?_
    rotate_left
    ·show Act.put _ (some 6) _ = _
     simp only [aP]
     rfl
    refine one_ (i := 6) (N := some 9) (bv 13 0x3ff) rfl rfl (one_of HT_.out (by kernel_rfl)) (by decide) (fun K hK => ?_)
    refine goes_ Try.func95 (by kernel_rfl) rfl #[.agg #[.int .i64 a0_1, .slice A0_2 l0_2.length c0_2, .slice A0_3 l0_3.length c0_3]] (by rfl) rfl rfl ml ?_
    with_reducible refine (spec_l06Copy.calls a0_1 _ _ l0_2 _ _ l0_3 t259 t260 t263 _ ?side1 ?side2 ?side3 ?side4 A3.out).mono ?_
    (case side1 => exact cb HR0_2 HB)
    (case side2 => exact HC0_2.out)
    (case side3 => exact cb HR0_3 HB)
    (case side4 => exact HC0_3.out)
    rintro e w13 ⟨v261, v264, rfl, ho0, ho1, hb⟩
    refine ⟨_, rfl, ?_⟩
    have n0_ := Aside0.mk (Kd.R_elder' (ro HO268) (Kd.R_base ho0) hb)
    have n1_ := Aside0.mk (Kd.R_elder' (ro HO258) (Kd.R_base ho0) hb)
    have n2_ := Aside0.mk (Kd.R_lower (nw (nw ho0 HO268) HO258) (below_size (be2 HB GE251 GE252)))
    have n3_ := Aside0.mk (Kd.R_lower ho1 (below_size (be2 HB GE251 GE252)))
    have n4_ := bb BK251 hb
    have n5_ := bb BK252 hb
    have n6_ := Aside0.mk (below_step (be2 HB GE251 GE252) hb)
    clear HO268
    clear HO258
    clear BK251
    clear BK252
    clear HB
    have HO268 := n0_
    have HO258 := n1_
    have HO262 := n2_
    have HO265 := n3_
    have BK251 := n4_
    have BK252 := n5_
    have HB := n6_
    clear n0_ n1_ n2_ n3_ n4_ n5_ n6_
    (try clear hb)
    (try clear hb2)
    (try clear hk)
    (try clear hi)
    (try clear ho0)
    (try clear ho1)
    refine hK.out _ _ ⟨bc0 BK251, bc1 BK251, bc2 BK251, bc3 BK251, bc4 BK251⟩ (fun hHeld => ?_)
    clear hK K
    refine norm_ (a' := ?_) ?_ ?_
    rotate_left
    ·show Act.put _ (some 9) _ = _
     simp only [aP]
     rfl
    exact norm_ (by simp only [putAll, Act.put, List.setIfInBounds_toArray, List.set_cons_zero, List.set_cons_succ]) (hCont (v254, v257, v261, v264, v267) _ ⟨hHeld, (by (with_reducible repeat (first | apply Kd.R_alloc | apply Kd.R_drewN | apply Kd.R_drew)); exact rm HO258), (by (with_reducible repeat (first | apply Kd.R_alloc | apply Kd.R_drewN | apply Kd.R_drew)); exact rm HO262), (ro HO265), (by (with_reducible repeat (first | apply Kd.R_alloc | apply Kd.R_drewN | apply Kd.R_drew)); exact rm HO268), (bk BK251), (bk BK252), (be2 HB GE251 GE252)⟩)
   rintro ⟨v254, v257, v261, v264, v267⟩ w14 ⟨hS_, h0_, h1_, h2_, h3_, h4_, h5_, h6_⟩
   have n0_ : Aside0 (Kd.R (Kd.int .i64) 3 w14 w.heap.size (fun k_ => some k_ ≠ (v261 : Value).ownBlock ∧ some k_ ≠ (v267 : Value).ownBlock) v257 y256) := ⟨h0_⟩
   have n1_ : Aside0 (Kd.R (Kd.int .i64) 3 w14 w.heap.size (fun k_ => some k_ ≠ (v257 : Value).ownBlock ∧ some k_ ≠ (v267 : Value).ownBlock) v261 t260) := ⟨h1_⟩
   have n2_ : Aside0 (Kd.R k70 70 w14 w.heap.size (fun _ => True) v264 t263) := ⟨h2_⟩
   have n3_ : Aside0 (Kd.R (Kd.int .i64) 3 w14 w.heap.size (fun k_ => some k_ ≠ (v257 : Value).ownBlock ∧ some k_ ≠ (v261 : Value).ownBlock) v267 y266) := ⟨h3_⟩
   have n4_ : Aside0 (w14.heap[gb251]? = some (.cells #[.slice A0_0 l0_0.length c0_0, .int .i64 a0_1, .slice A0_2 l0_2.length c0_2, .slice A0_3 l0_3.length c0_3, .slice A0_4 l0_4.length c0_4] 27 (0, 0))) := ⟨h4_⟩
   have n5_ : Aside0 (w14.heap[gb252]? = some (.cells #[.slice none 0 0, .int .i64 0, .slice none 0 0, .slice none 0 0, .slice none 0 0] 27 (0, 0))) := ⟨h5_⟩
   have n6_ : Aside0 (Below w.heap.size w w14) := ⟨h6_⟩
   clear BK251
   clear BK252
   clear HB
   clear h0_ h1_ h2_ h3_ h4_ h5_ h6_
   have HO258 := n0_
   have HO262 := n1_
   have HO265 := n2_
   have HO268 := n3_
   have BK251 := n4_
   have BK252 := n5_
   have HB := n6_
   clear n0_ n1_ n2_ n3_ n4_ n5_ n6_
   have hHeld : w14.cell? ⟨gb251, 0, none⟩ = some (.slice A0_0 l0_0.length c0_0) ∧ w14.cell? ⟨gb251, 1, none⟩ = some (.int .i64 a0_1) ∧ w14.cell? ⟨gb251, 2, none⟩ = some (.slice A0_2 l0_2.length c0_2) ∧ w14.cell? ⟨gb251, 3, none⟩ = some (.slice A0_3 l0_3.length c0_3) ∧ w14.cell? ⟨gb251, 4, none⟩ = some (.slice A0_4 l0_4.length c0_4) := hS_
   refine norm_ (a' := ?_) ?_ ?_
   rotate_left
   ·simp only [putAll, Act.put, List.setIfInBounds_toArray, List.set_cons_zero, List.set_cons_succ]
    rfl
   refine one_ (i := 10) (N := some 13) (bv 13 0x7ff) rfl rfl (one_of HT_.out (by kernel_rfl)) (by decide) (fun K hK => ?_)
   refine Kd.R_append_rows_step (Kd.int .i64) (w0 := w) w.heap.size (by rfl) (.tmp 10) (.tmp 12) 22 3 (.int .i64 0) 8 rfl Try.underlying22 info3 rfl (by decide) (by omega) v267 y266 l0_4 _ _ _ (fun k_ => some k_ ≠ (v257 : Value).ownBlock ∧ some k_ ≠ (v261 : Value).ownBlock) (fun _ => False) rfl rfl ?aO ?aR (fun _ _ h => h) (fun _ h => h.elim) ?aF ?aB ?aS ?aL ?_
   (case aR => repeat (first | exact (Kd.C_below HR0_4.out HB.out) | (with_reducible refine Kd.C_alloc ?_ _) | (with_reducible refine Kd.C_drewN ?_ _) | (with_reducible refine Kd.C_drew ?_)))
   (case aB => exact (be2 HB GE251 GE252))
   (case aF => exact (fun k_ hk => ⟨Kd.fresh' (Kd.R_lt (ro HO258)) k_ hk, Kd.fresh' (Kd.R_lt (ro HO262)) k_ hk⟩))
   (case aO => exact (ro HO268))
   (case aS => exact (below_size (be2 HB GE251 GE252)))
   (case aL => have := LMc4.out; omega)
   intro v270 w15 ho hb hg hat
   rw [← Ny269.out] at ho
   have n0_ := Aside0.mk (blk_grown (g := gb251) (o := .cells #[.slice A0_0 l0_0.length c0_0, .int .i64 a0_1, .slice A0_2 l0_2.length c0_2, .slice A0_3 l0_3.length c0_3, .slice A0_4 l0_4.length c0_4] 27 (0, 0)) (bk BK251) hg (Kd.R_ne HO268.out BK251.out (by decide)))
   have n1_ := Aside0.mk (blk_grown (g := gb252) (o := .cells #[.slice none 0 0, .int .i64 0, .slice none 0 0, .slice none 0 0, .slice none 0 0] 27 (0, 0)) (bk BK252) hg (Kd.R_ne HO268.out BK252.out (by decide)))
   have n2_ := Aside0.mk (Kd.R_after (ok := (fun k_ => some k_ ≠ (v261 : Value).ownBlock)) (ro HO258) hg hat)
   have n3_ := Aside0.mk (Kd.R_after (ok := (fun k_ => some k_ ≠ (v257 : Value).ownBlock)) (ro HO262) hg hat)
   have n4_ := Aside0.mk (Kd.R_over' (ro HO265) (Kd.R_typed (ro HO268)) (by decide) hg)
   have n5_ := Aside0.mk (hb)
   have n6_ := Aside0.mk (ho)
   clear BK251
   clear BK252
   clear HO258
   clear HO262
   clear HO265
   clear HB
   clear HO268
   have BK251 := n0_
   have BK252 := n1_
   have HO258 := n2_
   have HO262 := n3_
   have HO265 := n4_
   have HB := n5_
   have HO271 := n6_
   clear n0_ n1_ n2_ n3_ n4_ n5_ n6_
   clear ho hb hg hat
   obtain ⟨Ao16, co16, eo16⟩ := Kd.R_slice HO271.out
   (first | subst eo16 | (injection eo16 with f1_ f2_ f3_; have f4_ := f1_.symm; have f5_ := f3_.symm; clear f1_ f2_ f3_; subst f4_; subst f5_))
   obtain ⟨Ao17, co17, eo17⟩ := Kd.R_slice HO265.out
   (first | subst eo17 | (injection eo17 with f1_ f2_ f3_; have f4_ := f1_.symm; have f5_ := f3_.symm; clear f1_ f2_ f3_; subst f4_; subst f5_))
   obtain ⟨Ao18, co18, eo18⟩ := Kd.R_slice HO262.out
   (first | subst eo18 | (injection eo18 with f1_ f2_ f3_; have f4_ := f1_.symm; have f5_ := f3_.symm; clear f1_ f2_ f3_; subst f4_; subst f5_))
   obtain ⟨Ao19, co19, eo19⟩ := Kd.R_slice HO258.out
   (first | subst eo19 | (injection eo19 with f1_ f2_ f3_; have f4_ := f1_.symm; have f5_ := f3_.symm; clear f1_ f2_ f3_; subst f4_; subst f5_))
   refine hK.out _ _ ⟨bc0 BK251, bc1 BK251, bc2 BK251, bc3 BK251, bc4 BK251⟩ (fun hHeld => ?_)
   clear hK K
   refine norm_ (a' := ?_) ?_ ?_
   rotate_left
   ·show Act.put _ (some 13) _ = _
    simp only [aP]
    rfl
   refine py HT_ 11 14 (bv 13 0xfff) ?_
   refine one_ (i := 12) (N := none) (bv 13 0x1fff) rfl rfl (one_of HT_.out (by kernel_rfl)) (by decide) (fun K hK => ?_)
   have hs20 : w15.cell? ⟨gb252, 0, none⟩ = some (.slice none 0 0) := bc0 BK252
   have hfs20 := blk_frozen BK252.out 0
   have hns20_0 := NB251_252.out
   have hms20_0 := NB252_251.out
   have hs21 : w15.cell? ⟨gb252, 1, none⟩ = some (.int .i64 0) := bc1 BK252
   have hfs21 := blk_frozen BK252.out 1
   have hns21_0 := NB251_252.out
   have hms21_0 := NB252_251.out
   have hs22 : w15.cell? ⟨gb252, 2, none⟩ = some (.slice none 0 0) := bc2 BK252
   have hfs22 := blk_frozen BK252.out 2
   have hns22_0 := NB251_252.out
   have hms22_0 := NB252_251.out
   have hs23 : w15.cell? ⟨gb252, 3, none⟩ = some (.slice none 0 0) := bc3 BK252
   have hfs23 := blk_frozen BK252.out 3
   have hns23_0 := NB251_252.out
   have hms23_0 := NB252_251.out
   have hs24 : w15.cell? ⟨gb252, 4, none⟩ = some (.slice none 0 0) := bc4 BK252
   have hfs24 := blk_frozen BK252.out 4
   have hns24_0 := NB251_252.out
   have hms24_0 := NB252_251.out
   refine skip_ (w1 := ?_) (by rfl) rfl ?_ ?_
   rotate_left
   ·go_simp
    rfl
   refine hK.out _ _ ⟨((cell_far (p := ⟨gb252, _, none⟩) NB251_252.out _).trans (((cell_far (p := ⟨gb252, _, none⟩) NB251_252.out _).trans (((cell_far (p := ⟨gb252, _, none⟩) NB251_252.out _).trans (((cell_far (p := ⟨gb252, _, none⟩) NB251_252.out _).trans (((cell_far (p := ⟨gb252, _, none⟩) NB251_252.out _).trans (hHeld.1)))))))))), ((cell_far (p := ⟨gb252, _, none⟩) NB251_252.out _).trans (((cell_far (p := ⟨gb252, _, none⟩) NB251_252.out _).trans (((cell_far (p := ⟨gb252, _, none⟩) NB251_252.out _).trans (((cell_far (p := ⟨gb252, _, none⟩) NB251_252.out _).trans (((cell_far (p := ⟨gb252, _, none⟩) NB251_252.out _).trans (hHeld.2.1)))))))))), ((cell_far (p := ⟨gb252, _, none⟩) NB251_252.out _).trans (((cell_far (p := ⟨gb252, _, none⟩) NB251_252.out _).trans (((cell_far (p := ⟨gb252, _, none⟩) NB251_252.out _).trans (((cell_far (p := ⟨gb252, _, none⟩) NB251_252.out _).trans (((cell_far (p := ⟨gb252, _, none⟩) NB251_252.out _).trans (hHeld.2.2.1)))))))))), ((cell_far (p := ⟨gb252, _, none⟩) NB251_252.out _).trans (((cell_far (p := ⟨gb252, _, none⟩) NB251_252.out _).trans (((cell_far (p := ⟨gb252, _, none⟩) NB251_252.out _).trans (((cell_far (p := ⟨gb252, _, none⟩) NB251_252.out _).trans (((cell_far (p := ⟨gb252, _, none⟩) NB251_252.out _).trans (hHeld.2.2.2.1)))))))))), ((cell_far (p := ⟨gb252, _, none⟩) NB251_252.out _).trans (((cell_far (p := ⟨gb252, _, none⟩) NB251_252.out _).trans (((cell_far (p := ⟨gb252, _, none⟩) NB251_252.out _).trans (((cell_far (p := ⟨gb252, _, none⟩) NB251_252.out _).trans (((cell_far (p := ⟨gb252, _, none⟩) NB251_252.out _).trans (hHeld.2.2.2.2))))))))))⟩ (fun hHeld => ?_)
   clear hK K
   refine done_ (done_of HT_.out (by kernel_rfl)) ?_
   try go_wp2
   refine bodyPost_ret (results_cell_row rfl _ _ gb252 27 #[.slice Ao19 y256.length co19, .int .i64 t259, .slice Ao18 t260.length co18, .slice Ao17 t263.length co17, .slice Ao16 y269.length co16] (0, 0) _ rfl (by (with_reducible repeat (first | refine blk_drewN ?_ _ | refine blk_drew ?_ | refine blk_alloc ?_ _)); refine blk_put (cs := #[.slice Ao19 y256.length co19, .int .i64 t259, .slice Ao18 t260.length co18, .slice Ao17 t263.length co17, .slice none 0 0]) ?_ 4 _ rfl; (with_reducible repeat (first | refine blk_drewN ?_ _ | refine blk_drew ?_ | refine blk_alloc ?_ _)); refine blk_put (cs := #[.slice Ao19 y256.length co19, .int .i64 t259, .slice Ao18 t260.length co18, .slice none 0 0, .slice none 0 0]) ?_ 3 _ rfl; (with_reducible repeat (first | refine blk_drewN ?_ _ | refine blk_drew ?_ | refine blk_alloc ?_ _)); refine blk_put (cs := #[.slice Ao19 y256.length co19, .int .i64 t259, .slice none 0 0, .slice none 0 0, .slice none 0 0]) ?_ 2 _ rfl; (with_reducible repeat (first | refine blk_drewN ?_ _ | refine blk_drew ?_ | refine blk_alloc ?_ _)); refine blk_put (cs := #[.slice Ao19 y256.length co19, .int .i64 0, .slice none 0 0, .slice none 0 0, .slice none 0 0]) ?_ 1 _ rfl; (with_reducible repeat (first | refine blk_drewN ?_ _ | refine blk_drew ?_ | refine blk_alloc ?_ _)); refine blk_put (cs := #[.slice none 0 0, .int .i64 0, .slice none 0 0, .slice none 0 0, .slice none 0 0]) ?_ 0 _ rfl; (with_reducible repeat (first | refine blk_drewN ?_ _ | refine blk_drew ?_ | refine blk_alloc ?_ _)); exact BK252.out) Try.underlying27 rfl (by kernel_rfl)) rfl ?_
   exact ⟨_, _, _, _, er, by (with_reducible repeat (first | apply Kd.R_alloc | apply Kd.R_drewN | apply Kd.R_drew)); exact Kd.R_mono (Kd.R_far (p := ⟨gb252, 4, none⟩) (Kd.R_far (p := ⟨gb252, 3, none⟩) (Kd.R_far (p := ⟨gb252, 2, none⟩) (Kd.R_far (p := ⟨gb252, 1, none⟩) (Kd.R_far (p := ⟨gb252, 0, none⟩) (Kd.R_types HO258.out BK252.out (by decide)) (fun _ hk => hk.2) (.slice Ao19 y256.length co19)) (fun _ hk => hk.2) (.int .i64 t259)) (fun _ hk => hk.2) (.slice Ao18 t260.length co18)) (fun _ hk => hk.2) (.slice Ao17 t263.length co17)) (fun _ hk => hk.2) (.slice Ao16 y269.length co16)) (fun _ hk => ⟨hk.1.1, hk.1.2⟩), by (with_reducible repeat (first | apply Kd.R_alloc | apply Kd.R_drewN | apply Kd.R_drew)); exact Kd.R_mono (Kd.R_far (p := ⟨gb252, 4, none⟩) (Kd.R_far (p := ⟨gb252, 3, none⟩) (Kd.R_far (p := ⟨gb252, 2, none⟩) (Kd.R_far (p := ⟨gb252, 1, none⟩) (Kd.R_far (p := ⟨gb252, 0, none⟩) (Kd.R_types HO262.out BK252.out (by decide)) (fun _ hk => hk.2) (.slice Ao19 y256.length co19)) (fun _ hk => hk.2) (.int .i64 t259)) (fun _ hk => hk.2) (.slice Ao18 t260.length co18)) (fun _ hk => hk.2) (.slice Ao17 t263.length co17)) (fun _ hk => hk.2) (.slice Ao16 y269.length co16)) (fun _ hk => ⟨hk.1.1, hk.1.2⟩), by (with_reducible repeat (first | apply Kd.R_alloc | apply Kd.R_drewN | apply Kd.R_drew)); exact Kd.R_mono (Kd.R_far (p := ⟨gb252, 4, none⟩) (Kd.R_far (p := ⟨gb252, 3, none⟩) (Kd.R_far (p := ⟨gb252, 2, none⟩) (Kd.R_far (p := ⟨gb252, 1, none⟩) (Kd.R_far (p := ⟨gb252, 0, none⟩) (Kd.R_types HO265.out BK252.out (by decide)) (fun _ hk => hk.2) (.slice Ao19 y256.length co19)) (fun _ hk => hk.2) (.int .i64 t259)) (fun _ hk => hk.2) (.slice Ao18 t260.length co18)) (fun _ hk => hk.2) (.slice Ao17 t263.length co17)) (fun _ hk => hk.2) (.slice Ao16 y269.length co16)) (fun _ hk => trivial), by (with_reducible repeat (first | apply Kd.R_alloc | apply Kd.R_drewN | apply Kd.R_drew)); exact Kd.R_mono (Kd.R_far (p := ⟨gb252, 4, none⟩) (Kd.R_far (p := ⟨gb252, 3, none⟩) (Kd.R_far (p := ⟨gb252, 2, none⟩) (Kd.R_far (p := ⟨gb252, 1, none⟩) (Kd.R_far (p := ⟨gb252, 0, none⟩) (Kd.R_types HO271.out BK252.out (by decide)) (fun _ hk => hk.2) (.slice Ao19 y256.length co19)) (fun _ hk => hk.2) (.int .i64 t259)) (fun _ hk => hk.2) (.slice Ao18 t260.length co18)) (fun _ hk => hk.2) (.slice Ao17 t263.length co17)) (fun _ hk => hk.2) (.slice Ao16 y269.length co16)) (fun _ hk => ⟨hk.1.1, hk.1.2⟩), be2 HB GE251 GE252⟩
  rw [if_neg c4] at H
  exact absurd H (by simp)
 rw [if_neg c2] at H
 exact absurd H (by simp)

/-! ### spec_l08With: function 65 -/
def spec_l08With.l0 : Nat → Int → List Int → Bool → List Int → Int → Int → Option (List Int)
 | 0, _, _, _, _, _, _ => none
 | k + 1, x1, x5, x6, x10, x11, x12 => if x12 < x11 then (if 0 ≤ x12 then (if x12 < (x10.length : Int) then (if x6 = true then (if x5.length < 17592186044416 then (spec_l08With.l0 k x1 (x5 ++ [rd x10 x12]) x6 x10 x11 (wrap64 (x12 + 1))) else (none)) else (if x1 < (rd x10 x12) then (if x5.length < 17592186044416 then ((some (x5 ++ [x1] : List Int)).bind fun y279 => (if y279.length < 17592186044416 then (spec_l08With.l0 k x1 (y279 ++ [rd x10 x12]) true x10 x11 (wrap64 (x12 + 1))) else (none))) else (none)) else (if x5.length < 17592186044416 then (spec_l08With.l0 k x1 (x5 ++ [rd x10 x12]) x6 x10 x11 (wrap64 (x12 + 1))) else (none)))) else (none)) else (none)) else (if x6 = true then (some x5) else (if x5.length < 17592186044416 then (some (x5 ++ [x1])) else (none)))
def spec_l08With.f (k : Nat) (l0 : List Int) (a1 : Int) : Option (List Int) := spec_l08With.l0 k a1 (([] : List Int)) false l0 (l0.length : Int) 0
theorem spec_l08With.mono_l : ∀ k, (∀ y0 y1 y2 y3 y4 y5, LeO (spec_l08With.l0 k y0 y1 y2 y3 y4 y5) (spec_l08With.l0 (k + 1) y0 y1 y2 y3 y4 y5))
 | 0 => fun _ _ _ _ _ _ r h => by simp [spec_l08With.l0] at h
 | k + 1 => by
  have ih0 := spec_l08With.mono_l k
  ·intro y0 y1 y2 y3 y4 y5
   unfold spec_l08With.l0
   repeat' first
   | (with_reducible exact ih0 _ _ _ _ _ _)
   | (with_reducible exact LeO.refl _)
   | (with_reducible exact LeO.none _)
   | (with_reducible refine LeO.ite ?_ ?_)
   | (with_reducible refine LeO.bind ?_ (fun _ => ?_))
   | exact ih0 _ _ _ _ _ _
   | exact LeO.none _
   | refine LeO.ite ?_ ?_
   | refine LeO.bind ?_ (fun _ => ?_)
theorem spec_l08With.mono : ∀ a0 a1 k, LeO (spec_l08With.f k a0 a1) (spec_l08With.f (k + 1) a0 a1) := by
 intro a0 a1 k
 have ih0 := spec_l08With.mono_l k
 unfold spec_l08With.f
 repeat' first
   | (with_reducible exact ih0 _ _ _ _ _ _)
   | (with_reducible exact LeO.refl _)
   | (with_reducible exact LeO.none _)
   | (with_reducible refine LeO.ite ?_ ?_)
   | (with_reducible refine LeO.bind ?_ (fun _ => ?_))
   | exact ih0 _ _ _ _ _ _
   | exact LeO.none _
   | refine LeO.ite ?_ ?_
   | refine LeO.bind ?_ (fun _ => ?_)
set_option maxHeartbeats 8000000 in
set_option maxRecDepth 100000 in
theorem spec_l08With.calls (k : Nat) (A0 : Option Addr) (c0 : Nat) (l0 : List Int) (a1 : Int) (r : List Int) (w : World) (hr0 : Kd.C (Kd.int .i64) w A0 l0.length l0) (hc0 : l0.length ≤ c0) (h : spec_l08With.f k l0 a1 = some r) :
  Calls Try.prog 65 #[.slice A0 l0.length c0, .int .i64 a1] w fun e w' => ∃ v0_ : Value, e = .returned (v0_) ∧ Kd.R (Kd.int .i64) 3 w' w.heap.size (fun _ => True) v0_ r ∧ Below w.heap.size w w' := by
 have HR0 := Aside0.mk hr0
 have HC0 := Aside0.mk hc0
 clear hr0 hc0
 have HB := Aside0.mk (Below.refl w.heap.size w)
 have H : (spec_l08With.l0 k a1 (([] : List Int)) false l0 (l0.length : Int) 0) = some r := h
 clear h
 obtain ⟨y272, hy272⟩ : ∃ y_ : List Int, y_ = (([] : List Int)) := ⟨_, rfl⟩
 replace H : (spec_l08With.l0 k a1 y272 false l0 (l0.length : Int) 0) = some r := by first | (rw [hy272]; with_reducible exact H) | (have H2_ := (Option.bind_some _ _).symm.trans H; rw [hy272]; with_reducible exact H2_) | (have H2_ := (Option.bind_some _ _).symm.trans H; with_reducible exact H2_) | with_reducible exact H | (rw [hy272]; exact H) | exact H
 have Ny272 := Aside0.mk hy272
 clear hy272
 have H' := Aside0.mk H
 clear H
 go_enter Try.func65, Try.ntmps65
 go_wp2_with (first | ((with_reducible refine gate_dst (N := 9) rfl ?_); refine Kd.R_lit (Kd.int .i64) _ 3 ?hg (N := 9) ?hd (xs := ([] : List Int)) (inner := []) (ok := fun _ => True) (okp := fun _ => True) ?hr ?hp (fun _ hk => hk) trivial (Below.refl _ _) (Nat.le_refl _) (by simp) ?_; (case hd => rfl); (case hg => rfl); (case hr => first | (go_simp; done) | (go_simp; rfl)); (case hp => exact (Reps.none _ _)); intro v273 w3 ho4 hb hg_ hnew_; clear hg_ hnew_; (first | rw [← Ny272.out] at ho4 | (simp only [Int.reduceToNat] at ho4; rw [← Ny272.out] at ho4)); have HO274 := Aside0.mk (Kd.R_lower ho4 (below_size (be HB))); replace HB := s0 HB hb; clear hb ho4))
 go_loopg [5, 6, 12] k (fun kq v5 v6 v12 w' => ∃ (x5_1 : List Int) (x6_1 : Bool) (x12_1 : Int), v6 = .bool x6_1 ∧ v12 = .int .i64 x12_1 ∧ Aside0 (spec_l08With.l0 kq a1 x5_1 x6_1 l0 (l0.length : Int) x12_1 = some r) ∧ Aside0 (kq ≤ k) ∧ Aside0 (Kd.R (Kd.int .i64) 3 w' w.heap.size (fun _ => True) v5 x5_1) ∧ Aside0 (Below w.heap.size w w'))
 case atStart => exact ⟨(y272), (false), (0), rs, rs, H', ⟨Nat.le_refl _⟩, ⟨ro HO274⟩, ⟨be HB⟩⟩
 case round =>
  clear H'
  try clear p2
  obtain ⟨x5_1, x6_1, x12_1, rfl, rfl, HA, HK1, HO_5, HB⟩ := hrel
  cases gk with
  | zero => exact absurd HA.out (by simp [spec_l08With.l0])
  | succ k1 =>
   have H := HA.out
   clear HA
   simp only [spec_l08With.l0] at H
   by_cases c5 : x12_1 < (l0.length : Int)
   ·rw [if_pos c5] at H
    have c5b0 : decide (x12_1 < (l0.length : Int)) = true := decide_eq_true c5
    clear c5
    by_cases c6 : 0 ≤ x12_1
    ·rw [if_pos c6] at H
     have c6b0 : decide (0 ≤ x12_1) = true := decide_eq_true c6
     clear c6
     by_cases c7 : x12_1 < (l0.length : Int)
     ·rw [if_pos c7] at H
      have c7b0 : decide (x12_1 < (l0.length : Int)) = true := decide_eq_true c7
      clear c7
      by_cases c8 : x6_1 = true
      ·subst c8
       rw [if_pos rfl] at H
       by_cases c9 : x5_1.length < 17592186044416
       ·rw [if_pos c9] at H
        have LMc9 := Aside0.mk c9
        clear c9
        obtain ⟨y276, hy276⟩ : ∃ y_ : List Int, y_ = (x5_1 ++ [rd l0 x12_1]) := ⟨_, rfl⟩
        replace H : (spec_l08With.l0 k1 a1 y276 true l0 (l0.length : Int) (wrap64 (x12_1 + 1))) = some r := by first | (rw [hy276]; with_reducible exact H) | (have H2_ := (Option.bind_some _ _).symm.trans H; rw [hy276]; with_reducible exact H2_) | (have H2_ := (Option.bind_some _ _).symm.trans H; with_reducible exact H2_) | with_reducible exact H | (rw [hy276]; exact H) | exact H
        have Ny276 := Aside0.mk hy276
        clear hy276
        have H' := Aside0.mk H
        clear H
        have p275 : 0 ≤ (x12_1 : Int) := od
        have q275 : x12_1 < (l0.length : Int) := od
        obtain ⟨ad275, e275, hx275_0⟩ := Kd.at_int HR0.out x12_1 p275 q275
        cases e275
        replace hx275_0 := hc HB hx275_0
        replace p275 := eq_true p275
        replace q275 := eq_true q275
        go_wp2_with (first | ((with_reducible refine gate_builtin (b := .append) (xs := #[.tmp 27, .tmp 29]) rfl ?_); at_builtin; refine Kd.R_append (Kd.int .i64) (w0 := w) w.heap.size rfl (.tmp 27) (.tmp 29) 22 3 (.int .i64 0) 8 rfl Try.underlying22 info3 rfl (by decide) (by omega) u5 x5_1 (rd l0 x12_1) [.int .i64 (rd l0 x12_1)] (fun _ => True) (fun _ => False) rfl rfl ?aP (fun _ hk => hk.elim) ?aF ?aO ?aB ?aS ?aL ?_; (case aP => exact rfl); (case aB => exact (be HB)); (case aF => exact (fun _ _ => trivial)); (case aO => exact (ro HO_5)); (case aS => exact (below_size (be HB))); (case aL => have := LMc9.out; omega); intro v277 w10 ho hb hg hat; rw [← Ny276.out] at ho; replace HB := Aside0.mk (hb); have HO278 := Aside0.mk (ho); clear HO_5; clear ho hb hg hat))
        go_roundg k1
        case measure => have := HK1.out; omega
        case rel => exact ⟨(y276), (true), (wrap64 (x12_1 + 1)), rs, rs, H', ⟨by have := HK1.out; omega⟩, ⟨ro HO278⟩, ⟨be HB⟩⟩
       rw [if_neg c9] at H
       exact absurd H (by simp)
      replace c8 := Bool.eq_false_iff.mpr c8
      subst c8
      rw [if_neg (show ¬ (false = true) by decide)] at H
      by_cases c11 : a1 < (rd l0 x12_1)
      ·rw [if_pos c11] at H
       have c11b0 : decide (a1 < (rd l0 x12_1)) = true := decide_eq_true c11
       clear c11
       by_cases c12 : x5_1.length < 17592186044416
       ·rw [if_pos c12] at H
        have LMc12 := Aside0.mk c12
        clear c12
        obtain ⟨y279, hy279⟩ : ∃ y_ : List Int, y_ = (x5_1 ++ [a1]) := ⟨_, rfl⟩
        replace H : (if y279.length < 17592186044416 then (spec_l08With.l0 k1 a1 (y279 ++ [rd l0 x12_1]) true l0 (l0.length : Int) (wrap64 (x12_1 + 1))) else (none)) = some r := by first | (rw [hy279]; with_reducible exact H) | (have H2_ := (Option.bind_some _ _).symm.trans H; rw [hy279]; with_reducible exact H2_) | (have H2_ := (Option.bind_some _ _).symm.trans H; with_reducible exact H2_) | with_reducible exact H | (rw [hy279]; exact H) | exact H
        have Ny279 := Aside0.mk hy279
        clear hy279
        by_cases c13 : y279.length < 17592186044416
        ·rw [if_pos c13] at H
         have LMc13 := Aside0.mk c13
         clear c13
         obtain ⟨y282, hy282⟩ : ∃ y_ : List Int, y_ = (y279 ++ [rd l0 x12_1]) := ⟨_, rfl⟩
         replace H : (spec_l08With.l0 k1 a1 y282 true l0 (l0.length : Int) (wrap64 (x12_1 + 1))) = some r := by first | (rw [hy282]; with_reducible exact H) | (have H2_ := (Option.bind_some _ _).symm.trans H; rw [hy282]; with_reducible exact H2_) | (have H2_ := (Option.bind_some _ _).symm.trans H; with_reducible exact H2_) | with_reducible exact H | (rw [hy282]; exact H) | exact H
         have Ny282 := Aside0.mk hy282
         clear hy282
         have H' := Aside0.mk H
         clear H
         have p275 : 0 ≤ (x12_1 : Int) := od
         have q275 : x12_1 < (l0.length : Int) := od
         obtain ⟨ad275, e275, hx275_0⟩ := Kd.at_int HR0.out x12_1 p275 q275
         cases e275
         replace hx275_0 := hc HB hx275_0
         replace p275 := eq_true p275
         replace q275 := eq_true q275
         go_wp2_with (first | ((with_reducible refine gate_builtin (b := .append) (xs := #[.tmp 23, .tmp 25]) rfl ?_); at_builtin; refine Kd.R_append (Kd.int .i64) (w0 := w) w.heap.size rfl (.tmp 23) (.tmp 25) 22 3 (.int .i64 0) 8 rfl Try.underlying22 info3 rfl (by decide) (by omega) u5 x5_1 a1 [.int .i64 a1] (fun _ => True) (fun _ => False) rfl rfl ?aP (fun _ hk => hk.elim) ?aF ?aO ?aB ?aS ?aL ?_; (case aP => exact rfl); (case aB => exact (be HB)); (case aF => exact (fun _ _ => trivial)); (case aO => exact (ro HO_5)); (case aS => exact (below_size (be HB))); (case aL => have := LMc12.out; omega); intro v280 w14 ho hb hg hat; rw [← Ny279.out] at ho; replace HB := Aside0.mk (hb); have HO281 := Aside0.mk (ho); clear HO_5; clear ho hb hg hat) | ((with_reducible refine gate_builtin (b := .append) (xs := #[.tmp 27, .tmp 29]) rfl ?_); at_builtin; refine Kd.R_append (Kd.int .i64) (w0 := w) w.heap.size rfl (.tmp 27) (.tmp 29) 22 3 (.int .i64 0) 8 rfl Try.underlying22 info3 rfl (by decide) (by omega) v280 y279 (rd l0 x12_1) [.int .i64 (rd l0 x12_1)] (fun _ => True) (fun _ => False) rfl rfl ?aP (fun _ hk => hk.elim) ?aF ?aO ?aB ?aS ?aL ?_; (case aP => exact rfl); (case aB => exact (be HB)); (case aF => exact (fun _ _ => trivial)); (case aO => exact (ro HO281)); (case aS => exact (below_size (be HB))); (case aL => have := LMc13.out; omega); intro v283 w15 ho hb hg hat; rw [← Ny282.out] at ho; replace HB := Aside0.mk (hb); have HO284 := Aside0.mk (ho); clear HO281; clear ho hb hg hat))
         go_roundg k1
         case measure => have := HK1.out; omega
         case rel => exact ⟨(y282), (true), (wrap64 (x12_1 + 1)), rs, rs, H', ⟨by have := HK1.out; omega⟩, ⟨ro HO284⟩, ⟨be HB⟩⟩
        rw [if_neg c13] at H
        exact absurd H (by simp)
       rw [if_neg c12] at H
       exact absurd H (by simp)
      rw [if_neg c11] at H
      have c11b0 : decide (a1 < (rd l0 x12_1)) = false := decide_eq_false c11
      clear c11
      by_cases c16 : x5_1.length < 17592186044416
      ·rw [if_pos c16] at H
       have LMc16 := Aside0.mk c16
       clear c16
       obtain ⟨y285, hy285⟩ : ∃ y_ : List Int, y_ = (x5_1 ++ [rd l0 x12_1]) := ⟨_, rfl⟩
       replace H : (spec_l08With.l0 k1 a1 y285 false l0 (l0.length : Int) (wrap64 (x12_1 + 1))) = some r := by first | (rw [hy285]; with_reducible exact H) | (have H2_ := (Option.bind_some _ _).symm.trans H; rw [hy285]; with_reducible exact H2_) | (have H2_ := (Option.bind_some _ _).symm.trans H; with_reducible exact H2_) | with_reducible exact H | (rw [hy285]; exact H) | exact H
       have Ny285 := Aside0.mk hy285
       clear hy285
       have H' := Aside0.mk H
       clear H
       have p275 : 0 ≤ (x12_1 : Int) := od
       have q275 : x12_1 < (l0.length : Int) := od
       obtain ⟨ad275, e275, hx275_0⟩ := Kd.at_int HR0.out x12_1 p275 q275
       cases e275
       replace hx275_0 := hc HB hx275_0
       replace p275 := eq_true p275
       replace q275 := eq_true q275
       go_wp2_with (first | ((with_reducible refine gate_builtin (b := .append) (xs := #[.tmp 27, .tmp 29]) rfl ?_); at_builtin; refine Kd.R_append (Kd.int .i64) (w0 := w) w.heap.size rfl (.tmp 27) (.tmp 29) 22 3 (.int .i64 0) 8 rfl Try.underlying22 info3 rfl (by decide) (by omega) u5 x5_1 (rd l0 x12_1) [.int .i64 (rd l0 x12_1)] (fun _ => True) (fun _ => False) rfl rfl ?aP (fun _ hk => hk.elim) ?aF ?aO ?aB ?aS ?aL ?_; (case aP => exact rfl); (case aB => exact (be HB)); (case aF => exact (fun _ _ => trivial)); (case aO => exact (ro HO_5)); (case aS => exact (below_size (be HB))); (case aL => have := LMc16.out; omega); intro v286 w17 ho hb hg hat; rw [← Ny285.out] at ho; replace HB := Aside0.mk (hb); have HO287 := Aside0.mk (ho); clear HO_5; clear ho hb hg hat))
       go_roundg k1
       case measure => have := HK1.out; omega
       case rel => exact ⟨(y285), (false), (wrap64 (x12_1 + 1)), rs, rs, H', ⟨by have := HK1.out; omega⟩, ⟨ro HO287⟩, ⟨be HB⟩⟩
      rw [if_neg c16] at H
      exact absurd H (by simp)
     rw [if_neg c7] at H
     exact absurd H (by simp)
    rw [if_neg c6] at H
    exact absurd H (by simp)
   rw [if_neg c5] at H
   have c5b0 : decide (x12_1 < (l0.length : Int)) = false := decide_eq_false c5
   clear c5
   by_cases c18 : x6_1 = true
   ·subst c18
    rw [if_pos rfl] at H
    obtain rfl := Option.some.inj H
    go_wp2
    go_ret
    exact ⟨_, er, by (with_reducible repeat (first | apply Kd.R_alloc | apply Kd.R_drewN | apply Kd.R_drew)); exact HO_5.out, be HB⟩
   replace c18 := Bool.eq_false_iff.mpr c18
   subst c18
   rw [if_neg (show ¬ (false = true) by decide)] at H
   by_cases c19 : x5_1.length < 17592186044416
   ·rw [if_pos c19] at H
    have LMc19 := Aside0.mk c19
    clear c19
    obtain ⟨y288, hy288⟩ : ∃ y_ : List Int, y_ = (x5_1 ++ [a1]) := ⟨_, rfl⟩
    replace H : (some y288) = some r := by first | (rw [hy288]; with_reducible exact H) | (have H2_ := (Option.bind_some _ _).symm.trans H; rw [hy288]; with_reducible exact H2_) | (have H2_ := (Option.bind_some _ _).symm.trans H; with_reducible exact H2_) | with_reducible exact H | (rw [hy288]; exact H) | exact H
    have Ny288 := Aside0.mk hy288
    clear hy288
    obtain rfl := Option.some.inj H
    go_wp2_with (first | ((with_reducible refine gate_builtin (b := .append) (xs := #[.tmp 34, .tmp 36]) rfl ?_); at_builtin; refine Kd.R_append (Kd.int .i64) (w0 := w) w.heap.size rfl (.tmp 34) (.tmp 36) 22 3 (.int .i64 0) 8 rfl Try.underlying22 info3 rfl (by decide) (by omega) u5 x5_1 a1 [.int .i64 a1] (fun _ => True) (fun _ => False) rfl rfl ?aP (fun _ hk => hk.elim) ?aF ?aO ?aB ?aS ?aL ?_; (case aP => exact rfl); (case aB => exact (be HB)); (case aF => exact (fun _ _ => trivial)); (case aO => exact (ro HO_5)); (case aS => exact (below_size (be HB))); (case aL => have := LMc19.out; omega); intro v289 w20 ho hb hg hat; rw [← Ny288.out] at ho; replace HB := Aside0.mk (hb); have HO290 := Aside0.mk (ho); clear HO_5; clear ho hb hg hat))
    go_ret
    exact ⟨_, er, by (with_reducible repeat (first | apply Kd.R_alloc | apply Kd.R_drewN | apply Kd.R_drew)); exact HO290.out, be HB⟩
   rw [if_neg c19] at H
   exact absurd H (by simp)

end Go.Proofs.Ytdgpidhlbpaolaa.QFnExactAlloc
