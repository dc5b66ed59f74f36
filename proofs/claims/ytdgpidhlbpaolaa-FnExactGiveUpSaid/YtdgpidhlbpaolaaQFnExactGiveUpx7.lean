-- made by a program of this session (myprint.py)
import Derived.Test.YtdgpidhlbpaolaaQFnExactGiveUpx0
import Derived.Test.YtdgpidhlbpaolaaQFnExactGiveUpx3
import Derived.Test.YtdgpidhlbpaolaaQFnExactGiveUpx4
import Derived.Test.YtdgpidhlbpaolaaQFnExactGiveUpx6
namespace Go.Proofs.Ytdgpidhlbpaolaa.QFnExactGiveUp
open Go.RowKit Go.Proofs.YtdgpidhlbpaolaaW.PrintWords Go.Proofs.YtdgpidhlbpaolaaW.PrintLast Go.Proofs.YtdgpidhlbpaolaaW.PrintMore
attribute [local go_sem] max2_int min2_int max_two min_two max_three min_three max_four min_four   -- for this text's walks alone
set_option linter.unusedVariables false
set_option linter.unusedSimpArgs false

/-! ### spec_l09Copy: function 64 -/
def spec_l09Copy.f (l0_0 : List Int) (a0_1 : Int) (l0_2 : List Int) (l0_3 : List (S70)) (l0_4 : List Int) : Option (List Int × Int × List Int × (List (S70)) × List Int) := (some (([] : List Int) : List Int)).bind fun y253 => (if y253.length + l0_0.length < 17592186044416 then ((spec_l06Copy.f a0_1 l0_2 l0_3).bind fun bt259 => ((some (([] : List Int) : List Int)).bind fun y266 => (if y266.length + l0_4.length < 17592186044416 then (some ((y253 ++ l0_0), bt259.1, bt259.2.1, bt259.2.2, (y266 ++ l0_4))) else (none)))) else (none))
def spec_l09Copy.T1 : Bool × List (List Nat × List Nat) := (true, [([], []), ([], []), ([1], [1]), ([0, 2], [0, 2]), ([], []), ([4], [4]), ([5, 3], [5]), ([], []), ([], []), ([8], [8]), ([7, 9, 6], [7, 9]), ([3, 6, 10], [3, 6, 10]), ([11, 10, 0, 1, 2, 3, 4, 5, 6, 7, 8, 9, 10, 11], [11])])
def spec_l09Copy.B1 : List Nat := [0, 0, 2, 7, 0, 16, 63, 0, 0, 256, 1023, 2047, 4095]
theorem spec_l09Copy.tab1 : rtab .any (opsOf Try.f64 1) = spec_l09Copy.T1 := by kernel_rfl
theorem spec_l09Copy.bits1 : waitsOk spec_l09Copy.T1.2 spec_l09Copy.B1 = true := by kernel_rfl
set_option maxHeartbeats 8000000 in
set_option maxRecDepth 100000 in
theorem spec_l09Copy.calls (A0_0 : Option Addr) (c0_0 : Nat) (l0_0 : List Int) (a0_1 : Int) (A0_2 : Option Addr) (c0_2 : Nat) (l0_2 : List Int) (A0_3 : Option Addr) (c0_3 : Nat) (l0_3 : List (S70)) (A0_4 : Option Addr) (c0_4 : Nat) (l0_4 : List Int) (r1 : List Int) (r2 : Int) (r3 : List Int) (r4 : List (S70)) (r5 : List Int) (w : World) (hr0_0 : Kd.C (Kd.int .i64) w A0_0 l0_0.length l0_0) (hc0_0 : l0_0.length ≤ c0_0) (hr0_2 : Kd.C (Kd.int .i64) w A0_2 l0_2.length l0_2) (hc0_2 : l0_2.length ≤ c0_2) (hr0_3 : Kd.C k70 w A0_3 l0_3.length l0_3) (hc0_3 : l0_3.length ≤ c0_3) (hr0_4 : Kd.C (Kd.int .i64) w A0_4 l0_4.length l0_4) (hc0_4 : l0_4.length ≤ c0_4) (h : spec_l09Copy.f l0_0 a0_1 l0_2 l0_3 l0_4 = some (r1, r2, r3, r4, r5)) :
  Calls Try.prog 64 #[.agg #[.slice A0_0 l0_0.length c0_0, .int .i64 a0_1, .slice A0_2 l0_2.length c0_2, .slice A0_3 l0_3.length c0_3, .slice A0_4 l0_4.length c0_4]] w fun e w' => ∃ v0_ v2_ v3_ v4_ : Value, e = .returned (.agg #[v0_, .int .i64 r2, v2_, v3_, v4_]) ∧ Kd.R (Kd.int .i64) 3 w' w.heap.size (fun k_ => some k_ ≠ (v2_ : Value).ownBlock ∧ some k_ ≠ (v4_ : Value).ownBlock) v0_ r1 ∧ Kd.R (Kd.int .i64) 3 w' w.heap.size (fun k_ => some k_ ≠ (v0_ : Value).ownBlock ∧ some k_ ≠ (v4_ : Value).ownBlock) v2_ r3 ∧ Kd.R k70 70 w' w.heap.size (fun _ => True) v3_ r4 ∧ Kd.R (Kd.int .i64) 3 w' w.heap.size (fun k_ => some k_ ≠ (v0_ : Value).ownBlock ∧ some k_ ≠ (v2_ : Value).ownBlock) v4_ r5 ∧ Below w.heap.size w w' := by
 have hu27 := Try.underlying27
 have hu25 := Try.underlying25
 have HR0_0 := Aside0.mk hr0_0
 have HC0_0 := Aside0.mk hc0_0
 clear hr0_0 hc0_0
 have HR0_2 := Aside0.mk hr0_2
 have HC0_2 := Aside0.mk hc0_2
 clear hr0_2 hc0_2
 have HR0_3 := Aside0.mk hr0_3
 have HC0_3 := Aside0.mk hc0_3
 clear hr0_3 hc0_3
 have HR0_4 := Aside0.mk hr0_4
 have HC0_4 := Aside0.mk hc0_4
 clear hr0_4 hc0_4
 have HB := Aside0.mk (Below.refl w.heap.size w)
 have H : ((some (([] : List Int) : List Int)).bind fun y253 => (if y253.length + l0_0.length < 17592186044416 then ((spec_l06Copy.f a0_1 l0_2 l0_3).bind fun bt259 => ((some (([] : List Int) : List Int)).bind fun y266 => (if y266.length + l0_4.length < 17592186044416 then (some ((y253 ++ l0_0), bt259.1, bt259.2.1, bt259.2.2, (y266 ++ l0_4))) else (none)))) else (none))) = some (r1, r2, r3, r4, r5) := h
 clear h
 obtain ⟨y253, hy253⟩ : ∃ y_ : List Int, y_ = (([] : List Int)) := ⟨_, rfl⟩
 replace H : (if y253.length + l0_0.length < 17592186044416 then ((spec_l06Copy.f a0_1 l0_2 l0_3).bind fun bt259 => ((some (([] : List Int) : List Int)).bind fun y266 => (if y266.length + l0_4.length < 17592186044416 then (some ((y253 ++ l0_0), bt259.1, bt259.2.1, bt259.2.2, (y266 ++ l0_4))) else (none)))) else (none)) = some (r1, r2, r3, r4, r5) := by first | (rw [hy253]; with_reducible exact H) | (have H2_ := (Option.bind_some _ _).symm.trans H; rw [hy253]; with_reducible exact H2_) | (have H2_ := (Option.bind_some _ _).symm.trans H; with_reducible exact H2_) | with_reducible exact H | (rw [hy253]; exact H) | exact H
 have Ny253 := Aside0.mk hy253
 clear hy253
 by_cases c2 : y253.length + l0_0.length < 17592186044416
 ·rw [if_pos c2] at H
  have LMc2 := Aside0.mk c2
  clear c2
  obtain ⟨y256, hy256⟩ : ∃ y_ : List Int, y_ = (y253 ++ l0_0) := ⟨_, rfl⟩
  replace H : ((spec_l06Copy.f a0_1 l0_2 l0_3).bind fun bt259 => ((some (([] : List Int) : List Int)).bind fun y266 => (if y266.length + l0_4.length < 17592186044416 then (some (y256, bt259.1, bt259.2.1, bt259.2.2, (y266 ++ l0_4))) else (none)))) = some (r1, r2, r3, r4, r5) := by first | (rw [hy256]; with_reducible exact H) | (have H2_ := (Option.bind_some _ _).symm.trans H; rw [hy256]; with_reducible exact H2_) | (have H2_ := (Option.bind_some _ _).symm.trans H; with_reducible exact H2_) | with_reducible exact H | (rw [hy256]; exact H) | exact H
  have Ny256 := Aside0.mk hy256
  clear hy256
  replace H := Option.bind_eq_some_iff.mp H
  obtain ⟨⟨t259, t260, t263⟩, A30, H⟩ := H
  replace H : ((some (([] : List Int) : List Int)).bind fun y266 => (if y266.length + l0_4.length < 17592186044416 then (some (y256, t259, t260, t263, (y266 ++ l0_4))) else (none))) = some (r1, r2, r3, r4, r5) := H
  have A3 := Aside0.mk A30
  clear A30
  obtain ⟨y266, hy266⟩ : ∃ y_ : List Int, y_ = (([] : List Int)) := ⟨_, rfl⟩
  replace H : (if y266.length + l0_4.length < 17592186044416 then (some (y256, t259, t260, t263, (y266 ++ l0_4))) else (none)) = some (r1, r2, r3, r4, r5) := by first | (rw [hy266]; with_reducible exact H) | (have H2_ := (Option.bind_some _ _).symm.trans H; rw [hy266]; with_reducible exact H2_) | (have H2_ := (Option.bind_some _ _).symm.trans H; with_reducible exact H2_) | with_reducible exact H | (rw [hy266]; exact H) | exact H
  have Ny266 := Aside0.mk hy266
  clear hy266
  by_cases c4 : y266.length + l0_4.length < 17592186044416
  ·rw [if_pos c4] at H
   have LMc4 := Aside0.mk c4
   clear c4
   obtain ⟨y269, hy269⟩ : ∃ y_ : List Int, y_ = (y266 ++ l0_4) := ⟨_, rfl⟩
   replace H : (some (y256, t259, t260, t263, y269)) = some (r1, r2, r3, r4, r5) := by first | (rw [hy269]; with_reducible exact H) | (have H2_ := (Option.bind_some _ _).symm.trans H; rw [hy269]; with_reducible exact H2_) | (have H2_ := (Option.bind_some _ _).symm.trans H; with_reducible exact H2_) | with_reducible exact H | (rw [hy269]; exact H) | exact H
   have Ny269 := Aside0.mk hy269
   clear hy269
   simp only [Option.some.injEq, Prod.mk.injEq] at H
   obtain ⟨rfl, rfl, rfl, rfl, rfl⟩ := H
   go_enter Try.func64, Try.ntmps64
   try go_wp2_with (first | ((with_reducible refine gate_dst (N := 1) rfl ?_); refine bx 1 #[.slice A0_0 l0_0.length c0_0, .int .i64 a0_1, .slice A0_2 l0_2.length c0_2, .slice A0_3 l0_3.length c0_3, .slice A0_4 l0_4.length c0_4] 27 ?_; intro gb251 hg w5 hbox hb; have BK251 := am hbox; have GW251 := gs0 hg HB; have GE251 := gs0 hg HB; replace HB := s0 HB hb; clear hb hbox hg) | ((with_reducible refine gate_dst (N := 2) rfl ?_); refine bx 2 #[.slice none 0 0, .int .i64 0, .slice none 0 0, .slice none 0 0, .slice none 0 0] 27 ?_; intro gb252 hg w6 hbox hb; have BK252 := am hbox; have GW252 := gs1 hg HB GE251; have GE252 := gs1 hg HB GE251; replace HB := Aside0.mk (below_step (be1 HB GE251) hb); have NB251_252 := Aside0.mk ((by rw [hg]; exact Nat.ne_of_lt (bl BK251) : gb251 ≠ gb252)); have NB252_251 := Aside0.mk ((by rw [hg]; exact Nat.ne_of_gt (bl BK251) : gb252 ≠ gb251)); replace BK251 := bb BK251 hb; clear hb hbox hg))
   have n0_ := Aside0.mk (blk_drew BK251.out)
   have n1_ := Aside0.mk (blk_drew BK252.out)
   have n2_ := Aside0.mk (below_drew1 HB.out)
   clear BK251
   clear BK252
   clear HB
   have BK251 := n0_
   have BK252 := n1_
   have HB := n2_
   clear n0_ n1_ n2_
   refine start_ (n := 13) (S := fun w' => w'.cell? ⟨gb251, 0, none⟩ = some (.slice A0_0 l0_0.length c0_0) ∧ w'.cell? ⟨gb251, 1, none⟩ = some (.int .i64 a0_1) ∧ w'.cell? ⟨gb251, 2, none⟩ = some (.slice A0_2 l0_2.length c0_2) ∧ w'.cell? ⟨gb251, 3, none⟩ = some (.slice A0_3 l0_3.length c0_3) ∧ w'.cell? ⟨gb251, 4, none⟩ = some (.slice A0_4 l0_4.length c0_4)) (ds := []) (bv 13 0x0) (by kernel_rfl) rfl rfl ⟨bc0 BK251, bc1 BK251, bc2 BK251, bc3 BK251, bc4 BK251⟩ (fun hHeld => ?_); refine with_tabW spec_l09Copy.tab1 spec_l09Copy.bits1 (fun HT_ HW_ => ?_)
   generalize w6.drew = w7 at BK251 BK252 HB hHeld ⊢
   refine py HT_ 1 4 (bv 13 0x2) ?_
   refine py HT_ 4 7 (bv 13 0x12) ?_
   refine py HT_ 8 11 (bv 13 0x112) ?_
   refine tk HT_ HW_ hHeld 2 5 (bv 13 0x116) ?_
   refine tk HT_ HW_ hHeld 5 8 (bv 13 0x136) ?_
   refine tk HT_ HW_ hHeld 9 12 (bv 13 0x336) ?_
   refine join_ (σ := Value × Value × Value × Value × Value) 3 (bv 13 0x3ff) (fun s_ => [(3, s_.1), (6, s_.2.1), (9, .agg #[.int .i64 t259, s_.2.2.1, s_.2.2.2.1]), (10, s_.2.2.2.2)]) (fun s_ w' => (w'.cell? ⟨gb251, 0, none⟩ = some (.slice A0_0 l0_0.length c0_0) ∧ w'.cell? ⟨gb251, 1, none⟩ = some (.int .i64 a0_1) ∧ w'.cell? ⟨gb251, 2, none⟩ = some (.slice A0_2 l0_2.length c0_2) ∧ w'.cell? ⟨gb251, 3, none⟩ = some (.slice A0_3 l0_3.length c0_3) ∧ w'.cell? ⟨gb251, 4, none⟩ = some (.slice A0_4 l0_4.length c0_4)) ∧ (Kd.R (Kd.int .i64) 3 w' w.heap.size (fun k_ => some k_ ≠ (s_.2.2.1 : Value).ownBlock ∧ some k_ ≠ (s_.2.2.2.2 : Value).ownBlock) s_.2.1 y256) ∧ (Kd.R (Kd.int .i64) 3 w' w.heap.size (fun k_ => some k_ ≠ (s_.2.1 : Value).ownBlock ∧ some k_ ≠ (s_.2.2.2.2 : Value).ownBlock) s_.2.2.1 t260) ∧ (Kd.R k70 70 w' w.heap.size (fun _ => True) s_.2.2.2.1 t263) ∧ (Kd.R (Kd.int .i64) 3 w' w.heap.size (fun k_ => some k_ ≠ (s_.2.1 : Value).ownBlock ∧ some k_ ≠ (s_.2.2.1 : Value).ownBlock) s_.2.2.2.2 y266) ∧ (w'.heap[gb251]? = some (.cells #[.slice A0_0 l0_0.length c0_0, .int .i64 a0_1, .slice A0_2 l0_2.length c0_2, .slice A0_3 l0_3.length c0_3, .slice A0_4 l0_4.length c0_4] 27 (0, 0))) ∧ (w'.heap[gb252]? = some (.cells #[.slice none 0 0, .int .i64 0, .slice none 0 0, .slice none 0 0, .slice none 0 0] 27 (0, 0))) ∧ (Below w.heap.size w w')) ?_ ?_
   rotate_left
   ·intro hCont
    refine two_ (i := 0) (j := 7) (Ni := some 3) (Nj := some 10) (bv 13 0x337) (bv 13 0x3b6) rfl rfl rfl rfl (two_of HT_.out (by kernel_rfl)) (by decide) (by decide) (fun K hK => ?_) (fun K hK => ?_)
    ·skip
     refine Kd.R_lit_step (Kd.int .i64) _ 3 ?hg (N := 3) ?hd (xs := ([] : List Int)) (inner := []) (ok := fun _ => True) (okp := fun _ => True) ?hr ?hp (fun _ hk => hk) trivial (Below.refl _ _) (Nat.le_refl _) (by simp) ?_; (case hd => rfl); (case hg => rfl); (case hr => first | (go_simp; done) | (go_simp; rfl)); (case hp => exact (Reps.none _ _))
     intro v254 w8 ho9 hb hg_ hnew_
     clear hg_ hnew_
     (first | rw [← Ny253.out] at ho9 | (simp only [Int.reduceToNat] at ho9; rw [← Ny253.out] at ho9))
     have n0_ := Aside0.mk (Kd.R_lower ho9 (below_size (be2 HB GE251 GE252)))
     have n1_ := bb BK251 hb
     have n2_ := bb BK252 hb
     have n3_ := Aside0.mk (below_step (be2 HB GE251 GE252) hb)
     clear BK251
     clear BK252
     clear HB
     have HO255 := n0_
     have BK251 := n1_
     have BK252 := n2_
     have HB := n3_
     clear n0_ n1_ n2_ n3_
     clear hb ho9
     refine hK.out _ _ ⟨bc0 BK251, bc1 BK251, bc2 BK251, bc3 BK251, bc4 BK251⟩ (fun hHeld => ?_)
     clear hK K
     refine norm_ (a' := ?_) ?_ ?_
     rotate_left
     ·show Act.put _ (some 3) _ = _
      simp only [aP]
      rfl
     refine two_ (i := 3) (j := 7) (Ni := some 6) (Nj := some 10) (bv 13 0x33f) (bv 13 0x3b7) rfl rfl rfl rfl (two_of HT_.out (by kernel_rfl)) (by decide) (by decide) (fun K hK => ?_) (fun K hK => ?_)
     ·skip
      refine Kd.R_append_rows_step (Kd.int .i64) (w0 := w) w.heap.size (by rfl) (.tmp 3) (.tmp 5) 22 3 (.int .i64 0) 8 rfl Try.underlying22 info3 rfl (by decide) (by omega) v254 y253 l0_0 _ _ _ (fun _ => True) (fun _ => False) rfl rfl ?aO ?aR (fun _ _ h => h) (fun _ h => h.elim) ?aF ?aB ?aS ?aL ?_
      (case aR => repeat (first | exact (Kd.C_below HR0_0.out HB.out) | (with_reducible refine Kd.C_alloc ?_ _) | (with_reducible refine Kd.C_drewN ?_ _) | (with_reducible refine Kd.C_drew ?_)))
      (case aB => exact (be2 HB GE251 GE252))
      (case aF => exact (fun _ _ => trivial))
      (case aO => exact (ro HO255))
      (case aS => exact (below_size (be2 HB GE251 GE252)))
      (case aL => have := LMc2.out; omega)
      intro v257 w10 ho hb hg hat
      rw [← Ny256.out] at ho
      have n0_ := Aside0.mk (blk_grown (g := gb251) (o := .cells #[.slice A0_0 l0_0.length c0_0, .int .i64 a0_1, .slice A0_2 l0_2.length c0_2, .slice A0_3 l0_3.length c0_3, .slice A0_4 l0_4.length c0_4] 27 (0, 0)) (bk BK251) hg (Kd.R_ne HO255.out BK251.out (by decide)))
      have n1_ := Aside0.mk (blk_grown (g := gb252) (o := .cells #[.slice none 0 0, .int .i64 0, .slice none 0 0, .slice none 0 0, .slice none 0 0] 27 (0, 0)) (bk BK252) hg (Kd.R_ne HO255.out BK252.out (by decide)))
      have n2_ := Aside0.mk (hb)
      have n3_ := Aside0.mk (ho)
      clear BK251
      clear BK252
      clear HB
      clear HO255
      have BK251 := n0_
      have BK252 := n1_
      have HB := n2_
      have HO258 := n3_
      clear n0_ n1_ n2_ n3_
      clear ho hb hg hat
      refine hK.out _ _ ⟨bc0 BK251, bc1 BK251, bc2 BK251, bc3 BK251, bc4 BK251⟩ (fun hHeld => ?_)
      clear hK K
      refine norm_ (a' := ?_) ?_ ?_
      rotate_left
      ·show Act.put _ (some 6) _ = _
       simp only [aP]
       rfl
      refine two_ (i := 6) (j := 7) (Ni := some 9) (Nj := some 10) (bv 13 0x37f) (bv 13 0x3bf) rfl rfl rfl rfl (two_of HT_.out (by kernel_rfl)) (by decide) (by decide) (fun K hK => ?_) (fun K hK => ?_)
      ·skip
       refine goes_ Try.func95 (by kernel_rfl) rfl #[.agg #[.int .i64 a0_1, .slice A0_2 l0_2.length c0_2, .slice A0_3 l0_3.length c0_3]] (by rfl) rfl rfl ml ?_
       with_reducible refine (spec_l06Copy.calls a0_1 _ _ l0_2 _ _ l0_3 t259 t260 t263 _ ?side1 ?side2 ?side3 ?side4 A3.out).mono ?_
       (case side1 => exact cb HR0_2 HB)
       (case side2 => exact HC0_2.out)
       (case side3 => exact cb HR0_3 HB)
       (case side4 => exact HC0_3.out)
       rintro e w11 ⟨v261, v264, rfl, ho0, ho1, hb⟩
       refine ⟨_, rfl, ?_⟩
       have n0_ := Aside0.mk (Kd.R_elder' (ro HO258) (Kd.R_base ho0) hb)
       have n1_ := Aside0.mk (Kd.R_lower (nw ho0 HO258) (below_size (be2 HB GE251 GE252)))
       have n2_ := Aside0.mk (Kd.R_lower ho1 (below_size (be2 HB GE251 GE252)))
       have n3_ := bb BK251 hb
       have n4_ := bb BK252 hb
       have n5_ := Aside0.mk (below_step (be2 HB GE251 GE252) hb)
       clear HO258
       clear BK251
       clear BK252
       clear HB
       have HO258 := n0_
       have HO262 := n1_
       have HO265 := n2_
       have BK251 := n3_
       have BK252 := n4_
       have HB := n5_
       clear n0_ n1_ n2_ n3_ n4_ n5_
       (try clear hb)
       (try clear hb2)
       (try clear hk)
       (try clear hi)
       (try clear ho0)
       (try clear ho1)
       refine hK.out _ _ ⟨bc0 BK251, bc1 BK251, bc2 BK251, bc3 BK251, bc4 BK251⟩ (fun hHeld => ?_)
       clear hK K
       refine norm_ (a' := ?_) ?_ ?_
       rotate_left
       ·show Act.put _ (some 9) _ = _
        simp only [aP]
        rfl
       refine one_ (i := 7) (N := some 10) (bv 13 0x3ff) rfl rfl (one_of HT_.out (by kernel_rfl)) (by decide) (fun K hK => ?_)
       refine Kd.R_lit_step (Kd.int .i64) _ 3 ?hg (N := 10) ?hd (xs := ([] : List Int)) (inner := []) (ok := fun _ => True) (okp := fun _ => True) ?hr ?hp (fun _ hk => hk) trivial (Below.refl _ _) (Nat.le_refl _) (by simp) ?_; (case hd => rfl); (case hg => rfl); (case hr => first | (go_simp; done) | (go_simp; rfl)); (case hp => exact (Reps.none _ _))
       intro v267 w12 ho13 hb hg_ hnew_
       clear hg_ hnew_
       (first | rw [← Ny266.out] at ho13 | (simp only [Int.reduceToNat] at ho13; rw [← Ny266.out] at ho13))
       have n0_ := Aside0.mk (Kd.R_elder' (ro HO258) (Kd.R_base ho13) hb)
       have n1_ := Aside0.mk (Kd.R_elder' (ro HO262) (Kd.R_base ho13) hb)
       have n2_ := rb HO265 hb
       have n3_ := Aside0.mk (Kd.R_lower (nw (nw ho13 HO258) HO262) (below_size (be2 HB GE251 GE252)))
       have n4_ := bb BK251 hb
       have n5_ := bb BK252 hb
       have n6_ := Aside0.mk (below_step (be2 HB GE251 GE252) hb)
       clear HO258
       clear HO262
       clear HO265
       clear BK251
       clear BK252
       clear HB
       have HO258 := n0_
       have HO262 := n1_
       have HO265 := n2_
       have HO268 := n3_
       have BK251 := n4_
       have BK252 := n5_
       have HB := n6_
       clear n0_ n1_ n2_ n3_ n4_ n5_ n6_
       clear hb ho13
       refine hK.out _ _ ⟨bc0 BK251, bc1 BK251, bc2 BK251, bc3 BK251, bc4 BK251⟩ (fun hHeld => ?_)
       clear hK K
       refine norm_ (a' := ?_) ?_ ?_
       rotate_left
       ·show Act.put _ (some 10) _ = _
        simp only [aP]
        rfl
       exact norm_ (by simp only [putAll, Act.put, List.setIfInBounds_toArray, List.set_cons_zero, List.set_cons_succ]) (hCont (v254, v257, v261, v264, v267) _ ⟨hHeld, (by (with_reducible repeat (first | apply Kd.R_alloc | apply Kd.R_drewN | apply Kd.R_drew)); exact rm HO258), (by (with_reducible repeat (first | apply Kd.R_alloc | apply Kd.R_drewN | apply Kd.R_drew)); exact rm HO262), (ro HO265), (by (with_reducible repeat (first | apply Kd.R_alloc | apply Kd.R_drewN | apply Kd.R_drew)); exact rm HO268), (bk BK251), (bk BK252), (be2 HB GE251 GE252)⟩)
      skip
      refine Kd.R_lit_step (Kd.int .i64) _ 3 ?hg (N := 10) ?hd (xs := ([] : List Int)) (inner := []) (ok := fun _ => True) (okp := fun _ => True) ?hr ?hp (fun _ hk => hk) trivial (Below.refl _ _) (Nat.le_refl _) (by simp) ?_; (case hd => rfl); (case hg => rfl); (case hr => first | (go_simp; done) | (go_simp; rfl)); (case hp => exact (Reps.none _ _))
      intro v267 w11 ho12 hb hg_ hnew_
      clear hg_ hnew_
      (first | rw [← Ny266.out] at ho12 | (simp only [Int.reduceToNat] at ho12; rw [← Ny266.out] at ho12))
      have n0_ := Aside0.mk (Kd.R_elder' (ro HO258) (Kd.R_base ho12) hb)
      have n1_ := Aside0.mk (Kd.R_lower (nw ho12 HO258) (below_size (be2 HB GE251 GE252)))
      have n2_ := bb BK251 hb
      have n3_ := bb BK252 hb
      have n4_ := Aside0.mk (below_step (be2 HB GE251 GE252) hb)
      clear HO258
      clear BK251
      clear BK252
      clear HB
      have HO258 := n0_
      have HO268 := n1_
      have BK251 := n2_
      have BK252 := n3_
      have HB := n4_
      clear n0_ n1_ n2_ n3_ n4_
      clear hb ho12
      refine hK.out _ _ ⟨bc0 BK251, bc1 BK251, bc2 BK251, bc3 BK251, bc4 BK251⟩ (fun hHeld => ?_)
      clear hK K
      refine norm_ (a' := ?_) ?_ ?_
      rotate_left
      ·show Act.put _ (some 10) _ = _
       simp only [aP]
       rfl
      refine one_ (i := 6) (N := some 9) (bv 13 0x3ff) rfl rfl (one_of HT_.out (by kernel_rfl)) (by decide) (fun K hK => ?_)
      refine goes_ Try.func95 (by kernel_rfl) rfl #[.agg #[.int .i64 a0_1, .slice A0_2 l0_2.length c0_2, .slice A0_3 l0_3.length c0_3]] (by rfl) rfl rfl ml ?_
      with_reducible refine (spec_l06Copy.calls a0_1 _ _ l0_2 _ _ l0_3 t259 t260 t263 _ ?side1 ?side2 ?side3 ?side4 A3.out).mono ?_
      (case side1 => exact cb HR0_2 HB)
      (case side2 => exact HC0_2.out)
      (case side3 => exact cb HR0_3 HB)
      (case side4 => exact HC0_3.out)
      rintro e w13 ⟨v261, v264, rfl, ho0, ho1, hb⟩
      refine ⟨_, rfl, ?_⟩
      have n0_ := Aside0.mk (Kd.R_elder' (ro HO258) (Kd.R_base ho0) hb)
      have n1_ := Aside0.mk (Kd.R_elder' (ro HO268) (Kd.R_base ho0) hb)
      have n2_ := Aside0.mk (Kd.R_lower (nw (nw ho0 HO258) HO268) (below_size (be2 HB GE251 GE252)))
      have n3_ := Aside0.mk (Kd.R_lower ho1 (below_size (be2 HB GE251 GE252)))
      have n4_ := bb BK251 hb
      have n5_ := bb BK252 hb
      have n6_ := Aside0.mk (below_step (be2 HB GE251 GE252) hb)
      clear HO258
      clear HO268
      clear BK251
      clear BK252
      clear HB
      have HO258 := n0_
      have HO268 := n1_
      have HO262 := n2_
      have HO265 := n3_
      have BK251 := n4_
      have BK252 := n5_
      have HB := n6_
      clear n0_ n1_ n2_ n3_ n4_ n5_ n6_
      (try clear hb)
      (try clear hb2)
      (try clear hk)
      (try clear hi)
      (try clear ho0)
      (try clear ho1)
      refine hK.out _ _ ⟨bc0 BK251, bc1 BK251, bc2 BK251, bc3 BK251, bc4 BK251⟩ (fun hHeld => ?_)
      clear hK K
      refine norm_ (a' := ?_) ?_ ?_
      rotate_left
      ·show Act.put _ (some 9) _ = _
       simp only [aP]
       rfl
      exact norm_ (by simp only [putAll, Act.put, List.setIfInBounds_toArray, List.set_cons_zero, List.set_cons_succ]) (hCont (v254, v257, v261, v264, v267) _ ⟨hHeld, (by (with_reducible repeat (first | apply Kd.R_alloc | apply Kd.R_drewN | apply Kd.R_drew)); exact rm HO258), (by (with_reducible repeat (first | apply Kd.R_alloc | apply Kd.R_drewN | apply Kd.R_drew)); exact rm HO262), (ro HO265), (by (with_reducible repeat (first | apply Kd.R_alloc | apply Kd.R_drewN | apply Kd.R_drew)); exact rm HO268), (bk BK251), (bk BK252), (be2 HB GE251 GE252)⟩)
     skip
     refine Kd.R_lit_step (Kd.int .i64) _ 3 ?hg (N := 10) ?hd (xs := ([] : List Int)) (inner := []) (ok := fun _ => True) (okp := fun _ => True) ?hr ?hp (fun _ hk => hk) trivial (Below.refl _ _) (Nat.le_refl _) (by simp) ?_; (case hd => rfl); (case hg => rfl); (case hr => first | (go_simp; done) | (go_simp; rfl)); (case hp => exact (Reps.none _ _))
     intro v267 w10 ho11 hb hg_ hnew_
     clear hg_ hnew_
     (first | rw [← Ny266.out] at ho11 | (simp only [Int.reduceToNat] at ho11; rw [← Ny266.out] at ho11))
     have n0_ := Aside0.mk (Kd.R_elder' (ro HO255) (Kd.R_base ho11) hb)
     have n1_ := Aside0.mk (Kd.R_lower (nw ho11 HO255) (below_size (be2 HB GE251 GE252)))
     have n2_ := bb BK251 hb
     have n3_ := bb BK252 hb
     have n4_ := Aside0.mk (below_step (be2 HB GE251 GE252) hb)
     clear HO255
     clear BK251
     clear BK252
     clear HB
     have HO255 := n0_
     have HO268 := n1_
     have BK251 := n2_
     have BK252 := n3_
     have HB := n4_
     clear n0_ n1_ n2_ n3_ n4_
     clear hb ho11
     refine hK.out _ _ ⟨bc0 BK251, bc1 BK251, bc2 BK251, bc3 BK251, bc4 BK251⟩ (fun hHeld => ?_)
     clear hK K
     refine norm_ (a' := ?_) ?_ ?_
     rotate_left
     ·show Act.put _ (some 10) _ = _
      simp only [aP]
      rfl
     refine one_ (i := 3) (N := some 6) (bv 13 0x3bf) rfl rfl (one_of HT_.out (by kernel_rfl)) (by decide) (fun K hK => ?_)
     refine Kd.R_append_rows_step (Kd.int .i64) (w0 := w) w.heap.size (by rfl) (.tmp 3) (.tmp 5) 22 3 (.int .i64 0) 8 rfl Try.underlying22 info3 rfl (by decide) (by omega) v254 y253 l0_0 _ _ _ (fun k_ => some k_ ≠ (v267 : Value).ownBlock) (fun _ => False) rfl rfl ?aO ?aR (fun _ _ h => h) (fun _ h => h.elim) ?aF ?aB ?aS ?aL ?_
     (case aR => repeat (first | exact (Kd.C_below HR0_0.out HB.out) | (with_reducible refine Kd.C_alloc ?_ _) | (with_reducible refine Kd.C_drewN ?_ _) | (with_reducible refine Kd.C_drew ?_)))
     (case aB => exact (be2 HB GE251 GE252))
     (case aF => exact (fun k_ hk => Kd.fresh' (Kd.R_lt (ro HO268)) k_ hk))
     (case aO => exact (by (with_reducible repeat (first | apply Kd.R_alloc | apply Kd.R_drewN | apply Kd.R_drew)); exact Kd.R_mono HO255.out (fun _ hk => hk.2)))
     (case aS => exact (below_size (be2 HB GE251 GE252)))
     (case aL => have := LMc2.out; omega)
     intro v257 w12 ho hb hg hat
     rw [← Ny256.out] at ho
     have n0_ := Aside0.mk (blk_grown (g := gb251) (o := .cells #[.slice A0_0 l0_0.length c0_0, .int .i64 a0_1, .slice A0_2 l0_2.length c0_2, .slice A0_3 l0_3.length c0_3, .slice A0_4 l0_4.length c0_4] 27 (0, 0)) (bk BK251) hg (Kd.R_ne HO255.out BK251.out (by decide)))
     have n1_ := Aside0.mk (blk_grown (g := gb252) (o := .cells #[.slice none 0 0, .int .i64 0, .slice none 0 0, .slice none 0 0, .slice none 0 0] 27 (0, 0)) (bk BK252) hg (Kd.R_ne HO255.out BK252.out (by decide)))
     have n2_ := Aside0.mk (Kd.R_after (ok := (fun _ => True)) (ro HO268) hg hat)
     have n3_ := Aside0.mk (hb)
     have n4_ := Aside0.mk (ho)
     clear BK251
     clear BK252
     clear HO268
     clear HB
     clear HO255
     have BK251 := n0_
     have BK252 := n1_
     have HO268 := n2_
     have HB := n3_
     have HO258 := n4_
     clear n0_ n1_ n2_ n3_ n4_
     clear ho hb hg hat
     refine hK.out _ _ ⟨bc0 BK251, bc1 BK251, bc2 BK251, bc3 BK251, bc4 BK251⟩ (fun hHeld => ?_)
     clear hK K
     refine norm_ (a' := ?_) ?_ ?_
     rotate_left
     ·show Act.put _ (some 6) _ = _
      simp only [aP]
      rfl
     refine one_ (i := 6) (N := some 9) (bv 13 0x3ff) rfl rfl (one_of HT_.out (by kernel_rfl)) (by decide) (fun K hK => ?_)
     refine goes_ Try.func95 (by kernel_rfl) rfl #[.agg #[.int .i64 a0_1, .slice A0_2 l0_2.length c0_2, .slice A0_3 l0_3.length c0_3]] (by rfl) rfl rfl ml ?_
     with_reducible refine (spec_l06Copy.calls a0_1 _ _ l0_2 _ _ l0_3 t259 t260 t263 _ ?side1 ?side2 ?side3 ?side4 A3.out).mono ?_
     (case side1 => exact cb HR0_2 HB)
     (case side2 => exact HC0_2.out)
     (case side3 => exact cb HR0_3 HB)
     (case side4 => exact HC0_3.out)
     rintro e w13 ⟨v261, v264, rfl, ho0, ho1, hb⟩
     refine ⟨_, rfl, ?_⟩
     have n0_ := Aside0.mk (Kd.R_elder' (ro HO268) (Kd.R_base ho0) hb)
     have n1_ := Aside0.mk (Kd.R_elder' (ro HO258) (Kd.R_base ho0) hb)
     have n2_ := Aside0.mk (Kd.R_lower (nw (nw ho0 HO268) HO258) (below_size (be2 HB GE251 GE252)))
     have n3_ := Aside0.mk (Kd.R_lower ho1 (below_size (be2 HB GE251 GE252)))
     have n4_ := bb BK251 hb
     have n5_ := bb BK252 hb
     have n6_ := Aside0.mk (below_step (be2 HB GE251 GE252) hb)
     clear HO268
     clear HO258
     clear BK251
     clear BK252
     clear HB
     have HO268 := n0_
     have HO258 := n1_
     have HO262 := n2_
     have HO265 := n3_
     have BK251 := n4_
     have BK252 := n5_
     have HB := n6_
     clear n0_ n1_ n2_ n3_ n4_ n5_ n6_
     (try clear hb)
     (try clear hb2)
     (try clear hk)
     (try clear hi)
     (try clear ho0)
     (try clear ho1)
     refine hK.out _ _ ⟨bc0 BK251, bc1 BK251, bc2 BK251, bc3 BK251, bc4 BK251⟩ (fun hHeld => ?_)
     clear hK K
     refine norm_ (a' := ?_) ?_ ?_
     rotate_left
     ·show Act.put _ (some 9) _ = _
      simp only [aP]
      rfl
     exact norm_ (by simp only [putAll, Act.put, List.setIfInBounds_toArray, List.set_cons_zero, List.set_cons_succ]) (hCont (v254, v257, v261, v264, v267) _ ⟨hHeld, (by (with_reducible repeat (first | apply Kd.R_alloc | apply Kd.R_drewN | apply Kd.R_drew)); exact rm HO258), (by (with_reducible repeat (first | apply Kd.R_alloc | apply Kd.R_drewN | apply Kd.R_drew)); exact rm HO262), (ro HO265), (by (with_reducible repeat (first | apply Kd.R_alloc | apply Kd.R_drewN | apply Kd.R_drew)); exact rm HO268), (bk BK251), (bk BK252), (be2 HB GE251 GE252)⟩)
    skip
    refine Kd.R_lit_step (Kd.int .i64) _ 3 ?hg (N := 10) ?hd (xs := ([] : List Int)) (inner := []) (ok := fun _ => True) (okp := fun _ => True) ?hr ?hp (fun _ hk => hk) trivial (Below.refl _ _) (Nat.le_refl _) (by simp) ?_; (case hd => rfl); (case hg => rfl); (case hr => first | (go_simp; done) | (go_simp; rfl)); (case hp => exact (Reps.none _ _))
    intro v267 w8 ho9 hb hg_ hnew_
    clear hg_ hnew_
    (first | rw [← Ny266.out] at ho9 | (simp only [Int.reduceToNat] at ho9; rw [← Ny266.out] at ho9))
    have n0_ := Aside0.mk (Kd.R_lower ho9 (below_size (be2 HB GE251 GE252)))
    have n1_ := bb BK251 hb
    have n2_ := bb BK252 hb
    have n3_ := Aside0.mk (below_step (be2 HB GE251 GE252) hb)
    clear BK251
    clear BK252
    clear HB
    have HO268 := n0_
    have BK251 := n1_
    have BK252 := n2_
    have HB := n3_
    clear n0_ n1_ n2_ n3_
    clear hb ho9
    refine hK.out _ _ ⟨bc0 BK251, bc1 BK251, bc2 BK251, bc3 BK251, bc4 BK251⟩ (fun hHeld => ?_)
    clear hK K
    refine norm_ (a' := ?_) ?_ ?_
    rotate_left
    ·show Act.put _ (some 10) _ = _
     simp only [aP]
     rfl
    refine one_ (i := 0) (N := some 3) (bv 13 0x3b7) rfl rfl (one_of HT_.out (by kernel_rfl)) (by decide) (fun K hK => ?_)
    refine Kd.R_lit_step (Kd.int .i64) _ 3 ?hg (N := 3) ?hd (xs := ([] : List Int)) (inner := []) (ok := fun _ => True) (okp := fun _ => True) ?hr ?hp (fun _ hk => hk) trivial (Below.refl _ _) (Nat.le_refl _) (by simp) ?_; (case hd => rfl); (case hg => rfl); (case hr => first | (go_simp; done) | (go_simp; rfl)); (case hp => exact (Reps.none _ _))
    intro v254 w10 ho11 hb hg_ hnew_
    clear hg_ hnew_
    (first | rw [← Ny253.out] at ho11 | (simp only [Int.reduceToNat] at ho11; rw [← Ny253.out] at ho11))
    have n0_ := Aside0.mk (Kd.R_elder' (ro HO268) (Kd.R_base ho11) hb)
    have n1_ := Aside0.mk (Kd.R_lower (nw ho11 HO268) (below_size (be2 HB GE251 GE252)))
    have n2_ := bb BK251 hb
    have n3_ := bb BK252 hb
    have n4_ := Aside0.mk (below_step (be2 HB GE251 GE252) hb)
    clear HO268
    clear BK251
    clear BK252
    clear HB
    have HO268 := n0_
    have HO255 := n1_
    have BK251 := n2_
    have BK252 := n3_
    have HB := n4_
    clear n0_ n1_ n2_ n3_ n4_
    clear hb ho11
    refine hK.out _ _ ⟨bc0 BK251, bc1 BK251, bc2 BK251, bc3 BK251, bc4 BK251⟩ (fun hHeld => ?_)
    clear hK K
    refine norm_ (a' := ?_) ?_ ?_
    rotate_left
    ·show Act.put _ (some 3) _ = _
     simp only [aP]
     rfl
    refine one_ (i := 3) (N := some 6) (bv 13 0x3bf) rfl rfl (one_of HT_.out (by kernel_rfl)) (by decide) (fun K hK => ?_)
    refine Kd.R_append_rows_step (Kd.int .i64) (w0 := w) w.heap.size (by rfl) (.tmp 3) (.tmp 5) 22 3 (.int .i64 0) 8 rfl Try.underlying22 info3 rfl (by decide) (by omega) v254 y253 l0_0 _ _ _ (fun k_ => some k_ ≠ (v267 : Value).ownBlock) (fun _ => False) rfl rfl ?aO ?aR (fun _ _ h => h) (fun _ h => h.elim) ?aF ?aB ?aS ?aL ?_
    (case aR => repeat (first | exact (Kd.C_below HR0_0.out HB.out) | (with_reducible refine Kd.C_alloc ?_ _) | (with_reducible refine Kd.C_drewN ?_ _) | (with_reducible refine Kd.C_drew ?_)))
    (case aB => exact (be2 HB GE251 GE252))
    (case aF => exact (fun k_ hk => Kd.fresh' (Kd.R_lt (ro HO268)) k_ hk))
    (case aO => exact (by (with_reducible repeat (first | apply Kd.R_alloc | apply Kd.R_drewN | apply Kd.R_drew)); exact Kd.R_mono HO255.out (fun _ hk => hk.2)))
    (case aS => exact (below_size (be2 HB GE251 GE252)))
    (case aL => have := LMc2.out; omega)
    intro v257 w12 ho hb hg hat
    rw [← Ny256.out] at ho
    have n0_ := Aside0.mk (blk_grown (g := gb251) (o := .cells #[.slice A0_0 l0_0.length c0_0, .int .i64 a0_1, .slice A0_2 l0_2.length c0_2, .slice A0_3 l0_3.length c0_3, .slice A0_4 l0_4.length c0_4] 27 (0, 0)) (bk BK251) hg (Kd.R_ne HO255.out BK251.out (by decide)))
    have n1_ := Aside0.mk (blk_grown (g := gb252) (o := .cells #[.slice none 0 0, .int .i64 0, .slice none 0 0, .slice none 0 0, .slice none 0 0] 27 (0, 0)) (bk BK252) hg (Kd.R_ne HO255.out BK252.out (by decide)))
    have n2_ := Aside0.mk (Kd.R_after (ok := (fun _ => True)) (ro HO268) hg hat)
    have n3_ := Aside0.mk (hb)
    have n4_ := Aside0.mk (ho)
    clear BK251
    clear BK252
    clear HO268
    clear HB
    clear HO255
    have BK251 := n0_
    have BK252 := n1_
    have HO268 := n2_
    have HB := n3_
    have HO258 := n4_
    clear n0_ n1_ n2_ n3_ n4_
    clear ho hb hg hat
    refine hK.out _ _ ⟨bc0 BK251, bc1 BK251, bc2 BK251, bc3 BK251, bc4 BK251⟩ (fun hHeld => ?_)
    clear hK K
    refine norm_ (a' := ?_) ?_ ?_
    rotate_left
    ·show Act.put _ (some 6) _ = _
     simp only [aP]
     rfl
    refine one_ (i := 6) (N := some 9) (bv 13 0x3ff) rfl rfl (one_of HT_.out (by kernel_rfl)) (by decide) (fun K hK => ?_)
    refine goes_ Try.func95 (by kernel_rfl) rfl #[.agg #[.int .i64 a0_1, .slice A0_2 l0_2.length c0_2, .slice A0_3 l0_3.length c0_3]] (by rfl) rfl rfl ml ?_
    with_reducible refine (spec_l06Copy.calls a0_1 _ _ l0_2 _ _ l0_3 t259 t260 t263 _ ?side1 ?side2 ?side3 ?side4 A3.out).mono ?_
    (case side1 => exact cb HR0_2 HB)
    (case side2 => exact HC0_2.out)
    (case side3 => exact cb HR0_3 HB)
    (case side4 => exact HC0_3.out)
    rintro e w13 ⟨v261, v264, rfl, ho0, ho1, hb⟩
    refine ⟨_, rfl, ?_⟩
    have n0_ := Aside0.mk (Kd.R_elder' (ro HO268) (Kd.R_base ho0) hb)
    have n1_ := Aside0.mk (Kd.R_elder' (ro HO258) (Kd.R_base ho0) hb)
    have n2_ := Aside0.mk (Kd.R_lower (nw (nw ho0 HO268) HO258) (below_size (be2 HB GE251 GE252)))
    have n3_ := Aside0.mk (Kd.R_lower ho1 (below_size (be2 HB GE251 GE252)))
    have n4_ := bb BK251 hb
    have n5_ := bb BK252 hb
    have n6_ := Aside0.mk (below_step (be2 HB GE251 GE252) hb)
    clear HO268
    clear HO258
    clear BK251
    clear BK252
    clear HB
    have HO268 := n0_
    have HO258 := n1_
    have HO262 := n2_
    have HO265 := n3_
    have BK251 := n4_
    have BK252 := n5_
    have HB := n6_
    clear n0_ n1_ n2_ n3_ n4_ n5_ n6_
    (try clear hb)
    (try clear hb2)
    (try clear hk)
    (try clear hi)
    (try clear ho0)
    (try clear ho1)
    refine hK.out _ _ ⟨bc0 BK251, bc1 BK251, bc2 BK251, bc3 BK251, bc4 BK251⟩ (fun hHeld => ?_)
    clear hK K
    refine norm_ (a' := ?_) ?_ ?_
    rotate_left
    ·show Act.put _ (some 9) _ = _
     simp only [aP]
     rfl
    exact norm_ (by simp only [putAll, Act.put, List.setIfInBounds_toArray, List.set_cons_zero, List.set_cons_succ]) (hCont (v254, v257, v261, v264, v267) _ ⟨hHeld, (by (with_reducible repeat (first | apply Kd.R_alloc | apply Kd.R_drewN | apply Kd.R_drew)); exact rm HO258), (by (with_reducible repeat (first | apply Kd.R_alloc | apply Kd.R_drewN | apply Kd.R_drew)); exact rm HO262), (ro HO265), (by (with_reducible repeat (first | apply Kd.R_alloc | apply Kd.R_drewN | apply Kd.R_drew)); exact rm HO268), (bk BK251), (bk BK252), (be2 HB GE251 GE252)⟩)
   rintro ⟨v254, v257, v261, v264, v267⟩ w14 ⟨hS_, h0_, h1_, h2_, h3_, h4_, h5_, h6_⟩
   have n0_ : Aside0 (Kd.R (Kd.int .i64) 3 w14 w.heap.size (fun k_ => some k_ ≠ (v261 : Value).ownBlock ∧ some k_ ≠ (v267 : Value).ownBlock) v257 y256) := ⟨h0_⟩
   have n1_ : Aside0 (Kd.R (Kd.int .i64) 3 w14 w.heap.size (fun k_ => some k_ ≠ (v257 : Value).ownBlock ∧ some k_ ≠ (v267 : Value).ownBlock) v261 t260) := ⟨h1_⟩
   have n2_ : Aside0 (Kd.R k70 70 w14 w.heap.size (fun _ => True) v264 t263) := ⟨h2_⟩
   have n3_ : Aside0 (Kd.R (Kd.int .i64) 3 w14 w.heap.size (fun k_ => some k_ ≠ (v257 : Value).ownBlock ∧ some k_ ≠ (v261 : Value).ownBlock) v267 y266) := ⟨h3_⟩
   have n4_ : Aside0 (w14.heap[gb251]? = some (.cells #[.slice A0_0 l0_0.length c0_0, .int .i64 a0_1, .slice A0_2 l0_2.length c0_2, .slice A0_3 l0_3.length c0_3, .slice A0_4 l0_4.length c0_4] 27 (0, 0))) := ⟨h4_⟩
   have n5_ : Aside0 (w14.heap[gb252]? = some (.cells #[.slice none 0 0, .int .i64 0, .slice none 0 0, .slice none 0 0, .slice none 0 0] 27 (0, 0))) := ⟨h5_⟩
   have n6_ : Aside0 (Below w.heap.size w w14) := ⟨h6_⟩
   clear BK251
   clear BK252
   clear HB
   clear h0_ h1_ h2_ h3_ h4_ h5_ h6_
   have HO258 := n0_
   have HO262 := n1_
   have HO265 := n2_
   have HO268 := n3_
   have BK251 := n4_
   have BK252 := n5_
   have HB := n6_
   clear n0_ n1_ n2_ n3_ n4_ n5_ n6_
   have hHeld : w14.cell? ⟨gb251, 0, none⟩ = some (.slice A0_0 l0_0.length c0_0) ∧ w14.cell? ⟨gb251, 1, none⟩ = some (.int .i64 a0_1) ∧ w14.cell? ⟨gb251, 2, none⟩ = some (.slice A0_2 l0_2.length c0_2) ∧ w14.cell? ⟨gb251, 3, none⟩ = some (.slice A0_3 l0_3.length c0_3) ∧ w14.cell? ⟨gb251, 4, none⟩ = some (.slice A0_4 l0_4.length c0_4) := hS_
   refine norm_ (a' := ?_) ?_ ?_
   rotate_left
   ·simp only [putAll, Act.put, List.setIfInBounds_toArray, List.set_cons_zero, List.set_cons_succ]
    rfl
   refine one_ (i := 10) (N := some 13) (bv 13 0x7ff) rfl rfl (one_of HT_.out (by kernel_rfl)) (by decide) (fun K hK => ?_)
   refine Kd.R_append_rows_step (Kd.int .i64) (w0 := w) w.heap.size (by rfl) (.tmp 10) (.tmp 12) 22 3 (.int .i64 0) 8 rfl Try.underlying22 info3 rfl (by decide) (by omega) v267 y266 l0_4 _ _ _ (fun k_ => some k_ ≠ (v257 : Value).ownBlock ∧ some k_ ≠ (v261 : Value).ownBlock) (fun _ => False) rfl rfl ?aO ?aR (fun _ _ h => h) (fun _ h => h.elim) ?aF ?aB ?aS ?aL ?_
   (case aR => repeat (first | exact (Kd.C_below HR0_4.out HB.out) | (with_reducible refine Kd.C_alloc ?_ _) | (with_reducible refine Kd.C_drewN ?_ _) | (with_reducible refine Kd.C_drew ?_)))
   (case aB => exact (be2 HB GE251 GE252))
   (case aF => exact (fun k_ hk => ⟨Kd.fresh' (Kd.R_lt (ro HO258)) k_ hk, Kd.fresh' (Kd.R_lt (ro HO262)) k_ hk⟩))
   (case aO => exact (ro HO268))
   (case aS => exact (below_size (be2 HB GE251 GE252)))
   (case aL => have := LMc4.out; omega)
   intro v270 w15 ho hb hg hat
   rw [← Ny269.out] at ho
   have n0_ := Aside0.mk (blk_grown (g := gb251) (o := .cells #[.slice A0_0 l0_0.length c0_0, .int .i64 a0_1, .slice A0_2 l0_2.length c0_2, .slice A0_3 l0_3.length c0_3, .slice A0_4 l0_4.length c0_4] 27 (0, 0)) (bk BK251) hg (Kd.R_ne HO268.out BK251.out (by decide)))
   have n1_ := Aside0.mk (blk_grown (g := gb252) (o := .cells #[.slice none 0 0, .int .i64 0, .slice none 0 0, .slice none 0 0, .slice none 0 0] 27 (0, 0)) (bk BK252) hg (Kd.R_ne HO268.out BK252.out (by decide)))
   have n2_ := Aside0.mk (Kd.R_after (ok := (fun k_ => some k_ ≠ (v261 : Value).ownBlock)) (ro HO258) hg hat)
   have n3_ := Aside0.mk (Kd.R_after (ok := (fun k_ => some k_ ≠ (v257 : Value).ownBlock)) (ro HO262) hg hat)
   have n4_ := Aside0.mk (Kd.R_over' (ro HO265) (Kd.R_typed (ro HO268)) (by decide) hg)
   have n5_ := Aside0.mk (hb)
   have n6_ := Aside0.mk (ho)
   clear BK251
   clear BK252
   clear HO258
   clear HO262
   clear HO265
   clear HB
   clear HO268
   have BK251 := n0_
   have BK252 := n1_
   have HO258 := n2_
   have HO262 := n3_
   have HO265 := n4_
   have HB := n5_
   have HO271 := n6_
   clear n0_ n1_ n2_ n3_ n4_ n5_ n6_
   clear ho hb hg hat
   obtain ⟨Ao16, co16, eo16⟩ := Kd.R_slice HO271.out
   (first | subst eo16 | (injection eo16 with f1_ f2_ f3_; have f4_ := f1_.symm; have f5_ := f3_.symm; clear f1_ f2_ f3_; subst f4_; subst f5_))
   obtain ⟨Ao17, co17, eo17⟩ := Kd.R_slice HO265.out
   (first | subst eo17 | (injection eo17 with f1_ f2_ f3_; have f4_ := f1_.symm; have f5_ := f3_.symm; clear f1_ f2_ f3_; subst f4_; subst f5_))
   obtain ⟨Ao18, co18, eo18⟩ := Kd.R_slice HO262.out
   (first | subst eo18 | (injection eo18 with f1_ f2_ f3_; have f4_ := f1_.symm; have f5_ := f3_.symm; clear f1_ f2_ f3_; subst f4_; subst f5_))
   obtain ⟨Ao19, co19, eo19⟩ := Kd.R_slice HO258.out
   (first | subst eo19 | (injection eo19 with f1_ f2_ f3_; have f4_ := f1_.symm; have f5_ := f3_.symm; clear f1_ f2_ f3_; subst f4_; subst f5_))
   refine hK.out _ _ ⟨bc0 BK251, bc1 BK251, bc2 BK251, bc3 BK251, bc4 BK251⟩ (fun hHeld => ?_)
   clear hK K
   refine norm_ (a' := ?_) ?_ ?_
   rotate_left
   ·show Act.put _ (some 13) _ = _
    simp only [aP]
    rfl
   refine py HT_ 11 14 (bv 13 0xfff) ?_
   refine one_ (i := 12) (N := none) (bv 13 0x1fff) rfl rfl (one_of HT_.out (by kernel_rfl)) (by decide) (fun K hK => ?_)
   have hs20 : w15.cell? ⟨gb252, 0, none⟩ = some (.slice none 0 0) := bc0 BK252
   have hfs20 := blk_frozen BK252.out 0
   have hns20_0 := NB251_252.out
   have hms20_0 := NB252_251.out
   have hs21 : w15.cell? ⟨gb252, 1, none⟩ = some (.int .i64 0) := bc1 BK252
   have hfs21 := blk_frozen BK252.out 1
   have hns21_0 := NB251_252.out
   have hms21_0 := NB252_251.out
   have hs22 : w15.cell? ⟨gb252, 2, none⟩ = some (.slice none 0 0) := bc2 BK252
   have hfs22 := blk_frozen BK252.out 2
   have hns22_0 := NB251_252.out
   have hms22_0 := NB252_251.out
   have hs23 : w15.cell? ⟨gb252, 3, none⟩ = some (.slice none 0 0) := bc3 BK252
   have hfs23 := blk_frozen BK252.out 3
   have hns23_0 := NB251_252.out
   have hms23_0 := NB252_251.out
   have hs24 : w15.cell? ⟨gb252, 4, none⟩ = some (.slice none 0 0) := bc4 BK252
   have hfs24 := blk_frozen BK252.out 4
   have hns24_0 := NB251_252.out
   have hms24_0 := NB252_251.out
   refine skip_ (w1 := ?_) (by rfl) rfl ?_ ?_
   rotate_left
   ·go_simp
    rfl
   refine hK.out _ _ ⟨((cell_far (p := ⟨gb252, _, none⟩) NB251_252.out _).trans (((cell_far (p := ⟨gb252, _, none⟩) NB251_252.out _).trans (((cell_far (p := ⟨gb252, _, none⟩) NB251_252.out _).trans (((cell_far (p := ⟨gb252, _, none⟩) NB251_252.out _).trans (((cell_far (p := ⟨gb252, _, none⟩) NB251_252.out _).trans (hHeld.1)))))))))), ((cell_far (p := ⟨gb252, _, none⟩) NB251_252.out _).trans (((cell_far (p := ⟨gb252, _, none⟩) NB251_252.out _).trans (((cell_far (p := ⟨gb252, _, none⟩) NB251_252.out _).trans (((cell_far (p := ⟨gb252, _, none⟩) NB251_252.out _).trans (((cell_far (p := ⟨gb252, _, none⟩) NB251_252.out _).trans (hHeld.2.1)))))))))), ((cell_far (p := ⟨gb252, _, none⟩) NB251_252.out _).trans (((cell_far (p := ⟨gb252, _, none⟩) NB251_252.out _).trans (((cell_far (p := ⟨gb252, _, none⟩) NB251_252.out _).trans (((cell_far (p := ⟨gb252, _, none⟩) NB251_252.out _).trans (((cell_far (p := ⟨gb252, _, none⟩) NB251_252.out _).trans (hHeld.2.2.1)))))))))), ((cell_far (p := ⟨gb252, _, none⟩) NB251_252.out _).trans (((cell_far (p := ⟨gb252, _, none⟩) NB251_252.out _).trans (((cell_far (p := ⟨gb252, _, none⟩) NB251_252.out _).trans (((cell_far (p := ⟨gb252, _, none⟩) NB251_252.out _).trans (((cell_far (p := ⟨gb252, _, none⟩) NB251_252.out _).trans (hHeld.2.2.2.1)))))))))), ((cell_far (p := ⟨gb252, _, none⟩) NB251_252.out _).trans (((cell_far (p := ⟨gb252, _, none⟩) NB251_252.out _).trans (((cell_far (p := ⟨gb252, _, none⟩) NB251_252.out _).trans (((cell_far (p := ⟨gb252, _, none⟩) NB251_252.out _).trans (((cell_far (p := ⟨gb252, _, none⟩) NB251_252.out _).trans (hHeld.2.2.2.2))))))))))⟩ (fun hHeld => ?_)
   clear hK K
   refine done_ (done_of HT_.out (by kernel_rfl)) ?_
   try go_wp2
   refine bodyPost_ret (results_cell_row rfl _ _ gb252 27 #[.slice Ao19 y256.length co19, .int .i64 t259, .slice Ao18 t260.length co18, .slice Ao17 t263.length co17, .slice Ao16 y269.length co16] (0, 0) _ rfl (by (with_reducible repeat (first | refine blk_drewN ?_ _ | refine blk_drew ?_ | refine blk_alloc ?_ _)); refine blk_put (cs := #[.slice Ao19 y256.length co19, .int .i64 t259, .slice Ao18 t260.length co18, .slice Ao17 t263.length co17, .slice none 0 0]) ?_ 4 _ rfl; (with_reducible repeat (first | refine blk_drewN ?_ _ | refine blk_drew ?_ | refine blk_alloc ?_ _)); refine blk_put (cs := #[.slice Ao19 y256.length co19, .int .i64 t259, .slice Ao18 t260.length co18, .slice none 0 0, .slice none 0 0]) ?_ 3 _ rfl; (with_reducible repeat (first | refine blk_drewN ?_ _ | refine blk_drew ?_ | refine blk_alloc ?_ _)); refine blk_put (cs := #[.slice Ao19 y256.length co19, .int .i64 t259, .slice none 0 0, .slice none 0 0, .slice none 0 0]) ?_ 2 _ rfl; (with_reducible repeat (first | refine blk_drewN ?_ _ | refine blk_drew ?_ | refine blk_alloc ?_ _)); refine blk_put (cs := #[.slice Ao19 y256.length co19, .int .i64 0, .slice none 0 0, .slice none 0 0, .slice none 0 0]) ?_ 1 _ rfl; (with_reducible repeat (first | refine blk_drewN ?_ _ | refine blk_drew ?_ | refine blk_alloc ?_ _)); refine blk_put (cs := #[.slice none 0 0, .int .i64 0, .slice none 0 0, .slice none 0 0, .slice none 0 0]) ?_ 0 _ rfl; (with_reducible repeat (first | refine blk_drewN ?_ _ | refine blk_drew ?_ | refine blk_alloc ?_ _)); exact BK252.out) Try.underlying27 rfl (by kernel_rfl)) rfl ?_
   exact ⟨_, _, _, _, er, by (with_reducible repeat (first | apply Kd.R_alloc | apply Kd.R_drewN | apply Kd.R_drew)); exact Kd.R_mono (Kd.R_far (p := ⟨gb252, 4, none⟩) (Kd.R_far (p := ⟨gb252, 3, none⟩) (Kd.R_far (p := ⟨gb252, 2, none⟩) (Kd.R_far (p := ⟨gb252, 1, none⟩) (Kd.R_far (p := ⟨gb252, 0, none⟩) (Kd.R_types HO258.out BK252.out (by decide)) (fun _ hk => hk.2) (.slice Ao19 y256.length co19)) (fun _ hk => hk.2) (.int .i64 t259)) (fun _ hk => hk.2) (.slice Ao18 t260.length co18)) (fun _ hk => hk.2) (.slice Ao17 t263.length co17)) (fun _ hk => hk.2) (.slice Ao16 y269.length co16)) (fun _ hk => ⟨hk.1.1, hk.1.2⟩), by (with_reducible repeat (first | apply Kd.R_alloc | apply Kd.R_drewN | apply Kd.R_drew)); exact Kd.R_mono (Kd.R_far (p := ⟨gb252, 4, none⟩) (Kd.R_far (p := ⟨gb252, 3, none⟩) (Kd.R_far (p := ⟨gb252, 2, none⟩) (Kd.R_far (p := ⟨gb252, 1, none⟩) (Kd.R_far (p := ⟨gb252, 0, none⟩) (Kd.R_types HO262.out BK252.out (by decide)) (fun _ hk => hk.2) (.slice Ao19 y256.length co19)) (fun _ hk => hk.2) (.int .i64 t259)) (fun _ hk => hk.2) (.slice Ao18 t260.length co18)) (fun _ hk => hk.2) (.slice Ao17 t263.length co17)) (fun _ hk => hk.2) (.slice Ao16 y269.length co16)) (fun _ hk => ⟨hk.1.1, hk.1.2⟩), by (with_reducible repeat (first | apply Kd.R_alloc | apply Kd.R_drewN | apply Kd.R_drew)); exact Kd.R_mono (Kd.R_far (p := ⟨gb252, 4, none⟩) (Kd.R_far (p := ⟨gb252, 3, none⟩) (Kd.R_far (p := ⟨gb252, 2, none⟩) (Kd.R_far (p := ⟨gb252, 1, none⟩) (Kd.R_far (p := ⟨gb252, 0, none⟩) (Kd.R_types HO265.out BK252.out (by decide)) (fun _ hk => hk.2) (.slice Ao19 y256.length co19)) (fun _ hk => hk.2) (.int .i64 t259)) (fun _ hk => hk.2) (.slice Ao18 t260.length co18)) (fun _ hk => hk.2) (.slice Ao17 t263.length co17)) (fun _ hk => hk.2) (.slice Ao16 y269.length co16)) (fun _ hk => trivial), by (with_reducible repeat (first | apply Kd.R_alloc | apply Kd.R_drewN | apply Kd.R_drew)); exact Kd.R_mono (Kd.R_far (p := ⟨gb252, 4, none⟩) (Kd.R_far (p := ⟨gb252, 3, none⟩) (Kd.R_far (p := ⟨gb252, 2, none⟩) (Kd.R_far (p := ⟨gb252, 1, none⟩) (Kd.R_far (p := ⟨gb252, 0, none⟩) (Kd.R_types HO271.out BK252.out (by decide)) (fun _ hk => hk.2) (.slice Ao19 y256.length co19)) (fun _ hk => hk.2) (.int .i64 t259)) (fun _ hk => hk.2) (.slice Ao18 t260.length co18)) (fun _ hk => hk.2) (.slice Ao17 t263.length co17)) (fun _ hk => hk.2) (.slice Ao16 y269.length co16)) (fun _ hk => ⟨hk.1.1, hk.1.2⟩), be2 HB GE251 GE252⟩
  rw [if_neg c4] at H
  exact absurd H (by simp)
 rw [if_neg c2] at H
 exact absurd H (by simp)

/-! ### spec_Retire: function 77 -/
def spec_Retire.f (k : Nat) (a0_0 : Int) (l0_1 : List Int) (l0_2 : List (S70)) (a1 : Int) : Option (Int × List Int × (List (S70)) × Bool) := (spec_AgesOk.f k a0_0 l0_1 l0_2).bind fun t274 => (if t274 = true then ((spec_l06Node.f k l0_2 a1).bind fun t275 => (if t275 = true then (some (0, ([] : List Int), ([] : List (S70)), false)) else (if (l0_2.length : Int) = 100 then (some (0, ([] : List Int), ([] : List (S70)), false)) else ((spec_l06Copy.f a0_0 l0_1 l0_2).bind fun bt276 => (if bt276.2.2.length < 8796093022208 then (some (bt276.1, bt276.2.1, (bt276.2.2 ++ [(⟨a1, a0_0⟩ : S70)]), true)) else (none)))))) else (some (0, ([] : List Int), ([] : List (S70)), false)))
theorem spec_Retire.mono : ∀ a0 a1 a2 a3 k, LeO (spec_Retire.f k a0 a1 a2 a3) (spec_Retire.f (k + 1) a0 a1 a2 a3) := by
 intro a0 a1 a2 a3 k
 unfold spec_Retire.f
 repeat' first
   | (with_reducible exact spec_AgesOk.mono _ _ _ _)
   | (with_reducible exact spec_l06Node.mono _ _ _)
   | (with_reducible exact LeO.refl _)
   | (with_reducible exact LeO.none _)
   | (with_reducible refine LeO.ite ?_ ?_)
   | (with_reducible refine LeO.bind ?_ (fun _ => ?_))
   | exact spec_AgesOk.mono _ _ _ _
   | exact spec_l06Node.mono _ _ _
   | exact LeO.none _
   | refine LeO.ite ?_ ?_
   | refine LeO.bind ?_ (fun _ => ?_)
set_option maxHeartbeats 8000000 in
set_option maxRecDepth 100000 in
theorem spec_Retire.calls (k : Nat) (a0_0 : Int) (A0_1 : Option Addr) (c0_1 : Nat) (l0_1 : List Int) (A0_2 : Option Addr) (c0_2 : Nat) (l0_2 : List (S70)) (a1 : Int) (r1 : Int) (r2 : List Int) (r3 : List (S70)) (r4 : Bool) (w : World) (hr0_1 : Kd.C (Kd.int .i64) w A0_1 l0_1.length l0_1) (hc0_1 : l0_1.length ≤ c0_1) (hr0_2 : Kd.C k70 w A0_2 l0_2.length l0_2) (hc0_2 : l0_2.length ≤ c0_2) (h : spec_Retire.f k a0_0 l0_1 l0_2 a1 = some (r1, r2, r3, r4)) :
  Calls Try.prog 77 #[.agg #[.int .i64 a0_0, .slice A0_1 l0_1.length c0_1, .slice A0_2 l0_2.length c0_2], .int .i64 a1] w fun e w' => ∃ v1_ v2_ : Value, e = .returned (.tuple #[.agg #[.int .i64 r1, v1_, v2_], .bool r4]) ∧ Kd.R (Kd.int .i64) 3 w' w.heap.size (fun _ => True) v1_ r2 ∧ Kd.R k70 70 w' w.heap.size (fun _ => True) v2_ r3 ∧ Below w.heap.size w w' := by
 have hu25 := Try.underlying25
 have hu70 := Try.underlying70
 have HR0_1 := Aside0.mk hr0_1
 have HC0_1 := Aside0.mk hc0_1
 clear hr0_1 hc0_1
 have HR0_2 := Aside0.mk hr0_2
 have HC0_2 := Aside0.mk hc0_2
 clear hr0_2 hc0_2
 have HB := Aside0.mk (Below.refl w.heap.size w)
 have H : ((spec_AgesOk.f k a0_0 l0_1 l0_2).bind fun t274 => (if t274 = true then ((spec_l06Node.f k l0_2 a1).bind fun t275 => (if t275 = true then (some (0, ([] : List Int), ([] : List (S70)), false)) else (if (l0_2.length : Int) = 100 then (some (0, ([] : List Int), ([] : List (S70)), false)) else ((spec_l06Copy.f a0_0 l0_1 l0_2).bind fun bt276 => (if bt276.2.2.length < 8796093022208 then (some (bt276.1, bt276.2.1, (bt276.2.2 ++ [(⟨a1, a0_0⟩ : S70)]), true)) else (none)))))) else (some (0, ([] : List Int), ([] : List (S70)), false)))) = some (r1, r2, r3, r4) := h
 clear h
 replace H := Option.bind_eq_some_iff.mp H
 obtain ⟨t274, A30, H⟩ := H
 replace H : (if t274 = true then ((spec_l06Node.f k l0_2 a1).bind fun t275 => (if t275 = true then (some (0, ([] : List Int), ([] : List (S70)), false)) else (if (l0_2.length : Int) = 100 then (some (0, ([] : List Int), ([] : List (S70)), false)) else ((spec_l06Copy.f a0_0 l0_1 l0_2).bind fun bt276 => (if bt276.2.2.length < 8796093022208 then (some (bt276.1, bt276.2.1, (bt276.2.2 ++ [(⟨a1, a0_0⟩ : S70)]), true)) else (none)))))) else (some (0, ([] : List Int), ([] : List (S70)), false))) = some (r1, r2, r3, r4) := H
 have A3 := Aside0.mk A30
 clear A30
 by_cases c4 : t274 = true
 ·subst c4
  have H1 : ((spec_l06Node.f k l0_2 a1).bind fun t275 => (if t275 = true then (some (0, ([] : List Int), ([] : List (S70)), false)) else (if (l0_2.length : Int) = 100 then (some (0, ([] : List Int), ([] : List (S70)), false)) else ((spec_l06Copy.f a0_0 l0_1 l0_2).bind fun bt276 => (if bt276.2.2.length < 8796093022208 then (some (bt276.1, bt276.2.1, (bt276.2.2 ++ [(⟨a1, a0_0⟩ : S70)]), true)) else (none)))))) = some (r1, r2, r3, r4) := by rw [if_pos rfl] at H; exact H
  clear H
  have H := H1
  clear H1
  replace H := Option.bind_eq_some_iff.mp H
  obtain ⟨t275, A50, H⟩ := H
  replace H : (if t275 = true then (some (0, ([] : List Int), ([] : List (S70)), false)) else (if (l0_2.length : Int) = 100 then (some (0, ([] : List Int), ([] : List (S70)), false)) else ((spec_l06Copy.f a0_0 l0_1 l0_2).bind fun bt276 => (if bt276.2.2.length < 8796093022208 then (some (bt276.1, bt276.2.1, (bt276.2.2 ++ [(⟨a1, a0_0⟩ : S70)]), true)) else (none))))) = some (r1, r2, r3, r4) := H
  have A5 := Aside0.mk A50
  clear A50
  by_cases c6 : t275 = true
  ·subst c6
   have H1 : (some (0, ([] : List Int), ([] : List (S70)), false)) = some (r1, r2, r3, r4) := by rw [if_pos rfl] at H; exact H
   clear H
   have H := H1
   clear H1
   simp only [Option.some.injEq, Prod.mk.injEq] at H
   obtain ⟨rfl, rfl, rfl, rfl⟩ := H
   go_enter Try.func77, Try.ntmps77
   go_wp2_with (first | ((with_reducible refine gate_dst (N := 2) rfl ?_); (try (refine gate_guard (by rfl) ?_; dsimp only)); refine bx 2 #[.int .i64 a0_0, .slice A0_1 l0_1.length c0_1, .slice A0_2 l0_2.length c0_2] 25 ?_; intro gb272 hg w7 hbox hb; have BK272 := am hbox; have GW272 := gs0 hg HB; have GE272 := gs0 hg HB; replace HB := s0 HB hb; clear hb hbox hg) | ((with_reducible refine gate_dst (N := 4) rfl ?_); (try (refine gate_guard (by rfl) ?_; dsimp only)); refine bx 4 #[.int .i64 0, .slice none 0 0, .slice none 0 0] 25 ?_; intro gb273 hg w8 hbox hb; have BK273 := am hbox; have GW273 := gs1 hg HB GE272; have GE273 := gs1 hg HB GE272; replace HB := Aside0.mk (below_step (be1 HB GE272) hb); have NB272_273 := Aside0.mk ((by rw [hg]; exact Nat.ne_of_lt (bl BK272) : gb272 ≠ gb273)); have NB273_272 := Aside0.mk ((by rw [hg]; exact Nat.ne_of_gt (bl BK272) : gb273 ≠ gb272)); replace BK272 := bb BK272 hb; clear hb hbox hg; have hnb9 := NB272_273.out; have hnc9 := NB273_272.out; have hcz10_0 := bz3 BK272) | ((with_reducible refine gate_callee (f := 53) rfl ?_); refine gl 8 Try.func53 #[.agg #[.int .i64 a0_0, .slice A0_1 l0_1.length c0_1, .slice A0_2 l0_2.length c0_2]] ?_; (with_reducible refine (spec_AgesOk.calls k a0_0 _ _ l0_1 _ _ l0_2 true _ (cb HR0_1 HB) HC0_1.out (cb HR0_2 HB) HC0_2.out A3.out).mono ?_); rintro e w11 ⟨rfl, hb⟩; refine ⟨_, rfl, ?_⟩; replace BK272 := bb BK272 hb; replace BK273 := bb BK273 hb; replace HB := Aside0.mk (below_step (be2 HB GE272 GE273) hb); (try clear hb); have hcz12_0 := bz3 BK272) | (go_at_call 89; (with_reducible refine (spec_l06Node.calls k _ _ l0_2 a1 true _ (cb HR0_2 HB) HC0_2.out A5.out).mono ?_); rintro e w13 ⟨rfl, hb⟩; replace BK272 := bb BK272 hb; replace BK273 := bb BK273 hb; replace HB := Aside0.mk (below_step (be2 HB GE272 GE273) hb); (try clear hb); have hcz14_0 := bz3 BK273))
   refine bodyPost_ret (results_ct rfl _ _ gb273 25 #[.int .i64 0, .slice none 0 0, .slice none 0 0] (0, 0) _ rfl (by (with_reducible repeat (first | refine blk_drewN ?_ _ | refine blk_drew ?_ | refine blk_alloc ?_ _)); refine blk_put (cs := #[.int .i64 0, .slice none 0 0, .slice none 0 0]) ?_ 2 _ rfl; (with_reducible repeat (first | refine blk_drewN ?_ _ | refine blk_drew ?_ | refine blk_alloc ?_ _)); refine blk_put (cs := #[.int .i64 0, .slice none 0 0, .slice none 0 0]) ?_ 1 _ rfl; (with_reducible repeat (first | refine blk_drewN ?_ _ | refine blk_drew ?_ | refine blk_alloc ?_ _)); refine blk_put (cs := #[.int .i64 0, .slice none 0 0, .slice none 0 0]) ?_ 0 _ rfl; (with_reducible repeat (first | refine blk_drewN ?_ _ | refine blk_drew ?_ | refine blk_alloc ?_ _)); exact BK273.out) Try.underlying25 rfl (by kernel_rfl)) rfl ?_
   exact ⟨_, _, er, by first | exact Kd.R_nil _ _ _ _ _ | exact Kd.N_nil _ _ _ _ _ | exact Kd.V_nil _ _ _ _ _ | exact Kd.Q_nil _ _ _ _ _ | exact Kd.S_nil _ _ _ _ _, by first | exact Kd.R_nil _ _ _ _ _ | exact Kd.N_nil _ _ _ _ _ | exact Kd.V_nil _ _ _ _ _ | exact Kd.Q_nil _ _ _ _ _ | exact Kd.S_nil _ _ _ _ _, be2 HB GE272 GE273⟩
  replace c6 := Bool.eq_false_iff.mpr c6
  subst c6
  have H1 : (if (l0_2.length : Int) = 100 then (some (0, ([] : List Int), ([] : List (S70)), false)) else ((spec_l06Copy.f a0_0 l0_1 l0_2).bind fun bt276 => (if bt276.2.2.length < 8796093022208 then (some (bt276.1, bt276.2.1, (bt276.2.2 ++ [(⟨a1, a0_0⟩ : S70)]), true)) else (none)))) = some (r1, r2, r3, r4) := by rw [if_neg (show ¬ (false = true) by decide)] at H; exact H
  clear H
  have H := H1
  clear H1
  by_cases c15 : (l0_2.length : Int) = 100
  ·rw [if_pos c15] at H
   have c15b0 : ((l0_2.length : Int) == 100) = true := beq_iff_eq.mpr c15
   have c15b1 : ((l0_2.length : Int) != 100) = false := bne_eq_false_iff_eq.mpr c15
   clear c15
   simp only [Option.some.injEq, Prod.mk.injEq] at H
   obtain ⟨rfl, rfl, rfl, rfl⟩ := H
   go_enter Try.func77, Try.ntmps77
   go_wp2_with (first | ((with_reducible refine gate_dst (N := 2) rfl ?_); (try (refine gate_guard (by rfl) ?_; dsimp only)); refine bx 2 #[.int .i64 a0_0, .slice A0_1 l0_1.length c0_1, .slice A0_2 l0_2.length c0_2] 25 ?_; intro gb272 hg w16 hbox hb; have BK272 := am hbox; have GW272 := gs0 hg HB; have GE272 := gs0 hg HB; replace HB := s0 HB hb; clear hb hbox hg) | ((with_reducible refine gate_dst (N := 4) rfl ?_); (try (refine gate_guard (by rfl) ?_; dsimp only)); refine bx 4 #[.int .i64 0, .slice none 0 0, .slice none 0 0] 25 ?_; intro gb273 hg w17 hbox hb; have BK273 := am hbox; have GW273 := gs1 hg HB GE272; have GE273 := gs1 hg HB GE272; replace HB := Aside0.mk (below_step (be1 HB GE272) hb); have NB272_273 := Aside0.mk ((by rw [hg]; exact Nat.ne_of_lt (bl BK272) : gb272 ≠ gb273)); have NB273_272 := Aside0.mk ((by rw [hg]; exact Nat.ne_of_gt (bl BK272) : gb273 ≠ gb272)); replace BK272 := bb BK272 hb; clear hb hbox hg; have hnb18 := NB272_273.out; have hnc18 := NB273_272.out; have hcz19_0 := bz3 BK272) | ((with_reducible refine gate_callee (f := 53) rfl ?_); refine gl 8 Try.func53 #[.agg #[.int .i64 a0_0, .slice A0_1 l0_1.length c0_1, .slice A0_2 l0_2.length c0_2]] ?_; (with_reducible refine (spec_AgesOk.calls k a0_0 _ _ l0_1 _ _ l0_2 true _ (cb HR0_1 HB) HC0_1.out (cb HR0_2 HB) HC0_2.out A3.out).mono ?_); rintro e w20 ⟨rfl, hb⟩; refine ⟨_, rfl, ?_⟩; replace BK272 := bb BK272 hb; replace BK273 := bb BK273 hb; replace HB := Aside0.mk (below_step (be2 HB GE272 GE273) hb); (try clear hb); have hcz21_0 := bz3 BK272) | (go_at_call 89; (with_reducible refine (spec_l06Node.calls k _ _ l0_2 a1 false _ (cb HR0_2 HB) HC0_2.out A5.out).mono ?_); rintro e w22 ⟨rfl, hb⟩; replace BK272 := bb BK272 hb; replace BK273 := bb BK273 hb; replace HB := Aside0.mk (below_step (be2 HB GE272 GE273) hb); (try clear hb); have hcz23_0 := bz3 BK272; have hcz24_0 := bz3 BK273))
   refine bodyPost_ret (results_ct rfl _ _ gb273 25 #[.int .i64 0, .slice none 0 0, .slice none 0 0] (0, 0) _ rfl (by (with_reducible repeat (first | refine blk_drewN ?_ _ | refine blk_drew ?_ | refine blk_alloc ?_ _)); refine blk_put (cs := #[.int .i64 0, .slice none 0 0, .slice none 0 0]) ?_ 2 _ rfl; (with_reducible repeat (first | refine blk_drewN ?_ _ | refine blk_drew ?_ | refine blk_alloc ?_ _)); refine blk_put (cs := #[.int .i64 0, .slice none 0 0, .slice none 0 0]) ?_ 1 _ rfl; (with_reducible repeat (first | refine blk_drewN ?_ _ | refine blk_drew ?_ | refine blk_alloc ?_ _)); refine blk_put (cs := #[.int .i64 0, .slice none 0 0, .slice none 0 0]) ?_ 0 _ rfl; (with_reducible repeat (first | refine blk_drewN ?_ _ | refine blk_drew ?_ | refine blk_alloc ?_ _)); exact BK273.out) Try.underlying25 rfl (by kernel_rfl)) rfl ?_
   exact ⟨_, _, er, by first | exact Kd.R_nil _ _ _ _ _ | exact Kd.N_nil _ _ _ _ _ | exact Kd.V_nil _ _ _ _ _ | exact Kd.Q_nil _ _ _ _ _ | exact Kd.S_nil _ _ _ _ _, by first | exact Kd.R_nil _ _ _ _ _ | exact Kd.N_nil _ _ _ _ _ | exact Kd.V_nil _ _ _ _ _ | exact Kd.Q_nil _ _ _ _ _ | exact Kd.S_nil _ _ _ _ _, be2 HB GE272 GE273⟩
  rw [if_neg c15] at H
  have c15b0 : ((l0_2.length : Int) == 100) = false := beq_eq_false_iff_ne.mpr c15
  have c15b1 : ((l0_2.length : Int) != 100) = true := bne_iff_ne.mpr c15
  replace H := Option.bind_eq_some_iff.mp H
  obtain ⟨⟨t276, t277, t280⟩, A250, H⟩ := H
  replace H : (if t280.length < 8796093022208 then (some (t276, t277, (t280 ++ [(⟨a1, a0_0⟩ : S70)]), true)) else (none)) = some (r1, r2, r3, r4) := H
  have A25 := Aside0.mk A250
  clear A250
  by_cases c26 : t280.length < 8796093022208
  ·rw [if_pos c26] at H
   have LMc26 := Aside0.mk c26
   clear c26
   obtain ⟨y284, hy284⟩ : ∃ y_ : List (S70), y_ = (t280 ++ [(⟨a1, a0_0⟩ : S70)]) := ⟨_, rfl⟩
   replace H : (some (t276, t277, y284, true)) = some (r1, r2, r3, r4) := by first | (rw [hy284]; with_reducible exact H) | (have H2_ := (Option.bind_some _ _).symm.trans H; rw [hy284]; with_reducible exact H2_) | (have H2_ := (Option.bind_some _ _).symm.trans H; with_reducible exact H2_) | with_reducible exact H | (rw [hy284]; exact H) | exact H
   have Ny284 := Aside0.mk hy284
   clear hy284
   simp only [Option.some.injEq, Prod.mk.injEq] at H
   obtain ⟨rfl, rfl, rfl, rfl⟩ := H
   go_enter Try.func77, Try.ntmps77
   go_wp2_with (first | ((with_reducible refine gate_dst (N := 2) rfl ?_); (try (refine gate_guard (by rfl) ?_; dsimp only)); refine bx 2 #[.int .i64 a0_0, .slice A0_1 l0_1.length c0_1, .slice A0_2 l0_2.length c0_2] 25 ?_; intro gb272 hg w27 hbox hb; have BK272 := am hbox; have GW272 := gs0 hg HB; have GE272 := gs0 hg HB; replace HB := s0 HB hb; clear hb hbox hg) | ((with_reducible refine gate_dst (N := 4) rfl ?_); (try (refine gate_guard (by rfl) ?_; dsimp only)); refine bx 4 #[.int .i64 0, .slice none 0 0, .slice none 0 0] 25 ?_; intro gb273 hg w28 hbox hb; have BK273 := am hbox; have GW273 := gs1 hg HB GE272; have GE273 := gs1 hg HB GE272; replace HB := Aside0.mk (below_step (be1 HB GE272) hb); have NB272_273 := Aside0.mk ((by rw [hg]; exact Nat.ne_of_lt (bl BK272) : gb272 ≠ gb273)); have NB273_272 := Aside0.mk ((by rw [hg]; exact Nat.ne_of_gt (bl BK272) : gb273 ≠ gb272)); replace BK272 := bb BK272 hb; clear hb hbox hg; have hnb29 := NB272_273.out; have hnc29 := NB273_272.out; have hcz30_0 := bz3 BK272) | ((with_reducible refine gate_callee (f := 53) rfl ?_); refine gl 8 Try.func53 #[.agg #[.int .i64 a0_0, .slice A0_1 l0_1.length c0_1, .slice A0_2 l0_2.length c0_2]] ?_; (with_reducible refine (spec_AgesOk.calls k a0_0 _ _ l0_1 _ _ l0_2 true _ (cb HR0_1 HB) HC0_1.out (cb HR0_2 HB) HC0_2.out A3.out).mono ?_); rintro e w31 ⟨rfl, hb⟩; refine ⟨_, rfl, ?_⟩; replace BK272 := bb BK272 hb; replace BK273 := bb BK273 hb; replace HB := Aside0.mk (below_step (be2 HB GE272 GE273) hb); (try clear hb); have hcz32_0 := bz3 BK272) | (go_at_call 89; (with_reducible refine (spec_l06Node.calls k _ _ l0_2 a1 false _ (cb HR0_2 HB) HC0_2.out A5.out).mono ?_); rintro e w33 ⟨rfl, hb⟩; replace BK272 := bb BK272 hb; replace BK273 := bb BK273 hb; replace HB := Aside0.mk (below_step (be2 HB GE272 GE273) hb); (try clear hb); have hcz34_0 := bz3 BK272) | ((with_reducible refine gate_callee (f := 95) rfl ?_); refine gl 24 Try.func95 #[.agg #[.int .i64 a0_0, .slice A0_1 l0_1.length c0_1, .slice A0_2 l0_2.length c0_2]] ?_; (with_reducible refine (spec_l06Copy.calls a0_0 _ _ l0_1 _ _ l0_2 t276 t277 t280 _ (cb HR0_1 HB) HC0_1.out (cb HR0_2 HB) HC0_2.out A25.out).mono ?_); rintro e w35 ⟨v278, v281, rfl, ho0, ho1, hb⟩; refine ⟨_, rfl, ?_⟩; have HO279 := Aside0.mk (Kd.R_lower ho0 (below_size (be2 HB GE272 GE273))); have HO282 := Aside0.mk (Kd.R_lower ho1 (below_size (be2 HB GE272 GE273))); replace BK272 := bb BK272 hb; replace BK273 := bb BK273 hb; replace HB := Aside0.mk (below_step (be2 HB GE272 GE273) hb); (try clear hb); (try clear ho0); (try clear ho1)) | ((with_reducible refine gate_dst (N := 6) rfl ?_); (try (refine gate_guard (by rfl) ?_; dsimp only)); refine bx 6 #[.int .i64 0, .slice none 0 0, .slice none 0 0] 25 ?_; intro gb283 hg w36 hbox hb; replace HO279 := rb HO279 hb; replace HO282 := rb HO282 hb; have BK283 := am hbox; have GW283 := gs2 hg HB GE272 GE273; have GE283 := gs2 hg HB GE272 GE273; replace HB := Aside0.mk (below_step (be2 HB GE272 GE273) hb); have NB272_283 := Aside0.mk ((by rw [hg]; exact Nat.ne_of_lt (bl BK272) : gb272 ≠ gb283)); have NB283_272 := Aside0.mk ((by rw [hg]; exact Nat.ne_of_gt (bl BK272) : gb283 ≠ gb272)); replace BK272 := bb BK272 hb; have NB273_283 := Aside0.mk ((by rw [hg]; exact Nat.ne_of_lt (bl BK273) : gb273 ≠ gb283)); have NB283_273 := Aside0.mk ((by rw [hg]; exact Nat.ne_of_gt (bl BK273) : gb283 ≠ gb273)); replace BK273 := bb BK273 hb; clear hb hbox hg; have hnb37 := NB283_272.out; have hnc37 := NB272_283.out; have hnb38 := NB283_273.out; have hnc38 := NB273_283.out; have hcz39_0 := bz3 BK283; obtain ⟨Ao40, co40, eo40⟩ := Kd.R_slice HO279.out; subst eo40; obtain ⟨Ao41, co41, eo41⟩ := Kd.R_slice HO282.out; subst eo41; have hcz42_0 := bz3 BK272) | ((with_reducible refine gate_builtin (b := .append) (xs := #[.tmp 26, .tmp 31]) rfl ?_); (try (refine gate_guard (by rfl) ?_; dsimp only)); at_builtin; refine Kd.R_append k70 (w0 := w) w.heap.size rfl (.tmp 26) (.tmp 31) 23 70 (.agg #[(.int .i64 0), (.int .i64 0)]) 16 rfl Try.underlying23 info70 rfl (by decide) (by omega) (.slice Ao41 t280.length co41) t280 (⟨a1, a0_0⟩ : S70) [.int .i64 a1, .int .i64 a0_0] (fun _ => True) (fun _ => False) rfl (by first | (go_simp; done) | (go_simp; rfl)) ?aP (fun _ hk => hk.elim) ?aF ?aO ?aB ?aS ?aL ?_; (case aP => exact k70_mkM _ _ _ (⟨a1, a0_0⟩ : S70)); (case aB => exact (be3 HB GE272 GE273 GE283)); (case aF => exact (fun _ _ => trivial)); (case aO => exact (by (with_reducible repeat (first | apply Kd.R_alloc | apply Kd.R_drewN | apply Kd.R_drew)); exact Kd.R_mono (Kd.R_far (p := ⟨gb283, 2, none⟩) (Kd.R_far (p := ⟨gb283, 1, none⟩) (Kd.R_far (p := ⟨gb283, 0, none⟩) (Kd.R_types HO282.out BK283.out (by decide)) (fun _ hk => hk.2) (.int .i64 t276)) (fun _ hk => hk.2) (.slice Ao40 t277.length co40)) (fun _ hk => hk.2) (.slice Ao41 t280.length co41)) (fun _ hk => trivial))); (case aS => exact (below_size (be3 HB GE272 GE273 GE283))); (case aL => have := LMc26.out; omega); intro v285 w43 ho hb hg hat; rw [← Ny284.out] at ho; replace BK272 := Aside0.mk (blk_grown (g := gb272) (o := .cells #[.int .i64 a0_0, .slice A0_1 l0_1.length c0_1, .slice A0_2 l0_2.length c0_2] 25 (0, 0)) (bf1 BK272 NB272_283) hg (Kd.R_ne HO282.out BK272.out (by decide))); replace BK273 := Aside0.mk (blk_grown (g := gb273) (o := .cells #[.int .i64 0, .slice none 0 0, .slice none 0 0] 25 (0, 0)) (bf1 BK273 NB273_283) hg (Kd.R_ne HO282.out BK273.out (by decide))); replace HO279 := Aside0.mk (Kd.R_over' (rf HO279 BK283) (Kd.R_typed (rf HO282 BK283)) (by decide) hg); replace BK283 := Aside0.mk (blk_grown (g := gb283) (o := .cells #[.int .i64 t276, .slice Ao40 t277.length co40, .slice Ao41 t280.length co41] 25 (0, 0)) (by (with_reducible repeat (first | refine blk_drewN ?_ _ | refine blk_drew ?_ | refine blk_alloc ?_ _)); refine blk_put (cs := #[.int .i64 t276, .slice Ao40 t277.length co40, .slice none 0 0]) ?_ 2 _ rfl; (with_reducible repeat (first | refine blk_drewN ?_ _ | refine blk_drew ?_ | refine blk_alloc ?_ _)); refine blk_put (cs := #[.int .i64 t276, .slice none 0 0, .slice none 0 0]) ?_ 1 _ rfl; (with_reducible repeat (first | refine blk_drewN ?_ _ | refine blk_drew ?_ | refine blk_alloc ?_ _)); refine blk_put (cs := #[.int .i64 0, .slice none 0 0, .slice none 0 0]) ?_ 0 _ rfl; (with_reducible repeat (first | refine blk_drewN ?_ _ | refine blk_drew ?_ | refine blk_alloc ?_ _)); exact BK283.out) hg (Kd.R_ne HO282.out BK283.out (by decide))); replace HB := Aside0.mk (hb); have HO286 := Aside0.mk (ho); clear HO282; clear ho hb hg hat; obtain ⟨Ao44, co44, eo44⟩ := Kd.R_slice HO286.out; subst eo44; have hcz45_0 := bz3 BK283; have hcz46_0 := bz3 BK273))
   refine bodyPost_ret (results_ct rfl _ _ gb273 25 #[.int .i64 t276, .slice Ao40 t277.length co40, .slice Ao44 y284.length co44] (0, 0) _ rfl (by (with_reducible repeat (first | refine blk_drewN ?_ _ | refine blk_drew ?_ | refine blk_alloc ?_ _)); refine blk_put (cs := #[.int .i64 t276, .slice Ao40 t277.length co40, .slice none 0 0]) ?_ 2 _ rfl; (with_reducible repeat (first | refine blk_drewN ?_ _ | refine blk_drew ?_ | refine blk_alloc ?_ _)); refine blk_put (cs := #[.int .i64 t276, .slice none 0 0, .slice none 0 0]) ?_ 1 _ rfl; (with_reducible repeat (first | refine blk_drewN ?_ _ | refine blk_drew ?_ | refine blk_alloc ?_ _)); refine blk_put (cs := #[.int .i64 0, .slice none 0 0, .slice none 0 0]) ?_ 0 _ rfl; (with_reducible repeat (first | refine blk_drewN ?_ _ | refine blk_drew ?_ | refine blk_alloc ?_ _)); refine blk_far ?_ NB273_283.out _; (with_reducible repeat (first | refine blk_drewN ?_ _ | refine blk_drew ?_ | refine blk_alloc ?_ _)); exact BK273.out) Try.underlying25 rfl (by kernel_rfl)) rfl ?_
   exact ⟨_, _, er, by (with_reducible repeat (first | apply Kd.R_alloc | apply Kd.R_drewN | apply Kd.R_drew)); exact Kd.R_mono (Kd.R_far (p := ⟨gb273, 2, none⟩) (Kd.R_far (p := ⟨gb273, 1, none⟩) (Kd.R_far (p := ⟨gb273, 0, none⟩) (Kd.R_far (p := ⟨gb283, 2, none⟩) (Kd.R_types (Kd.R_types HO279.out BK283.out (by decide)) BK273.out (by decide)) (fun _ hk => hk.1.2) (.slice Ao44 y284.length co44)) (fun _ hk => hk.2) (.int .i64 t276)) (fun _ hk => hk.2) (.slice Ao40 t277.length co40)) (fun _ hk => hk.2) (.slice Ao44 y284.length co44)) (fun _ hk => trivial), by (with_reducible repeat (first | apply Kd.R_alloc | apply Kd.R_drewN | apply Kd.R_drew)); exact Kd.R_mono (Kd.R_far (p := ⟨gb273, 2, none⟩) (Kd.R_far (p := ⟨gb273, 1, none⟩) (Kd.R_far (p := ⟨gb273, 0, none⟩) (Kd.R_far (p := ⟨gb283, 2, none⟩) (Kd.R_types (Kd.R_types HO286.out BK283.out (by decide)) BK273.out (by decide)) (fun _ hk => hk.1.2) (.slice Ao44 y284.length co44)) (fun _ hk => hk.2) (.int .i64 t276)) (fun _ hk => hk.2) (.slice Ao40 t277.length co40)) (fun _ hk => hk.2) (.slice Ao44 y284.length co44)) (fun _ hk => trivial), be3 HB GE272 GE273 GE283⟩
  rw [if_neg c26] at H
  exact absurd H (by simp)
 replace c4 := Bool.eq_false_iff.mpr c4
 subst c4
 have H1 : (some (0, ([] : List Int), ([] : List (S70)), false)) = some (r1, r2, r3, r4) := by rw [if_neg (show ¬ (false = true) by decide)] at H; exact H
 clear H
 have H := H1
 clear H1
 simp only [Option.some.injEq, Prod.mk.injEq] at H
 obtain ⟨rfl, rfl, rfl, rfl⟩ := H
 go_enter Try.func77, Try.ntmps77
 go_wp2_with (first | ((with_reducible refine gate_dst (N := 2) rfl ?_); (try (refine gate_guard (by rfl) ?_; dsimp only)); refine bx 2 #[.int .i64 a0_0, .slice A0_1 l0_1.length c0_1, .slice A0_2 l0_2.length c0_2] 25 ?_; intro gb272 hg w47 hbox hb; have BK272 := am hbox; have GW272 := gs0 hg HB; have GE272 := gs0 hg HB; replace HB := s0 HB hb; clear hb hbox hg) | ((with_reducible refine gate_dst (N := 4) rfl ?_); (try (refine gate_guard (by rfl) ?_; dsimp only)); refine bx 4 #[.int .i64 0, .slice none 0 0, .slice none 0 0] 25 ?_; intro gb273 hg w48 hbox hb; have BK273 := am hbox; have GW273 := gs1 hg HB GE272; have GE273 := gs1 hg HB GE272; replace HB := Aside0.mk (below_step (be1 HB GE272) hb); have NB272_273 := Aside0.mk ((by rw [hg]; exact Nat.ne_of_lt (bl BK272) : gb272 ≠ gb273)); have NB273_272 := Aside0.mk ((by rw [hg]; exact Nat.ne_of_gt (bl BK272) : gb273 ≠ gb272)); replace BK272 := bb BK272 hb; clear hb hbox hg; have hnb49 := NB272_273.out; have hnc49 := NB273_272.out; have hcz50_0 := bz3 BK272) | ((with_reducible refine gate_callee (f := 53) rfl ?_); refine gl 8 Try.func53 #[.agg #[.int .i64 a0_0, .slice A0_1 l0_1.length c0_1, .slice A0_2 l0_2.length c0_2]] ?_; (with_reducible refine (spec_AgesOk.calls k a0_0 _ _ l0_1 _ _ l0_2 false _ (cb HR0_1 HB) HC0_1.out (cb HR0_2 HB) HC0_2.out A3.out).mono ?_); rintro e w51 ⟨rfl, hb⟩; refine ⟨_, rfl, ?_⟩; replace BK272 := bb BK272 hb; replace BK273 := bb BK273 hb; replace HB := Aside0.mk (below_step (be2 HB GE272 GE273) hb); (try clear hb); have hcz52_0 := bz3 BK273))
 refine bodyPost_ret (results_ct rfl _ _ gb273 25 #[.int .i64 0, .slice none 0 0, .slice none 0 0] (0, 0) _ rfl (by (with_reducible repeat (first | refine blk_drewN ?_ _ | refine blk_drew ?_ | refine blk_alloc ?_ _)); refine blk_put (cs := #[.int .i64 0, .slice none 0 0, .slice none 0 0]) ?_ 2 _ rfl; (with_reducible repeat (first | refine blk_drewN ?_ _ | refine blk_drew ?_ | refine blk_alloc ?_ _)); refine blk_put (cs := #[.int .i64 0, .slice none 0 0, .slice none 0 0]) ?_ 1 _ rfl; (with_reducible repeat (first | refine blk_drewN ?_ _ | refine blk_drew ?_ | refine blk_alloc ?_ _)); refine blk_put (cs := #[.int .i64 0, .slice none 0 0, .slice none 0 0]) ?_ 0 _ rfl; (with_reducible repeat (first | refine blk_drewN ?_ _ | refine blk_drew ?_ | refine blk_alloc ?_ _)); exact BK273.out) Try.underlying25 rfl (by kernel_rfl)) rfl ?_
 exact ⟨_, _, er, by first | exact Kd.R_nil _ _ _ _ _ | exact Kd.N_nil _ _ _ _ _ | exact Kd.V_nil _ _ _ _ _ | exact Kd.Q_nil _ _ _ _ _ | exact Kd.S_nil _ _ _ _ _, by first | exact Kd.R_nil _ _ _ _ _ | exact Kd.N_nil _ _ _ _ _ | exact Kd.V_nil _ _ _ _ _ | exact Kd.Q_nil _ _ _ _ _ | exact Kd.S_nil _ _ _ _ _, be2 HB GE272 GE273⟩

end Go.Proofs.Ytdgpidhlbpaolaa.QFnExactGiveUp
