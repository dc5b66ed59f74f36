-- made by a program of this session (myprint.py)
import Derived.Test.YtdgpidhlbpaolaaQFnExactReclaimx0
import Derived.Test.YtdgpidhlbpaolaaQFnExactReclaimx4
namespace Go.Proofs.Ytdgpidhlbpaolaa.QFnExactReclaim
open Go.RowKit Go.Proofs.YtdgpidhlbpaolaaW.PrintWords Go.Proofs.YtdgpidhlbpaolaaW.PrintLast Go.Proofs.YtdgpidhlbpaolaaW.PrintMore
attribute [local go_sem] max2_int min2_int max_two min_two max_three min_three max_four min_four   -- for this text's walks alone
set_option linter.unusedVariables false
set_option linter.unusedSimpArgs false

/-! ### spec_Collect: function 73 -/
def spec_Collect.l0 : Nat → List Int → List (S70) → Int → Int → Int → List Int → List (S70) → Int → List Int → List (S70) → Option (Int × List Int × (List (S70)) × List Int)
 | 0, _, _, _, _, _, _, _, _, _, _ => none
 | k + 1, x5, x21, x22, x23, x273000, x273001, x273002, x282000, x282001, x282002 => if x23 < x22 then (if 0 ≤ x23 then (if x23 < (x21.length : Int) then (if ((rd_T70 x21 x23).f1) ≤ (wrap64 (x273000 - 2)) then (if x5.length < 17592186044416 then (spec_Collect.l0 k (x5 ++ [(rd_T70 x21 x23).f0]) x21 x22 (wrap64 (x23 + 1)) x273000 x273001 x273002 x282000 x282001 x282002) else (none)) else (if x282002.length < 8796093022208 then (spec_Collect.l0 k x5 x21 x22 (wrap64 (x23 + 1)) x273000 x273001 x273002 x282000 x282001 (x282002 ++ [(⟨(rd_T70 x21 x23).f0, (rd_T70 x21 x23).f1⟩ : S70)])) else (none))) else (none)) else (none)) else (some (x282000, x282001, x282002, x5))
def spec_Collect.f (k : Nat) (a0_0 : Int) (l0_1 : List Int) (l0_2 : List (S70)) : Option (Int × List Int × (List (S70)) × List Int) := (spec_AgesOk.f k a0_0 l0_1 l0_2).bind fun t274 => (if t274 = true then ((some (([] : List Int) : List Int)).bind fun y275 => (if y275.length + l0_1.length < 17592186044416 then (spec_Collect.l0 k (([] : List Int)) l0_2 (l0_2.length : Int) 0 a0_0 l0_1 l0_2 a0_0 (y275 ++ l0_1) ([] : List (S70))) else (none))) else (some (0, ([] : List Int), ([] : List (S70)), ([] : List Int))))
theorem spec_Collect.mono_l : ∀ k, (∀ y0 y1 y2 y3 y4 y5 y6 y7 y8 y9, LeO (spec_Collect.l0 k y0 y1 y2 y3 y4 y5 y6 y7 y8 y9) (spec_Collect.l0 (k + 1) y0 y1 y2 y3 y4 y5 y6 y7 y8 y9))
 | 0 => fun _ _ _ _ _ _ _ _ _ _ r h => by simp [spec_Collect.l0] at h
 | k + 1 => by
  have ih0 := spec_Collect.mono_l k
  ·intro y0 y1 y2 y3 y4 y5 y6 y7 y8 y9
   unfold spec_Collect.l0
   repeat' first
   | (with_reducible exact ih0 _ _ _ _ _ _ _ _ _ _)
   | (with_reducible exact spec_AgesOk.mono _ _ _ _)
   | (with_reducible exact LeO.refl _)
   | (with_reducible exact LeO.none _)
   | (with_reducible refine LeO.ite ?_ ?_)
   | (with_reducible refine LeO.bind ?_ (fun _ => ?_))
   | exact ih0 _ _ _ _ _ _ _ _ _ _
   | exact spec_AgesOk.mono _ _ _ _
   | exact LeO.none _
   | refine LeO.ite ?_ ?_
   | refine LeO.bind ?_ (fun _ => ?_)
theorem spec_Collect.mono : ∀ a0 a1 a2 k, LeO (spec_Collect.f k a0 a1 a2) (spec_Collect.f (k + 1) a0 a1 a2) := by
 intro a0 a1 a2 k
 have ih0 := spec_Collect.mono_l k
 unfold spec_Collect.f
 repeat' first
   | (with_reducible exact ih0 _ _ _ _ _ _ _ _ _ _)
   | (with_reducible exact spec_AgesOk.mono _ _ _ _)
   | (with_reducible exact LeO.refl _)
   | (with_reducible exact LeO.none _)
   | (with_reducible refine LeO.ite ?_ ?_)
   | (with_reducible refine LeO.bind ?_ (fun _ => ?_))
   | exact ih0 _ _ _ _ _ _ _ _ _ _
   | exact spec_AgesOk.mono _ _ _ _
   | exact LeO.none _
   | refine LeO.ite ?_ ?_
   | refine LeO.bind ?_ (fun _ => ?_)
def spec_Collect.T3 : Bool × List (List Nat × List Nat) := (true, [([], []), ([0], [0]), ([], []), ([], []), ([3], [3]), ([2, 4], [2, 4]), ([1, 5], [1, 5]), ([], []), ([7, 6, 5, 0, 1, 2, 3, 4, 5, 6, 7], [6, 7])])
def spec_Collect.B3 : List Nat := [0, 1, 0, 0, 8, 28, 63, 0, 255]
theorem spec_Collect.tab3 : rtab .any (opsOf Try.f73 3) = spec_Collect.T3 := by kernel_rfl
theorem spec_Collect.bits3 : waitsOk spec_Collect.T3.2 spec_Collect.B3 = true := by kernel_rfl
set_option maxHeartbeats 8000000 in
set_option maxRecDepth 100000 in
theorem spec_Collect.calls (k : Nat) (a0_0 : Int) (A0_1 : Option Addr) (c0_1 : Nat) (l0_1 : List Int) (A0_2 : Option Addr) (c0_2 : Nat) (l0_2 : List (S70)) (r1 : Int) (r2 : List Int) (r3 : List (S70)) (r4 : List Int) (w : World) (hr0_1 : Kd.C (Kd.int .i64) w A0_1 l0_1.length l0_1) (hc0_1 : l0_1.length ≤ c0_1) (hr0_2 : Kd.C k70 w A0_2 l0_2.length l0_2) (hc0_2 : l0_2.length ≤ c0_2) (h : spec_Collect.f k a0_0 l0_1 l0_2 = some (r1, r2, r3, r4)) :
  Calls Try.prog 73 #[.agg #[.int .i64 a0_0, .slice A0_1 l0_1.length c0_1, .slice A0_2 l0_2.length c0_2]] w fun e w' => ∃ v1_ v2_ v3_ : Value, e = .returned (.tuple #[.agg #[.int .i64 r1, v1_, v2_], v3_]) ∧ Kd.R (Kd.int .i64) 3 w' w.heap.size (fun k_ => some k_ ≠ (v3_ : Value).ownBlock) v1_ r2 ∧ Kd.R k70 70 w' w.heap.size (fun _ => True) v2_ r3 ∧ Kd.R (Kd.int .i64) 3 w' w.heap.size (fun k_ => some k_ ≠ (v1_ : Value).ownBlock) v3_ r4 ∧ Below w.heap.size w w' := by
 have hu25 := Try.underlying25
 have hu70 := Try.underlying70
 have HR0_1 := Aside0.mk hr0_1
 have HC0_1 := Aside0.mk hc0_1
 clear hr0_1 hc0_1
 have HR0_2 := Aside0.mk hr0_2
 have HC0_2 := Aside0.mk hc0_2
 clear hr0_2 hc0_2
 have HB := Aside0.mk (Below.refl w.heap.size w)
 have H : ((spec_AgesOk.f k a0_0 l0_1 l0_2).bind fun t274 => (if t274 = true then ((some (([] : List Int) : List Int)).bind fun y275 => (if y275.length + l0_1.length < 17592186044416 then (spec_Collect.l0 k (([] : List Int)) l0_2 (l0_2.length : Int) 0 a0_0 l0_1 l0_2 a0_0 (y275 ++ l0_1) ([] : List (S70))) else (none))) else (some (0, ([] : List Int), ([] : List (S70)), ([] : List Int))))) = some (r1, r2, r3, r4) := h
 clear h
 replace H := Option.bind_eq_some_iff.mp H
 obtain ⟨t274, A20, H⟩ := H
 replace H : (if t274 = true then ((some (([] : List Int) : List Int)).bind fun y275 => (if y275.length + l0_1.length < 17592186044416 then (spec_Collect.l0 k (([] : List Int)) l0_2 (l0_2.length : Int) 0 a0_0 l0_1 l0_2 a0_0 (y275 ++ l0_1) ([] : List (S70))) else (none))) else (some (0, ([] : List Int), ([] : List (S70)), ([] : List Int)))) = some (r1, r2, r3, r4) := H
 have A2 := Aside0.mk A20
 clear A20
 by_cases c3 : t274 = true
 ·subst c3
  have H1 : ((some (([] : List Int) : List Int)).bind fun y275 => (if y275.length + l0_1.length < 17592186044416 then (spec_Collect.l0 k (([] : List Int)) l0_2 (l0_2.length : Int) 0 a0_0 l0_1 l0_2 a0_0 (y275 ++ l0_1) ([] : List (S70))) else (none))) = some (r1, r2, r3, r4) := by rw [if_pos rfl] at H; exact H
  clear H
  have H := H1
  clear H1
  obtain ⟨y275, hy275⟩ : ∃ y_ : List Int, y_ = (([] : List Int)) := ⟨_, rfl⟩
  replace H : (if y275.length + l0_1.length < 17592186044416 then (spec_Collect.l0 k (([] : List Int)) l0_2 (l0_2.length : Int) 0 a0_0 l0_1 l0_2 a0_0 (y275 ++ l0_1) ([] : List (S70))) else (none)) = some (r1, r2, r3, r4) := by first | (rw [hy275]; with_reducible exact H) | (have H2_ := (Option.bind_some _ _).symm.trans H; rw [hy275]; with_reducible exact H2_) | (have H2_ := (Option.bind_some _ _).symm.trans H; with_reducible exact H2_) | with_reducible exact H | (rw [hy275]; exact H) | exact H
  have Ny275 := Aside0.mk hy275
  clear hy275
  by_cases c4 : y275.length + l0_1.length < 17592186044416
  ·rw [if_pos c4] at H
   have LMc4 := Aside0.mk c4
   clear c4
   obtain ⟨y278, hy278⟩ : ∃ y_ : List Int, y_ = (y275 ++ l0_1) := ⟨_, rfl⟩
   replace H : (spec_Collect.l0 k (([] : List Int)) l0_2 (l0_2.length : Int) 0 a0_0 l0_1 l0_2 a0_0 y278 ([] : List (S70))) = some (r1, r2, r3, r4) := by first | (rw [hy278]; with_reducible exact H) | (have H2_ := (Option.bind_some _ _).symm.trans H; rw [hy278]; with_reducible exact H2_) | (have H2_ := (Option.bind_some _ _).symm.trans H; with_reducible exact H2_) | with_reducible exact H | (rw [hy278]; exact H) | exact H
   have Ny278 := Aside0.mk hy278
   clear hy278
   obtain ⟨y282, hy282⟩ : ∃ y_ : List Int, y_ = (([] : List Int)) := ⟨_, rfl⟩
   replace H : (spec_Collect.l0 k y282 l0_2 (l0_2.length : Int) 0 a0_0 l0_1 l0_2 a0_0 y278 ([] : List (S70))) = some (r1, r2, r3, r4) := by first | (rw [hy282]; with_reducible exact H) | (have H2_ := (Option.bind_some _ _).symm.trans H; rw [hy282]; with_reducible exact H2_) | (have H2_ := (Option.bind_some _ _).symm.trans H; with_reducible exact H2_) | with_reducible exact H | (rw [hy282]; exact H) | exact H
   have Ny282 := Aside0.mk hy282
   clear hy282
   have H' := Aside0.mk H
   clear H
   go_enter Try.func73, Try.ntmps73
   try go_wp2_with (first | ((with_reducible refine gate_dst (N := 1) rfl ?_); refine bx 1 #[.int .i64 a0_0, .slice A0_1 l0_1.length c0_1, .slice A0_2 l0_2.length c0_2] 25 ?_; intro gb272 hg w5 hbox hb; have BK272 := am hbox; have GW272 := gs0 hg HB; have GE272 := gs0 hg HB; replace HB := s0 HB hb; clear hb hbox hg) | ((with_reducible refine gate_dst (N := 2) rfl ?_); refine bx 2 #[.int .i64 0, .slice none 0 0, .slice none 0 0] 25 ?_; intro gb273 hg w6 hbox hb; have BK273 := am hbox; have GW273 := gs1 hg HB GE272; have GE273 := gs1 hg HB GE272; replace HB := Aside0.mk (below_step (be1 HB GE272) hb); have NB272_273 := Aside0.mk ((by rw [hg]; exact Nat.ne_of_lt (bl BK272) : gb272 ≠ gb273)); have NB273_272 := Aside0.mk ((by rw [hg]; exact Nat.ne_of_gt (bl BK272) : gb273 ≠ gb272)); replace BK272 := bb BK272 hb; clear hb hbox hg; have hnb7 := NB272_273.out; have hnc7 := NB273_272.out; have hcz8_0 := bz3 BK272) | ((with_reducible refine gate_callee (f := 53) rfl ?_); refine gl 9 Try.func53 #[.agg #[.int .i64 a0_0, .slice A0_1 l0_1.length c0_1, .slice A0_2 l0_2.length c0_2]] ?_; (with_reducible refine (spec_AgesOk.calls k a0_0 _ _ l0_1 _ _ l0_2 true _ (cb HR0_1 HB) HC0_1.out (cb HR0_2 HB) HC0_2.out A2.out).mono ?_); rintro e w9 ⟨rfl, hb⟩; refine ⟨_, rfl, ?_⟩; replace BK272 := bb BK272 hb; replace BK273 := bb BK273 hb; replace HB := Aside0.mk (below_step (be2 HB GE272 GE273) hb); (try clear hb)))
   have n0_ := Aside0.mk (blk_drew BK272.out)
   have n1_ := Aside0.mk (blk_drew BK273.out)
   have n2_ := Aside0.mk (below_drew1 HB.out)
   clear BK272
   clear BK273
   clear HB
   have BK272 := n0_
   have BK273 := n1_
   have HB := n2_
   clear n0_ n1_ n2_
   refine start_ (n := 9) (S := fun w' => w'.cell? ⟨gb272, 0, none⟩ = some (.int .i64 a0_0) ∧ w'.cell? ⟨gb272, 1, none⟩ = some (.slice A0_1 l0_1.length c0_1) ∧ w'.cell? ⟨gb272, 2, none⟩ = some (.slice A0_2 l0_2.length c0_2)) (ds := []) (bv 9 0x0) (by kernel_rfl) rfl rfl ⟨bc0 BK272, bc1 BK272, bc2 BK272⟩ (fun hHeld => ?_); refine with_tabW spec_Collect.tab3 spec_Collect.bits3 (fun HT_ HW_ => ?_)
   generalize w9.drew = w10 at BK272 BK273 HB hHeld ⊢
   refine py HT_ 0 12 (bv 9 0x1) ?_
   refine py HT_ 3 15 (bv 9 0x9) ?_
   refine tk HT_ HW_ hHeld 1 13 (bv 9 0xb) ?_
   refine tk HT_ HW_ hHeld 4 16 (bv 9 0x1b) ?_
   refine join_ (σ := Value × Value × Nat) 1 (bv 9 0xff) (fun s_ => [(14, s_.1), (17, s_.2.1), (4, .pointer (some ⟨s_.2.2, 0, none⟩)), (18, .agg #[.int .i64 a0_0, s_.2.1, .slice none 0 0])]) (fun s_ w' => (w'.cell? ⟨gb272, 0, none⟩ = some (.int .i64 a0_0) ∧ w'.cell? ⟨gb272, 1, none⟩ = some (.slice A0_1 l0_1.length c0_1) ∧ w'.cell? ⟨gb272, 2, none⟩ = some (.slice A0_2 l0_2.length c0_2)) ∧ (Kd.R (Kd.int .i64) 3 w' w.heap.size (fun _ => True) s_.2.1 y278) ∧ (w'.heap[gb272]? = some (.cells #[.int .i64 a0_0, .slice A0_1 l0_1.length c0_1, .slice A0_2 l0_2.length c0_2] 25 (0, 0))) ∧ (w'.heap[gb273]? = some (.cells #[.int .i64 0, .slice none 0 0, .slice none 0 0] 25 (0, 0))) ∧ (w'.heap[s_.2.2]? = some (.cells #[.int .i64 0, .slice none 0 0, .slice none 0 0] 25 (0, 0))) ∧ (w.heap.size ≤ s_.2.2) ∧ (w.heap.size ≤ s_.2.2) ∧ (gb272 ≠ s_.2.2) ∧ (s_.2.2 ≠ gb272) ∧ (gb273 ≠ s_.2.2) ∧ (s_.2.2 ≠ gb273) ∧ (Below w.heap.size w w')) ?_ ?_
   rotate_left
   ·intro hCont
    refine two_ (i := 2) (j := 7) (Ni := some 14) (Nj := some 4) (bv 9 0x1f) (bv 9 0x9b) rfl rfl rfl rfl (two_of HT_.out (by kernel_rfl)) (by decide) (by decide) (fun K hK => ?_) (fun K hK => ?_)
    ·skip
     refine Kd.R_lit_step (Kd.int .i64) _ 3 ?hg (N := 14) ?hd (xs := ([] : List Int)) (inner := []) (ok := fun _ => True) (okp := fun _ => True) ?hr ?hp (fun _ hk => hk) trivial (Below.refl _ _) (Nat.le_refl _) (by simp) ?_; (case hd => rfl); (case hg => rfl); (case hr => first | (go_simp; done) | (go_simp; rfl)); (case hp => exact (Reps.none _ _))
     intro v276 w11 ho12 hb hg_ hnew_
     clear hg_ hnew_
     (first | rw [← Ny275.out] at ho12 | (simp only [Int.reduceToNat] at ho12; rw [← Ny275.out] at ho12))
     have n0_ := Aside0.mk (Kd.R_lower ho12 (below_size (be2 HB GE272 GE273)))
     have n1_ := bb BK272 hb
     have n2_ := bb BK273 hb
     have n3_ := Aside0.mk (below_step (be2 HB GE272 GE273) hb)
     clear BK272
     clear BK273
     clear HB
     have HO277 := n0_
     have BK272 := n1_
     have BK273 := n2_
     have HB := n3_
     clear n0_ n1_ n2_ n3_
     clear hb ho12
     refine hK.out _ _ ⟨bc0 BK272, bc1 BK272, bc2 BK272⟩ (fun hHeld => ?_)
     clear hK K
     refine norm_ (a' := ?_) ?_ ?_
     rotate_left
     ·show Act.put _ (some 14) _ = _
      simp only [aP]
      rfl
     refine two_ (i := 5) (j := 7) (Ni := some 17) (Nj := some 4) (bv 9 0x3f) (bv 9 0x9f) rfl rfl rfl rfl (two_of HT_.out (by kernel_rfl)) (by decide) (by decide) (fun K hK => ?_) (fun K hK => ?_)
     ·skip
      refine Kd.R_append_rows_step (Kd.int .i64) (w0 := w) w.heap.size (by rfl) (.tmp 14) (.tmp 16) 22 3 (.int .i64 0) 8 rfl Try.underlying22 info3 rfl (by decide) (by omega) v276 y275 l0_1 _ _ _ (fun _ => True) (fun _ => False) rfl rfl ?aO ?aR (fun _ _ h => h) (fun _ h => h.elim) ?aF ?aB ?aS ?aL ?_
      (case aR => repeat (first | exact (Kd.C_below HR0_1.out HB.out) | (with_reducible refine Kd.C_alloc ?_ _) | (with_reducible refine Kd.C_drewN ?_ _) | (with_reducible refine Kd.C_drew ?_)))
      (case aB => exact (be2 HB GE272 GE273))
      (case aF => exact (fun _ _ => trivial))
      (case aO => exact (ro HO277))
      (case aS => exact (below_size (be2 HB GE272 GE273)))
      (case aL => have := LMc4.out; omega)
      intro v279 w13 ho hb hg hat
      rw [← Ny278.out] at ho
      have n0_ := Aside0.mk (blk_grown (g := gb272) (o := .cells #[.int .i64 a0_0, .slice A0_1 l0_1.length c0_1, .slice A0_2 l0_2.length c0_2] 25 (0, 0)) (bk BK272) hg (Kd.R_ne HO277.out BK272.out (by decide)))
      have n1_ := Aside0.mk (blk_grown (g := gb273) (o := .cells #[.int .i64 0, .slice none 0 0, .slice none 0 0] 25 (0, 0)) (bk BK273) hg (Kd.R_ne HO277.out BK273.out (by decide)))
      have n2_ := Aside0.mk (hb)
      have n3_ := Aside0.mk (ho)
      clear BK272
      clear BK273
      clear HB
      clear HO277
      have BK272 := n0_
      have BK273 := n1_
      have HB := n2_
      have HO280 := n3_
      clear n0_ n1_ n2_ n3_
      clear ho hb hg hat
      obtain ⟨Ao14, co14, eo14⟩ := Kd.R_slice HO280.out
      (first | subst eo14 | (injection eo14 with f1_ f2_ f3_; have f4_ := f1_.symm; have f5_ := f3_.symm; clear f1_ f2_ f3_; subst f4_; subst f5_))
      refine hK.out _ _ ⟨bc0 BK272, bc1 BK272, bc2 BK272⟩ (fun hHeld => ?_)
      clear hK K
      refine norm_ (a' := ?_) ?_ ?_
      rotate_left
      ·show Act.put _ (some 17) _ = _
       simp only [aP]
       rfl
      refine py HT_ 6 18 (bv 9 0x7f) ?_
      refine one_ (i := 7) (N := some 4) (bv 9 0xff) rfl rfl (one_of HT_.out (by kernel_rfl)) (by decide) (fun K hK => ?_)
      refine box_step ?hg (N := 4) ?hd (cs := #[.int .i64 0, .slice none 0 0, .slice none 0 0]) (t := 25) ?hr ?_; (case hd => rfl); (case hg => rfl); (case hr => first | (go_simp; done) | (go_simp; rfl))
      intro gb281 hg w15 hbox hb
      have n0_ := rb HO280 hb
      have n1_ := bb BK272 hb
      have n2_ := bb BK273 hb
      have n3_ := Aside0.mk (below_step (be2 HB GE272 GE273) hb)
      have n4_ := am hbox
      have n5_ := gs2 hg HB GE272 GE273
      have n6_ := gs2 hg HB GE272 GE273
      have n7_ := Aside0.mk ((by rw [hg]; exact Nat.ne_of_lt (bl BK272) : gb272 ≠ gb281))
      have n8_ := Aside0.mk ((by rw [hg]; exact Nat.ne_of_gt (bl BK272) : gb281 ≠ gb272))
      have n9_ := Aside0.mk ((by rw [hg]; exact Nat.ne_of_lt (bl BK273) : gb273 ≠ gb281))
      have n10_ := Aside0.mk ((by rw [hg]; exact Nat.ne_of_gt (bl BK273) : gb281 ≠ gb273))
      clear HO280
      clear BK272
      clear BK273
      clear HB
      have HO280 := n0_
      have BK272 := n1_
      have BK273 := n2_
      have HB := n3_
      have BK281 := n4_
      have GW281 := n5_
      have GE281 := n6_
      have NB272_281 := n7_
      have NB281_272 := n8_
      have NB273_281 := n9_
      have NB281_273 := n10_
      clear n0_ n1_ n2_ n3_ n4_ n5_ n6_ n7_ n8_ n9_ n10_
      clear hb hbox hg
      refine hK.out _ _ ⟨bc0 BK272, bc1 BK272, bc2 BK272⟩ (fun hHeld => ?_)
      clear hK K
      refine norm_ (a' := ?_) ?_ ?_
      rotate_left
      ·show Act.put _ (some 4) _ = _
       simp only [aP]
       rfl
      exact norm_ (by simp only [putAll, Act.put, List.setIfInBounds_toArray, List.set_cons_zero, List.set_cons_succ]) (hCont (v276, .slice Ao14 y278.length co14, gb281) _ ⟨hHeld, (ro HO280), (bk BK272), (bk BK273), (bk BK281), GW281.out, GE281.out, NB272_281.out, NB281_272.out, NB273_281.out, NB281_273.out, (be3 HB GE272 GE273 GE281)⟩)
     skip
     refine box_step ?hg (N := 4) ?hd (cs := #[.int .i64 0, .slice none 0 0, .slice none 0 0]) (t := 25) ?hr ?_; (case hd => rfl); (case hg => rfl); (case hr => first | (go_simp; done) | (go_simp; rfl))
     intro gb281 hg w13 hbox hb
     have n0_ := rb HO277 hb
     have n1_ := bb BK272 hb
     have n2_ := bb BK273 hb
     have n3_ := Aside0.mk (below_step (be2 HB GE272 GE273) hb)
     have n4_ := am hbox
     have n5_ := gs2 hg HB GE272 GE273
     have n6_ := gs2 hg HB GE272 GE273
     have n7_ := Aside0.mk ((by rw [hg]; exact Nat.ne_of_lt (bl BK272) : gb272 ≠ gb281))
     have n8_ := Aside0.mk ((by rw [hg]; exact Nat.ne_of_gt (bl BK272) : gb281 ≠ gb272))
     have n9_ := Aside0.mk ((by rw [hg]; exact Nat.ne_of_lt (bl BK273) : gb273 ≠ gb281))
     have n10_ := Aside0.mk ((by rw [hg]; exact Nat.ne_of_gt (bl BK273) : gb281 ≠ gb273))
     clear HO277
     clear BK272
     clear BK273
     clear HB
     have HO277 := n0_
     have BK272 := n1_
     have BK273 := n2_
     have HB := n3_
     have BK281 := n4_
     have GW281 := n5_
     have GE281 := n6_
     have NB272_281 := n7_
     have NB281_272 := n8_
     have NB273_281 := n9_
     have NB281_273 := n10_
     clear n0_ n1_ n2_ n3_ n4_ n5_ n6_ n7_ n8_ n9_ n10_
     clear hb hbox hg
     refine hK.out _ _ ⟨bc0 BK272, bc1 BK272, bc2 BK272⟩ (fun hHeld => ?_)
     clear hK K
     refine norm_ (a' := ?_) ?_ ?_
     rotate_left
     ·show Act.put _ (some 4) _ = _
      simp only [aP]
      rfl
     refine one_ (i := 5) (N := some 17) (bv 9 0xbf) rfl rfl (one_of HT_.out (by kernel_rfl)) (by decide) (fun K hK => ?_)
     refine Kd.R_append_rows_step (Kd.int .i64) (w0 := w) w.heap.size (by rfl) (.tmp 14) (.tmp 16) 22 3 (.int .i64 0) 8 rfl Try.underlying22 info3 rfl (by decide) (by omega) v276 y275 l0_1 _ _ _ (fun _ => True) (fun _ => False) rfl rfl ?aO ?aR (fun _ _ h => h) (fun _ h => h.elim) ?aF ?aB ?aS ?aL ?_
     (case aR => repeat (first | exact (Kd.C_below HR0_1.out HB.out) | (with_reducible refine Kd.C_alloc ?_ _) | (with_reducible refine Kd.C_drewN ?_ _) | (with_reducible refine Kd.C_drew ?_)))
     (case aB => exact (be3 HB GE272 GE273 GE281))
     (case aF => exact (fun _ _ => trivial))
     (case aO => exact (ro HO277))
     (case aS => exact (below_size (be3 HB GE272 GE273 GE281)))
     (case aL => have := LMc4.out; omega)
     intro v279 w14 ho hb hg hat
     rw [← Ny278.out] at ho
     have n0_ := Aside0.mk (blk_grown (g := gb272) (o := .cells #[.int .i64 a0_0, .slice A0_1 l0_1.length c0_1, .slice A0_2 l0_2.length c0_2] 25 (0, 0)) (bk BK272) hg (Kd.R_ne HO277.out BK272.out (by decide)))
     have n1_ := Aside0.mk (blk_grown (g := gb273) (o := .cells #[.int .i64 0, .slice none 0 0, .slice none 0 0] 25 (0, 0)) (bk BK273) hg (Kd.R_ne HO277.out BK273.out (by decide)))
     have n2_ := Aside0.mk (blk_grown (g := gb281) (o := .cells #[.int .i64 0, .slice none 0 0, .slice none 0 0] 25 (0, 0)) (bk BK281) hg (Kd.R_ne HO277.out BK281.out (by decide)))
     have n3_ := Aside0.mk (hb)
     have n4_ := Aside0.mk (ho)
     clear BK272
     clear BK273
     clear BK281
     clear HB
     clear HO277
     have BK272 := n0_
     have BK273 := n1_
     have BK281 := n2_
     have HB := n3_
     have HO280 := n4_
     clear n0_ n1_ n2_ n3_ n4_
     clear ho hb hg hat
     obtain ⟨Ao15, co15, eo15⟩ := Kd.R_slice HO280.out
     (first | subst eo15 | (injection eo15 with f1_ f2_ f3_; have f4_ := f1_.symm; have f5_ := f3_.symm; clear f1_ f2_ f3_; subst f4_; subst f5_))
     refine hK.out _ _ ⟨bc0 BK272, bc1 BK272, bc2 BK272⟩ (fun hHeld => ?_)
     clear hK K
     refine norm_ (a' := ?_) ?_ ?_
     rotate_left
     ·show Act.put _ (some 17) _ = _
      simp only [aP]
      rfl
     refine py HT_ 6 18 (bv 9 0xff) ?_
     exact norm_ (by simp only [putAll, Act.put, List.setIfInBounds_toArray, List.set_cons_zero, List.set_cons_succ]) (hCont (v276, .slice Ao15 y278.length co15, gb281) _ ⟨hHeld, (ro HO280), (bk BK272), (bk BK273), (bk BK281), GW281.out, GE281.out, NB272_281.out, NB281_272.out, NB273_281.out, NB281_273.out, (be3 HB GE272 GE273 GE281)⟩)
    skip
    refine box_step ?hg (N := 4) ?hd (cs := #[.int .i64 0, .slice none 0 0, .slice none 0 0]) (t := 25) ?hr ?_; (case hd => rfl); (case hg => rfl); (case hr => first | (go_simp; done) | (go_simp; rfl))
    intro gb281 hg w11 hbox hb
    have n0_ := bb BK272 hb
    have n1_ := bb BK273 hb
    have n2_ := Aside0.mk (below_step (be2 HB GE272 GE273) hb)
    have n3_ := am hbox
    have n4_ := gs2 hg HB GE272 GE273
    have n5_ := gs2 hg HB GE272 GE273
    have n6_ := Aside0.mk ((by rw [hg]; exact Nat.ne_of_lt (bl BK272) : gb272 ≠ gb281))
    have n7_ := Aside0.mk ((by rw [hg]; exact Nat.ne_of_gt (bl BK272) : gb281 ≠ gb272))
    have n8_ := Aside0.mk ((by rw [hg]; exact Nat.ne_of_lt (bl BK273) : gb273 ≠ gb281))
    have n9_ := Aside0.mk ((by rw [hg]; exact Nat.ne_of_gt (bl BK273) : gb281 ≠ gb273))
    clear BK272
    clear BK273
    clear HB
    have BK272 := n0_
    have BK273 := n1_
    have HB := n2_
    have BK281 := n3_
    have GW281 := n4_
    have GE281 := n5_
    have NB272_281 := n6_
    have NB281_272 := n7_
    have NB273_281 := n8_
    have NB281_273 := n9_
    clear n0_ n1_ n2_ n3_ n4_ n5_ n6_ n7_ n8_ n9_
    clear hb hbox hg
    refine hK.out _ _ ⟨bc0 BK272, bc1 BK272, bc2 BK272⟩ (fun hHeld => ?_)
    clear hK K
    refine norm_ (a' := ?_) ?_ ?_
    rotate_left
    ·show Act.put _ (some 4) _ = _
     simp only [aP]
     rfl
    refine one_ (i := 2) (N := some 14) (bv 9 0x9f) rfl rfl (one_of HT_.out (by kernel_rfl)) (by decide) (fun K hK => ?_)
    refine Kd.R_lit_step (Kd.int .i64) _ 3 ?hg (N := 14) ?hd (xs := ([] : List Int)) (inner := []) (ok := fun _ => True) (okp := fun _ => True) ?hr ?hp (fun _ hk => hk) trivial (Below.refl _ _) (Nat.le_refl _) (by simp) ?_; (case hd => rfl); (case hg => rfl); (case hr => first | (go_simp; done) | (go_simp; rfl)); (case hp => exact (Reps.none _ _))
    intro v276 w12 ho13 hb hg_ hnew_
    clear hg_ hnew_
    (first | rw [← Ny275.out] at ho13 | (simp only [Int.reduceToNat] at ho13; rw [← Ny275.out] at ho13))
    have n0_ := Aside0.mk (Kd.R_lower ho13 (below_size (be3 HB GE272 GE273 GE281)))
    have n1_ := bb BK272 hb
    have n2_ := bb BK273 hb
    have n3_ := bb BK281 hb
    have n4_ := Aside0.mk (below_step (be3 HB GE272 GE273 GE281) hb)
    clear BK272
    clear BK273
    clear BK281
    clear HB
    have HO277 := n0_
    have BK272 := n1_
    have BK273 := n2_
    have BK281 := n3_
    have HB := n4_
    clear n0_ n1_ n2_ n3_ n4_
    clear hb ho13
    refine hK.out _ _ ⟨bc0 BK272, bc1 BK272, bc2 BK272⟩ (fun hHeld => ?_)
    clear hK K
    refine norm_ (a' := ?_) ?_ ?_
    rotate_left
    ·show Act.put _ (some 14) _ = _
     simp only [aP]
     rfl
    refine one_ (i := 5) (N := some 17) (bv 9 0xbf) rfl rfl (one_of HT_.out (by kernel_rfl)) (by decide) (fun K hK => ?_)
    refine Kd.R_append_rows_step (Kd.int .i64) (w0 := w) w.heap.size (by rfl) (.tmp 14) (.tmp 16) 22 3 (.int .i64 0) 8 rfl Try.underlying22 info3 rfl (by decide) (by omega) v276 y275 l0_1 _ _ _ (fun _ => True) (fun _ => False) rfl rfl ?aO ?aR (fun _ _ h => h) (fun _ h => h.elim) ?aF ?aB ?aS ?aL ?_
    (case aR => repeat (first | exact (Kd.C_below HR0_1.out HB.out) | (with_reducible refine Kd.C_alloc ?_ _) | (with_reducible refine Kd.C_drewN ?_ _) | (with_reducible refine Kd.C_drew ?_)))
    (case aB => exact (be3 HB GE272 GE273 GE281))
    (case aF => exact (fun _ _ => trivial))
    (case aO => exact (ro HO277))
    (case aS => exact (below_size (be3 HB GE272 GE273 GE281)))
    (case aL => have := LMc4.out; omega)
    intro v279 w14 ho hb hg hat
    rw [← Ny278.out] at ho
    have n0_ := Aside0.mk (blk_grown (g := gb272) (o := .cells #[.int .i64 a0_0, .slice A0_1 l0_1.length c0_1, .slice A0_2 l0_2.length c0_2] 25 (0, 0)) (bk BK272) hg (Kd.R_ne HO277.out BK272.out (by decide)))
    have n1_ := Aside0.mk (blk_grown (g := gb273) (o := .cells #[.int .i64 0, .slice none 0 0, .slice none 0 0] 25 (0, 0)) (bk BK273) hg (Kd.R_ne HO277.out BK273.out (by decide)))
    have n2_ := Aside0.mk (blk_grown (g := gb281) (o := .cells #[.int .i64 0, .slice none 0 0, .slice none 0 0] 25 (0, 0)) (bk BK281) hg (Kd.R_ne HO277.out BK281.out (by decide)))
    have n3_ := Aside0.mk (hb)
    have n4_ := Aside0.mk (ho)
    clear BK272
    clear BK273
    clear BK281
    clear HB
    clear HO277
    have BK272 := n0_
    have BK273 := n1_
    have BK281 := n2_
    have HB := n3_
    have HO280 := n4_
    clear n0_ n1_ n2_ n3_ n4_
    clear ho hb hg hat
    obtain ⟨Ao15, co15, eo15⟩ := Kd.R_slice HO280.out
    (first | subst eo15 | (injection eo15 with f1_ f2_ f3_; have f4_ := f1_.symm; have f5_ := f3_.symm; clear f1_ f2_ f3_; subst f4_; subst f5_))
    refine hK.out _ _ ⟨bc0 BK272, bc1 BK272, bc2 BK272⟩ (fun hHeld => ?_)
    clear hK K
    refine norm_ (a' := ?_) ?_ ?_
    rotate_left
    ·show Act.put _ (some 17) _ = _
     simp only [aP]
     rfl
    refine py HT_ 6 18 (bv 9 0xff) ?_
    exact norm_ (by simp only [putAll, Act.put, List.setIfInBounds_toArray, List.set_cons_zero, List.set_cons_succ]) (hCont (v276, .slice Ao15 y278.length co15, gb281) _ ⟨hHeld, (ro HO280), (bk BK272), (bk BK273), (bk BK281), GW281.out, GE281.out, NB272_281.out, NB281_272.out, NB273_281.out, NB281_273.out, (be3 HB GE272 GE273 GE281)⟩)
   rintro ⟨v276, v279, gb281⟩ w16 ⟨hS_, h0_, h1_, h2_, h3_, h4_, h5_, h6_, h7_, h8_, h9_, h10_⟩
   have n0_ : Aside0 (Kd.R (Kd.int .i64) 3 w16 w.heap.size (fun _ => True) v279 y278) := ⟨h0_⟩
   have n1_ : Aside0 (w16.heap[gb272]? = some (.cells #[.int .i64 a0_0, .slice A0_1 l0_1.length c0_1, .slice A0_2 l0_2.length c0_2] 25 (0, 0))) := ⟨h1_⟩
   have n2_ : Aside0 (w16.heap[gb273]? = some (.cells #[.int .i64 0, .slice none 0 0, .slice none 0 0] 25 (0, 0))) := ⟨h2_⟩
   have n3_ : Aside0 (w16.heap[gb281]? = some (.cells #[.int .i64 0, .slice none 0 0, .slice none 0 0] 25 (0, 0))) := ⟨h3_⟩
   have n4_ : Aside0 (w.heap.size ≤ gb281) := ⟨h4_⟩
   have n5_ : Aside0 (w.heap.size ≤ gb281) := ⟨h5_⟩
   have n6_ : Aside0 (gb272 ≠ gb281) := ⟨h6_⟩
   have n7_ : Aside0 (gb281 ≠ gb272) := ⟨h7_⟩
   have n8_ : Aside0 (gb273 ≠ gb281) := ⟨h8_⟩
   have n9_ : Aside0 (gb281 ≠ gb273) := ⟨h9_⟩
   have n10_ : Aside0 (Below w.heap.size w w16) := ⟨h10_⟩
   clear BK272
   clear BK273
   clear HB
   clear h0_ h1_ h2_ h3_ h4_ h5_ h6_ h7_ h8_ h9_ h10_
   have HO280 := n0_
   have BK272 := n1_
   have BK273 := n2_
   have BK281 := n3_
   have GW281 := n4_
   have GE281 := n5_
   have NB272_281 := n6_
   have NB281_272 := n7_
   have NB273_281 := n8_
   have NB281_273 := n9_
   have HB := n10_
   clear n0_ n1_ n2_ n3_ n4_ n5_ n6_ n7_ n8_ n9_ n10_
   have hHeld : w16.cell? ⟨gb272, 0, none⟩ = some (.int .i64 a0_0) ∧ w16.cell? ⟨gb272, 1, none⟩ = some (.slice A0_1 l0_1.length c0_1) ∧ w16.cell? ⟨gb272, 2, none⟩ = some (.slice A0_2 l0_2.length c0_2) := hS_
   obtain ⟨Ao17, co17, eo17⟩ := Kd.R_slice HO280.out
   (first | subst eo17 | (injection eo17 with f1_ f2_ f3_; have f4_ := f1_.symm; have f5_ := f3_.symm; clear f1_ f2_ f3_; subst f4_; subst f5_))
   refine norm_ (a' := ?_) ?_ ?_
   rotate_left
   ·simp only [putAll, Act.put, List.setIfInBounds_toArray, List.set_cons_zero, List.set_cons_succ]
    rfl
   refine one_ (i := 8) (N := none) (bv 9 0x1ff) rfl rfl (one_of HT_.out (by kernel_rfl)) (by decide) (fun K hK => ?_)
   have hs18 : w16.cell? ⟨gb281, 0, none⟩ = some (.int .i64 0) := bc0 BK281
   have hfs18 := blk_frozen BK281.out 0
   have hns18_0 := NB272_281.out
   have hns18_1 := NB273_281.out
   have hms18_0 := NB281_272.out
   have hms18_1 := NB281_273.out
   have hs19 : w16.cell? ⟨gb281, 1, none⟩ = some (.slice none 0 0) := bc1 BK281
   have hfs19 := blk_frozen BK281.out 1
   have hns19_0 := NB272_281.out
   have hns19_1 := NB273_281.out
   have hms19_0 := NB281_272.out
   have hms19_1 := NB281_273.out
   have hs20 : w16.cell? ⟨gb281, 2, none⟩ = some (.slice none 0 0) := bc2 BK281
   have hfs20 := blk_frozen BK281.out 2
   have hns20_0 := NB272_281.out
   have hns20_1 := NB273_281.out
   have hms20_0 := NB281_272.out
   have hms20_1 := NB281_273.out
   refine skip_ (w1 := ?_) (by rfl) rfl ?_ ?_
   rotate_left
   ·go_simp
    rfl
   refine hK.out _ _ ⟨((cell_far (p := ⟨gb281, _, none⟩) NB272_281.out _).trans (((cell_far (p := ⟨gb281, _, none⟩) NB272_281.out _).trans (((cell_far (p := ⟨gb281, _, none⟩) NB272_281.out _).trans (hHeld.1)))))), ((cell_far (p := ⟨gb281, _, none⟩) NB272_281.out _).trans (((cell_far (p := ⟨gb281, _, none⟩) NB272_281.out _).trans (((cell_far (p := ⟨gb281, _, none⟩) NB272_281.out _).trans (hHeld.2.1)))))), ((cell_far (p := ⟨gb281, _, none⟩) NB272_281.out _).trans (((cell_far (p := ⟨gb281, _, none⟩) NB272_281.out _).trans (((cell_far (p := ⟨gb281, _, none⟩) NB272_281.out _).trans (hHeld.2.2))))))⟩ (fun hHeld => ?_)
   clear hK K
   refine done_ (done_of HT_.out (by kernel_rfl)) ?_
   try go_wp2_with (first | ((with_reducible refine gate_dst (N := 19) rfl ?_); refine Kd.R_lit (Kd.int .i64) _ 3 ?hg (N := 19) ?hd (xs := ([] : List Int)) (inner := []) (ok := fun _ => True) (okp := fun _ => True) ?hr ?hp (fun _ hk => hk) trivial (Below.refl _ _) (Nat.le_refl _) (by simp) ?_; (case hd => rfl); (case hg => rfl); (case hr => first | (go_simp; done) | (go_simp; rfl)); (case hp => exact (Reps.none _ _)); intro v283 w21 ho22 hb hg_ hnew_; clear hg_ hnew_; (first | rw [← Ny282.out] at ho22 | (simp only [Int.reduceToNat] at ho22; rw [← Ny282.out] at ho22)); have HO284 := Aside0.mk (Kd.R_lower (Kd.R_new' ho22 (Kd.R_lt (rf HO280 BK281))) (below_size (be3 HB GE272 GE273 GE281))); replace HO280 := Aside0.mk (Kd.R_elder' (rf HO280 BK281) (Kd.R_base ho22) hb); replace BK272 := Aside0.mk (blk_below (g := gb272) (o := .cells #[.int .i64 a0_0, .slice A0_1 l0_1.length c0_1, .slice A0_2 l0_2.length c0_2] 25 (0, 0)) (bf1 BK272 NB272_281) hb); replace BK273 := Aside0.mk (blk_below (g := gb273) (o := .cells #[.int .i64 0, .slice none 0 0, .slice none 0 0] 25 (0, 0)) (bf1 BK273 NB273_281) hb); replace BK281 := Aside0.mk (blk_below (g := gb281) (o := .cells #[.int .i64 a0_0, .slice Ao17 y278.length co17, .slice none 0 0] 25 (0, 0)) (by (with_reducible repeat (first | refine blk_drewN ?_ _ | refine blk_drew ?_ | refine blk_alloc ?_ _)); refine blk_put (cs := #[.int .i64 a0_0, .slice Ao17 y278.length co17, .slice none 0 0]) ?_ 2 _ rfl; (with_reducible repeat (first | refine blk_drewN ?_ _ | refine blk_drew ?_ | refine blk_alloc ?_ _)); refine blk_put (cs := #[.int .i64 a0_0, .slice none 0 0, .slice none 0 0]) ?_ 1 _ rfl; (with_reducible repeat (first | refine blk_drewN ?_ _ | refine blk_drew ?_ | refine blk_alloc ?_ _)); refine blk_put (cs := #[.int .i64 0, .slice none 0 0, .slice none 0 0]) ?_ 0 _ rfl; (with_reducible repeat (first | refine blk_drewN ?_ _ | refine blk_drew ?_ | refine blk_alloc ?_ _)); exact BK281.out) hb); replace HB := Aside0.mk (below_step (be3 HB GE272 GE273 GE281) hb); clear hb ho22; have hnb23 := NB272_281.out; have hnc23 := NB281_272.out; have hcz24_0 := bz3 BK272))
   go_loopg [5, 23] k (fun kq v5 v23 w' => ∃ (x5_1 : List Int) (x23_1 : Int) (x282002_1 : List (S70)) (u282002 : Value), v23 = .int .i64 x23_1 ∧ Aside0 (spec_Collect.l0 kq x5_1 l0_2 (l0_2.length : Int) x23_1 a0_0 l0_1 l0_2 a0_0 y278 x282002_1 = some (r1, r2, r3, r4)) ∧ Aside0 (kq ≤ k) ∧ Aside0 (Kd.R (Kd.int .i64) 3 w' w.heap.size (fun k_ => nb k_ Ao17 y278.length co17) v5 x5_1) ∧ Aside0 (Kd.R (Kd.int .i64) 3 w' w.heap.size (fun k_ => some k_ ≠ (v5 : Value).ownBlock) (.slice Ao17 y278.length co17) y278) ∧ Aside0 (Kd.R k70 70 w' w.heap.size (fun _ => True) u282002 x282002_1) ∧ Aside0 (w'.heap[gb272]? = some (.cells #[.int .i64 a0_0, (.slice A0_1 l0_1.length c0_1), (.slice A0_2 l0_2.length c0_2)] 25 (0, 0))) ∧ Aside0 (w'.heap[gb273]? = some (.cells #[.int .i64 0, (.slice none 0 0), (.slice none 0 0)] 25 (0, 0))) ∧ Aside0 (w'.heap[gb281]? = some (.cells #[.int .i64 a0_0, (.slice Ao17 y278.length co17), u282002] 25 (0, 0))) ∧ Aside0 (Below w.heap.size w w'))
   case atStart => exact ⟨(y282), (0), (([] : List (S70))), (.slice none 0 0), rs, H', ⟨Nat.le_refl _⟩, ⟨by (with_reducible repeat (first | apply Kd.R_alloc | apply Kd.R_drewN | apply Kd.R_drew)); exact Kd.R_mono HO284.out (fun _ hk => hk.2)⟩, ⟨by (with_reducible repeat (first | apply Kd.R_alloc | apply Kd.R_drewN | apply Kd.R_drew)); exact Kd.R_mono HO280.out (fun _ hk => hk.2)⟩, ⟨by first | exact Kd.R_nil _ _ _ _ _ | exact Kd.N_nil _ _ _ _ _ | exact Kd.V_nil _ _ _ _ _ | exact Kd.Q_nil _ _ _ _ _ | exact Kd.S_nil _ _ _ _ _⟩, ⟨bk BK272⟩, ⟨bk BK273⟩, ⟨bk BK281⟩, ⟨be3 HB GE272 GE273 GE281⟩⟩
   case round =>
    clear H'
    try clear c2; try clear p2; try clear c3; try clear c4; try clear c5; try clear c7; try clear c23; try clear hcz24_0; try clear hcz8_0
    obtain ⟨x5_1, x23_1, x282002_1, u282002, rfl, HA, HK1, HO_5, HO_282001, HO_282002, BK272, BK273, BK281, HB⟩ := hrel
    cases gk with
    | zero => exact absurd HA.out (by simp [spec_Collect.l0])
    | succ k1 =>
     have H := HA.out
     clear HA
     simp only [spec_Collect.l0] at H
     by_cases c25 : x23_1 < (l0_2.length : Int)
     ·rw [if_pos c25] at H
      have c25b0 : decide (x23_1 < (l0_2.length : Int)) = true := decide_eq_true c25
      clear c25
      by_cases c26 : 0 ≤ x23_1
      ·rw [if_pos c26] at H
       have c26b0 : decide (0 ≤ x23_1) = true := decide_eq_true c26
       clear c26
       by_cases c27 : x23_1 < (l0_2.length : Int)
       ·rw [if_pos c27] at H
        have c27b0 : decide (x23_1 < (l0_2.length : Int)) = true := decide_eq_true c27
        clear c27
        by_cases c28 : ((rd_T70 l0_2 x23_1).f1) ≤ (wrap64 (a0_0 - 2))
        ·rw [if_pos c28] at H
         have c28b0 : decide (((rd_T70 l0_2 x23_1).f1) ≤ (wrap64 (a0_0 - 2))) = true := decide_eq_true c28
         clear c28
         by_cases c29 : x5_1.length < 17592186044416
         ·rw [if_pos c29] at H
          have LMc29 := Aside0.mk c29
          clear c29
          obtain ⟨y287, hy287⟩ : ∃ y_ : List Int, y_ = (x5_1 ++ [(rd_T70 l0_2 x23_1).f0]) := ⟨_, rfl⟩
          replace H : (spec_Collect.l0 k1 y287 l0_2 (l0_2.length : Int) (wrap64 (x23_1 + 1)) a0_0 l0_1 l0_2 a0_0 y278 x282002_1) = some (r1, r2, r3, r4) := by first | (rw [hy287]; with_reducible exact H) | (have H2_ := (Option.bind_some _ _).symm.trans H; rw [hy287]; with_reducible exact H2_) | (have H2_ := (Option.bind_some _ _).symm.trans H; with_reducible exact H2_) | with_reducible exact H | (rw [hy287]; exact H) | exact H
          have Ny287 := Aside0.mk hy287
          clear hy287
          have H' := Aside0.mk H
          clear H
          have p285 : 0 ≤ (x23_1 : Int) := od
          have q285 : x23_1 < (l0_2.length : Int) := od
          obtain ⟨ad285, e285, hx285_0, hx285_1⟩ := at_T70 HR0_2.out x23_1 p285 q285
          cases e285
          replace hx285_0 := hc HB hx285_0
          replace hx285_1 := hc HB hx285_1
          replace p285 := eq_true p285
          replace q285 := eq_true q285
          go_wp2_with (first | ((with_reducible refine gate_dst (N := 7) rfl ?_); refine bx 7 #[.int .i64 0, .int .i64 0] 70 ?_; intro gb286 hg w30 hbox hb; replace HO_5 := rb HO_5 hb; replace HO_282001 := rb HO_282001 hb; replace HO_282002 := Aside0.mk (Kd.R_below (Kd.R_elderB (ro HO_282002) gb286 (Nat.le_of_eq hg.symm)) hb); have BK286 := am hbox; have GW286 := Aside0.mk ((by rw [hg]; exact (below_size (be3 HB GE272 GE273 GE281)) : w.heap.size ≤ gb286)); have GE286 := Aside0.mk ((by rw [hg]; exact (below_size (be3 HB GE272 GE273 GE281)) : w.heap.size ≤ gb286)); replace HB := Aside0.mk (below_step (be3 HB GE272 GE273 GE281) hb); have NB272_286 := Aside0.mk ((by rw [hg]; exact Nat.ne_of_lt (bl BK272) : gb272 ≠ gb286)); have NB286_272 := Aside0.mk ((by rw [hg]; exact Nat.ne_of_gt (bl BK272) : gb286 ≠ gb272)); replace BK272 := bb BK272 hb; have NB273_286 := Aside0.mk ((by rw [hg]; exact Nat.ne_of_lt (bl BK273) : gb273 ≠ gb286)); have NB286_273 := Aside0.mk ((by rw [hg]; exact Nat.ne_of_gt (bl BK273) : gb286 ≠ gb273)); replace BK273 := bb BK273 hb; have NB281_286 := Aside0.mk ((by rw [hg]; exact Nat.ne_of_lt (bl BK281) : gb281 ≠ gb286)); have NB286_281 := Aside0.mk ((by rw [hg]; exact Nat.ne_of_gt (bl BK281) : gb286 ≠ gb281)); replace BK281 := bb BK281 hb; clear hb hbox hg; have hnb31 := NB286_272.out; have hnc31 := NB272_286.out; have hnb32 := NB286_273.out; have hnc32 := NB273_286.out; have hnb33 := NB286_281.out; have hnc33 := NB281_286.out; have hcz34_0 := bz2 BK286; have hnb35 := NB272_273.out; have hnc35 := NB273_272.out; have hnb36 := NB272_281.out; have hnc36 := NB281_272.out; have hcz37_0 := bz3 BK272) | ((with_reducible refine gate_builtin (b := .append) (xs := #[.tmp 33, .tmp 36]) rfl ?_); at_builtin; refine Kd.R_append (Kd.int .i64) (w0 := w) w.heap.size rfl (.tmp 33) (.tmp 36) 22 3 (.int .i64 0) 8 rfl Try.underlying22 info3 rfl (by decide) (by omega) u5 x5_1 ((rd_T70 l0_2 x23_1).f0) [.int .i64 ((rd_T70 l0_2 x23_1).f0)] (fun k_ => nb k_ Ao17 y278.length co17) (fun _ => False) rfl (by first | (go_simp; done) | (go_simp; rfl)) ?aP (fun _ hk => hk.elim) ?aF ?aO ?aB ?aS ?aL ?_; (case aP => exact rfl); (case aB => exact (be4 HB GE272 GE273 GE281 GE286)); (case aF => exact (fun k_ hk => Kd.fresh' (Kd.R_lt (by (with_reducible repeat (first | apply Kd.R_alloc | apply Kd.R_drewN | apply Kd.R_drew)); exact (Kd.R_mono (Kd.R_far (p := ⟨gb286, 1, none⟩) (Kd.R_far (p := ⟨gb286, 0, none⟩) (Kd.R_types HO_282001.out BK286.out (by decide)) (fun _ hk => hk.2) (.int .i64 ((rd_T70 l0_2 x23_1).f0))) (fun _ hk => hk.2) (.int .i64 ((rd_T70 l0_2 x23_1).f1))) (fun _ h_ => h_.1)))) k_ hk)); (case aO => exact (by (with_reducible repeat (first | apply Kd.R_alloc | apply Kd.R_drewN | apply Kd.R_drew)); exact Kd.R_mono (Kd.R_far (p := ⟨gb286, 1, none⟩) (Kd.R_far (p := ⟨gb286, 0, none⟩) (Kd.R_types HO_5.out BK286.out (by decide)) (fun _ hk => hk.2) (.int .i64 ((rd_T70 l0_2 x23_1).f0))) (fun _ hk => hk.2) (.int .i64 ((rd_T70 l0_2 x23_1).f1))) (fun _ hk => hk.1))); (case aS => exact (below_size (be4 HB GE272 GE273 GE281 GE286))); (case aL => have := LMc29.out; omega); intro v288 w38 ho hb hg hat; rw [← Ny287.out] at ho; replace HO_282001 := Aside0.mk (Kd.R_after (ok := (fun _ => True)) (by (with_reducible repeat (first | apply Kd.R_alloc | apply Kd.R_drewN | apply Kd.R_drew)); exact Kd.R_mono (Kd.R_far (p := ⟨gb286, 1, none⟩) (Kd.R_far (p := ⟨gb286, 0, none⟩) (Kd.R_types HO_282001.out BK286.out (by decide)) (fun _ hk => hk.2) (.int .i64 ((rd_T70 l0_2 x23_1).f0))) (fun _ hk => hk.2) (.int .i64 ((rd_T70 l0_2 x23_1).f1))) (fun _ hk => ⟨trivial, hk.1⟩)) hg hat); replace HO_282002 := Aside0.mk (Kd.R_over' (by (with_reducible repeat (first | apply Kd.R_alloc | apply Kd.R_drewN | apply Kd.R_drew)); exact (Kd.R_mono (Kd.R_far (p := ⟨gb286, 1, none⟩) (Kd.R_far (p := ⟨gb286, 0, none⟩) (Kd.R_mono HO_282002.out (fun k_ hk => (⟨hk, hk.2⟩ : _ ∧ k_ ≠ gb286))) (fun _ hk => hk.2) (.int .i64 ((rd_T70 l0_2 x23_1).f0))) (fun _ hk => hk.2) (.int .i64 ((rd_T70 l0_2 x23_1).f1))) (fun _ h_ => h_.1))) (Kd.R_typed (by (with_reducible repeat (first | apply Kd.R_alloc | apply Kd.R_drewN | apply Kd.R_drew)); exact (Kd.R_mono (Kd.R_far (p := ⟨gb286, 1, none⟩) (Kd.R_far (p := ⟨gb286, 0, none⟩) (Kd.R_types HO_5.out BK286.out (by decide)) (fun _ hk => hk.2) (.int .i64 ((rd_T70 l0_2 x23_1).f0))) (fun _ hk => hk.2) (.int .i64 ((rd_T70 l0_2 x23_1).f1))) (fun _ h_ => h_.1)))) (by decide) hg); replace BK272 := Aside0.mk (blk_grown (g := gb272) (o := .cells #[.int .i64 a0_0, .slice A0_1 l0_1.length c0_1, .slice (some ad285) l0_2.length c0_2] 25 (0, 0)) (bf1 BK272 NB272_286) hg (Kd.R_ne HO_5.out BK272.out (by decide))); replace BK273 := Aside0.mk (blk_grown (g := gb273) (o := .cells #[.int .i64 0, .slice none 0 0, .slice none 0 0] 25 (0, 0)) (bf1 BK273 NB273_286) hg (Kd.R_ne HO_5.out BK273.out (by decide))); replace BK281 := Aside0.mk (blk_grown (g := gb281) (o := .cells #[.int .i64 a0_0, .slice Ao17 y278.length co17, u282002] 25 (0, 0)) (bf1 BK281 NB281_286) hg (Kd.R_ne HO_5.out BK281.out (by decide))); replace BK286 := Aside0.mk (blk_grown (g := gb286) (o := .cells #[.int .i64 ((rd_T70 l0_2 x23_1).f0), .int .i64 ((rd_T70 l0_2 x23_1).f1)] 70 (0, 0)) (by (with_reducible repeat (first | refine blk_drewN ?_ _ | refine blk_drew ?_ | refine blk_alloc ?_ _)); refine blk_put (cs := #[.int .i64 ((rd_T70 l0_2 x23_1).f0), .int .i64 0]) ?_ 1 _ rfl; (with_reducible repeat (first | refine blk_drewN ?_ _ | refine blk_drew ?_ | refine blk_alloc ?_ _)); refine blk_put (cs := #[.int .i64 0, .int .i64 0]) ?_ 0 _ rfl; (with_reducible repeat (first | refine blk_drewN ?_ _ | refine blk_drew ?_ | refine blk_alloc ?_ _)); exact BK286.out) hg (Kd.R_ne HO_5.out BK286.out (by decide))); replace HB := Aside0.mk (hb); have HO289 := Aside0.mk (ho); clear HO_5; clear ho hb hg hat))
          go_roundg k1
          case measure => have := HK1.out; omega
          case rel => exact ⟨(y287), (wrap64 (x23_1 + 1)), (x282002_1), (u282002), rs, H', ⟨by have := HK1.out; omega⟩, ⟨ro HO289⟩, ⟨by (with_reducible repeat (first | apply Kd.R_alloc | apply Kd.R_drewN | apply Kd.R_drew)); exact Kd.R_mono HO_282001.out (fun _ hk => hk.2)⟩, ⟨by (with_reducible repeat (first | apply Kd.R_alloc | apply Kd.R_drewN | apply Kd.R_drew)); exact Kd.R_mono HO_282002.out (fun _ hk => trivial)⟩, ⟨bk BK272⟩, ⟨bk BK273⟩, ⟨bk BK281⟩, ⟨be4 HB GE272 GE273 GE281 GE286⟩⟩
         rw [if_neg c29] at H
         exact absurd H (by simp)
        rw [if_neg c28] at H
        have c28b0 : decide (((rd_T70 l0_2 x23_1).f1) ≤ (wrap64 (a0_0 - 2))) = false := decide_eq_false c28
        clear c28
        by_cases c39 : x282002_1.length < 8796093022208
        ·rw [if_pos c39] at H
         have LMc39 := Aside0.mk c39
         clear c39
         obtain ⟨y290, hy290⟩ : ∃ y_ : List (S70), y_ = (x282002_1 ++ [(⟨(rd_T70 l0_2 x23_1).f0, (rd_T70 l0_2 x23_1).f1⟩ : S70)]) := ⟨_, rfl⟩
         replace H : (spec_Collect.l0 k1 x5_1 l0_2 (l0_2.length : Int) (wrap64 (x23_1 + 1)) a0_0 l0_1 l0_2 a0_0 y278 y290) = some (r1, r2, r3, r4) := by first | (rw [hy290]; with_reducible exact H) | (have H2_ := (Option.bind_some _ _).symm.trans H; rw [hy290]; with_reducible exact H2_) | (have H2_ := (Option.bind_some _ _).symm.trans H; with_reducible exact H2_) | with_reducible exact H | (rw [hy290]; exact H) | exact H
         have Ny290 := Aside0.mk hy290
         clear hy290
         have H' := Aside0.mk H
         clear H
         have p285 : 0 ≤ (x23_1 : Int) := od
         have q285 : x23_1 < (l0_2.length : Int) := od
         obtain ⟨ad285, e285, hx285_0, hx285_1⟩ := at_T70 HR0_2.out x23_1 p285 q285
         cases e285
         replace hx285_0 := hc HB hx285_0
         replace hx285_1 := hc HB hx285_1
         replace p285 := eq_true p285
         replace q285 := eq_true q285
         go_wp2_with (first | ((with_reducible refine gate_dst (N := 7) rfl ?_); refine bx 7 #[.int .i64 0, .int .i64 0] 70 ?_; intro gb286 hg w40 hbox hb; replace HO_5 := rb HO_5 hb; replace HO_282001 := rb HO_282001 hb; replace HO_282002 := Aside0.mk (Kd.R_below (Kd.R_elderB (ro HO_282002) gb286 (Nat.le_of_eq hg.symm)) hb); have BK286 := am hbox; have GW286 := Aside0.mk ((by rw [hg]; exact (below_size (be3 HB GE272 GE273 GE281)) : w.heap.size ≤ gb286)); have GE286 := Aside0.mk ((by rw [hg]; exact (below_size (be3 HB GE272 GE273 GE281)) : w.heap.size ≤ gb286)); replace HB := Aside0.mk (below_step (be3 HB GE272 GE273 GE281) hb); have NB272_286 := Aside0.mk ((by rw [hg]; exact Nat.ne_of_lt (bl BK272) : gb272 ≠ gb286)); have NB286_272 := Aside0.mk ((by rw [hg]; exact Nat.ne_of_gt (bl BK272) : gb286 ≠ gb272)); replace BK272 := bb BK272 hb; have NB273_286 := Aside0.mk ((by rw [hg]; exact Nat.ne_of_lt (bl BK273) : gb273 ≠ gb286)); have NB286_273 := Aside0.mk ((by rw [hg]; exact Nat.ne_of_gt (bl BK273) : gb286 ≠ gb273)); replace BK273 := bb BK273 hb; have NB281_286 := Aside0.mk ((by rw [hg]; exact Nat.ne_of_lt (bl BK281) : gb281 ≠ gb286)); have NB286_281 := Aside0.mk ((by rw [hg]; exact Nat.ne_of_gt (bl BK281) : gb286 ≠ gb281)); replace BK281 := bb BK281 hb; clear hb hbox hg; have hnb41 := NB286_272.out; have hnc41 := NB272_286.out; have hnb42 := NB286_273.out; have hnc42 := NB273_286.out; have hnb43 := NB286_281.out; have hnc43 := NB281_286.out; have hcz44_0 := bz2 BK286; have hnb45 := NB272_273.out; have hnc45 := NB273_272.out; have hnb46 := NB272_281.out; have hnc46 := NB281_272.out; have hcz47_0 := bz3 BK272; have hnb48 := NB281_273.out; have hnc48 := NB273_281.out; have hcz49_0 := bz3 BK281) | ((with_reducible refine gate_builtin (b := .append) (xs := #[.tmp 39, .tmp 41]) rfl ?_); at_builtin; refine Kd.R_append k70 (w0 := w) w.heap.size rfl (.tmp 39) (.tmp 41) 23 70 (.agg #[(.int .i64 0), (.int .i64 0)]) 16 rfl Try.underlying23 info70 rfl (by decide) (by omega) u282002 x282002_1 (⟨(rd_T70 l0_2 x23_1).f0, (rd_T70 l0_2 x23_1).f1⟩ : S70) [.int .i64 ((rd_T70 l0_2 x23_1).f0), .int .i64 ((rd_T70 l0_2 x23_1).f1)] (fun k_ => k_ ≠ gb286) (fun _ => False) rfl (by first | (go_simp; done) | (go_simp; rfl)) ?aP (fun _ hk => hk.elim) ?aF ?aO ?aB ?aS ?aL ?_; (case aP => exact k70_mkM _ _ _ (⟨(rd_T70 l0_2 x23_1).f0, (rd_T70 l0_2 x23_1).f1⟩ : S70)); (case aB => exact (be4 HB GE272 GE273 GE281 GE286)); (case aF => exact (fun k_ hk => Kd.freshB (g := gb286) (o := .cells #[.int .i64 ((rd_T70 l0_2 x23_1).f0), .int .i64 ((rd_T70 l0_2 x23_1).f1)] 70 (0, 0)) (by (with_reducible repeat (first | refine blk_drewN ?_ _ | refine blk_drew ?_ | refine blk_alloc ?_ _)); refine blk_put (cs := #[.int .i64 ((rd_T70 l0_2 x23_1).f0), .int .i64 0]) ?_ 1 _ rfl; (with_reducible repeat (first | refine blk_drewN ?_ _ | refine blk_drew ?_ | refine blk_alloc ?_ _)); refine blk_put (cs := #[.int .i64 0, .int .i64 0]) ?_ 0 _ rfl; (with_reducible repeat (first | refine blk_drewN ?_ _ | refine blk_drew ?_ | refine blk_alloc ?_ _)); exact BK286.out) k_ hk)); (case aO => exact (by (with_reducible repeat (first | apply Kd.R_alloc | apply Kd.R_drewN | apply Kd.R_drew)); exact Kd.R_mono (Kd.R_far (p := ⟨gb286, 1, none⟩) (Kd.R_far (p := ⟨gb286, 0, none⟩) (Kd.R_mono HO_282002.out (fun k_ hk => (⟨hk, hk.2⟩ : _ ∧ k_ ≠ gb286))) (fun _ hk => hk.2) (.int .i64 ((rd_T70 l0_2 x23_1).f0))) (fun _ hk => hk.2) (.int .i64 ((rd_T70 l0_2 x23_1).f1))) (fun _ hk => hk.1.2))); (case aS => exact (below_size (be4 HB GE272 GE273 GE281 GE286))); (case aL => have := LMc39.out; omega); intro v291 w50 ho hb hg hat; rw [← Ny290.out] at ho; replace HO_5 := Aside0.mk (Kd.R_over' (by (with_reducible repeat (first | apply Kd.R_alloc | apply Kd.R_drewN | apply Kd.R_drew)); exact (Kd.R_mono (Kd.R_far (p := ⟨gb286, 1, none⟩) (Kd.R_far (p := ⟨gb286, 0, none⟩) (Kd.R_types HO_5.out BK286.out (by decide)) (fun _ hk => hk.2) (.int .i64 ((rd_T70 l0_2 x23_1).f0))) (fun _ hk => hk.2) (.int .i64 ((rd_T70 l0_2 x23_1).f1))) (fun _ h_ => h_.1))) (Kd.R_typed (by (with_reducible repeat (first | apply Kd.R_alloc | apply Kd.R_drewN | apply Kd.R_drew)); exact (Kd.R_mono (Kd.R_far (p := ⟨gb286, 1, none⟩) (Kd.R_far (p := ⟨gb286, 0, none⟩) (Kd.R_mono HO_282002.out (fun k_ hk => (⟨hk, hk.2⟩ : _ ∧ k_ ≠ gb286))) (fun _ hk => hk.2) (.int .i64 ((rd_T70 l0_2 x23_1).f0))) (fun _ hk => hk.2) (.int .i64 ((rd_T70 l0_2 x23_1).f1))) (fun _ h_ => h_.1)))) (by decide) hg); replace HO_282001 := Aside0.mk (Kd.R_over' (by (with_reducible repeat (first | apply Kd.R_alloc | apply Kd.R_drewN | apply Kd.R_drew)); exact (Kd.R_mono (Kd.R_far (p := ⟨gb286, 1, none⟩) (Kd.R_far (p := ⟨gb286, 0, none⟩) (Kd.R_types HO_282001.out BK286.out (by decide)) (fun _ hk => hk.2) (.int .i64 ((rd_T70 l0_2 x23_1).f0))) (fun _ hk => hk.2) (.int .i64 ((rd_T70 l0_2 x23_1).f1))) (fun _ h_ => h_.1))) (Kd.R_typed (by (with_reducible repeat (first | apply Kd.R_alloc | apply Kd.R_drewN | apply Kd.R_drew)); exact (Kd.R_mono (Kd.R_far (p := ⟨gb286, 1, none⟩) (Kd.R_far (p := ⟨gb286, 0, none⟩) (Kd.R_mono HO_282002.out (fun k_ hk => (⟨hk, hk.2⟩ : _ ∧ k_ ≠ gb286))) (fun _ hk => hk.2) (.int .i64 ((rd_T70 l0_2 x23_1).f0))) (fun _ hk => hk.2) (.int .i64 ((rd_T70 l0_2 x23_1).f1))) (fun _ h_ => h_.1)))) (by decide) hg); replace BK272 := Aside0.mk (blk_grown (g := gb272) (o := .cells #[.int .i64 a0_0, .slice A0_1 l0_1.length c0_1, .slice (some ad285) l0_2.length c0_2] 25 (0, 0)) (bf1 BK272 NB272_286) hg (Kd.R_ne HO_282002.out BK272.out (by decide))); replace BK273 := Aside0.mk (blk_grown (g := gb273) (o := .cells #[.int .i64 0, .slice none 0 0, .slice none 0 0] 25 (0, 0)) (bf1 BK273 NB273_286) hg (Kd.R_ne HO_282002.out BK273.out (by decide))); replace BK281 := Aside0.mk (blk_grown (g := gb281) (o := .cells #[.int .i64 a0_0, .slice Ao17 y278.length co17, u282002] 25 (0, 0)) (bf1 BK281 NB281_286) hg (Kd.R_ne HO_282002.out BK281.out (by decide))); replace BK286 := Aside0.mk (blk_grown (g := gb286) (o := .cells #[.int .i64 ((rd_T70 l0_2 x23_1).f0), .int .i64 ((rd_T70 l0_2 x23_1).f1)] 70 (0, 0)) (by (with_reducible repeat (first | refine blk_drewN ?_ _ | refine blk_drew ?_ | refine blk_alloc ?_ _)); refine blk_put (cs := #[.int .i64 ((rd_T70 l0_2 x23_1).f0), .int .i64 0]) ?_ 1 _ rfl; (with_reducible repeat (first | refine blk_drewN ?_ _ | refine blk_drew ?_ | refine blk_alloc ?_ _)); refine blk_put (cs := #[.int .i64 0, .int .i64 0]) ?_ 0 _ rfl; (with_reducible repeat (first | refine blk_drewN ?_ _ | refine blk_drew ?_ | refine blk_alloc ?_ _)); exact BK286.out) hg (Kd.R_away HO_282002.out (fun _ hk => hk.2))); replace HB := Aside0.mk (hb); have HO292 := Aside0.mk (ho); clear HO_282002; clear ho hb hg hat; obtain ⟨Ao51, co51, eo51⟩ := Kd.R_slice HO292.out; subst eo51; have hcz52_0 := bz3 BK281))
         go_roundg k1
         case measure => have := HK1.out; omega
         case rel => exact ⟨(x5_1), (wrap64 (x23_1 + 1)), (y290), (.slice Ao51 y290.length co51), rs, H', ⟨by have := HK1.out; omega⟩, ⟨by (with_reducible repeat (first | apply Kd.R_alloc | apply Kd.R_drewN | apply Kd.R_drew)); exact Kd.R_mono (Kd.R_far (p := ⟨gb281, 2, none⟩) (Kd.R_types HO_5.out BK281.out (by decide)) (fun _ hk => hk.2) (.slice Ao51 y290.length co51)) (fun _ hk => hk.1)⟩, ⟨by (with_reducible repeat (first | apply Kd.R_alloc | apply Kd.R_drewN | apply Kd.R_drew)); exact Kd.R_mono (Kd.R_far (p := ⟨gb281, 2, none⟩) (Kd.R_types HO_282001.out BK281.out (by decide)) (fun _ hk => hk.2) (.slice Ao51 y290.length co51)) (fun _ hk => hk.1)⟩, ⟨by (with_reducible repeat (first | apply Kd.R_alloc | apply Kd.R_drewN | apply Kd.R_drew)); exact Kd.R_mono (Kd.R_far (p := ⟨gb281, 2, none⟩) (Kd.R_types HO292.out BK281.out (by decide)) (fun _ hk => hk.2) (.slice Ao51 y290.length co51)) (fun _ hk => trivial)⟩, ⟨by (with_reducible repeat (first | refine blk_drewN ?_ _ | refine blk_drew ?_ | refine blk_alloc ?_ _)); refine blk_far ?_ NB272_281.out _; (with_reducible repeat (first | refine blk_drewN ?_ _ | refine blk_drew ?_ | refine blk_alloc ?_ _)); exact BK272.out⟩, ⟨by (with_reducible repeat (first | refine blk_drewN ?_ _ | refine blk_drew ?_ | refine blk_alloc ?_ _)); refine blk_far ?_ NB273_281.out _; (with_reducible repeat (first | refine blk_drewN ?_ _ | refine blk_drew ?_ | refine blk_alloc ?_ _)); exact BK273.out⟩, ⟨by (with_reducible repeat (first | refine blk_drewN ?_ _ | refine blk_drew ?_ | refine blk_alloc ?_ _)); refine blk_put (cs := #[.int .i64 a0_0, .slice Ao17 y278.length co17, u282002]) ?_ 2 _ rfl; (with_reducible repeat (first | refine blk_drewN ?_ _ | refine blk_drew ?_ | refine blk_alloc ?_ _)); exact BK281.out⟩, ⟨be4 HB GE272 GE273 GE281 GE286⟩⟩
        rw [if_neg c39] at H
        exact absurd H (by simp)
       rw [if_neg c27] at H
       exact absurd H (by simp)
      rw [if_neg c26] at H
      exact absurd H (by simp)
     rw [if_neg c25] at H
     have c25b0 : decide (x23_1 < (l0_2.length : Int)) = false := decide_eq_false c25
     clear c25
     simp only [Option.some.injEq, Prod.mk.injEq] at H
     obtain ⟨rfl, rfl, rfl, rfl⟩ := H
     have hnb53 := NB281_272.out
     have hnc53 := NB272_281.out
     have hnb54 := NB281_273.out
     have hnc54 := NB273_281.out
     have hcz55_0 := bz3 BK281
     have hnb56 := NB273_272.out
     have hnc56 := NB272_273.out
     have hcz57_0 := bz3 BK273
     obtain ⟨Ao58, co58, eo58⟩ := Kd.R_slice HO_282002.out
     subst eo58
     go_wp2
     refine bodyPost_ret (results_ct rfl _ _ gb273 25 #[.int .i64 a0_0, .slice Ao17 y278.length co17, .slice Ao58 x282002_1.length co58] (0, 0) _ rfl (by (with_reducible repeat (first | refine blk_drewN ?_ _ | refine blk_drew ?_ | refine blk_alloc ?_ _)); refine blk_put (cs := #[.int .i64 a0_0, .slice Ao17 y278.length co17, .slice none 0 0]) ?_ 2 _ rfl; (with_reducible repeat (first | refine blk_drewN ?_ _ | refine blk_drew ?_ | refine blk_alloc ?_ _)); refine blk_put (cs := #[.int .i64 a0_0, .slice none 0 0, .slice none 0 0]) ?_ 1 _ rfl; (with_reducible repeat (first | refine blk_drewN ?_ _ | refine blk_drew ?_ | refine blk_alloc ?_ _)); refine blk_put (cs := #[.int .i64 0, .slice none 0 0, .slice none 0 0]) ?_ 0 _ rfl; (with_reducible repeat (first | refine blk_drewN ?_ _ | refine blk_drew ?_ | refine blk_alloc ?_ _)); exact BK273.out) Try.underlying25 rfl (by kernel_rfl)) rfl ?_
     exact ⟨_, _, _, er, by (with_reducible repeat (first | apply Kd.R_alloc | apply Kd.R_drewN | apply Kd.R_drew)); exact Kd.R_mono (Kd.R_far (p := ⟨gb273, 2, none⟩) (Kd.R_far (p := ⟨gb273, 1, none⟩) (Kd.R_far (p := ⟨gb273, 0, none⟩) (Kd.R_types HO_282001.out BK273.out (by decide)) (fun _ hk => hk.2) (.int .i64 a0_0)) (fun _ hk => hk.2) (.slice Ao17 y278.length co17)) (fun _ hk => hk.2) (.slice Ao58 x282002_1.length co58)) (fun _ hk => hk.1), by (with_reducible repeat (first | apply Kd.R_alloc | apply Kd.R_drewN | apply Kd.R_drew)); exact Kd.R_mono (Kd.R_far (p := ⟨gb273, 2, none⟩) (Kd.R_far (p := ⟨gb273, 1, none⟩) (Kd.R_far (p := ⟨gb273, 0, none⟩) (Kd.R_types HO_282002.out BK273.out (by decide)) (fun _ hk => hk.2) (.int .i64 a0_0)) (fun _ hk => hk.2) (.slice Ao17 y278.length co17)) (fun _ hk => hk.2) (.slice Ao58 x282002_1.length co58)) (fun _ hk => trivial), by (with_reducible repeat (first | apply Kd.R_alloc | apply Kd.R_drewN | apply Kd.R_drew)); exact Kd.R_mono (Kd.R_far (p := ⟨gb273, 2, none⟩) (Kd.R_far (p := ⟨gb273, 1, none⟩) (Kd.R_far (p := ⟨gb273, 0, none⟩) (Kd.R_types HO_5.out BK273.out (by decide)) (fun _ hk => hk.2) (.int .i64 a0_0)) (fun _ hk => hk.2) (.slice Ao17 y278.length co17)) (fun _ hk => hk.2) (.slice Ao58 x282002_1.length co58)) (fun _ hk => hk.1), be3 HB GE272 GE273 GE281⟩
  rw [if_neg c4] at H
  exact absurd H (by simp)
 replace c3 := Bool.eq_false_iff.mpr c3
 subst c3
 have H1 : (some (0, ([] : List Int), ([] : List (S70)), ([] : List Int))) = some (r1, r2, r3, r4) := by rw [if_neg (show ¬ (false = true) by decide)] at H; exact H
 clear H
 have H := H1
 clear H1
 simp only [Option.some.injEq, Prod.mk.injEq] at H
 obtain ⟨rfl, rfl, rfl, rfl⟩ := H
 go_enter Try.func73, Try.ntmps73
 go_wp2_with (first | ((with_reducible refine gate_dst (N := 1) rfl ?_); refine bx 1 #[.int .i64 a0_0, .slice A0_1 l0_1.length c0_1, .slice A0_2 l0_2.length c0_2] 25 ?_; intro gb272 hg w59 hbox hb; have BK272 := am hbox; have GW272 := gs0 hg HB; have GE272 := gs0 hg HB; replace HB := s0 HB hb; clear hb hbox hg) | ((with_reducible refine gate_dst (N := 2) rfl ?_); refine bx 2 #[.int .i64 0, .slice none 0 0, .slice none 0 0] 25 ?_; intro gb273 hg w60 hbox hb; have BK273 := am hbox; have GW273 := gs1 hg HB GE272; have GE273 := gs1 hg HB GE272; replace HB := Aside0.mk (below_step (be1 HB GE272) hb); have NB272_273 := Aside0.mk ((by rw [hg]; exact Nat.ne_of_lt (bl BK272) : gb272 ≠ gb273)); have NB273_272 := Aside0.mk ((by rw [hg]; exact Nat.ne_of_gt (bl BK272) : gb273 ≠ gb272)); replace BK272 := bb BK272 hb; clear hb hbox hg; have hnb61 := NB272_273.out; have hnc61 := NB273_272.out; have hcz62_0 := bz3 BK272) | ((with_reducible refine gate_callee (f := 53) rfl ?_); refine gl 9 Try.func53 #[.agg #[.int .i64 a0_0, .slice A0_1 l0_1.length c0_1, .slice A0_2 l0_2.length c0_2]] ?_; (with_reducible refine (spec_AgesOk.calls k a0_0 _ _ l0_1 _ _ l0_2 false _ (cb HR0_1 HB) HC0_1.out (cb HR0_2 HB) HC0_2.out A2.out).mono ?_); rintro e w63 ⟨rfl, hb⟩; refine ⟨_, rfl, ?_⟩; replace BK272 := bb BK272 hb; replace BK273 := bb BK273 hb; replace HB := Aside0.mk (below_step (be2 HB GE272 GE273) hb); (try clear hb); have hcz64_0 := bz3 BK273))
 refine bodyPost_ret (results_ct rfl _ _ gb273 25 #[.int .i64 0, .slice none 0 0, .slice none 0 0] (0, 0) _ rfl (by (with_reducible repeat (first | refine blk_drewN ?_ _ | refine blk_drew ?_ | refine blk_alloc ?_ _)); refine blk_put (cs := #[.int .i64 0, .slice none 0 0, .slice none 0 0]) ?_ 2 _ rfl; (with_reducible repeat (first | refine blk_drewN ?_ _ | refine blk_drew ?_ | refine blk_alloc ?_ _)); refine blk_put (cs := #[.int .i64 0, .slice none 0 0, .slice none 0 0]) ?_ 1 _ rfl; (with_reducible repeat (first | refine blk_drewN ?_ _ | refine blk_drew ?_ | refine blk_alloc ?_ _)); refine blk_put (cs := #[.int .i64 0, .slice none 0 0, .slice none 0 0]) ?_ 0 _ rfl; (with_reducible repeat (first | refine blk_drewN ?_ _ | refine blk_drew ?_ | refine blk_alloc ?_ _)); exact BK273.out) Try.underlying25 rfl (by kernel_rfl)) rfl ?_
 exact ⟨_, _, _, er, by first | exact Kd.R_nil _ _ _ _ _ | exact Kd.N_nil _ _ _ _ _ | exact Kd.V_nil _ _ _ _ _ | exact Kd.Q_nil _ _ _ _ _ | exact Kd.S_nil _ _ _ _ _, by first | exact Kd.R_nil _ _ _ _ _ | exact Kd.N_nil _ _ _ _ _ | exact Kd.V_nil _ _ _ _ _ | exact Kd.Q_nil _ _ _ _ _ | exact Kd.S_nil _ _ _ _ _, by first | exact Kd.R_nil _ _ _ _ _ | exact Kd.N_nil _ _ _ _ _ | exact Kd.V_nil _ _ _ _ _ | exact Kd.Q_nil _ _ _ _ _ | exact Kd.S_nil _ _ _ _ _, be2 HB GE272 GE273⟩

end Go.Proofs.Ytdgpidhlbpaolaa.QFnExactReclaim
