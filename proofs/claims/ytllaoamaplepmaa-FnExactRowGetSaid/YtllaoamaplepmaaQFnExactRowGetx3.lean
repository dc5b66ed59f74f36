-- made by a program of this session (myprint.py)
import Derived.Test.YtllaoamaplepmaaQFnExactRowGetx0
import Derived.Test.YtllaoamaplepmaaQFnExactRowGetx2
namespace Go.Proofs.Ytllaoamaplepmaa.QFnExactRowGet
open Go.RowKit Go.Proofs.YtllaoamaplepmaaW.PrintWords Go.Proofs.YtllaoamaplepmaaW.PrintLast Go.Proofs.YtllaoamaplepmaaW.PrintMore
attribute [local go_sem] max2_int min2_int max_two min_two max_three min_three max_four min_four   -- for this text's walks alone
set_option linter.unusedVariables false
set_option linter.unusedSimpArgs false

/-! ### laws_heldItemS: function 86 -/
def laws_heldItemS.l0 : Nat → List (S84) → Int → Int → Option (Int)
 | 0, _, _, _ => none
 | k + 1, x0, x1, x5 => if x5 < (x0.length : Int) then (if 0 ≤ x5 then ((laws_markText.f k x1).bind fun t143 => (if ((rd_T84 x0 x5).f0).toList = t143.toList then ((laws_markText.f k (wrap64 (x1 + 1))).bind fun t145 => (if ((rd_T84 x0 x5).f1).toList = t145.toList then (if ((rd_T84 x0 x5).f2) = (wrap64 ((wrap64 (x1 + 1)) + 1)) then (laws_heldItemS.l0 k x0 (wrap64 ((wrap64 ((wrap64 (x1 + 1)) + 1)) + 1)) (wrap64 (x5 + 1))) else (some (-1))) else (some (-1)))) else (some (-1)))) else (none)) else (some x1)
def laws_heldItemS.f (k : Nat) (l0 : List (S84)) (a1 : Int) : Option (Int) := laws_heldItemS.l0 k l0 a1 0
theorem laws_heldItemS.mono_l : ∀ k, (∀ y0 y1 y2, LeO (laws_heldItemS.l0 k y0 y1 y2) (laws_heldItemS.l0 (k + 1) y0 y1 y2))
 | 0 => fun _ _ _ r h => by simp [laws_heldItemS.l0] at h
 | k + 1 => by
  have ih0 := laws_heldItemS.mono_l k
  ·intro y0 y1 y2
   unfold laws_heldItemS.l0
   repeat' first
   | (with_reducible exact ih0 _ _ _)
   | (with_reducible exact laws_markText.mono _ _)
   | (with_reducible exact LeO.refl _)
   | (with_reducible exact LeO.none _)
   | (with_reducible refine LeO.ite ?_ ?_)
   | (with_reducible refine LeO.bind ?_ (fun _ => ?_))
   | exact ih0 _ _ _
   | exact laws_markText.mono _ _
   | exact LeO.none _
   | refine LeO.ite ?_ ?_
   | refine LeO.bind ?_ (fun _ => ?_)
theorem laws_heldItemS.mono : ∀ a0 a1 k, LeO (laws_heldItemS.f k a0 a1) (laws_heldItemS.f (k + 1) a0 a1) := by
 intro a0 a1 k
 have ih0 := laws_heldItemS.mono_l k
 unfold laws_heldItemS.f
 repeat' first
   | (with_reducible exact ih0 _ _ _)
   | (with_reducible exact laws_markText.mono _ _)
   | (with_reducible exact LeO.refl _)
   | (with_reducible exact LeO.none _)
   | (with_reducible refine LeO.ite ?_ ?_)
   | (with_reducible refine LeO.bind ?_ (fun _ => ?_))
   | exact ih0 _ _ _
   | exact laws_markText.mono _ _
   | exact LeO.none _
   | refine LeO.ite ?_ ?_
   | refine LeO.bind ?_ (fun _ => ?_)
def laws_heldItemS.T4 : Bool × List (List Nat × List Nat) := (true, [([], []), ([], []), ([0, 1], [0, 1]), ([2], [2]), ([3], [3]), ([], []), ([5], [5]), ([4, 6], [4, 6])])
def laws_heldItemS.B4 : List Nat := [0, 0, 3, 7, 15, 0, 32, 127]
theorem laws_heldItemS.tab4 : rtab .any (opsOf Try.f86 4) = laws_heldItemS.T4 := by kernel_rfl
theorem laws_heldItemS.bits4 : waitsOk laws_heldItemS.T4.2 laws_heldItemS.B4 = true := by kernel_rfl
def laws_heldItemS.T7 : Bool × List (List Nat × List Nat) := (true, [([], []), ([], []), ([0, 1], [0, 1]), ([2], [2]), ([3], [3]), ([], []), ([5], [5]), ([4, 6], [4, 6])])
def laws_heldItemS.B7 : List Nat := [0, 0, 3, 7, 15, 0, 32, 127]
theorem laws_heldItemS.tab7 : rtab .any (opsOf Try.f86 7) = laws_heldItemS.T7 := by kernel_rfl
theorem laws_heldItemS.bits7 : waitsOk laws_heldItemS.T7.2 laws_heldItemS.B7 = true := by kernel_rfl
set_option maxHeartbeats 8000000 in
set_option maxRecDepth 100000 in
theorem laws_heldItemS.calls (k : Nat) (A0 : Option Addr) (c0 : Nat) (l0 : List (S84)) (a1 : Int) (r : Int) (w : World) (hr0 : Kd.C k84 w A0 l0.length l0) (hc0 : l0.length ≤ c0) (h : laws_heldItemS.f k l0 a1 = some r) :
  Calls Try.prog 86 #[.slice A0 l0.length c0, .int .i64 a1] w fun e w' => e = .returned (.int .i64 r) ∧ Below w.heap.size w w' := by
 have HR0 := Aside0.mk hr0
 have HC0 := Aside0.mk hc0
 clear hr0 hc0
 have HB := Aside0.mk (Below.refl w.heap.size w)
 have H : (laws_heldItemS.l0 k l0 a1 0) = some r := h
 clear h
 have H' := Aside0.mk H
 clear H
 go_enter Try.func86, Try.ntmps86
 go_wp2
 go_loopg [1, 5] k (fun kq v1 v5 w' => ∃ (x1_1 : Int) (x5_1 : Int), v1 = .int .i64 x1_1 ∧ v5 = .int .i64 x5_1 ∧ Aside0 (laws_heldItemS.l0 kq l0 x1_1 x5_1 = some r) ∧ Aside0 (kq ≤ k) ∧ Aside0 (Below w.heap.size w w'))
 case atStart => exact ⟨(a1), (0), rs, rs, H', ⟨Nat.le_refl _⟩, ⟨be HB⟩⟩
 case round =>
  clear H'
  try clear p2
  obtain ⟨x1_1, x5_1, rfl, rfl, HA, HK1, HB⟩ := hrel
  cases gk with
  | zero => exact absurd HA.out (by simp [laws_heldItemS.l0])
  | succ k1 =>
   have H := HA.out
   clear HA
   simp only [laws_heldItemS.l0] at H
   by_cases c3 : x5_1 < (l0.length : Int)
   ·rw [if_pos c3] at H
    have c3b0 : decide (x5_1 < (l0.length : Int)) = true := decide_eq_true c3
    clear c3
    by_cases c4 : 0 ≤ x5_1
    ·rw [if_pos c4] at H
     have c4b0 : decide (0 ≤ x5_1) = true := decide_eq_true c4
     clear c4
     replace H := Option.bind_eq_some_iff.mp H
     obtain ⟨t143, A50, H⟩ := H
     try dsimp only at H
     have A5 := Aside0.mk A50
     clear A50
     by_cases c6 : ((rd_T84 l0 x5_1).f0).toList = t143.toList
     ·rw [if_pos c6] at H
      have c6b0 : (((rd_T84 l0 x5_1).f0).toList == t143.toList) = true := beq_iff_eq.mpr c6
      have c6b1 : (((rd_T84 l0 x5_1).f0).toList != t143.toList) = false := bne_eq_false_iff_eq.mpr c6
      clear c6
      replace H := Option.bind_eq_some_iff.mp H
      obtain ⟨t145, A70, H⟩ := H
      try dsimp only at H
      have A7 := Aside0.mk A70
      clear A70
      by_cases c8 : ((rd_T84 l0 x5_1).f1).toList = t145.toList
      ·rw [if_pos c8] at H
       have c8b0 : (((rd_T84 l0 x5_1).f1).toList == t145.toList) = true := beq_iff_eq.mpr c8
       have c8b1 : (((rd_T84 l0 x5_1).f1).toList != t145.toList) = false := bne_eq_false_iff_eq.mpr c8
       clear c8
       by_cases c9 : ((rd_T84 l0 x5_1).f2) = (wrap64 ((wrap64 (x1_1 + 1)) + 1))
       ·rw [if_pos c9] at H
        have c9b0 : (((rd_T84 l0 x5_1).f2) == (wrap64 ((wrap64 (x1_1 + 1)) + 1))) = true := beq_iff_eq.mpr c9
        have c9b1 : (((rd_T84 l0 x5_1).f2) != (wrap64 ((wrap64 (x1_1 + 1)) + 1))) = false := bne_eq_false_iff_eq.mpr c9
        clear c9
        have H' := Aside0.mk H
        clear H
        try go_wp2
        have n0_ := Aside0.mk (below_drew1 HB.out)
        clear HB
        have HB := n0_
        clear n0_
        have p142 : 0 ≤ (x5_1 : Int) := od
        have q142 : x5_1 < (l0.length : Int) := od
        obtain ⟨ad142, e142, hx142_0, hx142_1, hx142_2⟩ := at_T84 HR0.out x5_1 p142 q142
        have hw142_2 := hx142_2
        have hw142_1 := hx142_1
        have hw142_0 := hx142_0
        cases e142
        replace hx142_0 := hc HB hx142_0
        replace hx142_1 := hc HB hx142_1
        replace hx142_2 := hc HB hx142_2
        replace p142 := eq_true p142
        replace q142 := eq_true q142
        refine start_ (n := 8) (S := fun w' => w'.cell? (ad142.add ((x5_1).toNat * 3)) = some (.string ((rd_T84 l0 x5_1).f0)) ∧ w'.cell? ⟨(ad142.add ((x5_1).toNat * 3)).block, (ad142.add ((x5_1).toNat * 3)).off + 1, none⟩ = some (.string ((rd_T84 l0 x5_1).f1)) ∧ w'.cell? ⟨(ad142.add ((x5_1).toNat * 3)).block, (ad142.add ((x5_1).toNat * 3)).off + 2, none⟩ = some (.int .i64 ((rd_T84 l0 x5_1).f2))) (ds := []) (bv 8 0x0) (by kernel_rfl) rfl rfl ⟨((HB.out.cell (World.block_lt_of_cell? w _ hw142_0)).trans hw142_0), ((HB.out.cell (World.block_lt_of_cell? w _ hw142_1)).trans hw142_1), ((HB.out.cell (World.block_lt_of_cell? w _ hw142_2)).trans hw142_2)⟩ (fun hHeld => ?_); refine with_tabW laws_heldItemS.tab4 laws_heldItemS.bits4 (fun HT_ HW_ => ?_)
        (first | ((conv in (World.drew (World.drewN wr _)) => skip); generalize hqw_ : World.drew (World.drewN wr _) = w10 at hHeld ⊢; replace HB := Aside0.mk (Go.Proofs.Ytllaoamaplepmaa.Mo.below_to hqw_ HB.out); replace hx142_0 := Go.Proofs.Ytllaoamaplepmaa.Mo.cell_to hqw_ hx142_0; replace hx142_1 := Go.Proofs.Ytllaoamaplepmaa.Mo.cell_to hqw_ hx142_1; replace hx142_2 := Go.Proofs.Ytllaoamaplepmaa.Mo.cell_to hqw_ hx142_2; clear hqw_) | generalize wr.drew = w10 at HB hx142_0 hx142_1 hx142_2 hHeld ⊢)
        refine py HT_ 0 12 (bv 8 0x1) ?_
        refine py HT_ 1 13 (bv 8 0x3) ?_
        refine py HT_ 2 14 (bv 8 0x7) ?_
        refine py HT_ 3 15 (bv 8 0xf) ?_
        refine py HT_ 5 17 (bv 8 0x2f) ?_
        refine tk HT_ HW_ hHeld 4 16 (bv 8 0x3f) ?_
        refine one_ (i := 6) (N := some 18) (bv 8 0x7f) rfl rfl (one_of HT_.out (by kernel_rfl)) (by decide) (fun K hK => ?_)
        refine goes_ Try.func58 (by kernel_rfl) rfl #[.int .i64 x1_1] (by rfl) rfl rfl ml ?_
        with_reducible refine (laws_markText.calls k1 x1_1 t143 _ A5.out).mono ?_
        rintro e w11 ⟨rfl, hb⟩
        refine ⟨_, rfl, ?_⟩
        have n0_ := s0 HB hb
        clear HB
        have HB := n0_
        clear n0_
        (try clear hb)
        (try clear hb2)
        (try clear hk)
        (try clear hi)
        refine hK.out _ _ ⟨((HB.out.cell (World.block_lt_of_cell? w _ hw142_0)).trans hw142_0), ((HB.out.cell (World.block_lt_of_cell? w _ hw142_1)).trans hw142_1), ((HB.out.cell (World.block_lt_of_cell? w _ hw142_2)).trans hw142_2)⟩ (fun hHeld => ?_)
        clear hK K
        refine norm_ (a' := ?_) ?_ ?_
        rotate_left
        ·show Act.put _ (some 18) _ = _
         simp only [aP]
         rfl
        refine py HT_ 7 19 (bv 8 0xff) ?_
        refine done_ (done_of HT_.out (by kernel_rfl)) ?_
        try go_wp2
        have n0_ := Aside0.mk (below_drew1 HB.out)
        clear HB
        have HB := n0_
        clear n0_
        have p144 : 0 ≤ (x5_1 : Int) := od
        have q144 : x5_1 < (l0.length : Int) := od
        obtain ⟨ad144, e144, hx144_0, hx144_1, hx144_2⟩ := at_T84 HR0.out x5_1 p144 q144
        have hw144_2 := hx144_2
        have hw144_1 := hx144_1
        have hw144_0 := hx144_0
        obtain rfl : ad142 = ad144 := (by injection e144)
        replace hx144_0 := hc HB hx144_0
        replace hx144_1 := hc HB hx144_1
        replace hx144_2 := hc HB hx144_2
        replace p144 := eq_true p144
        replace q144 := eq_true q144
        refine start_ (n := 8) (S := fun w' => w'.cell? (ad142.add ((x5_1).toNat * 3)) = some (.string ((rd_T84 l0 x5_1).f0)) ∧ w'.cell? ⟨(ad142.add ((x5_1).toNat * 3)).block, (ad142.add ((x5_1).toNat * 3)).off + 1, none⟩ = some (.string ((rd_T84 l0 x5_1).f1)) ∧ w'.cell? ⟨(ad142.add ((x5_1).toNat * 3)).block, (ad142.add ((x5_1).toNat * 3)).off + 2, none⟩ = some (.int .i64 ((rd_T84 l0 x5_1).f2))) (ds := []) (bv 8 0x0) (by kernel_rfl) rfl rfl ⟨((HB.out.cell (World.block_lt_of_cell? w _ hw144_0)).trans hw144_0), ((HB.out.cell (World.block_lt_of_cell? w _ hw144_1)).trans hw144_1), ((HB.out.cell (World.block_lt_of_cell? w _ hw144_2)).trans hw144_2)⟩ (fun hHeld => ?_); refine with_tabW laws_heldItemS.tab7 laws_heldItemS.bits7 (fun HT_ HW_ => ?_)
        (first | ((conv in (World.drew (World.drewN w11 _)) => skip); generalize hqw_ : World.drew (World.drewN w11 _) = w12 at hHeld ⊢; replace HB := Aside0.mk (Go.Proofs.Ytllaoamaplepmaa.Mo.below_to hqw_ HB.out); replace hx144_0 := Go.Proofs.Ytllaoamaplepmaa.Mo.cell_to hqw_ hx144_0; replace hx144_1 := Go.Proofs.Ytllaoamaplepmaa.Mo.cell_to hqw_ hx144_1; replace hx144_2 := Go.Proofs.Ytllaoamaplepmaa.Mo.cell_to hqw_ hx144_2; clear hqw_) | generalize w11.drew = w12 at HB hx144_0 hx144_1 hx144_2 hHeld ⊢)
        refine py HT_ 0 22 (bv 8 0x1) ?_
        refine py HT_ 1 23 (bv 8 0x3) ?_
        refine py HT_ 2 24 (bv 8 0x7) ?_
        refine py HT_ 3 25 (bv 8 0xf) ?_
        refine py HT_ 5 27 (bv 8 0x2f) ?_
        refine tk HT_ HW_ hHeld 4 26 (bv 8 0x3f) ?_
        refine one_ (i := 6) (N := some 28) (bv 8 0x7f) rfl rfl (one_of HT_.out (by kernel_rfl)) (by decide) (fun K hK => ?_)
        refine goes_ Try.func58 (by kernel_rfl) rfl #[.int .i64 (wrap64 (x1_1 + 1))] (by rfl) rfl rfl ml ?_
        with_reducible refine (laws_markText.calls k1 (wrap64 (x1_1 + 1)) t145 _ A7.out).mono ?_
        rintro e w13 ⟨rfl, hb⟩
        refine ⟨_, rfl, ?_⟩
        have n0_ := s0 HB hb
        clear HB
        have HB := n0_
        clear n0_
        (try clear hb)
        (try clear hb2)
        (try clear hk)
        (try clear hi)
        refine hK.out _ _ ⟨((HB.out.cell (World.block_lt_of_cell? w _ hw144_0)).trans hw144_0), ((HB.out.cell (World.block_lt_of_cell? w _ hw144_1)).trans hw144_1), ((HB.out.cell (World.block_lt_of_cell? w _ hw144_2)).trans hw144_2)⟩ (fun hHeld => ?_)
        clear hK K
        refine norm_ (a' := ?_) ?_ ?_
        rotate_left
        ·show Act.put _ (some 28) _ = _
         simp only [aP]
         rfl
        refine py HT_ 7 29 (bv 8 0xff) ?_
        refine done_ (done_of HT_.out (by kernel_rfl)) ?_
        have p146 : 0 ≤ (x5_1 : Int) := od
        have q146 : x5_1 < (l0.length : Int) := od
        obtain ⟨ad146, e146, hx146_0, hx146_1, hx146_2⟩ := at_T84 HR0.out x5_1 p146 q146
        obtain rfl : ad142 = ad146 := (by injection e146)
        replace hx146_0 := hc HB hx146_0
        replace hx146_1 := hc HB hx146_1
        replace hx146_2 := hc HB hx146_2
        replace p146 := eq_true p146
        replace q146 := eq_true q146
        try go_wp2
        go_roundg k1
        case measure => have := HK1.out; omega
        case rel => exact ⟨(wrap64 ((wrap64 ((wrap64 (x1_1 + 1)) + 1)) + 1)), (wrap64 (x5_1 + 1)), rs, rs, H', ⟨by have := HK1.out; omega⟩, ⟨be HB⟩⟩
       rw [if_neg c9] at H
       have c9b0 : (((rd_T84 l0 x5_1).f2) == (wrap64 ((wrap64 (x1_1 + 1)) + 1))) = false := beq_eq_false_iff_ne.mpr c9
       have c9b1 : (((rd_T84 l0 x5_1).f2) != (wrap64 ((wrap64 (x1_1 + 1)) + 1))) = true := bne_iff_ne.mpr c9
       obtain rfl := Option.some.inj H
       try go_wp2
       have n0_ := Aside0.mk (below_drew1 HB.out)
       clear HB
       have HB := n0_
       clear n0_
       have p142 : 0 ≤ (x5_1 : Int) := od
       have q142 : x5_1 < (l0.length : Int) := od
       obtain ⟨ad142, e142, hx142_0, hx142_1, hx142_2⟩ := at_T84 HR0.out x5_1 p142 q142
       have hw142_2 := hx142_2
       have hw142_1 := hx142_1
       have hw142_0 := hx142_0
       cases e142
       replace hx142_0 := hc HB hx142_0
       replace hx142_1 := hc HB hx142_1
       replace hx142_2 := hc HB hx142_2
       replace p142 := eq_true p142
       replace q142 := eq_true q142
       refine start_ (n := 8) (S := fun w' => w'.cell? (ad142.add ((x5_1).toNat * 3)) = some (.string ((rd_T84 l0 x5_1).f0)) ∧ w'.cell? ⟨(ad142.add ((x5_1).toNat * 3)).block, (ad142.add ((x5_1).toNat * 3)).off + 1, none⟩ = some (.string ((rd_T84 l0 x5_1).f1)) ∧ w'.cell? ⟨(ad142.add ((x5_1).toNat * 3)).block, (ad142.add ((x5_1).toNat * 3)).off + 2, none⟩ = some (.int .i64 ((rd_T84 l0 x5_1).f2))) (ds := []) (bv 8 0x0) (by kernel_rfl) rfl rfl ⟨((HB.out.cell (World.block_lt_of_cell? w _ hw142_0)).trans hw142_0), ((HB.out.cell (World.block_lt_of_cell? w _ hw142_1)).trans hw142_1), ((HB.out.cell (World.block_lt_of_cell? w _ hw142_2)).trans hw142_2)⟩ (fun hHeld => ?_); refine with_tabW laws_heldItemS.tab4 laws_heldItemS.bits4 (fun HT_ HW_ => ?_)
       (first | ((conv in (World.drew (World.drewN wr _)) => skip); generalize hqw_ : World.drew (World.drewN wr _) = w14 at hHeld ⊢; replace HB := Aside0.mk (Go.Proofs.Ytllaoamaplepmaa.Mo.below_to hqw_ HB.out); replace hx142_0 := Go.Proofs.Ytllaoamaplepmaa.Mo.cell_to hqw_ hx142_0; replace hx142_1 := Go.Proofs.Ytllaoamaplepmaa.Mo.cell_to hqw_ hx142_1; replace hx142_2 := Go.Proofs.Ytllaoamaplepmaa.Mo.cell_to hqw_ hx142_2; clear hqw_) | generalize wr.drew = w14 at HB hx142_0 hx142_1 hx142_2 hHeld ⊢)
       refine py HT_ 0 12 (bv 8 0x1) ?_
       refine py HT_ 1 13 (bv 8 0x3) ?_
       refine py HT_ 2 14 (bv 8 0x7) ?_
       refine py HT_ 3 15 (bv 8 0xf) ?_
       refine py HT_ 5 17 (bv 8 0x2f) ?_
       refine tk HT_ HW_ hHeld 4 16 (bv 8 0x3f) ?_
       refine one_ (i := 6) (N := some 18) (bv 8 0x7f) rfl rfl (one_of HT_.out (by kernel_rfl)) (by decide) (fun K hK => ?_)
       refine goes_ Try.func58 (by kernel_rfl) rfl #[.int .i64 x1_1] (by rfl) rfl rfl ml ?_
       with_reducible refine (laws_markText.calls k1 x1_1 t143 _ A5.out).mono ?_
       rintro e w15 ⟨rfl, hb⟩
       refine ⟨_, rfl, ?_⟩
       have n0_ := s0 HB hb
       clear HB
       have HB := n0_
       clear n0_
       (try clear hb)
       (try clear hb2)
       (try clear hk)
       (try clear hi)
       refine hK.out _ _ ⟨((HB.out.cell (World.block_lt_of_cell? w _ hw142_0)).trans hw142_0), ((HB.out.cell (World.block_lt_of_cell? w _ hw142_1)).trans hw142_1), ((HB.out.cell (World.block_lt_of_cell? w _ hw142_2)).trans hw142_2)⟩ (fun hHeld => ?_)
       clear hK K
       refine norm_ (a' := ?_) ?_ ?_
       rotate_left
       ·show Act.put _ (some 18) _ = _
        simp only [aP]
        rfl
       refine py HT_ 7 19 (bv 8 0xff) ?_
       refine done_ (done_of HT_.out (by kernel_rfl)) ?_
       try go_wp2
       have n0_ := Aside0.mk (below_drew1 HB.out)
       clear HB
       have HB := n0_
       clear n0_
       have p144 : 0 ≤ (x5_1 : Int) := od
       have q144 : x5_1 < (l0.length : Int) := od
       obtain ⟨ad144, e144, hx144_0, hx144_1, hx144_2⟩ := at_T84 HR0.out x5_1 p144 q144
       have hw144_2 := hx144_2
       have hw144_1 := hx144_1
       have hw144_0 := hx144_0
       obtain rfl : ad142 = ad144 := (by injection e144)
       replace hx144_0 := hc HB hx144_0
       replace hx144_1 := hc HB hx144_1
       replace hx144_2 := hc HB hx144_2
       replace p144 := eq_true p144
       replace q144 := eq_true q144
       refine start_ (n := 8) (S := fun w' => w'.cell? (ad142.add ((x5_1).toNat * 3)) = some (.string ((rd_T84 l0 x5_1).f0)) ∧ w'.cell? ⟨(ad142.add ((x5_1).toNat * 3)).block, (ad142.add ((x5_1).toNat * 3)).off + 1, none⟩ = some (.string ((rd_T84 l0 x5_1).f1)) ∧ w'.cell? ⟨(ad142.add ((x5_1).toNat * 3)).block, (ad142.add ((x5_1).toNat * 3)).off + 2, none⟩ = some (.int .i64 ((rd_T84 l0 x5_1).f2))) (ds := []) (bv 8 0x0) (by kernel_rfl) rfl rfl ⟨((HB.out.cell (World.block_lt_of_cell? w _ hw144_0)).trans hw144_0), ((HB.out.cell (World.block_lt_of_cell? w _ hw144_1)).trans hw144_1), ((HB.out.cell (World.block_lt_of_cell? w _ hw144_2)).trans hw144_2)⟩ (fun hHeld => ?_); refine with_tabW laws_heldItemS.tab7 laws_heldItemS.bits7 (fun HT_ HW_ => ?_)
       (first | ((conv in (World.drew (World.drewN w15 _)) => skip); generalize hqw_ : World.drew (World.drewN w15 _) = w16 at hHeld ⊢; replace HB := Aside0.mk (Go.Proofs.Ytllaoamaplepmaa.Mo.below_to hqw_ HB.out); replace hx144_0 := Go.Proofs.Ytllaoamaplepmaa.Mo.cell_to hqw_ hx144_0; replace hx144_1 := Go.Proofs.Ytllaoamaplepmaa.Mo.cell_to hqw_ hx144_1; replace hx144_2 := Go.Proofs.Ytllaoamaplepmaa.Mo.cell_to hqw_ hx144_2; clear hqw_) | generalize w15.drew = w16 at HB hx144_0 hx144_1 hx144_2 hHeld ⊢)
       refine py HT_ 0 22 (bv 8 0x1) ?_
       refine py HT_ 1 23 (bv 8 0x3) ?_
       refine py HT_ 2 24 (bv 8 0x7) ?_
       refine py HT_ 3 25 (bv 8 0xf) ?_
       refine py HT_ 5 27 (bv 8 0x2f) ?_
       refine tk HT_ HW_ hHeld 4 26 (bv 8 0x3f) ?_
       refine one_ (i := 6) (N := some 28) (bv 8 0x7f) rfl rfl (one_of HT_.out (by kernel_rfl)) (by decide) (fun K hK => ?_)
       refine goes_ Try.func58 (by kernel_rfl) rfl #[.int .i64 (wrap64 (x1_1 + 1))] (by rfl) rfl rfl ml ?_
       with_reducible refine (laws_markText.calls k1 (wrap64 (x1_1 + 1)) t145 _ A7.out).mono ?_
       rintro e w17 ⟨rfl, hb⟩
       refine ⟨_, rfl, ?_⟩
       have n0_ := s0 HB hb
       clear HB
       have HB := n0_
       clear n0_
       (try clear hb)
       (try clear hb2)
       (try clear hk)
       (try clear hi)
       refine hK.out _ _ ⟨((HB.out.cell (World.block_lt_of_cell? w _ hw144_0)).trans hw144_0), ((HB.out.cell (World.block_lt_of_cell? w _ hw144_1)).trans hw144_1), ((HB.out.cell (World.block_lt_of_cell? w _ hw144_2)).trans hw144_2)⟩ (fun hHeld => ?_)
       clear hK K
       refine norm_ (a' := ?_) ?_ ?_
       rotate_left
       ·show Act.put _ (some 28) _ = _
        simp only [aP]
        rfl
       refine py HT_ 7 29 (bv 8 0xff) ?_
       refine done_ (done_of HT_.out (by kernel_rfl)) ?_
       have p146 : 0 ≤ (x5_1 : Int) := od
       have q146 : x5_1 < (l0.length : Int) := od
       obtain ⟨ad146, e146, hx146_0, hx146_1, hx146_2⟩ := at_T84 HR0.out x5_1 p146 q146
       obtain rfl : ad142 = ad146 := (by injection e146)
       replace hx146_0 := hc HB hx146_0
       replace hx146_1 := hc HB hx146_1
       replace hx146_2 := hc HB hx146_2
       replace p146 := eq_true p146
       replace q146 := eq_true q146
       try go_wp2
       go_ret
       exact ⟨er, be HB⟩
      rw [if_neg c8] at H
      have c8b0 : (((rd_T84 l0 x5_1).f1).toList == t145.toList) = false := beq_eq_false_iff_ne.mpr c8
      have c8b1 : (((rd_T84 l0 x5_1).f1).toList != t145.toList) = true := bne_iff_ne.mpr c8
      obtain rfl := Option.some.inj H
      try go_wp2
      have n0_ := Aside0.mk (below_drew1 HB.out)
      clear HB
      have HB := n0_
      clear n0_
      have p142 : 0 ≤ (x5_1 : Int) := od
      have q142 : x5_1 < (l0.length : Int) := od
      obtain ⟨ad142, e142, hx142_0, hx142_1, hx142_2⟩ := at_T84 HR0.out x5_1 p142 q142
      have hw142_2 := hx142_2
      have hw142_1 := hx142_1
      have hw142_0 := hx142_0
      cases e142
      replace hx142_0 := hc HB hx142_0
      replace hx142_1 := hc HB hx142_1
      replace hx142_2 := hc HB hx142_2
      replace p142 := eq_true p142
      replace q142 := eq_true q142
      refine start_ (n := 8) (S := fun w' => w'.cell? (ad142.add ((x5_1).toNat * 3)) = some (.string ((rd_T84 l0 x5_1).f0)) ∧ w'.cell? ⟨(ad142.add ((x5_1).toNat * 3)).block, (ad142.add ((x5_1).toNat * 3)).off + 1, none⟩ = some (.string ((rd_T84 l0 x5_1).f1)) ∧ w'.cell? ⟨(ad142.add ((x5_1).toNat * 3)).block, (ad142.add ((x5_1).toNat * 3)).off + 2, none⟩ = some (.int .i64 ((rd_T84 l0 x5_1).f2))) (ds := []) (bv 8 0x0) (by kernel_rfl) rfl rfl ⟨((HB.out.cell (World.block_lt_of_cell? w _ hw142_0)).trans hw142_0), ((HB.out.cell (World.block_lt_of_cell? w _ hw142_1)).trans hw142_1), ((HB.out.cell (World.block_lt_of_cell? w _ hw142_2)).trans hw142_2)⟩ (fun hHeld => ?_); refine with_tabW laws_heldItemS.tab4 laws_heldItemS.bits4 (fun HT_ HW_ => ?_)
      (first | ((conv in (World.drew (World.drewN wr _)) => skip); generalize hqw_ : World.drew (World.drewN wr _) = w18 at hHeld ⊢; replace HB := Aside0.mk (Go.Proofs.Ytllaoamaplepmaa.Mo.below_to hqw_ HB.out); replace hx142_0 := Go.Proofs.Ytllaoamaplepmaa.Mo.cell_to hqw_ hx142_0; replace hx142_1 := Go.Proofs.Ytllaoamaplepmaa.Mo.cell_to hqw_ hx142_1; replace hx142_2 := Go.Proofs.Ytllaoamaplepmaa.Mo.cell_to hqw_ hx142_2; clear hqw_) | generalize wr.drew = w18 at HB hx142_0 hx142_1 hx142_2 hHeld ⊢)
      refine py HT_ 0 12 (bv 8 0x1) ?_
      refine py HT_ 1 13 (bv 8 0x3) ?_
      refine py HT_ 2 14 (bv 8 0x7) ?_
      refine py HT_ 3 15 (bv 8 0xf) ?_
      refine py HT_ 5 17 (bv 8 0x2f) ?_
      refine tk HT_ HW_ hHeld 4 16 (bv 8 0x3f) ?_
      refine one_ (i := 6) (N := some 18) (bv 8 0x7f) rfl rfl (one_of HT_.out (by kernel_rfl)) (by decide) (fun K hK => ?_)
      refine goes_ Try.func58 (by kernel_rfl) rfl #[.int .i64 x1_1] (by rfl) rfl rfl ml ?_
      with_reducible refine (laws_markText.calls k1 x1_1 t143 _ A5.out).mono ?_
      rintro e w19 ⟨rfl, hb⟩
      refine ⟨_, rfl, ?_⟩
      have n0_ := s0 HB hb
      clear HB
      have HB := n0_
      clear n0_
      (try clear hb)
      (try clear hb2)
      (try clear hk)
      (try clear hi)
      refine hK.out _ _ ⟨((HB.out.cell (World.block_lt_of_cell? w _ hw142_0)).trans hw142_0), ((HB.out.cell (World.block_lt_of_cell? w _ hw142_1)).trans hw142_1), ((HB.out.cell (World.block_lt_of_cell? w _ hw142_2)).trans hw142_2)⟩ (fun hHeld => ?_)
      clear hK K
      refine norm_ (a' := ?_) ?_ ?_
      rotate_left
      ·show Act.put _ (some 18) _ = _
       simp only [aP]
       rfl
      refine py HT_ 7 19 (bv 8 0xff) ?_
      refine done_ (done_of HT_.out (by kernel_rfl)) ?_
      try go_wp2
      have n0_ := Aside0.mk (below_drew1 HB.out)
      clear HB
      have HB := n0_
      clear n0_
      have p144 : 0 ≤ (x5_1 : Int) := od
      have q144 : x5_1 < (l0.length : Int) := od
      obtain ⟨ad144, e144, hx144_0, hx144_1, hx144_2⟩ := at_T84 HR0.out x5_1 p144 q144
      have hw144_2 := hx144_2
      have hw144_1 := hx144_1
      have hw144_0 := hx144_0
      obtain rfl : ad142 = ad144 := (by injection e144)
      replace hx144_0 := hc HB hx144_0
      replace hx144_1 := hc HB hx144_1
      replace hx144_2 := hc HB hx144_2
      replace p144 := eq_true p144
      replace q144 := eq_true q144
      refine start_ (n := 8) (S := fun w' => w'.cell? (ad142.add ((x5_1).toNat * 3)) = some (.string ((rd_T84 l0 x5_1).f0)) ∧ w'.cell? ⟨(ad142.add ((x5_1).toNat * 3)).block, (ad142.add ((x5_1).toNat * 3)).off + 1, none⟩ = some (.string ((rd_T84 l0 x5_1).f1)) ∧ w'.cell? ⟨(ad142.add ((x5_1).toNat * 3)).block, (ad142.add ((x5_1).toNat * 3)).off + 2, none⟩ = some (.int .i64 ((rd_T84 l0 x5_1).f2))) (ds := []) (bv 8 0x0) (by kernel_rfl) rfl rfl ⟨((HB.out.cell (World.block_lt_of_cell? w _ hw144_0)).trans hw144_0), ((HB.out.cell (World.block_lt_of_cell? w _ hw144_1)).trans hw144_1), ((HB.out.cell (World.block_lt_of_cell? w _ hw144_2)).trans hw144_2)⟩ (fun hHeld => ?_); refine with_tabW laws_heldItemS.tab7 laws_heldItemS.bits7 (fun HT_ HW_ => ?_)
      (first | ((conv in (World.drew (World.drewN w19 _)) => skip); generalize hqw_ : World.drew (World.drewN w19 _) = w20 at hHeld ⊢; replace HB := Aside0.mk (Go.Proofs.Ytllaoamaplepmaa.Mo.below_to hqw_ HB.out); replace hx144_0 := Go.Proofs.Ytllaoamaplepmaa.Mo.cell_to hqw_ hx144_0; replace hx144_1 := Go.Proofs.Ytllaoamaplepmaa.Mo.cell_to hqw_ hx144_1; replace hx144_2 := Go.Proofs.Ytllaoamaplepmaa.Mo.cell_to hqw_ hx144_2; clear hqw_) | generalize w19.drew = w20 at HB hx144_0 hx144_1 hx144_2 hHeld ⊢)
      refine py HT_ 0 22 (bv 8 0x1) ?_
      refine py HT_ 1 23 (bv 8 0x3) ?_
      refine py HT_ 2 24 (bv 8 0x7) ?_
      refine py HT_ 3 25 (bv 8 0xf) ?_
      refine py HT_ 5 27 (bv 8 0x2f) ?_
      refine tk HT_ HW_ hHeld 4 26 (bv 8 0x3f) ?_
      refine one_ (i := 6) (N := some 28) (bv 8 0x7f) rfl rfl (one_of HT_.out (by kernel_rfl)) (by decide) (fun K hK => ?_)
      refine goes_ Try.func58 (by kernel_rfl) rfl #[.int .i64 (wrap64 (x1_1 + 1))] (by rfl) rfl rfl ml ?_
      with_reducible refine (laws_markText.calls k1 (wrap64 (x1_1 + 1)) t145 _ A7.out).mono ?_
      rintro e w21 ⟨rfl, hb⟩
      refine ⟨_, rfl, ?_⟩
      have n0_ := s0 HB hb
      clear HB
      have HB := n0_
      clear n0_
      (try clear hb)
      (try clear hb2)
      (try clear hk)
      (try clear hi)
      refine hK.out _ _ ⟨((HB.out.cell (World.block_lt_of_cell? w _ hw144_0)).trans hw144_0), ((HB.out.cell (World.block_lt_of_cell? w _ hw144_1)).trans hw144_1), ((HB.out.cell (World.block_lt_of_cell? w _ hw144_2)).trans hw144_2)⟩ (fun hHeld => ?_)
      clear hK K
      refine norm_ (a' := ?_) ?_ ?_
      rotate_left
      ·show Act.put _ (some 28) _ = _
       simp only [aP]
       rfl
      refine py HT_ 7 29 (bv 8 0xff) ?_
      refine done_ (done_of HT_.out (by kernel_rfl)) ?_
      try go_wp2
      go_ret
      exact ⟨er, be HB⟩
     rw [if_neg c6] at H
     have c6b0 : (((rd_T84 l0 x5_1).f0).toList == t143.toList) = false := beq_eq_false_iff_ne.mpr c6
     have c6b1 : (((rd_T84 l0 x5_1).f0).toList != t143.toList) = true := bne_iff_ne.mpr c6
     obtain rfl := Option.some.inj H
     try go_wp2
     have n0_ := Aside0.mk (below_drew1 HB.out)
     clear HB
     have HB := n0_
     clear n0_
     have p142 : 0 ≤ (x5_1 : Int) := od
     have q142 : x5_1 < (l0.length : Int) := od
     obtain ⟨ad142, e142, hx142_0, hx142_1, hx142_2⟩ := at_T84 HR0.out x5_1 p142 q142
     have hw142_2 := hx142_2
     have hw142_1 := hx142_1
     have hw142_0 := hx142_0
     cases e142
     replace hx142_0 := hc HB hx142_0
     replace hx142_1 := hc HB hx142_1
     replace hx142_2 := hc HB hx142_2
     replace p142 := eq_true p142
     replace q142 := eq_true q142
     refine start_ (n := 8) (S := fun w' => w'.cell? (ad142.add ((x5_1).toNat * 3)) = some (.string ((rd_T84 l0 x5_1).f0)) ∧ w'.cell? ⟨(ad142.add ((x5_1).toNat * 3)).block, (ad142.add ((x5_1).toNat * 3)).off + 1, none⟩ = some (.string ((rd_T84 l0 x5_1).f1)) ∧ w'.cell? ⟨(ad142.add ((x5_1).toNat * 3)).block, (ad142.add ((x5_1).toNat * 3)).off + 2, none⟩ = some (.int .i64 ((rd_T84 l0 x5_1).f2))) (ds := []) (bv 8 0x0) (by kernel_rfl) rfl rfl ⟨((HB.out.cell (World.block_lt_of_cell? w _ hw142_0)).trans hw142_0), ((HB.out.cell (World.block_lt_of_cell? w _ hw142_1)).trans hw142_1), ((HB.out.cell (World.block_lt_of_cell? w _ hw142_2)).trans hw142_2)⟩ (fun hHeld => ?_); refine with_tabW laws_heldItemS.tab4 laws_heldItemS.bits4 (fun HT_ HW_ => ?_)
     (first | ((conv in (World.drew (World.drewN wr _)) => skip); generalize hqw_ : World.drew (World.drewN wr _) = w22 at hHeld ⊢; replace HB := Aside0.mk (Go.Proofs.Ytllaoamaplepmaa.Mo.below_to hqw_ HB.out); replace hx142_0 := Go.Proofs.Ytllaoamaplepmaa.Mo.cell_to hqw_ hx142_0; replace hx142_1 := Go.Proofs.Ytllaoamaplepmaa.Mo.cell_to hqw_ hx142_1; replace hx142_2 := Go.Proofs.Ytllaoamaplepmaa.Mo.cell_to hqw_ hx142_2; clear hqw_) | generalize wr.drew = w22 at HB hx142_0 hx142_1 hx142_2 hHeld ⊢)
     refine py HT_ 0 12 (bv 8 0x1) ?_
     refine py HT_ 1 13 (bv 8 0x3) ?_
     refine py HT_ 2 14 (bv 8 0x7) ?_
     refine py HT_ 3 15 (bv 8 0xf) ?_
     refine py HT_ 5 17 (bv 8 0x2f) ?_
     refine tk HT_ HW_ hHeld 4 16 (bv 8 0x3f) ?_
     refine one_ (i := 6) (N := some 18) (bv 8 0x7f) rfl rfl (one_of HT_.out (by kernel_rfl)) (by decide) (fun K hK => ?_)
     refine goes_ Try.func58 (by kernel_rfl) rfl #[.int .i64 x1_1] (by rfl) rfl rfl ml ?_
     with_reducible refine (laws_markText.calls k1 x1_1 t143 _ A5.out).mono ?_
     rintro e w23 ⟨rfl, hb⟩
     refine ⟨_, rfl, ?_⟩
     have n0_ := s0 HB hb
     clear HB
     have HB := n0_
     clear n0_
     (try clear hb)
     (try clear hb2)
     (try clear hk)
     (try clear hi)
     refine hK.out _ _ ⟨((HB.out.cell (World.block_lt_of_cell? w _ hw142_0)).trans hw142_0), ((HB.out.cell (World.block_lt_of_cell? w _ hw142_1)).trans hw142_1), ((HB.out.cell (World.block_lt_of_cell? w _ hw142_2)).trans hw142_2)⟩ (fun hHeld => ?_)
     clear hK K
     refine norm_ (a' := ?_) ?_ ?_
     rotate_left
     ·show Act.put _ (some 18) _ = _
      simp only [aP]
      rfl
     refine py HT_ 7 19 (bv 8 0xff) ?_
     refine done_ (done_of HT_.out (by kernel_rfl)) ?_
     try go_wp2
     go_ret
     exact ⟨er, be HB⟩
    rw [if_neg c4] at H
    exact absurd H (by simp)
   rw [if_neg c3] at H
   have c3b0 : decide (x5_1 < (l0.length : Int)) = false := decide_eq_false c3
   clear c3
   obtain rfl := Option.some.inj H
   go_wp2
   go_ret
   exact ⟨er, be HB⟩

/-! ### laws_heldRow: function 49 -/
def laws_heldRow.f (k : Nat) (a0_0 : Int) (a0_1 : Int) (l0_2 : List (S84)) (a1 : Int) : Option (Int) := (laws_heldItemS.f k l0_2 a1).bind fun t148 => (if t148 < 0 then (some (-1)) else (some t148))
theorem laws_heldRow.mono : ∀ a0 a1 a2 a3 k, LeO (laws_heldRow.f k a0 a1 a2 a3) (laws_heldRow.f (k + 1) a0 a1 a2 a3) := by
 intro a0 a1 a2 a3 k
 unfold laws_heldRow.f
 repeat' first
   | (with_reducible exact laws_heldItemS.mono _ _ _)
   | (with_reducible exact LeO.refl _)
   | (with_reducible exact LeO.none _)
   | (with_reducible refine LeO.ite ?_ ?_)
   | (with_reducible refine LeO.bind ?_ (fun _ => ?_))
   | exact laws_heldItemS.mono _ _ _
   | exact LeO.none _
   | refine LeO.ite ?_ ?_
   | refine LeO.bind ?_ (fun _ => ?_)
set_option maxHeartbeats 8000000 in
set_option maxRecDepth 100000 in
theorem laws_heldRow.calls (k : Nat) (a0_0 : Int) (a0_1 : Int) (A0_2 : Option Addr) (c0_2 : Nat) (l0_2 : List (S84)) (a1 : Int) (r : Int) (w : World) (hr0_2 : Kd.C k84 w A0_2 l0_2.length l0_2) (hc0_2 : l0_2.length ≤ c0_2) (h : laws_heldRow.f k a0_0 a0_1 l0_2 a1 = some r) :
  Calls Try.prog 49 #[.agg #[.int .i64 a0_0, .int .i64 a0_1, .slice A0_2 l0_2.length c0_2], .int .i64 a1] w fun e w' => e = .returned (.int .i64 r) ∧ Below w.heap.size w w' := by
 have hu53 := Try.underlying53
 have HR0_2 := Aside0.mk hr0_2
 have HC0_2 := Aside0.mk hc0_2
 clear hr0_2 hc0_2
 have HB := Aside0.mk (Below.refl w.heap.size w)
 have H : ((laws_heldItemS.f k l0_2 a1).bind fun t148 => (if t148 < 0 then (some (-1)) else (some t148))) = some r := h
 clear h
 replace H := Option.bind_eq_some_iff.mp H
 obtain ⟨t148, A30, H⟩ := H
 try dsimp only at H
 have A3 := Aside0.mk A30
 clear A30
 by_cases c4 : t148 < 0
 ·rw [if_pos c4] at H
  have c4b0 : decide (t148 < 0) = true := decide_eq_true c4
  clear c4
  obtain rfl := Option.some.inj H
  go_enter Try.func49, Try.ntmps49
  go_wp2_with (first | ((with_reducible refine gate_dst (N := 2) rfl ?_); refine bx 2 #[.int .i64 a0_0, .int .i64 a0_1, .slice A0_2 l0_2.length c0_2] 53 ?_; intro gb147 hg w5 hbox hb; have BK147 := am hbox; have GW147 := gs0 hg HB; have GE147 := gs0 hg HB; replace HB := s0 HB hb; clear hb hbox hg; have hcz6_0 := bz3 BK147) | ((with_reducible refine gate_callee (f := 86) rfl ?_); refine gl 8 Try.func86 #[.slice A0_2 l0_2.length c0_2, .int .i64 a1] ?_; (with_reducible refine (laws_heldItemS.calls k _ _ l0_2 a1 t148 _ (cb HR0_2 HB) HC0_2.out A3.out).mono ?_); rintro e w7 ⟨rfl, hb⟩; refine ⟨_, rfl, ?_⟩; replace BK147 := bb BK147 hb; replace HB := Aside0.mk (below_step (be1 HB GE147) hb); (try clear hb)))
  go_ret
  exact ⟨er, be1 HB GE147⟩
 rw [if_neg c4] at H
 have c4b0 : decide (t148 < 0) = false := decide_eq_false c4
 clear c4
 obtain rfl := Option.some.inj H
 go_enter Try.func49, Try.ntmps49
 go_wp2_with (first | ((with_reducible refine gate_dst (N := 2) rfl ?_); refine bx 2 #[.int .i64 a0_0, .int .i64 a0_1, .slice A0_2 l0_2.length c0_2] 53 ?_; intro gb147 hg w8 hbox hb; have BK147 := am hbox; have GW147 := gs0 hg HB; have GE147 := gs0 hg HB; replace HB := s0 HB hb; clear hb hbox hg; have hcz9_0 := bz3 BK147) | ((with_reducible refine gate_callee (f := 86) rfl ?_); refine gl 8 Try.func86 #[.slice A0_2 l0_2.length c0_2, .int .i64 a1] ?_; (with_reducible refine (laws_heldItemS.calls k _ _ l0_2 a1 t148 _ (cb HR0_2 HB) HC0_2.out A3.out).mono ?_); rintro e w10 ⟨rfl, hb⟩; refine ⟨_, rfl, ?_⟩; replace BK147 := bb BK147 hb; replace HB := Aside0.mk (below_step (be1 HB GE147) hb); (try clear hb)))
 go_ret
 exact ⟨er, be1 HB GE147⟩

end Go.Proofs.Ytllaoamaplepmaa.QFnExactRowGet
