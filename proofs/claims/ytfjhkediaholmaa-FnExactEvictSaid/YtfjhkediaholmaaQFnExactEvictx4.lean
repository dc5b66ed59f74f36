-- made by a program of this session (myprint.py)
import Derived.Test.YtfjhkediaholmaaQFnExactEvictx0
import Derived.Test.YtfjhkediaholmaaQFnExactEvictx2
namespace Go.Proofs.Ytfjhkediaholmaa.QFnExactEvict
open Go.RowKit Go.Proofs.YtfjhkediaholmaaW.PrintWords Go.Proofs.YtfjhkediaholmaaW.PrintLast Go.Proofs.YtfjhkediaholmaaW.PrintMore
attribute [local go_sem] max2_int min2_int max_two min_two max_three min_three max_four min_four   -- for this text's walks alone
set_option linter.unusedVariables false
set_option linter.unusedSimpArgs false

/-! ### laws_heldItemS: function 74 -/
def laws_heldItemS.l0 : Nat → List (S68) → Int → Int → Option (Int)
 | 0, _, _, _ => none
 | k + 1, x0, x1, x5 => if x5 < (x0.length : Int) then (if 0 ≤ x5 then ((laws_markText.f k x1).bind fun t165 => (if ((rd_T68 x0 x5).f0).toList = t165.toList then ((laws_markText.f k (wrap64 (x1 + 1))).bind fun t167 => (if ((rd_T68 x0 x5).f1).toList = t167.toList then (if ((rd_T68 x0 x5).f2) = (wrap64 ((wrap64 (x1 + 1)) + 1)) then (laws_heldItemS.l0 k x0 (wrap64 ((wrap64 ((wrap64 (x1 + 1)) + 1)) + 1)) (wrap64 (x5 + 1))) else (some (-1))) else (some (-1)))) else (some (-1)))) else (none)) else (some x1)
def laws_heldItemS.f (k : Nat) (l0 : List (S68)) (a1 : Int) : Option (Int) := laws_heldItemS.l0 k l0 a1 0
theorem laws_heldItemS.mono_l : ∀ k, (∀ y0 y1 y2, LeO (laws_heldItemS.l0 k y0 y1 y2) (laws_heldItemS.l0 (k + 1) y0 y1 y2))
 | 0 => fun _ _ _ r h => by simp [laws_heldItemS.l0] at h
 | k + 1 => by
  have ih0 := laws_heldItemS.mono_l k
  ·intro y0 y1 y2
   unfold laws_heldItemS.l0
   repeat' first
   | (with_reducible exact ih0 _ _ _)
   | (with_reducible exact laws_markText.mono _ _)
   | (with_reducible exact LeO.refl _)
   | (with_reducible exact LeO.none _)
   | (with_reducible refine LeO.ite ?_ ?_)
   | (with_reducible refine LeO.bind ?_ (fun _ => ?_))
   | exact ih0 _ _ _
   | exact laws_markText.mono _ _
   | exact LeO.none _
   | refine LeO.ite ?_ ?_
   | refine LeO.bind ?_ (fun _ => ?_)
theorem laws_heldItemS.mono : ∀ a0 a1 k, LeO (laws_heldItemS.f k a0 a1) (laws_heldItemS.f (k + 1) a0 a1) := by
 intro a0 a1 k
 have ih0 := laws_heldItemS.mono_l k
 unfold laws_heldItemS.f
 repeat' first
   | (with_reducible exact ih0 _ _ _)
   | (with_reducible exact laws_markText.mono _ _)
   | (with_reducible exact LeO.refl _)
   | (with_reducible exact LeO.none _)
   | (with_reducible refine LeO.ite ?_ ?_)
   | (with_reducible refine LeO.bind ?_ (fun _ => ?_))
   | exact ih0 _ _ _
   | exact laws_markText.mono _ _
   | exact LeO.none _
   | refine LeO.ite ?_ ?_
   | refine LeO.bind ?_ (fun _ => ?_)
def laws_heldItemS.T4 : Bool × List (List Nat × List Nat) := (true, [([], []), ([], []), ([0, 1], [0, 1]), ([2], [2]), ([3], [3]), ([], []), ([5], [5]), ([4, 6], [4, 6])])
def laws_heldItemS.B4 : List Nat := [0, 0, 3, 7, 15, 0, 32, 127]
theorem laws_heldItemS.tab4 : rtab .any (opsOf Try.f74 4) = laws_heldItemS.T4 := by kernel_rfl
theorem laws_heldItemS.bits4 : waitsOk laws_heldItemS.T4.2 laws_heldItemS.B4 = true := by kernel_rfl
def laws_heldItemS.T7 : Bool × List (List Nat × List Nat) := (true, [([], []), ([], []), ([0, 1], [0, 1]), ([2], [2]), ([3], [3]), ([], []), ([5], [5]), ([4, 6], [4, 6])])
def laws_heldItemS.B7 : List Nat := [0, 0, 3, 7, 15, 0, 32, 127]
theorem laws_heldItemS.tab7 : rtab .any (opsOf Try.f74 7) = laws_heldItemS.T7 := by kernel_rfl
theorem laws_heldItemS.bits7 : waitsOk laws_heldItemS.T7.2 laws_heldItemS.B7 = true := by kernel_rfl
set_option maxHeartbeats 8000000 in
set_option maxRecDepth 100000 in
theorem laws_heldItemS.calls (k : Nat) (A0 : Option Addr) (c0 : Nat) (l0 : List (S68)) (a1 : Int) (r : Int) (w : World) (hr0 : Kd.C k68 w A0 l0.length l0) (hc0 : l0.length ≤ c0) (h : laws_heldItemS.f k l0 a1 = some r) :
  Calls Try.prog 74 #[.slice A0 l0.length c0, .int .i64 a1] w fun e w' => e = .returned (.int .i64 r) ∧ Below w.heap.size w w' := by
 have HR0 := Aside0.mk hr0
 have HC0 := Aside0.mk hc0
 clear hr0 hc0
 have HB := Aside0.mk (Below.refl w.heap.size w)
 have H : (laws_heldItemS.l0 k l0 a1 0) = some r := h
 clear h
 have H' := Aside0.mk H
 clear H
 go_enter Try.func74, Try.ntmps74
 go_wp2
 go_loopg [1, 5] k (fun kq v1 v5 w' => ∃ (x1_1 : Int) (x5_1 : Int), v1 = .int .i64 x1_1 ∧ v5 = .int .i64 x5_1 ∧ Aside0 (laws_heldItemS.l0 kq l0 x1_1 x5_1 = some r) ∧ Aside0 (kq ≤ k) ∧ Aside0 (Below w.heap.size w w'))
 case atStart => exact ⟨(a1), (0), rs, rs, H', ⟨Nat.le_refl _⟩, ⟨be HB⟩⟩
 case round =>
  clear H'
  try clear p2
  obtain ⟨x1_1, x5_1, rfl, rfl, HA, HK1, HB⟩ := hrel
  cases gk with
  | zero => exact absurd HA.out (by simp [laws_heldItemS.l0])
  | succ k1 =>
   have H := HA.out
   clear HA
   simp only [laws_heldItemS.l0] at H
   by_cases c3 : x5_1 < (l0.length : Int)
   ·rw [if_pos c3] at H
    have c3b0 : decide (x5_1 < (l0.length : Int)) = true := decide_eq_true c3
    clear c3
    by_cases c4 : 0 ≤ x5_1
    ·rw [if_pos c4] at H
     have c4b0 : decide (0 ≤ x5_1) = true := decide_eq_true c4
     clear c4
     replace H := Option.bind_eq_some_iff.mp H
     obtain ⟨t165, A50, H⟩ := H
     try dsimp only at H
     have A5 := Aside0.mk A50
     clear A50
     by_cases c6 : ((rd_T68 l0 x5_1).f0).toList = t165.toList
     ·rw [if_pos c6] at H
      have c6b0 : (((rd_T68 l0 x5_1).f0).toList == t165.toList) = true := beq_iff_eq.mpr c6
      have c6b1 : (((rd_T68 l0 x5_1).f0).toList != t165.toList) = false := bne_eq_false_iff_eq.mpr c6
      clear c6
      replace H := Option.bind_eq_some_iff.mp H
      obtain ⟨t167, A70, H⟩ := H
      try dsimp only at H
      have A7 := Aside0.mk A70
      clear A70
      by_cases c8 : ((rd_T68 l0 x5_1).f1).toList = t167.toList
      ·rw [if_pos c8] at H
       have c8b0 : (((rd_T68 l0 x5_1).f1).toList == t167.toList) = true := beq_iff_eq.mpr c8
       have c8b1 : (((rd_T68 l0 x5_1).f1).toList != t167.toList) = false := bne_eq_false_iff_eq.mpr c8
       clear c8
       by_cases c9 : ((rd_T68 l0 x5_1).f2) = (wrap64 ((wrap64 (x1_1 + 1)) + 1))
       ·rw [if_pos c9] at H
        have c9b0 : (((rd_T68 l0 x5_1).f2) == (wrap64 ((wrap64 (x1_1 + 1)) + 1))) = true := beq_iff_eq.mpr c9
        have c9b1 : (((rd_T68 l0 x5_1).f2) != (wrap64 ((wrap64 (x1_1 + 1)) + 1))) = false := bne_eq_false_iff_eq.mpr c9
        clear c9
        have H' := Aside0.mk H
        clear H
        try go_wp2
        have n0_ := Aside0.mk (below_drew1 HB.out)
        clear HB
        have HB := n0_
        clear n0_
        have p164 : 0 ≤ (x5_1 : Int) := od
        have q164 : x5_1 < (l0.length : Int) := od
        obtain ⟨ad164, e164, hx164_0, hx164_1, hx164_2⟩ := at_T68 HR0.out x5_1 p164 q164
        have hw164_2 := hx164_2
        have hw164_1 := hx164_1
        have hw164_0 := hx164_0
        cases e164
        replace hx164_0 := hc HB hx164_0
        replace hx164_1 := hc HB hx164_1
        replace hx164_2 := hc HB hx164_2
        replace p164 := eq_true p164
        replace q164 := eq_true q164
        refine start_ (n := 8) (S := fun w' => w'.cell? (ad164.add ((x5_1).toNat * 3)) = some (.string ((rd_T68 l0 x5_1).f0)) ∧ w'.cell? ⟨(ad164.add ((x5_1).toNat * 3)).block, (ad164.add ((x5_1).toNat * 3)).off + 1, none⟩ = some (.string ((rd_T68 l0 x5_1).f1)) ∧ w'.cell? ⟨(ad164.add ((x5_1).toNat * 3)).block, (ad164.add ((x5_1).toNat * 3)).off + 2, none⟩ = some (.int .i64 ((rd_T68 l0 x5_1).f2))) (ds := []) (bv 8 0x0) (by kernel_rfl) rfl rfl ⟨(hc HB hw164_0), (hc HB hw164_1), (hc HB hw164_2)⟩ (fun hHeld => ?_); refine with_tabW laws_heldItemS.tab4 laws_heldItemS.bits4 (fun HT_ HW_ => ?_)
        (first | ((conv in (World.drew (World.drewN wr _)) => skip); generalize hqw_ : World.drew (World.drewN wr _) = w10 at hHeld ⊢; replace HB := Aside0.mk (Go.Proofs.Ytfjhkediaholmaa.Mo.below_to hqw_ HB.out); replace hx164_0 := Go.Proofs.Ytfjhkediaholmaa.Mo.cell_to hqw_ hx164_0; replace hx164_1 := Go.Proofs.Ytfjhkediaholmaa.Mo.cell_to hqw_ hx164_1; replace hx164_2 := Go.Proofs.Ytfjhkediaholmaa.Mo.cell_to hqw_ hx164_2; clear hqw_) | generalize wr.drew = w10 at HB hx164_0 hx164_1 hx164_2 hHeld ⊢)
        refine py HT_ 0 12 (bv 8 0x1) ?_
        refine py HT_ 1 13 (bv 8 0x3) ?_
        refine py HT_ 2 14 (bv 8 0x7) ?_
        refine py HT_ 3 15 (bv 8 0xf) ?_
        refine py HT_ 5 17 (bv 8 0x2f) ?_
        refine tk HT_ HW_ hHeld 4 16 (bv 8 0x3f) ?_
        refine one_ (i := 6) (N := some 18) (bv 8 0x7f) rfl rfl (one_of HT_.out (by kernel_rfl)) (by decide) (fun K hK => ?_)
        refine goes_ Try.func100 (by kernel_rfl) rfl #[.int .i64 x1_1] (by rfl) rfl rfl ml ?_
        with_reducible refine (laws_markText.calls k1 x1_1 t165 _ A5.out).mono ?_
        rintro e w11 ⟨rfl, hb⟩
        refine ⟨_, rfl, ?_⟩
        have n0_ := s0 HB hb
        clear HB
        have HB := n0_
        clear n0_
        (try clear hb)
        (try clear hb2)
        (try clear hk)
        (try clear hi)
        refine hK.out _ _ ⟨(hc HB hw164_0), (hc HB hw164_1), (hc HB hw164_2)⟩ (fun hHeld => ?_)
        clear hK K
        refine norm_ (a' := ?_) ?_ ?_
        rotate_left
        ·show Act.put _ (some 18) _ = _
         simp only [aP]
         rfl
        refine py HT_ 7 19 (bv 8 0xff) ?_
        refine done_ (done_of HT_.out (by kernel_rfl)) ?_
        try go_wp2
        have n0_ := Aside0.mk (below_drew1 HB.out)
        clear HB
        have HB := n0_
        clear n0_
        have p166 : 0 ≤ (x5_1 : Int) := od
        have q166 : x5_1 < (l0.length : Int) := od
        obtain ⟨ad166, e166, hx166_0, hx166_1, hx166_2⟩ := at_T68 HR0.out x5_1 p166 q166
        have hw166_2 := hx166_2
        have hw166_1 := hx166_1
        have hw166_0 := hx166_0
        obtain rfl : ad164 = ad166 := (by injection e166)
        replace hx166_0 := hc HB hx166_0
        replace hx166_1 := hc HB hx166_1
        replace hx166_2 := hc HB hx166_2
        replace p166 := eq_true p166
        replace q166 := eq_true q166
        refine start_ (n := 8) (S := fun w' => w'.cell? (ad164.add ((x5_1).toNat * 3)) = some (.string ((rd_T68 l0 x5_1).f0)) ∧ w'.cell? ⟨(ad164.add ((x5_1).toNat * 3)).block, (ad164.add ((x5_1).toNat * 3)).off + 1, none⟩ = some (.string ((rd_T68 l0 x5_1).f1)) ∧ w'.cell? ⟨(ad164.add ((x5_1).toNat * 3)).block, (ad164.add ((x5_1).toNat * 3)).off + 2, none⟩ = some (.int .i64 ((rd_T68 l0 x5_1).f2))) (ds := []) (bv 8 0x0) (by kernel_rfl) rfl rfl ⟨(hc HB hw166_0), (hc HB hw166_1), (hc HB hw166_2)⟩ (fun hHeld => ?_); refine with_tabW laws_heldItemS.tab7 laws_heldItemS.bits7 (fun HT_ HW_ => ?_)
        (first | ((conv in (World.drew (World.drewN w11 _)) => skip); generalize hqw_ : World.drew (World.drewN w11 _) = w12 at hHeld ⊢; replace HB := Aside0.mk (Go.Proofs.Ytfjhkediaholmaa.Mo.below_to hqw_ HB.out); replace hx166_0 := Go.Proofs.Ytfjhkediaholmaa.Mo.cell_to hqw_ hx166_0; replace hx166_1 := Go.Proofs.Ytfjhkediaholmaa.Mo.cell_to hqw_ hx166_1; replace hx166_2 := Go.Proofs.Ytfjhkediaholmaa.Mo.cell_to hqw_ hx166_2; clear hqw_) | generalize w11.drew = w12 at HB hx166_0 hx166_1 hx166_2 hHeld ⊢)
        refine py HT_ 0 22 (bv 8 0x1) ?_
        refine py HT_ 1 23 (bv 8 0x3) ?_
        refine py HT_ 2 24 (bv 8 0x7) ?_
        refine py HT_ 3 25 (bv 8 0xf) ?_
        refine py HT_ 5 27 (bv 8 0x2f) ?_
        refine tk HT_ HW_ hHeld 4 26 (bv 8 0x3f) ?_
        refine one_ (i := 6) (N := some 28) (bv 8 0x7f) rfl rfl (one_of HT_.out (by kernel_rfl)) (by decide) (fun K hK => ?_)
        refine goes_ Try.func100 (by kernel_rfl) rfl #[.int .i64 (wrap64 (x1_1 + 1))] (by rfl) rfl rfl ml ?_
        with_reducible refine (laws_markText.calls k1 (wrap64 (x1_1 + 1)) t167 _ A7.out).mono ?_
        rintro e w13 ⟨rfl, hb⟩
        refine ⟨_, rfl, ?_⟩
        have n0_ := s0 HB hb
        clear HB
        have HB := n0_
        clear n0_
        (try clear hb)
        (try clear hb2)
        (try clear hk)
        (try clear hi)
        refine hK.out _ _ ⟨(hc HB hw166_0), (hc HB hw166_1), (hc HB hw166_2)⟩ (fun hHeld => ?_)
        clear hK K
        refine norm_ (a' := ?_) ?_ ?_
        rotate_left
        ·show Act.put _ (some 28) _ = _
         simp only [aP]
         rfl
        refine py HT_ 7 29 (bv 8 0xff) ?_
        refine done_ (done_of HT_.out (by kernel_rfl)) ?_
        have p168 : 0 ≤ (x5_1 : Int) := od
        have q168 : x5_1 < (l0.length : Int) := od
        obtain ⟨ad168, e168, hx168_0, hx168_1, hx168_2⟩ := at_T68 HR0.out x5_1 p168 q168
        obtain rfl : ad164 = ad168 := (by injection e168)
        replace hx168_0 := hc HB hx168_0
        replace hx168_1 := hc HB hx168_1
        replace hx168_2 := hc HB hx168_2
        replace p168 := eq_true p168
        replace q168 := eq_true q168
        try go_wp2
        go_roundg k1
        case measure => have := HK1.out; omega
        case rel => exact ⟨(wrap64 ((wrap64 ((wrap64 (x1_1 + 1)) + 1)) + 1)), (wrap64 (x5_1 + 1)), rs, rs, H', ⟨by have := HK1.out; omega⟩, ⟨be HB⟩⟩
       rw [if_neg c9] at H
       have c9b0 : (((rd_T68 l0 x5_1).f2) == (wrap64 ((wrap64 (x1_1 + 1)) + 1))) = false := beq_eq_false_iff_ne.mpr c9
       have c9b1 : (((rd_T68 l0 x5_1).f2) != (wrap64 ((wrap64 (x1_1 + 1)) + 1))) = true := bne_iff_ne.mpr c9
       obtain rfl := Option.some.inj H
       try go_wp2
       have n0_ := Aside0.mk (below_drew1 HB.out)
       clear HB
       have HB := n0_
       clear n0_
       have p164 : 0 ≤ (x5_1 : Int) := od
       have q164 : x5_1 < (l0.length : Int) := od
       obtain ⟨ad164, e164, hx164_0, hx164_1, hx164_2⟩ := at_T68 HR0.out x5_1 p164 q164
       have hw164_2 := hx164_2
       have hw164_1 := hx164_1
       have hw164_0 := hx164_0
       cases e164
       replace hx164_0 := hc HB hx164_0
       replace hx164_1 := hc HB hx164_1
       replace hx164_2 := hc HB hx164_2
       replace p164 := eq_true p164
       replace q164 := eq_true q164
       refine start_ (n := 8) (S := fun w' => w'.cell? (ad164.add ((x5_1).toNat * 3)) = some (.string ((rd_T68 l0 x5_1).f0)) ∧ w'.cell? ⟨(ad164.add ((x5_1).toNat * 3)).block, (ad164.add ((x5_1).toNat * 3)).off + 1, none⟩ = some (.string ((rd_T68 l0 x5_1).f1)) ∧ w'.cell? ⟨(ad164.add ((x5_1).toNat * 3)).block, (ad164.add ((x5_1).toNat * 3)).off + 2, none⟩ = some (.int .i64 ((rd_T68 l0 x5_1).f2))) (ds := []) (bv 8 0x0) (by kernel_rfl) rfl rfl ⟨(hc HB hw164_0), (hc HB hw164_1), (hc HB hw164_2)⟩ (fun hHeld => ?_); refine with_tabW laws_heldItemS.tab4 laws_heldItemS.bits4 (fun HT_ HW_ => ?_)
       (first | ((conv in (World.drew (World.drewN wr _)) => skip); generalize hqw_ : World.drew (World.drewN wr _) = w14 at hHeld ⊢; replace HB := Aside0.mk (Go.Proofs.Ytfjhkediaholmaa.Mo.below_to hqw_ HB.out); replace hx164_0 := Go.Proofs.Ytfjhkediaholmaa.Mo.cell_to hqw_ hx164_0; replace hx164_1 := Go.Proofs.Ytfjhkediaholmaa.Mo.cell_to hqw_ hx164_1; replace hx164_2 := Go.Proofs.Ytfjhkediaholmaa.Mo.cell_to hqw_ hx164_2; clear hqw_) | generalize wr.drew = w14 at HB hx164_0 hx164_1 hx164_2 hHeld ⊢)
       refine py HT_ 0 12 (bv 8 0x1) ?_
       refine py HT_ 1 13 (bv 8 0x3) ?_
       refine py HT_ 2 14 (bv 8 0x7) ?_
       refine py HT_ 3 15 (bv 8 0xf) ?_
       refine py HT_ 5 17 (bv 8 0x2f) ?_
       refine tk HT_ HW_ hHeld 4 16 (bv 8 0x3f) ?_
       refine one_ (i := 6) (N := some 18) (bv 8 0x7f) rfl rfl (one_of HT_.out (by kernel_rfl)) (by decide) (fun K hK => ?_)
       refine goes_ Try.func100 (by kernel_rfl) rfl #[.int .i64 x1_1] (by rfl) rfl rfl ml ?_
       with_reducible refine (laws_markText.calls k1 x1_1 t165 _ A5.out).mono ?_
       rintro e w15 ⟨rfl, hb⟩
       refine ⟨_, rfl, ?_⟩
       have n0_ := s0 HB hb
       clear HB
       have HB := n0_
       clear n0_
       (try clear hb)
       (try clear hb2)
       (try clear hk)
       (try clear hi)
       refine hK.out _ _ ⟨(hc HB hw164_0), (hc HB hw164_1), (hc HB hw164_2)⟩ (fun hHeld => ?_)
       clear hK K
       refine norm_ (a' := ?_) ?_ ?_
       rotate_left
       ·show Act.put _ (some 18) _ = _
        simp only [aP]
        rfl
       refine py HT_ 7 19 (bv 8 0xff) ?_
       refine done_ (done_of HT_.out (by kernel_rfl)) ?_
       try go_wp2
       have n0_ := Aside0.mk (below_drew1 HB.out)
       clear HB
       have HB := n0_
       clear n0_
       have p166 : 0 ≤ (x5_1 : Int) := od
       have q166 : x5_1 < (l0.length : Int) := od
       obtain ⟨ad166, e166, hx166_0, hx166_1, hx166_2⟩ := at_T68 HR0.out x5_1 p166 q166
       have hw166_2 := hx166_2
       have hw166_1 := hx166_1
       have hw166_0 := hx166_0
       obtain rfl : ad164 = ad166 := (by injection e166)
       replace hx166_0 := hc HB hx166_0
       replace hx166_1 := hc HB hx166_1
       replace hx166_2 := hc HB hx166_2
       replace p166 := eq_true p166
       replace q166 := eq_true q166
       refine start_ (n := 8) (S := fun w' => w'.cell? (ad164.add ((x5_1).toNat * 3)) = some (.string ((rd_T68 l0 x5_1).f0)) ∧ w'.cell? ⟨(ad164.add ((x5_1).toNat * 3)).block, (ad164.add ((x5_1).toNat * 3)).off + 1, none⟩ = some (.string ((rd_T68 l0 x5_1).f1)) ∧ w'.cell? ⟨(ad164.add ((x5_1).toNat * 3)).block, (ad164.add ((x5_1).toNat * 3)).off + 2, none⟩ = some (.int .i64 ((rd_T68 l0 x5_1).f2))) (ds := []) (bv 8 0x0) (by kernel_rfl) rfl rfl ⟨(hc HB hw166_0), (hc HB hw166_1), (hc HB hw166_2)⟩ (fun hHeld => ?_); refine with_tabW laws_heldItemS.tab7 laws_heldItemS.bits7 (fun HT_ HW_ => ?_)
       (first | ((conv in (World.drew (World.drewN w15 _)) => skip); generalize hqw_ : World.drew (World.drewN w15 _) = w16 at hHeld ⊢; replace HB := Aside0.mk (Go.Proofs.Ytfjhkediaholmaa.Mo.below_to hqw_ HB.out); replace hx166_0 := Go.Proofs.Ytfjhkediaholmaa.Mo.cell_to hqw_ hx166_0; replace hx166_1 := Go.Proofs.Ytfjhkediaholmaa.Mo.cell_to hqw_ hx166_1; replace hx166_2 := Go.Proofs.Ytfjhkediaholmaa.Mo.cell_to hqw_ hx166_2; clear hqw_) | generalize w15.drew = w16 at HB hx166_0 hx166_1 hx166_2 hHeld ⊢)
       refine py HT_ 0 22 (bv 8 0x1) ?_
       refine py HT_ 1 23 (bv 8 0x3) ?_
       refine py HT_ 2 24 (bv 8 0x7) ?_
       refine py HT_ 3 25 (bv 8 0xf) ?_
       refine py HT_ 5 27 (bv 8 0x2f) ?_
       refine tk HT_ HW_ hHeld 4 26 (bv 8 0x3f) ?_
       refine one_ (i := 6) (N := some 28) (bv 8 0x7f) rfl rfl (one_of HT_.out (by kernel_rfl)) (by decide) (fun K hK => ?_)
       refine goes_ Try.func100 (by kernel_rfl) rfl #[.int .i64 (wrap64 (x1_1 + 1))] (by rfl) rfl rfl ml ?_
       with_reducible refine (laws_markText.calls k1 (wrap64 (x1_1 + 1)) t167 _ A7.out).mono ?_
       rintro e w17 ⟨rfl, hb⟩
       refine ⟨_, rfl, ?_⟩
       have n0_ := s0 HB hb
       clear HB
       have HB := n0_
       clear n0_
       (try clear hb)
       (try clear hb2)
       (try clear hk)
       (try clear hi)
       refine hK.out _ _ ⟨(hc HB hw166_0), (hc HB hw166_1), (hc HB hw166_2)⟩ (fun hHeld => ?_)
       clear hK K
       refine norm_ (a' := ?_) ?_ ?_
       rotate_left
       ·show Act.put _ (some 28) _ = _
        simp only [aP]
        rfl
       refine py HT_ 7 29 (bv 8 0xff) ?_
       refine done_ (done_of HT_.out (by kernel_rfl)) ?_
       have p168 : 0 ≤ (x5_1 : Int) := od
       have q168 : x5_1 < (l0.length : Int) := od
       obtain ⟨ad168, e168, hx168_0, hx168_1, hx168_2⟩ := at_T68 HR0.out x5_1 p168 q168
       obtain rfl : ad164 = ad168 := (by injection e168)
       replace hx168_0 := hc HB hx168_0
       replace hx168_1 := hc HB hx168_1
       replace hx168_2 := hc HB hx168_2
       replace p168 := eq_true p168
       replace q168 := eq_true q168
       try go_wp2
       go_ret
       exact ⟨er, be HB⟩
      rw [if_neg c8] at H
      have c8b0 : (((rd_T68 l0 x5_1).f1).toList == t167.toList) = false := beq_eq_false_iff_ne.mpr c8
      have c8b1 : (((rd_T68 l0 x5_1).f1).toList != t167.toList) = true := bne_iff_ne.mpr c8
      obtain rfl := Option.some.inj H
      try go_wp2
      have n0_ := Aside0.mk (below_drew1 HB.out)
      clear HB
      have HB := n0_
      clear n0_
      have p164 : 0 ≤ (x5_1 : Int) := od
      have q164 : x5_1 < (l0.length : Int) := od
      obtain ⟨ad164, e164, hx164_0, hx164_1, hx164_2⟩ := at_T68 HR0.out x5_1 p164 q164
      have hw164_2 := hx164_2
      have hw164_1 := hx164_1
      have hw164_0 := hx164_0
      cases e164
      replace hx164_0 := hc HB hx164_0
      replace hx164_1 := hc HB hx164_1
      replace hx164_2 := hc HB hx164_2
      replace p164 := eq_true p164
      replace q164 := eq_true q164
      refine start_ (n := 8) (S := fun w' => w'.cell? (ad164.add ((x5_1).toNat * 3)) = some (.string ((rd_T68 l0 x5_1).f0)) ∧ w'.cell? ⟨(ad164.add ((x5_1).toNat * 3)).block, (ad164.add ((x5_1).toNat * 3)).off + 1, none⟩ = some (.string ((rd_T68 l0 x5_1).f1)) ∧ w'.cell? ⟨(ad164.add ((x5_1).toNat * 3)).block, (ad164.add ((x5_1).toNat * 3)).off + 2, none⟩ = some (.int .i64 ((rd_T68 l0 x5_1).f2))) (ds := []) (bv 8 0x0) (by kernel_rfl) rfl rfl ⟨(hc HB hw164_0), (hc HB hw164_1), (hc HB hw164_2)⟩ (fun hHeld => ?_); refine with_tabW laws_heldItemS.tab4 laws_heldItemS.bits4 (fun HT_ HW_ => ?_)
      (first | ((conv in (World.drew (World.drewN wr _)) => skip); generalize hqw_ : World.drew (World.drewN wr _) = w18 at hHeld ⊢; replace HB := Aside0.mk (Go.Proofs.Ytfjhkediaholmaa.Mo.below_to hqw_ HB.out); replace hx164_0 := Go.Proofs.Ytfjhkediaholmaa.Mo.cell_to hqw_ hx164_0; replace hx164_1 := Go.Proofs.Ytfjhkediaholmaa.Mo.cell_to hqw_ hx164_1; replace hx164_2 := Go.Proofs.Ytfjhkediaholmaa.Mo.cell_to hqw_ hx164_2; clear hqw_) | generalize wr.drew = w18 at HB hx164_0 hx164_1 hx164_2 hHeld ⊢)
      refine py HT_ 0 12 (bv 8 0x1) ?_
      refine py HT_ 1 13 (bv 8 0x3) ?_
      refine py HT_ 2 14 (bv 8 0x7) ?_
      refine py HT_ 3 15 (bv 8 0xf) ?_
      refine py HT_ 5 17 (bv 8 0x2f) ?_
      refine tk HT_ HW_ hHeld 4 16 (bv 8 0x3f) ?_
      refine one_ (i := 6) (N := some 18) (bv 8 0x7f) rfl rfl (one_of HT_.out (by kernel_rfl)) (by decide) (fun K hK => ?_)
      refine goes_ Try.func100 (by kernel_rfl) rfl #[.int .i64 x1_1] (by rfl) rfl rfl ml ?_
      with_reducible refine (laws_markText.calls k1 x1_1 t165 _ A5.out).mono ?_
      rintro e w19 ⟨rfl, hb⟩
      refine ⟨_, rfl, ?_⟩
      have n0_ := s0 HB hb
      clear HB
      have HB := n0_
      clear n0_
      (try clear hb)
      (try clear hb2)
      (try clear hk)
      (try clear hi)
      refine hK.out _ _ ⟨(hc HB hw164_0), (hc HB hw164_1), (hc HB hw164_2)⟩ (fun hHeld => ?_)
      clear hK K
      refine norm_ (a' := ?_) ?_ ?_
      rotate_left
      ·show Act.put _ (some 18) _ = _
       simp only [aP]
       rfl
      refine py HT_ 7 19 (bv 8 0xff) ?_
      refine done_ (done_of HT_.out (by kernel_rfl)) ?_
      try go_wp2
      have n0_ := Aside0.mk (below_drew1 HB.out)
      clear HB
      have HB := n0_
      clear n0_
      have p166 : 0 ≤ (x5_1 : Int) := od
      have q166 : x5_1 < (l0.length : Int) := od
      obtain ⟨ad166, e166, hx166_0, hx166_1, hx166_2⟩ := at_T68 HR0.out x5_1 p166 q166
      have hw166_2 := hx166_2
      have hw166_1 := hx166_1
      have hw166_0 := hx166_0
      obtain rfl : ad164 = ad166 := (by injection e166)
      replace hx166_0 := hc HB hx166_0
      replace hx166_1 := hc HB hx166_1
      replace hx166_2 := hc HB hx166_2
      replace p166 := eq_true p166
      replace q166 := eq_true q166
      refine start_ (n := 8) (S := fun w' => w'.cell? (ad164.add ((x5_1).toNat * 3)) = some (.string ((rd_T68 l0 x5_1).f0)) ∧ w'.cell? ⟨(ad164.add ((x5_1).toNat * 3)).block, (ad164.add ((x5_1).toNat * 3)).off + 1, none⟩ = some (.string ((rd_T68 l0 x5_1).f1)) ∧ w'.cell? ⟨(ad164.add ((x5_1).toNat * 3)).block, (ad164.add ((x5_1).toNat * 3)).off + 2, none⟩ = some (.int .i64 ((rd_T68 l0 x5_1).f2))) (ds := []) (bv 8 0x0) (by kernel_rfl) rfl rfl ⟨(hc HB hw166_0), (hc HB hw166_1), (hc HB hw166_2)⟩ (fun hHeld => ?_); refine with_tabW laws_heldItemS.tab7 laws_heldItemS.bits7 (fun HT_ HW_ => ?_)
      (first | ((conv in (World.drew (World.drewN w19 _)) => skip); generalize hqw_ : World.drew (World.drewN w19 _) = w20 at hHeld ⊢; replace HB := Aside0.mk (Go.Proofs.Ytfjhkediaholmaa.Mo.below_to hqw_ HB.out); replace hx166_0 := Go.Proofs.Ytfjhkediaholmaa.Mo.cell_to hqw_ hx166_0; replace hx166_1 := Go.Proofs.Ytfjhkediaholmaa.Mo.cell_to hqw_ hx166_1; replace hx166_2 := Go.Proofs.Ytfjhkediaholmaa.Mo.cell_to hqw_ hx166_2; clear hqw_) | generalize w19.drew = w20 at HB hx166_0 hx166_1 hx166_2 hHeld ⊢)
      refine py HT_ 0 22 (bv 8 0x1) ?_
      refine py HT_ 1 23 (bv 8 0x3) ?_
      refine py HT_ 2 24 (bv 8 0x7) ?_
      refine py HT_ 3 25 (bv 8 0xf) ?_
      refine py HT_ 5 27 (bv 8 0x2f) ?_
      refine tk HT_ HW_ hHeld 4 26 (bv 8 0x3f) ?_
      refine one_ (i := 6) (N := some 28) (bv 8 0x7f) rfl rfl (one_of HT_.out (by kernel_rfl)) (by decide) (fun K hK => ?_)
      refine goes_ Try.func100 (by kernel_rfl) rfl #[.int .i64 (wrap64 (x1_1 + 1))] (by rfl) rfl rfl ml ?_
      with_reducible refine (laws_markText.calls k1 (wrap64 (x1_1 + 1)) t167 _ A7.out).mono ?_
      rintro e w21 ⟨rfl, hb⟩
      refine ⟨_, rfl, ?_⟩
      have n0_ := s0 HB hb
      clear HB
      have HB := n0_
      clear n0_
      (try clear hb)
      (try clear hb2)
      (try clear hk)
      (try clear hi)
      refine hK.out _ _ ⟨(hc HB hw166_0), (hc HB hw166_1), (hc HB hw166_2)⟩ (fun hHeld => ?_)
      clear hK K
      refine norm_ (a' := ?_) ?_ ?_
      rotate_left
      ·show Act.put _ (some 28) _ = _
       simp only [aP]
       rfl
      refine py HT_ 7 29 (bv 8 0xff) ?_
      refine done_ (done_of HT_.out (by kernel_rfl)) ?_
      try go_wp2
      go_ret
      exact ⟨er, be HB⟩
     rw [if_neg c6] at H
     have c6b0 : (((rd_T68 l0 x5_1).f0).toList == t165.toList) = false := beq_eq_false_iff_ne.mpr c6
     have c6b1 : (((rd_T68 l0 x5_1).f0).toList != t165.toList) = true := bne_iff_ne.mpr c6
     obtain rfl := Option.some.inj H
     try go_wp2
     have n0_ := Aside0.mk (below_drew1 HB.out)
     clear HB
     have HB := n0_
     clear n0_
     have p164 : 0 ≤ (x5_1 : Int) := od
     have q164 : x5_1 < (l0.length : Int) := od
     obtain ⟨ad164, e164, hx164_0, hx164_1, hx164_2⟩ := at_T68 HR0.out x5_1 p164 q164
     have hw164_2 := hx164_2
     have hw164_1 := hx164_1
     have hw164_0 := hx164_0
     cases e164
     replace hx164_0 := hc HB hx164_0
     replace hx164_1 := hc HB hx164_1
     replace hx164_2 := hc HB hx164_2
     replace p164 := eq_true p164
     replace q164 := eq_true q164
     refine start_ (n := 8) (S := fun w' => w'.cell? (ad164.add ((x5_1).toNat * 3)) = some (.string ((rd_T68 l0 x5_1).f0)) ∧ w'.cell? ⟨(ad164.add ((x5_1).toNat * 3)).block, (ad164.add ((x5_1).toNat * 3)).off + 1, none⟩ = some (.string ((rd_T68 l0 x5_1).f1)) ∧ w'.cell? ⟨(ad164.add ((x5_1).toNat * 3)).block, (ad164.add ((x5_1).toNat * 3)).off + 2, none⟩ = some (.int .i64 ((rd_T68 l0 x5_1).f2))) (ds := []) (bv 8 0x0) (by kernel_rfl) rfl rfl ⟨(hc HB hw164_0), (hc HB hw164_1), (hc HB hw164_2)⟩ (fun hHeld => ?_); refine with_tabW laws_heldItemS.tab4 laws_heldItemS.bits4 (fun HT_ HW_ => ?_)
     (first | ((conv in (World.drew (World.drewN wr _)) => skip); generalize hqw_ : World.drew (World.drewN wr _) = w22 at hHeld ⊢; replace HB := Aside0.mk (Go.Proofs.Ytfjhkediaholmaa.Mo.below_to hqw_ HB.out); replace hx164_0 := Go.Proofs.Ytfjhkediaholmaa.Mo.cell_to hqw_ hx164_0; replace hx164_1 := Go.Proofs.Ytfjhkediaholmaa.Mo.cell_to hqw_ hx164_1; replace hx164_2 := Go.Proofs.Ytfjhkediaholmaa.Mo.cell_to hqw_ hx164_2; clear hqw_) | generalize wr.drew = w22 at HB hx164_0 hx164_1 hx164_2 hHeld ⊢)
     refine py HT_ 0 12 (bv 8 0x1) ?_
     refine py HT_ 1 13 (bv 8 0x3) ?_
     refine py HT_ 2 14 (bv 8 0x7) ?_
     refine py HT_ 3 15 (bv 8 0xf) ?_
     refine py HT_ 5 17 (bv 8 0x2f) ?_
     refine tk HT_ HW_ hHeld 4 16 (bv 8 0x3f) ?_
     refine one_ (i := 6) (N := some 18) (bv 8 0x7f) rfl rfl (one_of HT_.out (by kernel_rfl)) (by decide) (fun K hK => ?_)
     refine goes_ Try.func100 (by kernel_rfl) rfl #[.int .i64 x1_1] (by rfl) rfl rfl ml ?_
     with_reducible refine (laws_markText.calls k1 x1_1 t165 _ A5.out).mono ?_
     rintro e w23 ⟨rfl, hb⟩
     refine ⟨_, rfl, ?_⟩
     have n0_ := s0 HB hb
     clear HB
     have HB := n0_
     clear n0_
     (try clear hb)
     (try clear hb2)
     (try clear hk)
     (try clear hi)
     refine hK.out _ _ ⟨(hc HB hw164_0), (hc HB hw164_1), (hc HB hw164_2)⟩ (fun hHeld => ?_)
     clear hK K
     refine norm_ (a' := ?_) ?_ ?_
     rotate_left
     ·show Act.put _ (some 18) _ = _
      simp only [aP]
      rfl
     refine py HT_ 7 19 (bv 8 0xff) ?_
     refine done_ (done_of HT_.out (by kernel_rfl)) ?_
     try go_wp2
     go_ret
     exact ⟨er, be HB⟩
    rw [if_neg c4] at H
    exact absurd H (by simp)
   rw [if_neg c3] at H
   have c3b0 : decide (x5_1 < (l0.length : Int)) = false := decide_eq_false c3
   clear c3
   obtain rfl := Option.some.inj H
   go_wp2
   go_ret
   exact ⟨er, be HB⟩

end Go.Proofs.Ytfjhkediaholmaa.QFnExactEvict
