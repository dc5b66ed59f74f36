-- made by a program of this session (myprint.py)
import Derived.Test.YtfjhkediaholmaaQFnExactPutx0
import Derived.Test.YtfjhkediaholmaaQFnExactPutx2
namespace Go.Proofs.Ytfjhkediaholmaa.QFnExactPut
open Go.RowKit Go.Proofs.YtfjhkediaholmaaW.PrintWords Go.Proofs.YtfjhkediaholmaaW.PrintLast Go.Proofs.YtfjhkediaholmaaW.PrintMore
attribute [local go_sem] max2_int min2_int max_two min_two max_three min_three max_four min_four   -- for this text's walks alone
set_option linter.unusedVariables false
set_option linter.unusedSimpArgs false

/-! ### laws_heldItemS: function 74 -/
def laws_heldItemS.l0 : Nat → List (S68) → Int → Int → Option (Int)
 | 0, _, _, _ => none
 | k + 1, x0, x1, x5 => if x5 < (x0.length : Int) then (if 0 ≤ x5 then ((laws_markText.f k x1).bind fun ay => (if ((rd_T68 x0 x5).f0).toList = ay.toList then ((laws_markText.f k (wrap64 (x1 + 1))).bind fun aB => (if ((rd_T68 x0 x5).f1).toList = aB.toList then (if ((rd_T68 x0 x5).f2) = (wrap64 ((wrap64 (x1 + 1)) + 1)) then (laws_heldItemS.l0 k x0 (wrap64 ((wrap64 ((wrap64 (x1 + 1)) + 1)) + 1)) (wrap64 (x5 + 1))) else (some (-1))) else (some (-1)))) else (some (-1)))) else (none)) else (some x1)
def laws_heldItemS.f (k : Nat) (l0 : List (S68)) (a1 : Int) : Option (Int) := laws_heldItemS.l0 k l0 a1 0
theorem laws_heldItemS.mono_l : ∀ k, (∀ y0 y1 y2, LeO (laws_heldItemS.l0 k y0 y1 y2) (laws_heldItemS.l0 (k + 1) y0 y1 y2))
 | 0 => fun _ _ _ r h => by simp [laws_heldItemS.l0] at h
 | k + 1 => by
  have aL := laws_heldItemS.mono_l k
  ·intro y0 y1 y2; unfold laws_heldItemS.l0
   repeat' first | (with_reducible first | apply aL | apply laws_markText.mono | apply lr | apply ln | apply li | refine lb ?_ fun _ => ?_) | apply aL | apply ln | apply li | refine lb ?_ fun _ => ?_
theorem laws_heldItemS.mono : ∀ a0 a1 k, LeO (laws_heldItemS.f k a0 a1) (laws_heldItemS.f (k + 1) a0 a1) := by
 intro a0 a1 k; have aL := laws_heldItemS.mono_l k; unfold laws_heldItemS.f
 repeat' first | (with_reducible first | apply aL | apply laws_markText.mono | apply lr | apply ln | apply li | refine lb ?_ fun _ => ?_) | apply aL | apply ln | apply li | refine lb ?_ fun _ => ?_
def laws_heldItemS.T4 : Bool × List (List Nat × List Nat) := (true, [([], []), ([], []), ([0, 1], [0, 1]), ([2], [2]), ([3], [3]), ([], []), ([5], [5]), ([4, 6], [4, 6])])
def laws_heldItemS.B4 : List Nat := [0, 0, 3, 7, 15, 0, 32, 127]
theorem laws_heldItemS.tab4 : rtab .any (opsOf Try.f74 4) = laws_heldItemS.T4 := by kernel_rfl
theorem laws_heldItemS.bits4 : waitsOk laws_heldItemS.T4.2 laws_heldItemS.B4 = true := by kernel_rfl
def laws_heldItemS.T7 : Bool × List (List Nat × List Nat) := (true, [([], []), ([], []), ([0, 1], [0, 1]), ([2], [2]), ([3], [3]), ([], []), ([5], [5]), ([4, 6], [4, 6])])
def laws_heldItemS.B7 : List Nat := [0, 0, 3, 7, 15, 0, 32, 127]
theorem laws_heldItemS.tab7 : rtab .any (opsOf Try.f74 7) = laws_heldItemS.T7 := by kernel_rfl
theorem laws_heldItemS.bits7 : waitsOk laws_heldItemS.T7.2 laws_heldItemS.B7 = true := by kernel_rfl
set_option maxHeartbeats 8000000 in
set_option maxRecDepth 100000 in
theorem laws_heldItemS.calls (k : Nat) (A0 : Option Addr) (c0 : Nat) (l0 : List (S68)) (a1 : Int) (r : Int) (w : World) (a2 : Kd.C k68 w A0 l0.length l0) (a3 : l0.length ≤ c0) (h : laws_heldItemS.f k l0 a1 = some r) :
  Calls Try.prog 74 #[.slice A0 l0.length c0, .int .i64 a1] w fun e w' => e = .returned (.int .i64 r) ∧ Below w.heap.size w w' := by
 have aI := Aside0.mk a2; have bh := Aside0.mk a3; clear a2 a3; have HB := Aside0.mk (Below.refl w.heap.size w); have H : (laws_heldItemS.l0 k l0 a1 0) = some r := h; clear h; have H' := Aside0.mk H; clear H
 go_enter Try.func74, Try.ntmps74
 go_wp2
 go_loopg [1, 5] k (fun kq v1 v5 w' => ∃ (al : Int) (aa : Int), v1 = .int .i64 al ∧ v5 = .int .i64 aa ∧ Aside0 (laws_heldItemS.l0 kq l0 al aa = some r) ∧ Aside0 (kq ≤ k) ∧ Aside0 (Below w.heap.size w w'))
 case atStart => exact ⟨(a1), (0), rs, rs, H', ⟨Nat.le_refl _⟩, ⟨be HB⟩⟩
 case round =>
  clear H'
  try clear p2
  obtain ⟨al, aa, rfl, rfl, HA, a4, HB⟩ := hrel
  cases gk with
  | zero => exact absurd HA.out (by simp [laws_heldItemS.l0])
  | succ k1 =>
   have H := HA.out; clear HA; simp only [laws_heldItemS.l0] at H
   by_cases c3 : aa < (l0.length : Int)
   ·rw [if_pos c3] at H; have aN : decide (aa < (l0.length : Int)) = true := decide_eq_true c3; clear c3
    by_cases c4 : 0 ≤ aa
    ·rw [if_pos c4] at H; have a7 : decide (0 ≤ aa) = true := decide_eq_true c4; clear c4; obtain ⟨ay, A5, H⟩ := ob H
     try dsimp only at H
     by_cases c6 : ((rd_T68 l0 aa).f0).toList = ay.toList
     ·rw [if_pos c6] at H; have aO : (((rd_T68 l0 aa).f0).toList == ay.toList) = true := beq_iff_eq.mpr c6; have aQ : (((rd_T68 l0 aa).f0).toList != ay.toList) = false := bne_eq_false_iff_eq.mpr c6; clear c6; obtain ⟨aB, A7, H⟩ := ob H
      try dsimp only at H
      by_cases c8 : ((rd_T68 l0 aa).f1).toList = aB.toList
      ·rw [if_pos c8] at H; have aR : (((rd_T68 l0 aa).f1).toList == aB.toList) = true := beq_iff_eq.mpr c8; have aU : (((rd_T68 l0 aa).f1).toList != aB.toList) = false := bne_eq_false_iff_eq.mpr c8; clear c8
       by_cases c9 : ((rd_T68 l0 aa).f2) = (wrap64 ((wrap64 (al + 1)) + 1))
       ·rw [if_pos c9] at H; have aV : (((rd_T68 l0 aa).f2) == (wrap64 ((wrap64 (al + 1)) + 1))) = true := beq_iff_eq.mpr c9; have aW : (((rd_T68 l0 aa).f2) != (wrap64 ((wrap64 (al + 1)) + 1))) = false := bne_eq_false_iff_eq.mpr c9; clear c9; have H' := Aside0.mk H; clear H
        try go_wp2
        replace HB := eL HB; have ar : 0 ≤ (aa : Int) := od; have au : aa < (l0.length : Int) := od; obtain ⟨ae, aD, ab, ac, ad⟩ := at_T68 aI.out aa ar au; have ai := ad; have aj := ac; have ak := ab; cases aD; replace ab := hc HB ab; replace ac := hc HB ac; replace ad := hc HB ad; replace ar := eq_true ar; replace au := eq_true au; refine start_ (n := 8) (S := fun w' => w'.cell? (ae.add ((aa).toNat * 3)) = some (.string ((rd_T68 l0 aa).f0)) ∧ w'.cell? ⟨(ae.add ((aa).toNat * 3)).block, (ae.add ((aa).toNat * 3)).off + 1, none⟩ = some (.string ((rd_T68 l0 aa).f1)) ∧ w'.cell? ⟨(ae.add ((aa).toNat * 3)).block, (ae.add ((aa).toNat * 3)).off + 2, none⟩ = some (.int .i64 ((rd_T68 l0 aa).f2))) (ds := []) (bv 8 0x0) (by kernel_rfl) rfl rfl ⟨(hc HB ak), (hc HB aj), (hc HB ai)⟩ (fun hHeld => ?_); refine with_tabW laws_heldItemS.tab4 laws_heldItemS.bits4 (fun HT_ HW_ => ?_); (first | ((conv in (World.drew (World.drewN wr _)) => skip); generalize hqw_ : World.drew (World.drewN wr _) = a8 at hHeld ⊢; replace HB := Aside0.mk (Go.Proofs.Ytfjhkediaholmaa.Mo.below_to hqw_ HB.out); replace ab := Go.Proofs.Ytfjhkediaholmaa.Mo.cell_to hqw_ ab; replace ac := Go.Proofs.Ytfjhkediaholmaa.Mo.cell_to hqw_ ac; replace ad := Go.Proofs.Ytfjhkediaholmaa.Mo.cell_to hqw_ ad; clear hqw_) | generalize wr.drew = a8 at HB ab ac ad hHeld ⊢); refine py HT_ 0 12 (bv 8 0x1) ?_; refine py HT_ 1 13 (bv 8 0x3) ?_; refine py HT_ 2 14 (bv 8 0x7) ?_; refine py HT_ 3 15 (bv 8 0xf) ?_; refine py HT_ 5 17 (bv 8 0x2f) ?_; refine tk HT_ HW_ hHeld 4 16 (bv 8 0x3f) ?_; refine one_ (i := 6) (N := some 18) (bv 8 0x7f) rfl rfl (one_of HT_.out (by kernel_rfl)) (by decide) (fun K hK => ?_); refine goes_ Try.func100 (by kernel_rfl) rfl #[.int .i64 al] (by rfl) rfl rfl ml ?_
        with_reducible refine (laws_markText.calls k1 al ay _ A5.out).mono ?_
        rintro e aX ⟨rfl, hb⟩; refine ⟨_, rfl, ?_⟩; replace HB := s0 HB hb; (try clear hb); (try clear aK); (try clear hk); (try clear hi); refine hK.out _ _ ⟨(hc HB ak), (hc HB aj), (hc HB ai)⟩ (fun hHeld => ?_); clear hK K; refine norm_ (a' := ?_) ?_ ?_
        rotate_left
        ·show Act.put _ (some 18) _ = _
         simp only [aP]; rfl
        refine py HT_ 7 19 (bv 8 0xff) ?_; refine done_ (done_of HT_.out (by kernel_rfl)) ?_
        try go_wp2
        replace HB := eL HB; have az : 0 ≤ (aa : Int) := od; have aA : aa < (l0.length : Int) := od; obtain ⟨aC, aG, af, ag, ah⟩ := at_T68 aI.out aa az aA; have an := ah; have ao := ag; have ap := af; obtain rfl : ae = aC := (by injection aG); replace af := hc HB af; replace ag := hc HB ag; replace ah := hc HB ah; replace az := eq_true az; replace aA := eq_true aA; refine start_ (n := 8) (S := fun w' => w'.cell? (ae.add ((aa).toNat * 3)) = some (.string ((rd_T68 l0 aa).f0)) ∧ w'.cell? ⟨(ae.add ((aa).toNat * 3)).block, (ae.add ((aa).toNat * 3)).off + 1, none⟩ = some (.string ((rd_T68 l0 aa).f1)) ∧ w'.cell? ⟨(ae.add ((aa).toNat * 3)).block, (ae.add ((aa).toNat * 3)).off + 2, none⟩ = some (.int .i64 ((rd_T68 l0 aa).f2))) (ds := []) (bv 8 0x0) (by kernel_rfl) rfl rfl ⟨(hc HB ap), (hc HB ao), (hc HB an)⟩ (fun hHeld => ?_); refine with_tabW laws_heldItemS.tab7 laws_heldItemS.bits7 (fun HT_ HW_ => ?_); (first | ((conv in (World.drew (World.drewN aX _)) => skip); generalize hqw_ : World.drew (World.drewN aX _) = a9 at hHeld ⊢; replace HB := Aside0.mk (Go.Proofs.Ytfjhkediaholmaa.Mo.below_to hqw_ HB.out); replace af := Go.Proofs.Ytfjhkediaholmaa.Mo.cell_to hqw_ af; replace ag := Go.Proofs.Ytfjhkediaholmaa.Mo.cell_to hqw_ ag; replace ah := Go.Proofs.Ytfjhkediaholmaa.Mo.cell_to hqw_ ah; clear hqw_) | generalize aX.drew = a9 at HB af ag ah hHeld ⊢); refine py HT_ 0 22 (bv 8 0x1) ?_; refine py HT_ 1 23 (bv 8 0x3) ?_; refine py HT_ 2 24 (bv 8 0x7) ?_; refine py HT_ 3 25 (bv 8 0xf) ?_; refine py HT_ 5 27 (bv 8 0x2f) ?_; refine tk HT_ HW_ hHeld 4 26 (bv 8 0x3f) ?_; refine one_ (i := 6) (N := some 28) (bv 8 0x7f) rfl rfl (one_of HT_.out (by kernel_rfl)) (by decide) (fun K hK => ?_); refine goes_ Try.func100 (by kernel_rfl) rfl #[.int .i64 (wrap64 (al + 1))] (by rfl) rfl rfl ml ?_
        with_reducible refine (laws_markText.calls k1 (wrap64 (al + 1)) aB _ A7.out).mono ?_
        rintro e bi ⟨rfl, hb⟩; refine ⟨_, rfl, ?_⟩; replace HB := s0 HB hb; (try clear hb); (try clear aK); (try clear hk); (try clear hi); refine hK.out _ _ ⟨(hc HB ap), (hc HB ao), (hc HB an)⟩ (fun hHeld => ?_); clear hK K; refine norm_ (a' := ?_) ?_ ?_
        rotate_left
        ·show Act.put _ (some 28) _ = _
         simp only [aP]; rfl
        refine py HT_ 7 29 (bv 8 0xff) ?_; refine done_ (done_of HT_.out (by kernel_rfl)) ?_; have aE : 0 ≤ (aa : Int) := od; have aF : aa < (l0.length : Int) := od; obtain ⟨aH, aJ, av, aw, ax⟩ := at_T68 aI.out aa aE aF; obtain rfl : ae = aH := (by injection aJ); replace av := hc HB av; replace aw := hc HB aw; replace ax := hc HB ax; replace aE := eq_true aE; replace aF := eq_true aF
        try go_wp2
        go_roundg k1
        case measure => have := a4.out; omega
        case rel => exact ⟨(wrap64 ((wrap64 ((wrap64 (al + 1)) + 1)) + 1)), (wrap64 (aa + 1)), rs, rs, H', ⟨by have := a4.out; omega⟩, ⟨be HB⟩⟩
       rw [if_neg c9] at H; have aV : (((rd_T68 l0 aa).f2) == (wrap64 ((wrap64 (al + 1)) + 1))) = false := beq_eq_false_iff_ne.mpr c9; have aW : (((rd_T68 l0 aa).f2) != (wrap64 ((wrap64 (al + 1)) + 1))) = true := bne_iff_ne.mpr c9; obtain rfl := Option.some.inj H
       try go_wp2
       replace HB := eL HB; have ar : 0 ≤ (aa : Int) := od; have au : aa < (l0.length : Int) := od; obtain ⟨ae, aD, ab, ac, ad⟩ := at_T68 aI.out aa ar au; have ai := ad; have aj := ac; have ak := ab; cases aD; replace ab := hc HB ab; replace ac := hc HB ac; replace ad := hc HB ad; replace ar := eq_true ar; replace au := eq_true au; refine start_ (n := 8) (S := fun w' => w'.cell? (ae.add ((aa).toNat * 3)) = some (.string ((rd_T68 l0 aa).f0)) ∧ w'.cell? ⟨(ae.add ((aa).toNat * 3)).block, (ae.add ((aa).toNat * 3)).off + 1, none⟩ = some (.string ((rd_T68 l0 aa).f1)) ∧ w'.cell? ⟨(ae.add ((aa).toNat * 3)).block, (ae.add ((aa).toNat * 3)).off + 2, none⟩ = some (.int .i64 ((rd_T68 l0 aa).f2))) (ds := []) (bv 8 0x0) (by kernel_rfl) rfl rfl ⟨(hc HB ak), (hc HB aj), (hc HB ai)⟩ (fun hHeld => ?_); refine with_tabW laws_heldItemS.tab4 laws_heldItemS.bits4 (fun HT_ HW_ => ?_); (first | ((conv in (World.drew (World.drewN wr _)) => skip); generalize hqw_ : World.drew (World.drewN wr _) = ba at hHeld ⊢; replace HB := Aside0.mk (Go.Proofs.Ytfjhkediaholmaa.Mo.below_to hqw_ HB.out); replace ab := Go.Proofs.Ytfjhkediaholmaa.Mo.cell_to hqw_ ab; replace ac := Go.Proofs.Ytfjhkediaholmaa.Mo.cell_to hqw_ ac; replace ad := Go.Proofs.Ytfjhkediaholmaa.Mo.cell_to hqw_ ad; clear hqw_) | generalize wr.drew = ba at HB ab ac ad hHeld ⊢); refine py HT_ 0 12 (bv 8 0x1) ?_; refine py HT_ 1 13 (bv 8 0x3) ?_; refine py HT_ 2 14 (bv 8 0x7) ?_; refine py HT_ 3 15 (bv 8 0xf) ?_; refine py HT_ 5 17 (bv 8 0x2f) ?_; refine tk HT_ HW_ hHeld 4 16 (bv 8 0x3f) ?_; refine one_ (i := 6) (N := some 18) (bv 8 0x7f) rfl rfl (one_of HT_.out (by kernel_rfl)) (by decide) (fun K hK => ?_); refine goes_ Try.func100 (by kernel_rfl) rfl #[.int .i64 al] (by rfl) rfl rfl ml ?_
       with_reducible refine (laws_markText.calls k1 al ay _ A5.out).mono ?_
       rintro e aY ⟨rfl, hb⟩; refine ⟨_, rfl, ?_⟩; replace HB := s0 HB hb; (try clear hb); (try clear aK); (try clear hk); (try clear hi); refine hK.out _ _ ⟨(hc HB ak), (hc HB aj), (hc HB ai)⟩ (fun hHeld => ?_); clear hK K; refine norm_ (a' := ?_) ?_ ?_
       rotate_left
       ·show Act.put _ (some 18) _ = _
        simp only [aP]; rfl
       refine py HT_ 7 19 (bv 8 0xff) ?_; refine done_ (done_of HT_.out (by kernel_rfl)) ?_
       try go_wp2
       replace HB := eL HB; have az : 0 ≤ (aa : Int) := od; have aA : aa < (l0.length : Int) := od; obtain ⟨aC, aG, af, ag, ah⟩ := at_T68 aI.out aa az aA; have an := ah; have ao := ag; have ap := af; obtain rfl : ae = aC := (by injection aG); replace af := hc HB af; replace ag := hc HB ag; replace ah := hc HB ah; replace az := eq_true az; replace aA := eq_true aA; refine start_ (n := 8) (S := fun w' => w'.cell? (ae.add ((aa).toNat * 3)) = some (.string ((rd_T68 l0 aa).f0)) ∧ w'.cell? ⟨(ae.add ((aa).toNat * 3)).block, (ae.add ((aa).toNat * 3)).off + 1, none⟩ = some (.string ((rd_T68 l0 aa).f1)) ∧ w'.cell? ⟨(ae.add ((aa).toNat * 3)).block, (ae.add ((aa).toNat * 3)).off + 2, none⟩ = some (.int .i64 ((rd_T68 l0 aa).f2))) (ds := []) (bv 8 0x0) (by kernel_rfl) rfl rfl ⟨(hc HB ap), (hc HB ao), (hc HB an)⟩ (fun hHeld => ?_); refine with_tabW laws_heldItemS.tab7 laws_heldItemS.bits7 (fun HT_ HW_ => ?_); (first | ((conv in (World.drew (World.drewN aY _)) => skip); generalize hqw_ : World.drew (World.drewN aY _) = bc at hHeld ⊢; replace HB := Aside0.mk (Go.Proofs.Ytfjhkediaholmaa.Mo.below_to hqw_ HB.out); replace af := Go.Proofs.Ytfjhkediaholmaa.Mo.cell_to hqw_ af; replace ag := Go.Proofs.Ytfjhkediaholmaa.Mo.cell_to hqw_ ag; replace ah := Go.Proofs.Ytfjhkediaholmaa.Mo.cell_to hqw_ ah; clear hqw_) | generalize aY.drew = bc at HB af ag ah hHeld ⊢); refine py HT_ 0 22 (bv 8 0x1) ?_; refine py HT_ 1 23 (bv 8 0x3) ?_; refine py HT_ 2 24 (bv 8 0x7) ?_; refine py HT_ 3 25 (bv 8 0xf) ?_; refine py HT_ 5 27 (bv 8 0x2f) ?_; refine tk HT_ HW_ hHeld 4 26 (bv 8 0x3f) ?_; refine one_ (i := 6) (N := some 28) (bv 8 0x7f) rfl rfl (one_of HT_.out (by kernel_rfl)) (by decide) (fun K hK => ?_); refine goes_ Try.func100 (by kernel_rfl) rfl #[.int .i64 (wrap64 (al + 1))] (by rfl) rfl rfl ml ?_
       with_reducible refine (laws_markText.calls k1 (wrap64 (al + 1)) aB _ A7.out).mono ?_
       rintro e bj ⟨rfl, hb⟩; refine ⟨_, rfl, ?_⟩; replace HB := s0 HB hb; (try clear hb); (try clear aK); (try clear hk); (try clear hi); refine hK.out _ _ ⟨(hc HB ap), (hc HB ao), (hc HB an)⟩ (fun hHeld => ?_); clear hK K; refine norm_ (a' := ?_) ?_ ?_
       rotate_left
       ·show Act.put _ (some 28) _ = _
        simp only [aP]; rfl
       refine py HT_ 7 29 (bv 8 0xff) ?_; refine done_ (done_of HT_.out (by kernel_rfl)) ?_; have aE : 0 ≤ (aa : Int) := od; have aF : aa < (l0.length : Int) := od; obtain ⟨aH, aJ, av, aw, ax⟩ := at_T68 aI.out aa aE aF; obtain rfl : ae = aH := (by injection aJ); replace av := hc HB av; replace aw := hc HB aw; replace ax := hc HB ax; replace aE := eq_true aE; replace aF := eq_true aF
       try go_wp2
       go_ret
       exact ⟨er, be HB⟩
      rw [if_neg c8] at H; have aR : (((rd_T68 l0 aa).f1).toList == aB.toList) = false := beq_eq_false_iff_ne.mpr c8; have aU : (((rd_T68 l0 aa).f1).toList != aB.toList) = true := bne_iff_ne.mpr c8; obtain rfl := Option.some.inj H
      try go_wp2
      replace HB := eL HB; have ar : 0 ≤ (aa : Int) := od; have au : aa < (l0.length : Int) := od; obtain ⟨ae, aD, ab, ac, ad⟩ := at_T68 aI.out aa ar au; have ai := ad; have aj := ac; have ak := ab; cases aD; replace ab := hc HB ab; replace ac := hc HB ac; replace ad := hc HB ad; replace ar := eq_true ar; replace au := eq_true au; refine start_ (n := 8) (S := fun w' => w'.cell? (ae.add ((aa).toNat * 3)) = some (.string ((rd_T68 l0 aa).f0)) ∧ w'.cell? ⟨(ae.add ((aa).toNat * 3)).block, (ae.add ((aa).toNat * 3)).off + 1, none⟩ = some (.string ((rd_T68 l0 aa).f1)) ∧ w'.cell? ⟨(ae.add ((aa).toNat * 3)).block, (ae.add ((aa).toNat * 3)).off + 2, none⟩ = some (.int .i64 ((rd_T68 l0 aa).f2))) (ds := []) (bv 8 0x0) (by kernel_rfl) rfl rfl ⟨(hc HB ak), (hc HB aj), (hc HB ai)⟩ (fun hHeld => ?_); refine with_tabW laws_heldItemS.tab4 laws_heldItemS.bits4 (fun HT_ HW_ => ?_); (first | ((conv in (World.drew (World.drewN wr _)) => skip); generalize hqw_ : World.drew (World.drewN wr _) = bd at hHeld ⊢; replace HB := Aside0.mk (Go.Proofs.Ytfjhkediaholmaa.Mo.below_to hqw_ HB.out); replace ab := Go.Proofs.Ytfjhkediaholmaa.Mo.cell_to hqw_ ab; replace ac := Go.Proofs.Ytfjhkediaholmaa.Mo.cell_to hqw_ ac; replace ad := Go.Proofs.Ytfjhkediaholmaa.Mo.cell_to hqw_ ad; clear hqw_) | generalize wr.drew = bd at HB ab ac ad hHeld ⊢); refine py HT_ 0 12 (bv 8 0x1) ?_; refine py HT_ 1 13 (bv 8 0x3) ?_; refine py HT_ 2 14 (bv 8 0x7) ?_; refine py HT_ 3 15 (bv 8 0xf) ?_; refine py HT_ 5 17 (bv 8 0x2f) ?_; refine tk HT_ HW_ hHeld 4 16 (bv 8 0x3f) ?_; refine one_ (i := 6) (N := some 18) (bv 8 0x7f) rfl rfl (one_of HT_.out (by kernel_rfl)) (by decide) (fun K hK => ?_); refine goes_ Try.func100 (by kernel_rfl) rfl #[.int .i64 al] (by rfl) rfl rfl ml ?_
      with_reducible refine (laws_markText.calls k1 al ay _ A5.out).mono ?_
      rintro e aZ ⟨rfl, hb⟩; refine ⟨_, rfl, ?_⟩; replace HB := s0 HB hb; (try clear hb); (try clear aK); (try clear hk); (try clear hi); refine hK.out _ _ ⟨(hc HB ak), (hc HB aj), (hc HB ai)⟩ (fun hHeld => ?_); clear hK K; refine norm_ (a' := ?_) ?_ ?_
      rotate_left
      ·show Act.put _ (some 18) _ = _
       simp only [aP]; rfl
      refine py HT_ 7 19 (bv 8 0xff) ?_; refine done_ (done_of HT_.out (by kernel_rfl)) ?_
      try go_wp2
      replace HB := eL HB; have az : 0 ≤ (aa : Int) := od; have aA : aa < (l0.length : Int) := od; obtain ⟨aC, aG, af, ag, ah⟩ := at_T68 aI.out aa az aA; have an := ah; have ao := ag; have ap := af; obtain rfl : ae = aC := (by injection aG); replace af := hc HB af; replace ag := hc HB ag; replace ah := hc HB ah; replace az := eq_true az; replace aA := eq_true aA; refine start_ (n := 8) (S := fun w' => w'.cell? (ae.add ((aa).toNat * 3)) = some (.string ((rd_T68 l0 aa).f0)) ∧ w'.cell? ⟨(ae.add ((aa).toNat * 3)).block, (ae.add ((aa).toNat * 3)).off + 1, none⟩ = some (.string ((rd_T68 l0 aa).f1)) ∧ w'.cell? ⟨(ae.add ((aa).toNat * 3)).block, (ae.add ((aa).toNat * 3)).off + 2, none⟩ = some (.int .i64 ((rd_T68 l0 aa).f2))) (ds := []) (bv 8 0x0) (by kernel_rfl) rfl rfl ⟨(hc HB ap), (hc HB ao), (hc HB an)⟩ (fun hHeld => ?_); refine with_tabW laws_heldItemS.tab7 laws_heldItemS.bits7 (fun HT_ HW_ => ?_); (first | ((conv in (World.drew (World.drewN aZ _)) => skip); generalize hqw_ : World.drew (World.drewN aZ _) = bf at hHeld ⊢; replace HB := Aside0.mk (Go.Proofs.Ytfjhkediaholmaa.Mo.below_to hqw_ HB.out); replace af := Go.Proofs.Ytfjhkediaholmaa.Mo.cell_to hqw_ af; replace ag := Go.Proofs.Ytfjhkediaholmaa.Mo.cell_to hqw_ ag; replace ah := Go.Proofs.Ytfjhkediaholmaa.Mo.cell_to hqw_ ah; clear hqw_) | generalize aZ.drew = bf at HB af ag ah hHeld ⊢); refine py HT_ 0 22 (bv 8 0x1) ?_; refine py HT_ 1 23 (bv 8 0x3) ?_; refine py HT_ 2 24 (bv 8 0x7) ?_; refine py HT_ 3 25 (bv 8 0xf) ?_; refine py HT_ 5 27 (bv 8 0x2f) ?_; refine tk HT_ HW_ hHeld 4 26 (bv 8 0x3f) ?_; refine one_ (i := 6) (N := some 28) (bv 8 0x7f) rfl rfl (one_of HT_.out (by kernel_rfl)) (by decide) (fun K hK => ?_); refine goes_ Try.func100 (by kernel_rfl) rfl #[.int .i64 (wrap64 (al + 1))] (by rfl) rfl rfl ml ?_
      with_reducible refine (laws_markText.calls k1 (wrap64 (al + 1)) aB _ A7.out).mono ?_
      rintro e bm ⟨rfl, hb⟩; refine ⟨_, rfl, ?_⟩; replace HB := s0 HB hb; (try clear hb); (try clear aK); (try clear hk); (try clear hi); refine hK.out _ _ ⟨(hc HB ap), (hc HB ao), (hc HB an)⟩ (fun hHeld => ?_); clear hK K; refine norm_ (a' := ?_) ?_ ?_
      rotate_left
      ·show Act.put _ (some 28) _ = _
       simp only [aP]; rfl
      refine py HT_ 7 29 (bv 8 0xff) ?_; refine done_ (done_of HT_.out (by kernel_rfl)) ?_
      try go_wp2
      go_ret
      exact ⟨er, be HB⟩
     rw [if_neg c6] at H; have aO : (((rd_T68 l0 aa).f0).toList == ay.toList) = false := beq_eq_false_iff_ne.mpr c6; have aQ : (((rd_T68 l0 aa).f0).toList != ay.toList) = true := bne_iff_ne.mpr c6; obtain rfl := Option.some.inj H
     try go_wp2
     replace HB := eL HB; have ar : 0 ≤ (aa : Int) := od; have au : aa < (l0.length : Int) := od; obtain ⟨ae, aD, ab, ac, ad⟩ := at_T68 aI.out aa ar au; have ai := ad; have aj := ac; have ak := ab; cases aD; replace ab := hc HB ab; replace ac := hc HB ac; replace ad := hc HB ad; replace ar := eq_true ar; replace au := eq_true au; refine start_ (n := 8) (S := fun w' => w'.cell? (ae.add ((aa).toNat * 3)) = some (.string ((rd_T68 l0 aa).f0)) ∧ w'.cell? ⟨(ae.add ((aa).toNat * 3)).block, (ae.add ((aa).toNat * 3)).off + 1, none⟩ = some (.string ((rd_T68 l0 aa).f1)) ∧ w'.cell? ⟨(ae.add ((aa).toNat * 3)).block, (ae.add ((aa).toNat * 3)).off + 2, none⟩ = some (.int .i64 ((rd_T68 l0 aa).f2))) (ds := []) (bv 8 0x0) (by kernel_rfl) rfl rfl ⟨(hc HB ak), (hc HB aj), (hc HB ai)⟩ (fun hHeld => ?_); refine with_tabW laws_heldItemS.tab4 laws_heldItemS.bits4 (fun HT_ HW_ => ?_); (first | ((conv in (World.drew (World.drewN wr _)) => skip); generalize hqw_ : World.drew (World.drewN wr _) = bg at hHeld ⊢; replace HB := Aside0.mk (Go.Proofs.Ytfjhkediaholmaa.Mo.below_to hqw_ HB.out); replace ab := Go.Proofs.Ytfjhkediaholmaa.Mo.cell_to hqw_ ab; replace ac := Go.Proofs.Ytfjhkediaholmaa.Mo.cell_to hqw_ ac; replace ad := Go.Proofs.Ytfjhkediaholmaa.Mo.cell_to hqw_ ad; clear hqw_) | generalize wr.drew = bg at HB ab ac ad hHeld ⊢); refine py HT_ 0 12 (bv 8 0x1) ?_; refine py HT_ 1 13 (bv 8 0x3) ?_; refine py HT_ 2 14 (bv 8 0x7) ?_; refine py HT_ 3 15 (bv 8 0xf) ?_; refine py HT_ 5 17 (bv 8 0x2f) ?_; refine tk HT_ HW_ hHeld 4 16 (bv 8 0x3f) ?_; refine one_ (i := 6) (N := some 18) (bv 8 0x7f) rfl rfl (one_of HT_.out (by kernel_rfl)) (by decide) (fun K hK => ?_); refine goes_ Try.func100 (by kernel_rfl) rfl #[.int .i64 al] (by rfl) rfl rfl ml ?_
     with_reducible refine (laws_markText.calls k1 al ay _ A5.out).mono ?_
     rintro e bn ⟨rfl, hb⟩; refine ⟨_, rfl, ?_⟩; replace HB := s0 HB hb; (try clear hb); (try clear aK); (try clear hk); (try clear hi); refine hK.out _ _ ⟨(hc HB ak), (hc HB aj), (hc HB ai)⟩ (fun hHeld => ?_); clear hK K; refine norm_ (a' := ?_) ?_ ?_
     rotate_left
     ·show Act.put _ (some 18) _ = _
      simp only [aP]; rfl
     refine py HT_ 7 19 (bv 8 0xff) ?_; refine done_ (done_of HT_.out (by kernel_rfl)) ?_
     try go_wp2
     go_ret
     exact ⟨er, be HB⟩
    rw [if_neg c4] at H; exact absurd H (by simp)
   rw [if_neg c3] at H; have aN : decide (aa < (l0.length : Int)) = false := decide_eq_false c3; clear c3; obtain rfl := Option.some.inj H
   go_wp2
   go_ret
   exact ⟨er, be HB⟩

end Go.Proofs.Ytfjhkediaholmaa.QFnExactPut
