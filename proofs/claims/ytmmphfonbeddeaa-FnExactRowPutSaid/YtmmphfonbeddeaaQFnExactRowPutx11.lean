-- made by a program of this session (myprint.py)
import Derived.Test.YtmmphfonbeddeaaQFnExactRowPutx0
import Derived.Test.YtmmphfonbeddeaaQFnExactRowPutx9
namespace Go.Proofs.Ytmmphfonbeddeaa.QFnExactRowPut
open Go.RowKit Go.Proofs.YtmmphfonbeddeaaW.PrintWords Go.Proofs.YtmmphfonbeddeaaW.PrintLast Go.Proofs.YtmmphfonbeddeaaW.PrintMore
attribute [local go_sem] max2_int min2_int max_two min_two max_three min_three max_four min_four   -- for this text's walks alone
set_option linter.unusedVariables false
set_option linter.unusedSimpArgs false

/-! ### laws_heldItemS: function 29 -/
def laws_heldItemS.l0 : Nat → List (S42) → Int → Int → Option (Int)
 | 0, _, _, _ => none
 | k + 1, x0, x1, x5 => if x5 < (x0.length : Int) then (if 0 ≤ x5 then ((laws_markText.f k x1).bind fun ay => (if ((rd_T42 x0 x5).f0).toList = ay.toList then ((laws_markText.f k (wrap64 (x1 + 1))).bind fun aB => (if ((rd_T42 x0 x5).f1).toList = aB.toList then (if ((rd_T42 x0 x5).f2) = (wrap64 ((wrap64 (x1 + 1)) + 1)) then (laws_heldItemS.l0 k x0 (wrap64 ((wrap64 ((wrap64 (x1 + 1)) + 1)) + 1)) (wrap64 (x5 + 1))) else (some (-1))) else (some (-1)))) else (some (-1)))) else (none)) else (some x1)
def laws_heldItemS.f (k : Nat) (l0 : List (S42)) (a1 : Int) : Option (Int) := laws_heldItemS.l0 k l0 a1 0
theorem laws_heldItemS.mono_l : ∀ k, (∀ y0 y1 y2, LeO (laws_heldItemS.l0 k y0 y1 y2) (laws_heldItemS.l0 (k + 1) y0 y1 y2))
 | 0 => fun _ _ _ r h => by simp [laws_heldItemS.l0] at h
 | k + 1 => by
  have aL := laws_heldItemS.mono_l k
  ·intro y0 y1 y2; unfold laws_heldItemS.l0
   repeat' first | (with_reducible first | apply aL | apply laws_markText.mono | apply lr | apply ln | apply li | refine lb ?_ fun _ => ?_) | apply aL | apply ln | apply li | refine lb ?_ fun _ => ?_
theorem laws_heldItemS.mono : ∀ a0 a1 k, LeO (laws_heldItemS.f k a0 a1) (laws_heldItemS.f (k + 1) a0 a1) := by
 intro a0 a1 k; have aL := laws_heldItemS.mono_l k; unfold laws_heldItemS.f
 repeat' first | (with_reducible first | apply aL | apply laws_markText.mono | apply lr | apply ln | apply li | refine lb ?_ fun _ => ?_) | apply aL | apply ln | apply li | refine lb ?_ fun _ => ?_
def laws_heldItemS.T4 : Bool × List (List Nat × List Nat) := (true, [([], []), ([], []), ([0, 1], [0, 1]), ([2], [2]), ([3], [3]), ([], []), ([5], [5]), ([4, 6], [4, 6])])
def laws_heldItemS.B4 : List Nat := [0, 0, 3, 7, 15, 0, 32, 127]
theorem laws_heldItemS.tab4 : rtab .any (opsOf Try.f29 4) = laws_heldItemS.T4 := by kernel_rfl
theorem laws_heldItemS.bits4 : waitsOk laws_heldItemS.T4.2 laws_heldItemS.B4 = true := by kernel_rfl
def laws_heldItemS.T7 : Bool × List (List Nat × List Nat) := (true, [([], []), ([], []), ([0, 1], [0, 1]), ([2], [2]), ([3], [3]), ([], []), ([5], [5]), ([4, 6], [4, 6])])
def laws_heldItemS.B7 : List Nat := [0, 0, 3, 7, 15, 0, 32, 127]
theorem laws_heldItemS.tab7 : rtab .any (opsOf Try.f29 7) = laws_heldItemS.T7 := by kernel_rfl
theorem laws_heldItemS.bits7 : waitsOk laws_heldItemS.T7.2 laws_heldItemS.B7 = true := by kernel_rfl
set_option maxHeartbeats 8000000 in
set_option maxRecDepth 100000 in
theorem laws_heldItemS.calls (k : Nat) (A0 : Option Addr) (c0 : Nat) (l0 : List (S42)) (a1 : Int) (r : Int) (w : World) (a2 : Kd.C k42 w A0 l0.length l0) (a3 : l0.length ≤ c0) (h : laws_heldItemS.f k l0 a1 = some r) :
  Calls Try.prog 29 #[.slice A0 l0.length c0, .int .i64 a1] w fun e w' => e = .returned (.int .i64 r) ∧ Below w.heap.size w w' := by
 have aI := Aside0.mk a2; have bh := Aside0.mk a3; clear a2 a3; have HB := Aside0.mk (Below.refl w.heap.size w); have H : (laws_heldItemS.l0 k l0 a1 0) = some r := h; clear h; have H' := Aside0.mk H; clear H
 go_enter Try.func29, Try.ntmps29
 go_wp2
 go_loopg [1, 5] k (fun kq v1 v5 w' => ∃ (al : Int) (aa : Int), v1 = .int .i64 al ∧ v5 = .int .i64 aa ∧ Aside0 (laws_heldItemS.l0 kq l0 al aa = some r) ∧ Aside0 (kq ≤ k) ∧ Aside0 (Below w.heap.size w w'))
 case atStart => exact ⟨(a1), (0), rs, rs, H', ⟨Nat.le_refl _⟩, ⟨be HB⟩⟩
 case round =>
  clear H'
  try clear c2; try clear p2
  obtain ⟨al, aa, rfl, rfl, HA, a4, HB⟩ := hrel
  cases gk with
  | zero => exact absurd HA.out (by simp [laws_heldItemS.l0])
  | succ k1 =>
   have H := HA.out; clear HA; simp only [laws_heldItemS.l0] at H
   by_cases c3 : aa < (l0.length : Int)
   ·rw [if_pos c3] at H; have aN : decide (aa < (l0.length : Int)) = true := decide_eq_true c3; clear c3
    by_cases c4 : 0 ≤ aa
    ·rw [if_pos c4] at H; have a7 : decide (0 ≤ aa) = true := decide_eq_true c4; clear c4; obtain ⟨ay, A5, H⟩ := ob H
     try dsimp only at H
     by_cases c6 : ((rd_T42 l0 aa).f0).toList = ay.toList
     ·rw [if_pos c6] at H; have aO : (((rd_T42 l0 aa).f0).toList == ay.toList) = true := beq_iff_eq.mpr c6; have aQ : (((rd_T42 l0 aa).f0).toList != ay.toList) = false := bne_eq_false_iff_eq.mpr c6; clear c6; obtain ⟨aB, A7, H⟩ := ob H
      try dsimp only at H
      by_cases c8 : ((rd_T42 l0 aa).f1).toList = aB.toList
      ·rw [if_pos c8] at H; have aR : (((rd_T42 l0 aa).f1).toList == aB.toList) = true := beq_iff_eq.mpr c8; have aU : (((rd_T42 l0 aa).f1).toList != aB.toList) = false := bne_eq_false_iff_eq.mpr c8; clear c8
       by_cases c9 : ((rd_T42 l0 aa).f2) = (wrap64 ((wrap64 (al + 1)) + 1))
       ·rw [if_pos c9] at H; have aV : (((rd_T42 l0 aa).f2) == (wrap64 ((wrap64 (al + 1)) + 1))) = true := beq_iff_eq.mpr c9; have aW : (((rd_T42 l0 aa).f2) != (wrap64 ((wrap64 (al + 1)) + 1))) = false := bne_eq_false_iff_eq.mpr c9; clear c9; have H' := Aside0.mk H; clear H
        try go_wp2
        replace HB := eL HB; have ar : 0 ≤ (aa : Int) := od; have au : aa < (l0.length : Int) := od; obtain ⟨ae, aD, ab, ac, ad⟩ := at_T42 aI.out aa ar au; have ai := ad; have aj := ac; have ak := ab; cases aD; replace ab := hc HB ab; replace ac := hc HB ac; replace ad := hc HB ad; replace ar := eq_true ar; replace au := eq_true au; refine start_ (n := 8) (S := fun w' => w'.cell? (ae.add ((aa).toNat * 3)) = some (.string ((rd_T42 l0 aa).f0)) ∧ w'.cell? ⟨(ae.add ((aa).toNat * 3)).block, (ae.add ((aa).toNat * 3)).off + 1, none⟩ = some (.string ((rd_T42 l0 aa).f1)) ∧ w'.cell? ⟨(ae.add ((aa).toNat * 3)).block, (ae.add ((aa).toNat * 3)).off + 2, none⟩ = some (.int .i64 ((rd_T42 l0 aa).f2))) (ds := []) (bv 8 0x0) (by kernel_rfl) rfl rfl ⟨(hc HB ak), (hc HB aj), (hc HB ai)⟩ (fun hHeld => ?_); refine with_tabW laws_heldItemS.tab4 laws_heldItemS.bits4 (fun HT_ HW_ => ?_); (first | ((conv in (World.drew (World.drewN wr _)) => skip); generalize hqw_ : World.drew (World.drewN wr _) = a8 at hHeld ⊢; replace HB := Aside0.mk (Go.Proofs.Ytmmphfonbeddeaa.Mo.below_to hqw_ HB.out); replace ab := Go.Proofs.Ytmmphfonbeddeaa.Mo.cell_to hqw_ ab; replace ac := Go.Proofs.Ytmmphfonbeddeaa.Mo.cell_to hqw_ ac; replace ad := Go.Proofs.Ytmmphfonbeddeaa.Mo.cell_to hqw_ ad; clear hqw_) | generalize wr.drew = a8 at HB ab ac ad hHeld ⊢); refine py HT_ 0 12 (bv 8 0x1) ?_; refine py HT_ 1 13 (bv 8 0x3) ?_; refine py HT_ 2 14 (bv 8 0x7) ?_; refine py HT_ 3 15 (bv 8 0xf) ?_; refine py HT_ 5 17 (bv 8 0x2f) ?_; refine tk HT_ HW_ hHeld 4 16 (bv 8 0x3f) ?_; refine oh HT_ 6 (some 18) (bv 8 0x7f) fun K hK => ?_; refine gz Try.func28 #[.int .i64 al] ?_
        with_reducible refine (laws_markText.calls k1 al ay _ A5.out).mono ?_
        rintro e aX ⟨rfl, hb⟩; refine ⟨_, rfl, ?_⟩; replace HB := s0 HB hb; (try clear hb); (try clear aK); (try clear hk); (try clear hi); refine hK.out _ _ ⟨(hc HB ak), (hc HB aj), (hc HB ai)⟩ (fun hHeld => ?_); clear hK K; refine nx ?_
        refine py HT_ 7 19 (bv 8 0xff) ?_; refine dh HT_ ?_
        try go_wp2
        replace HB := eL HB; have az : 0 ≤ (aa : Int) := od; have aA : aa < (l0.length : Int) := od; obtain ⟨aC, aG, af, ag, ah⟩ := at_T42 aI.out aa az aA; have an := ah; have ao := ag; have ap := af; obtain rfl : ae = aC := (by injection aG); replace af := hc HB af; replace ag := hc HB ag; replace ah := hc HB ah; replace az := eq_true az; replace aA := eq_true aA; refine start_ (n := 8) (S := fun w' => w'.cell? (ae.add ((aa).toNat * 3)) = some (.string ((rd_T42 l0 aa).f0)) ∧ w'.cell? ⟨(ae.add ((aa).toNat * 3)).block, (ae.add ((aa).toNat * 3)).off + 1, none⟩ = some (.string ((rd_T42 l0 aa).f1)) ∧ w'.cell? ⟨(ae.add ((aa).toNat * 3)).block, (ae.add ((aa).toNat * 3)).off + 2, none⟩ = some (.int .i64 ((rd_T42 l0 aa).f2))) (ds := []) (bv 8 0x0) (by kernel_rfl) rfl rfl ⟨(hc HB ap), (hc HB ao), (hc HB an)⟩ (fun hHeld => ?_); refine with_tabW laws_heldItemS.tab7 laws_heldItemS.bits7 (fun HT_ HW_ => ?_); (first | ((conv in (World.drew (World.drewN aX _)) => skip); generalize hqw_ : World.drew (World.drewN aX _) = a9 at hHeld ⊢; replace HB := Aside0.mk (Go.Proofs.Ytmmphfonbeddeaa.Mo.below_to hqw_ HB.out); replace af := Go.Proofs.Ytmmphfonbeddeaa.Mo.cell_to hqw_ af; replace ag := Go.Proofs.Ytmmphfonbeddeaa.Mo.cell_to hqw_ ag; replace ah := Go.Proofs.Ytmmphfonbeddeaa.Mo.cell_to hqw_ ah; clear hqw_) | generalize aX.drew = a9 at HB af ag ah hHeld ⊢); refine py HT_ 0 22 (bv 8 0x1) ?_; refine py HT_ 1 23 (bv 8 0x3) ?_; refine py HT_ 2 24 (bv 8 0x7) ?_; refine py HT_ 3 25 (bv 8 0xf) ?_; refine py HT_ 5 27 (bv 8 0x2f) ?_; refine tk HT_ HW_ hHeld 4 26 (bv 8 0x3f) ?_; refine oh HT_ 6 (some 28) (bv 8 0x7f) fun K hK => ?_; refine gz Try.func28 #[.int .i64 (wrap64 (al + 1))] ?_
        with_reducible refine (laws_markText.calls k1 (wrap64 (al + 1)) aB _ A7.out).mono ?_
        rintro e bi ⟨rfl, hb⟩; refine ⟨_, rfl, ?_⟩; replace HB := s0 HB hb; (try clear hb); (try clear aK); (try clear hk); (try clear hi); refine hK.out _ _ ⟨(hc HB ap), (hc HB ao), (hc HB an)⟩ (fun hHeld => ?_); clear hK K; refine nx ?_
        refine py HT_ 7 29 (bv 8 0xff) ?_; refine dh HT_ ?_; have aE : 0 ≤ (aa : Int) := od; have aF : aa < (l0.length : Int) := od; obtain ⟨aH, aJ, av, aw, ax⟩ := at_T42 aI.out aa aE aF; obtain rfl : ae = aH := (by injection aJ); replace av := hc HB av; replace aw := hc HB aw; replace ax := hc HB ax; replace aE := eq_true aE; replace aF := eq_true aF
        try go_wp2
        go_roundg k1
        case measure => have := a4.out; omega
        case rel => exact ⟨(wrap64 ((wrap64 ((wrap64 (al + 1)) + 1)) + 1)), (wrap64 (aa + 1)), rs, rs, H', ⟨by have := a4.out; omega⟩, ⟨be HB⟩⟩
       rw [if_neg c9] at H; have aV : (((rd_T42 l0 aa).f2) == (wrap64 ((wrap64 (al + 1)) + 1))) = false := beq_eq_false_iff_ne.mpr c9; have aW : (((rd_T42 l0 aa).f2) != (wrap64 ((wrap64 (al + 1)) + 1))) = true := bne_iff_ne.mpr c9; obtain rfl := Option.some.inj H
       try go_wp2
       replace HB := eL HB; have ar : 0 ≤ (aa : Int) := od; have au : aa < (l0.length : Int) := od; obtain ⟨ae, aD, ab, ac, ad⟩ := at_T42 aI.out aa ar au; have ai := ad; have aj := ac; have ak := ab; cases aD; replace ab := hc HB ab; replace ac := hc HB ac; replace ad := hc HB ad; replace ar := eq_true ar; replace au := eq_true au; refine start_ (n := 8) (S := fun w' => w'.cell? (ae.add ((aa).toNat * 3)) = some (.string ((rd_T42 l0 aa).f0)) ∧ w'.cell? ⟨(ae.add ((aa).toNat * 3)).block, (ae.add ((aa).toNat * 3)).off + 1, none⟩ = some (.string ((rd_T42 l0 aa).f1)) ∧ w'.cell? ⟨(ae.add ((aa).toNat * 3)).block, (ae.add ((aa).toNat * 3)).off + 2, none⟩ = some (.int .i64 ((rd_T42 l0 aa).f2))) (ds := []) (bv 8 0x0) (by kernel_rfl) rfl rfl ⟨(hc HB ak), (hc HB aj), (hc HB ai)⟩ (fun hHeld => ?_); refine with_tabW laws_heldItemS.tab4 laws_heldItemS.bits4 (fun HT_ HW_ => ?_); (first | ((conv in (World.drew (World.drewN wr _)) => skip); generalize hqw_ : World.drew (World.drewN wr _) = ba at hHeld ⊢; replace HB := Aside0.mk (Go.Proofs.Ytmmphfonbeddeaa.Mo.below_to hqw_ HB.out); replace ab := Go.Proofs.Ytmmphfonbeddeaa.Mo.cell_to hqw_ ab; replace ac := Go.Proofs.Ytmmphfonbeddeaa.Mo.cell_to hqw_ ac; replace ad := Go.Proofs.Ytmmphfonbeddeaa.Mo.cell_to hqw_ ad; clear hqw_) | generalize wr.drew = ba at HB ab ac ad hHeld ⊢); refine py HT_ 0 12 (bv 8 0x1) ?_; refine py HT_ 1 13 (bv 8 0x3) ?_; refine py HT_ 2 14 (bv 8 0x7) ?_; refine py HT_ 3 15 (bv 8 0xf) ?_; refine py HT_ 5 17 (bv 8 0x2f) ?_; refine tk HT_ HW_ hHeld 4 16 (bv 8 0x3f) ?_; refine oh HT_ 6 (some 18) (bv 8 0x7f) fun K hK => ?_; refine gz Try.func28 #[.int .i64 al] ?_
       with_reducible refine (laws_markText.calls k1 al ay _ A5.out).mono ?_
       rintro e aY ⟨rfl, hb⟩; refine ⟨_, rfl, ?_⟩; replace HB := s0 HB hb; (try clear hb); (try clear aK); (try clear hk); (try clear hi); refine hK.out _ _ ⟨(hc HB ak), (hc HB aj), (hc HB ai)⟩ (fun hHeld => ?_); clear hK K; refine nx ?_
       refine py HT_ 7 19 (bv 8 0xff) ?_; refine dh HT_ ?_
       try go_wp2
       replace HB := eL HB; have az : 0 ≤ (aa : Int) := od; have aA : aa < (l0.length : Int) := od; obtain ⟨aC, aG, af, ag, ah⟩ := at_T42 aI.out aa az aA; have an := ah; have ao := ag; have ap := af; obtain rfl : ae = aC := (by injection aG); replace af := hc HB af; replace ag := hc HB ag; replace ah := hc HB ah; replace az := eq_true az; replace aA := eq_true aA; refine start_ (n := 8) (S := fun w' => w'.cell? (ae.add ((aa).toNat * 3)) = some (.string ((rd_T42 l0 aa).f0)) ∧ w'.cell? ⟨(ae.add ((aa).toNat * 3)).block, (ae.add ((aa).toNat * 3)).off + 1, none⟩ = some (.string ((rd_T42 l0 aa).f1)) ∧ w'.cell? ⟨(ae.add ((aa).toNat * 3)).block, (ae.add ((aa).toNat * 3)).off + 2, none⟩ = some (.int .i64 ((rd_T42 l0 aa).f2))) (ds := []) (bv 8 0x0) (by kernel_rfl) rfl rfl ⟨(hc HB ap), (hc HB ao), (hc HB an)⟩ (fun hHeld => ?_); refine with_tabW laws_heldItemS.tab7 laws_heldItemS.bits7 (fun HT_ HW_ => ?_); (first | ((conv in (World.drew (World.drewN aY _)) => skip); generalize hqw_ : World.drew (World.drewN aY _) = bc at hHeld ⊢; replace HB := Aside0.mk (Go.Proofs.Ytmmphfonbeddeaa.Mo.below_to hqw_ HB.out); replace af := Go.Proofs.Ytmmphfonbeddeaa.Mo.cell_to hqw_ af; replace ag := Go.Proofs.Ytmmphfonbeddeaa.Mo.cell_to hqw_ ag; replace ah := Go.Proofs.Ytmmphfonbeddeaa.Mo.cell_to hqw_ ah; clear hqw_) | generalize aY.drew = bc at HB af ag ah hHeld ⊢); refine py HT_ 0 22 (bv 8 0x1) ?_; refine py HT_ 1 23 (bv 8 0x3) ?_; refine py HT_ 2 24 (bv 8 0x7) ?_; refine py HT_ 3 25 (bv 8 0xf) ?_; refine py HT_ 5 27 (bv 8 0x2f) ?_; refine tk HT_ HW_ hHeld 4 26 (bv 8 0x3f) ?_; refine oh HT_ 6 (some 28) (bv 8 0x7f) fun K hK => ?_; refine gz Try.func28 #[.int .i64 (wrap64 (al + 1))] ?_
       with_reducible refine (laws_markText.calls k1 (wrap64 (al + 1)) aB _ A7.out).mono ?_
       rintro e bj ⟨rfl, hb⟩; refine ⟨_, rfl, ?_⟩; replace HB := s0 HB hb; (try clear hb); (try clear aK); (try clear hk); (try clear hi); refine hK.out _ _ ⟨(hc HB ap), (hc HB ao), (hc HB an)⟩ (fun hHeld => ?_); clear hK K; refine nx ?_
       refine py HT_ 7 29 (bv 8 0xff) ?_; refine dh HT_ ?_; have aE : 0 ≤ (aa : Int) := od; have aF : aa < (l0.length : Int) := od; obtain ⟨aH, aJ, av, aw, ax⟩ := at_T42 aI.out aa aE aF; obtain rfl : ae = aH := (by injection aJ); replace av := hc HB av; replace aw := hc HB aw; replace ax := hc HB ax; replace aE := eq_true aE; replace aF := eq_true aF
       try go_wp2
       go_ret
       exact ⟨er, be HB⟩
      rw [if_neg c8] at H; have aR : (((rd_T42 l0 aa).f1).toList == aB.toList) = false := beq_eq_false_iff_ne.mpr c8; have aU : (((rd_T42 l0 aa).f1).toList != aB.toList) = true := bne_iff_ne.mpr c8; obtain rfl := Option.some.inj H
      try go_wp2
      replace HB := eL HB; have ar : 0 ≤ (aa : Int) := od; have au : aa < (l0.length : Int) := od; obtain ⟨ae, aD, ab, ac, ad⟩ := at_T42 aI.out aa ar au; have ai := ad; have aj := ac; have ak := ab; cases aD; replace ab := hc HB ab; replace ac := hc HB ac; replace ad := hc HB ad; replace ar := eq_true ar; replace au := eq_true au; refine start_ (n := 8) (S := fun w' => w'.cell? (ae.add ((aa).toNat * 3)) = some (.string ((rd_T42 l0 aa).f0)) ∧ w'.cell? ⟨(ae.add ((aa).toNat * 3)).block, (ae.add ((aa).toNat * 3)).off + 1, none⟩ = some (.string ((rd_T42 l0 aa).f1)) ∧ w'.cell? ⟨(ae.add ((aa).toNat * 3)).block, (ae.add ((aa).toNat * 3)).off + 2, none⟩ = some (.int .i64 ((rd_T42 l0 aa).f2))) (ds := []) (bv 8 0x0) (by kernel_rfl) rfl rfl ⟨(hc HB ak), (hc HB aj), (hc HB ai)⟩ (fun hHeld => ?_); refine with_tabW laws_heldItemS.tab4 laws_heldItemS.bits4 (fun HT_ HW_ => ?_); (first | ((conv in (World.drew (World.drewN wr _)) => skip); generalize hqw_ : World.drew (World.drewN wr _) = bd at hHeld ⊢; replace HB := Aside0.mk (Go.Proofs.Ytmmphfonbeddeaa.Mo.below_to hqw_ HB.out); replace ab := Go.Proofs.Ytmmphfonbeddeaa.Mo.cell_to hqw_ ab; replace ac := Go.Proofs.Ytmmphfonbeddeaa.Mo.cell_to hqw_ ac; replace ad := Go.Proofs.Ytmmphfonbeddeaa.Mo.cell_to hqw_ ad; clear hqw_) | generalize wr.drew = bd at HB ab ac ad hHeld ⊢); refine py HT_ 0 12 (bv 8 0x1) ?_; refine py HT_ 1 13 (bv 8 0x3) ?_; refine py HT_ 2 14 (bv 8 0x7) ?_; refine py HT_ 3 15 (bv 8 0xf) ?_; refine py HT_ 5 17 (bv 8 0x2f) ?_; refine tk HT_ HW_ hHeld 4 16 (bv 8 0x3f) ?_; refine oh HT_ 6 (some 18) (bv 8 0x7f) fun K hK => ?_; refine gz Try.func28 #[.int .i64 al] ?_
      with_reducible refine (laws_markText.calls k1 al ay _ A5.out).mono ?_
      rintro e aZ ⟨rfl, hb⟩; refine ⟨_, rfl, ?_⟩; replace HB := s0 HB hb; (try clear hb); (try clear aK); (try clear hk); (try clear hi); refine hK.out _ _ ⟨(hc HB ak), (hc HB aj), (hc HB ai)⟩ (fun hHeld => ?_); clear hK K; refine nx ?_
      refine py HT_ 7 19 (bv 8 0xff) ?_; refine dh HT_ ?_
      try go_wp2
      replace HB := eL HB; have az : 0 ≤ (aa : Int) := od; have aA : aa < (l0.length : Int) := od; obtain ⟨aC, aG, af, ag, ah⟩ := at_T42 aI.out aa az aA; have an := ah; have ao := ag; have ap := af; obtain rfl : ae = aC := (by injection aG); replace af := hc HB af; replace ag := hc HB ag; replace ah := hc HB ah; replace az := eq_true az; replace aA := eq_true aA; refine start_ (n := 8) (S := fun w' => w'.cell? (ae.add ((aa).toNat * 3)) = some (.string ((rd_T42 l0 aa).f0)) ∧ w'.cell? ⟨(ae.add ((aa).toNat * 3)).block, (ae.add ((aa).toNat * 3)).off + 1, none⟩ = some (.string ((rd_T42 l0 aa).f1)) ∧ w'.cell? ⟨(ae.add ((aa).toNat * 3)).block, (ae.add ((aa).toNat * 3)).off + 2, none⟩ = some (.int .i64 ((rd_T42 l0 aa).f2))) (ds := []) (bv 8 0x0) (by kernel_rfl) rfl rfl ⟨(hc HB ap), (hc HB ao), (hc HB an)⟩ (fun hHeld => ?_); refine with_tabW laws_heldItemS.tab7 laws_heldItemS.bits7 (fun HT_ HW_ => ?_); (first | ((conv in (World.drew (World.drewN aZ _)) => skip); generalize hqw_ : World.drew (World.drewN aZ _) = bf at hHeld ⊢; replace HB := Aside0.mk (Go.Proofs.Ytmmphfonbeddeaa.Mo.below_to hqw_ HB.out); replace af := Go.Proofs.Ytmmphfonbeddeaa.Mo.cell_to hqw_ af; replace ag := Go.Proofs.Ytmmphfonbeddeaa.Mo.cell_to hqw_ ag; replace ah := Go.Proofs.Ytmmphfonbeddeaa.Mo.cell_to hqw_ ah; clear hqw_) | generalize aZ.drew = bf at HB af ag ah hHeld ⊢); refine py HT_ 0 22 (bv 8 0x1) ?_; refine py HT_ 1 23 (bv 8 0x3) ?_; refine py HT_ 2 24 (bv 8 0x7) ?_; refine py HT_ 3 25 (bv 8 0xf) ?_; refine py HT_ 5 27 (bv 8 0x2f) ?_; refine tk HT_ HW_ hHeld 4 26 (bv 8 0x3f) ?_; refine oh HT_ 6 (some 28) (bv 8 0x7f) fun K hK => ?_; refine gz Try.func28 #[.int .i64 (wrap64 (al + 1))] ?_
      with_reducible refine (laws_markText.calls k1 (wrap64 (al + 1)) aB _ A7.out).mono ?_
      rintro e bm ⟨rfl, hb⟩; refine ⟨_, rfl, ?_⟩; replace HB := s0 HB hb; (try clear hb); (try clear aK); (try clear hk); (try clear hi); refine hK.out _ _ ⟨(hc HB ap), (hc HB ao), (hc HB an)⟩ (fun hHeld => ?_); clear hK K; refine nx ?_
      refine py HT_ 7 29 (bv 8 0xff) ?_; refine dh HT_ ?_
      try go_wp2
      go_ret
      exact ⟨er, be HB⟩
     rw [if_neg c6] at H; have aO : (((rd_T42 l0 aa).f0).toList == ay.toList) = false := beq_eq_false_iff_ne.mpr c6; have aQ : (((rd_T42 l0 aa).f0).toList != ay.toList) = true := bne_iff_ne.mpr c6; obtain rfl := Option.some.inj H
     try go_wp2
     replace HB := eL HB; have ar : 0 ≤ (aa : Int) := od; have au : aa < (l0.length : Int) := od; obtain ⟨ae, aD, ab, ac, ad⟩ := at_T42 aI.out aa ar au; have ai := ad; have aj := ac; have ak := ab; cases aD; replace ab := hc HB ab; replace ac := hc HB ac; replace ad := hc HB ad; replace ar := eq_true ar; replace au := eq_true au; refine start_ (n := 8) (S := fun w' => w'.cell? (ae.add ((aa).toNat * 3)) = some (.string ((rd_T42 l0 aa).f0)) ∧ w'.cell? ⟨(ae.add ((aa).toNat * 3)).block, (ae.add ((aa).toNat * 3)).off + 1, none⟩ = some (.string ((rd_T42 l0 aa).f1)) ∧ w'.cell? ⟨(ae.add ((aa).toNat * 3)).block, (ae.add ((aa).toNat * 3)).off + 2, none⟩ = some (.int .i64 ((rd_T42 l0 aa).f2))) (ds := []) (bv 8 0x0) (by kernel_rfl) rfl rfl ⟨(hc HB ak), (hc HB aj), (hc HB ai)⟩ (fun hHeld => ?_); refine with_tabW laws_heldItemS.tab4 laws_heldItemS.bits4 (fun HT_ HW_ => ?_); (first | ((conv in (World.drew (World.drewN wr _)) => skip); generalize hqw_ : World.drew (World.drewN wr _) = bg at hHeld ⊢; replace HB := Aside0.mk (Go.Proofs.Ytmmphfonbeddeaa.Mo.below_to hqw_ HB.out); replace ab := Go.Proofs.Ytmmphfonbeddeaa.Mo.cell_to hqw_ ab; replace ac := Go.Proofs.Ytmmphfonbeddeaa.Mo.cell_to hqw_ ac; replace ad := Go.Proofs.Ytmmphfonbeddeaa.Mo.cell_to hqw_ ad; clear hqw_) | generalize wr.drew = bg at HB ab ac ad hHeld ⊢); refine py HT_ 0 12 (bv 8 0x1) ?_; refine py HT_ 1 13 (bv 8 0x3) ?_; refine py HT_ 2 14 (bv 8 0x7) ?_; refine py HT_ 3 15 (bv 8 0xf) ?_; refine py HT_ 5 17 (bv 8 0x2f) ?_; refine tk HT_ HW_ hHeld 4 16 (bv 8 0x3f) ?_; refine oh HT_ 6 (some 18) (bv 8 0x7f) fun K hK => ?_; refine gz Try.func28 #[.int .i64 al] ?_
     with_reducible refine (laws_markText.calls k1 al ay _ A5.out).mono ?_
     rintro e bn ⟨rfl, hb⟩; refine ⟨_, rfl, ?_⟩; replace HB := s0 HB hb; (try clear hb); (try clear aK); (try clear hk); (try clear hi); refine hK.out _ _ ⟨(hc HB ak), (hc HB aj), (hc HB ai)⟩ (fun hHeld => ?_); clear hK K; refine nx ?_
     refine py HT_ 7 19 (bv 8 0xff) ?_; refine dh HT_ ?_
     try go_wp2
     go_ret
     exact ⟨er, be HB⟩
    rw [if_neg c4] at H; exact absurd H (by simp)
   rw [if_neg c3] at H; have aN : decide (aa < (l0.length : Int)) = false := decide_eq_false c3; clear c3; obtain rfl := Option.some.inj H
   go_wp2
   go_ret
   exact ⟨er, be HB⟩

/-! ### laws_heldRow: function 12 -/
def laws_heldRow.f (k : Nat) (ag : Int) (ah : Int) (aa : List (S42)) (a1 : Int) : Option (Int) := (laws_heldItemS.f k aa a1).bind fun ab => (if ab < 0 then (some (-1)) else (some ab))
theorem laws_heldRow.mono : ∀ a0 a1 a2 a3 k, LeO (laws_heldRow.f k a0 a1 a2 a3) (laws_heldRow.f (k + 1) a0 a1 a2 a3) := by
 intro a0 a1 a2 a3 k; unfold laws_heldRow.f
 repeat' first | (with_reducible first | apply laws_heldItemS.mono | apply lr | apply ln | apply li | refine lb ?_ fun _ => ?_) | apply ln | apply li | refine lb ?_ fun _ => ?_
set_option maxHeartbeats 8000000 in
set_option maxRecDepth 100000 in
theorem laws_heldRow.calls (k : Nat) (ag : Int) (ah : Int) (ae : Option Addr) (af : Nat) (aa : List (S42)) (a1 : Int) (r : Int) (w : World) (ai : Kd.C k42 w ae aa.length aa) (aj : aa.length ≤ af) (h : laws_heldRow.f k ag ah aa a1 = some r) :
  Calls Try.prog 12 #[.agg #[.int .i64 ag, .int .i64 ah, .slice ae aa.length af], .int .i64 a1] w fun e w' => e = .returned (.int .i64 r) ∧ Below w.heap.size w w' := by
 have hu28 := Try.underlying28; have ak := Aside0.mk ai; have al := Aside0.mk aj; clear ai aj; have HB := Aside0.mk (Below.refl w.heap.size w); have H : ((laws_heldItemS.f k aa a1).bind fun ab => (if ab < 0 then (some (-1)) else (some ab))) = some r := h; clear h; obtain ⟨ab, A3, H⟩ := ob H
 try dsimp only at H
 by_cases c4 : ab < 0
 ·rw [if_pos c4] at H; have ap : decide (ab < 0) = true := decide_eq_true c4; clear c4; obtain rfl := Option.some.inj H
  go_enter Try.func12, Try.ntmps12
  go_wp2_with (first | ((with_reducible refine gate_dst (N := 2) rfl ?_); refine bx 2 #[.int .i64 ag, .int .i64 ah, .slice ae aa.length af] 28 ?_; intro an hg w5 hbox hb; have ac := am hbox; have ao := gs0 hg HB; have ad := gs0 hg HB; replace HB := s0 HB hb; clear hb hbox hg; have aq := bz3 ac) | ((with_reducible refine gate_callee (f := 29) rfl ?_); refine gl 8 Try.func29 #[.slice ae aa.length af, .int .i64 a1] ?_; (with_reducible refine (laws_heldItemS.calls k _ _ aa a1 ab _ (cb ak HB) al.out A3.out).mono ?_); rintro e w7 ⟨rfl, hb⟩; refine ⟨_, rfl, ?_⟩; replace ac := bb ac hb; replace HB := s1 HB ad hb; (try clear hb)))
  go_ret
  exact ⟨er, be1 HB ad⟩
 rw [if_neg c4] at H; have ap : decide (ab < 0) = false := decide_eq_false c4; clear c4; obtain rfl := Option.some.inj H
 go_enter Try.func12, Try.ntmps12
 go_wp2_with (first | ((with_reducible refine gate_dst (N := 2) rfl ?_); refine bx 2 #[.int .i64 ag, .int .i64 ah, .slice ae aa.length af] 28 ?_; intro an hg w8 hbox hb; have ac := am hbox; have ao := gs0 hg HB; have ad := gs0 hg HB; replace HB := s0 HB hb; clear hb hbox hg; have ar := bz3 ac) | ((with_reducible refine gate_callee (f := 29) rfl ?_); refine gl 8 Try.func29 #[.slice ae aa.length af, .int .i64 a1] ?_; (with_reducible refine (laws_heldItemS.calls k _ _ aa a1 ab _ (cb ak HB) al.out A3.out).mono ?_); rintro e av ⟨rfl, hb⟩; refine ⟨_, rfl, ?_⟩; replace ac := bb ac hb; replace HB := s1 HB ad hb; (try clear hb)))
 go_ret
 exact ⟨er, be1 HB ad⟩

end Go.Proofs.Ytmmphfonbeddeaa.QFnExactRowPut
