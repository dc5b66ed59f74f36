-- made by a program of this session (myprint.py)
import Derived.Test.YtfjhkediaholmaaQFnExactPutx0
import Derived.Test.YtfjhkediaholmaaQFnExactPutx1
namespace Go.Proofs.Ytfjhkediaholmaa.QFnExactPut
open Go.RowKit Go.Proofs.YtfjhkediaholmaaW.PrintWords Go.Proofs.YtfjhkediaholmaaW.PrintLast Go.Proofs.YtfjhkediaholmaaW.PrintMore
attribute [local go_sem] max2_int min2_int max_two min_two max_three min_three max_four min_four   -- for this text's walks alone
set_option linter.unusedVariables false
set_option linter.unusedSimpArgs false

/-! ### laws_eqItemS: function 70 -/
def laws_eqItemS.l0 : Nat → List (S68) → List (S68) → Int → Option (Bool)
 | 0, _, _, _ => none
 | k + 1, x0, x1, x5 => if x5 < (x0.length : Int) then (if 0 ≤ x5 then (if x5 < (x1.length : Int) then ((laws_eqItem.f ((rd_T68 x0 x5).f0) ((rd_T68 x0 x5).f1) ((rd_T68 x0 x5).f2) ((rd_T68 x1 x5).f0) ((rd_T68 x1 x5).f1) ((rd_T68 x1 x5).f2)).bind fun ax => (if ax = true then (laws_eqItemS.l0 k x0 x1 (wrap64 (x5 + 1))) else (some false))) else (none)) else (none)) else (some true)
def laws_eqItemS.f (k : Nat) (l0 : List (S68)) (l1 : List (S68)) : Option (Bool) := if (l0.length : Int) = (l1.length : Int) then (laws_eqItemS.l0 k l0 l1 0) else (some false)
theorem laws_eqItemS.mono_l : ∀ k, (∀ y0 y1 y2, LeO (laws_eqItemS.l0 k y0 y1 y2) (laws_eqItemS.l0 (k + 1) y0 y1 y2))
 | 0 => fun _ _ _ r h => by simp [laws_eqItemS.l0] at h
 | k + 1 => by
  have aA := laws_eqItemS.mono_l k
  ·intro y0 y1 y2; unfold laws_eqItemS.l0
   repeat' first | (with_reducible first | apply aA | apply lr | apply ln | apply li | refine lb ?_ fun _ => ?_) | apply aA | apply ln | apply li | refine lb ?_ fun _ => ?_
theorem laws_eqItemS.mono : ∀ a0 a1 k, LeO (laws_eqItemS.f k a0 a1) (laws_eqItemS.f (k + 1) a0 a1) := by
 intro a0 a1 k; have aA := laws_eqItemS.mono_l k; unfold laws_eqItemS.f
 repeat' first | (with_reducible first | apply aA | apply lr | apply ln | apply li | refine lb ?_ fun _ => ?_) | apply aA | apply ln | apply li | refine lb ?_ fun _ => ?_
def laws_eqItemS.T6 : Bool × List (List Nat × List Nat) := (true, [([], []), ([], []), ([0, 1], [0, 1]), ([2], [2]), ([], []), ([], []), ([4, 5], [4, 5]), ([6], [6]), ([3, 7], [3, 7]), ([8], [8])])
def laws_eqItemS.B6 : List Nat := [0, 0, 3, 7, 0, 0, 48, 112, 255, 511]
theorem laws_eqItemS.tab6 : rtab .any (opsOf Try.f70 6) = laws_eqItemS.T6 := by kernel_rfl
theorem laws_eqItemS.bits6 : waitsOk laws_eqItemS.T6.2 laws_eqItemS.B6 = true := by kernel_rfl
set_option maxHeartbeats 8000000 in
set_option maxRecDepth 100000 in
theorem laws_eqItemS.calls (k : Nat) (A0 : Option Addr) (c0 : Nat) (l0 : List (S68)) (A1 : Option Addr) (c1 : Nat) (l1 : List (S68)) (r : Bool) (w : World) (aF : Kd.C k68 w A0 l0.length l0) (aG : l0.length ≤ c0) (aH : Kd.C k68 w A1 l1.length l1) (aI : l1.length ≤ c1) (h : laws_eqItemS.f k l0 l1 = some r) :
  Calls Try.prog 70 #[.slice A0 l0.length c0, .slice A1 l1.length c1] w fun e w' => e = .returned (.bool r) ∧ Below w.heap.size w w' := by
 have hu68 := Try.underlying68; have aJ := Aside0.mk aF; have aV := Aside0.mk aG; clear aF aG; have aK := Aside0.mk aH; have aW := Aside0.mk aI; clear aH aI; have HB := Aside0.mk (Below.refl w.heap.size w); have H : (if (l0.length : Int) = (l1.length : Int) then (laws_eqItemS.l0 k l0 l1 0) else (some false)) = some r := h; clear h
 by_cases c3 : (l0.length : Int) = (l1.length : Int)
 ·rw [if_pos c3] at H; have aB : ((l0.length : Int) == (l1.length : Int)) = true := beq_iff_eq.mpr c3; have aC : ((l0.length : Int) != (l1.length : Int)) = false := bne_eq_false_iff_eq.mpr c3; have aD : (l0.length == l1.length) = true := by first | simpa using c3 | (simp at c3 ⊢; omega)
  clear c3; have H' := Aside0.mk H; clear H
  go_enter Try.func70, Try.ntmps70
  go_wp2
  go_loopg [5] k (fun kq v5 w' => ∃ (aa : Int), v5 = .int .i64 aa ∧ Aside0 (laws_eqItemS.l0 kq l0 l1 aa = some r) ∧ Aside0 (kq ≤ k) ∧ Aside0 (Below w.heap.size w w'))
  case atStart => exact ⟨(0), rs, H', ⟨Nat.le_refl _⟩, ⟨be HB⟩⟩
  case round =>
   clear H'
   try clear c1; try clear p2; try clear c3; try clear aB; try clear aC; try clear aD
   obtain ⟨aa, rfl, HA, aL, HB⟩ := hrel
   cases gk with
   | zero => exact absurd HA.out (by simp [laws_eqItemS.l0])
   | succ k1 =>
    have H := HA.out; clear HA; simp only [laws_eqItemS.l0] at H
    by_cases c4 : aa < (l0.length : Int)
    ·rw [if_pos c4] at H; have aE : decide (aa < (l0.length : Int)) = true := decide_eq_true c4; clear c4
     by_cases c5 : 0 ≤ aa
     ·rw [if_pos c5] at H; have aO : decide (0 ≤ aa) = true := decide_eq_true c5; clear c5
      by_cases c6 : aa < (l1.length : Int)
      ·rw [if_pos c6] at H; have aQ : decide (aa < (l1.length : Int)) = true := decide_eq_true c6; clear c6; obtain ⟨ax, A7, H⟩ := ob H
       try dsimp only at H
       by_cases c8 : ax = true
       ·subst c8; rw [if_pos rfl] at H; have H' := Aside0.mk H; clear H
        try go_wp2
        replace HB := eL HB; have aq : 0 ≤ (aa : Int) := od; have ar : aa < (l0.length : Int) := od; obtain ⟨ah, ay, ab, ac, ad⟩ := at_T68 aJ.out aa aq ar; have aj := ad; have ak := ac; have al := ab; cases ay; replace ab := hc HB ab; replace ac := hc HB ac; replace ad := hc HB ad; replace aq := eq_true aq; replace ar := eq_true ar; have au : 0 ≤ (aa : Int) := od; have av : aa < (l1.length : Int) := od; obtain ⟨ai, az, ae, af, ag⟩ := at_T68 aK.out aa au av; have an := ag; have ao := af; have ap := ae; cases az; replace ae := hc HB ae; replace af := hc HB af; replace ag := hc HB ag; replace au := eq_true au; replace av := eq_true av; refine start_ (n := 10) (S := fun w' => w'.cell? (ah.add ((aa).toNat * 3)) = some (.string ((rd_T68 l0 aa).f0)) ∧ w'.cell? ⟨(ah.add ((aa).toNat * 3)).block, (ah.add ((aa).toNat * 3)).off + 1, none⟩ = some (.string ((rd_T68 l0 aa).f1)) ∧ w'.cell? ⟨(ah.add ((aa).toNat * 3)).block, (ah.add ((aa).toNat * 3)).off + 2, none⟩ = some (.int .i64 ((rd_T68 l0 aa).f2)) ∧ w'.cell? (ai.add ((aa).toNat * 3)) = some (.string ((rd_T68 l1 aa).f0)) ∧ w'.cell? ⟨(ai.add ((aa).toNat * 3)).block, (ai.add ((aa).toNat * 3)).off + 1, none⟩ = some (.string ((rd_T68 l1 aa).f1)) ∧ w'.cell? ⟨(ai.add ((aa).toNat * 3)).block, (ai.add ((aa).toNat * 3)).off + 2, none⟩ = some (.int .i64 ((rd_T68 l1 aa).f2))) (ds := []) (bv 10 0x0) (by kernel_rfl) rfl rfl ⟨(hc HB al), (hc HB ak), (hc HB aj), (hc HB ap), (hc HB ao), (hc HB an)⟩ (fun hHeld => ?_); refine with_tabW laws_eqItemS.tab6 laws_eqItemS.bits6 (fun HT_ HW_ => ?_); (first | ((conv in (World.drew (World.drewN wr _)) => skip); generalize hqw_ : World.drew (World.drewN wr _) = w9 at hHeld ⊢; replace HB := Aside0.mk (Go.Proofs.Ytfjhkediaholmaa.Mo.below_to hqw_ HB.out); replace ab := Go.Proofs.Ytfjhkediaholmaa.Mo.cell_to hqw_ ab; replace ac := Go.Proofs.Ytfjhkediaholmaa.Mo.cell_to hqw_ ac; replace ad := Go.Proofs.Ytfjhkediaholmaa.Mo.cell_to hqw_ ad; replace ae := Go.Proofs.Ytfjhkediaholmaa.Mo.cell_to hqw_ ae; replace af := Go.Proofs.Ytfjhkediaholmaa.Mo.cell_to hqw_ af; replace ag := Go.Proofs.Ytfjhkediaholmaa.Mo.cell_to hqw_ ag; clear hqw_) | generalize wr.drew = w9 at HB ab ac ad ae af ag hHeld ⊢); refine py HT_ 0 17 (bv 10 0x1) ?_; refine py HT_ 1 18 (bv 10 0x3) ?_; refine py HT_ 2 19 (bv 10 0x7) ?_; refine py HT_ 4 21 (bv 10 0x17) ?_; refine py HT_ 5 22 (bv 10 0x37) ?_; refine py HT_ 6 23 (bv 10 0x77) ?_; refine tk HT_ HW_ hHeld 3 20 (bv 10 0x7f) ?_; refine tk HT_ HW_ hHeld 7 24 (bv 10 0xff) ?_; refine one_ (i := 8) (N := some 25) (bv 10 0x1ff) rfl rfl (one_of HT_.out (by kernel_rfl)) (by decide) (fun K hK => ?_); refine goes_ Try.func112 (by kernel_rfl) rfl #[.agg #[.string ((rd_T68 l0 aa).f0), .string ((rd_T68 l0 aa).f1), .int .i64 ((rd_T68 l0 aa).f2)], .agg #[.string ((rd_T68 l1 aa).f0), .string ((rd_T68 l1 aa).f1), .int .i64 ((rd_T68 l1 aa).f2)]] (by rfl) rfl rfl ml ?_
        with_reducible refine (laws_eqItem.calls ((rd_T68 l0 aa).f0) ((rd_T68 l0 aa).f1) ((rd_T68 l0 aa).f2) ((rd_T68 l1 aa).f0) ((rd_T68 l1 aa).f1) ((rd_T68 l1 aa).f2) true _ A7.out).mono ?_
        rintro e aX ⟨rfl, hb⟩; refine ⟨_, rfl, ?_⟩; replace HB := s0 HB hb; (try clear hb); (try clear aR); (try clear hk); (try clear hi); refine hK.out _ _ ⟨(hc HB al), (hc HB ak), (hc HB aj), (hc HB ap), (hc HB ao), (hc HB an)⟩ (fun hHeld => ?_); clear hK K; refine norm_ (a' := ?_) ?_ ?_
        rotate_left
        ·show Act.put _ (some 25) _ = _
         simp only [aP]; rfl
        refine py HT_ 9 26 (bv 10 0x3ff) ?_; refine done_ (done_of HT_.out (by kernel_rfl)) ?_
        try go_wp2
        go_roundg k1
        case measure => have := aL.out; omega
        case rel => exact ⟨(wrap64 (aa + 1)), rs, H', ⟨by have := aL.out; omega⟩, ⟨be HB⟩⟩
       replace c8 := Bool.eq_false_iff.mpr c8; subst c8; rw [if_neg nf] at H; obtain rfl := Option.some.inj H
       try go_wp2
       replace HB := eL HB; have aq : 0 ≤ (aa : Int) := od; have ar : aa < (l0.length : Int) := od; obtain ⟨ah, ay, ab, ac, ad⟩ := at_T68 aJ.out aa aq ar; have aj := ad; have ak := ac; have al := ab; cases ay; replace ab := hc HB ab; replace ac := hc HB ac; replace ad := hc HB ad; replace aq := eq_true aq; replace ar := eq_true ar; have au : 0 ≤ (aa : Int) := od; have av : aa < (l1.length : Int) := od; obtain ⟨ai, az, ae, af, ag⟩ := at_T68 aK.out aa au av; have an := ag; have ao := af; have ap := ae; cases az; replace ae := hc HB ae; replace af := hc HB af; replace ag := hc HB ag; replace au := eq_true au; replace av := eq_true av; refine start_ (n := 10) (S := fun w' => w'.cell? (ah.add ((aa).toNat * 3)) = some (.string ((rd_T68 l0 aa).f0)) ∧ w'.cell? ⟨(ah.add ((aa).toNat * 3)).block, (ah.add ((aa).toNat * 3)).off + 1, none⟩ = some (.string ((rd_T68 l0 aa).f1)) ∧ w'.cell? ⟨(ah.add ((aa).toNat * 3)).block, (ah.add ((aa).toNat * 3)).off + 2, none⟩ = some (.int .i64 ((rd_T68 l0 aa).f2)) ∧ w'.cell? (ai.add ((aa).toNat * 3)) = some (.string ((rd_T68 l1 aa).f0)) ∧ w'.cell? ⟨(ai.add ((aa).toNat * 3)).block, (ai.add ((aa).toNat * 3)).off + 1, none⟩ = some (.string ((rd_T68 l1 aa).f1)) ∧ w'.cell? ⟨(ai.add ((aa).toNat * 3)).block, (ai.add ((aa).toNat * 3)).off + 2, none⟩ = some (.int .i64 ((rd_T68 l1 aa).f2))) (ds := []) (bv 10 0x0) (by kernel_rfl) rfl rfl ⟨(hc HB al), (hc HB ak), (hc HB aj), (hc HB ap), (hc HB ao), (hc HB an)⟩ (fun hHeld => ?_); refine with_tabW laws_eqItemS.tab6 laws_eqItemS.bits6 (fun HT_ HW_ => ?_); (first | ((conv in (World.drew (World.drewN wr _)) => skip); generalize hqw_ : World.drew (World.drewN wr _) = aU at hHeld ⊢; replace HB := Aside0.mk (Go.Proofs.Ytfjhkediaholmaa.Mo.below_to hqw_ HB.out); replace ab := Go.Proofs.Ytfjhkediaholmaa.Mo.cell_to hqw_ ab; replace ac := Go.Proofs.Ytfjhkediaholmaa.Mo.cell_to hqw_ ac; replace ad := Go.Proofs.Ytfjhkediaholmaa.Mo.cell_to hqw_ ad; replace ae := Go.Proofs.Ytfjhkediaholmaa.Mo.cell_to hqw_ ae; replace af := Go.Proofs.Ytfjhkediaholmaa.Mo.cell_to hqw_ af; replace ag := Go.Proofs.Ytfjhkediaholmaa.Mo.cell_to hqw_ ag; clear hqw_) | generalize wr.drew = aU at HB ab ac ad ae af ag hHeld ⊢); refine py HT_ 0 17 (bv 10 0x1) ?_; refine py HT_ 1 18 (bv 10 0x3) ?_; refine py HT_ 2 19 (bv 10 0x7) ?_; refine py HT_ 4 21 (bv 10 0x17) ?_; refine py HT_ 5 22 (bv 10 0x37) ?_; refine py HT_ 6 23 (bv 10 0x77) ?_; refine tk HT_ HW_ hHeld 3 20 (bv 10 0x7f) ?_; refine tk HT_ HW_ hHeld 7 24 (bv 10 0xff) ?_; refine one_ (i := 8) (N := some 25) (bv 10 0x1ff) rfl rfl (one_of HT_.out (by kernel_rfl)) (by decide) (fun K hK => ?_); refine goes_ Try.func112 (by kernel_rfl) rfl #[.agg #[.string ((rd_T68 l0 aa).f0), .string ((rd_T68 l0 aa).f1), .int .i64 ((rd_T68 l0 aa).f2)], .agg #[.string ((rd_T68 l1 aa).f0), .string ((rd_T68 l1 aa).f1), .int .i64 ((rd_T68 l1 aa).f2)]] (by rfl) rfl rfl ml ?_
       with_reducible refine (laws_eqItem.calls ((rd_T68 l0 aa).f0) ((rd_T68 l0 aa).f1) ((rd_T68 l0 aa).f2) ((rd_T68 l1 aa).f0) ((rd_T68 l1 aa).f1) ((rd_T68 l1 aa).f2) false _ A7.out).mono ?_
       rintro e aY ⟨rfl, hb⟩; refine ⟨_, rfl, ?_⟩; replace HB := s0 HB hb; (try clear hb); (try clear aR); (try clear hk); (try clear hi); refine hK.out _ _ ⟨(hc HB al), (hc HB ak), (hc HB aj), (hc HB ap), (hc HB ao), (hc HB an)⟩ (fun hHeld => ?_); clear hK K; refine norm_ (a' := ?_) ?_ ?_
       rotate_left
       ·show Act.put _ (some 25) _ = _
        simp only [aP]; rfl
       refine py HT_ 9 26 (bv 10 0x3ff) ?_; refine done_ (done_of HT_.out (by kernel_rfl)) ?_
       try go_wp2
       go_ret
       exact ⟨er, be HB⟩
      rw [if_neg c6] at H; exact absurd H (by simp)
     rw [if_neg c5] at H; exact absurd H (by simp)
    rw [if_neg c4] at H; have aE : decide (aa < (l0.length : Int)) = false := decide_eq_false c4; clear c4; obtain rfl := Option.some.inj H
    go_wp2
    go_ret
    exact ⟨er, be HB⟩
 rw [if_neg c3] at H; have aB : ((l0.length : Int) == (l1.length : Int)) = false := beq_eq_false_iff_ne.mpr c3; have aC : ((l0.length : Int) != (l1.length : Int)) = true := bne_iff_ne.mpr c3; have aD : (l0.length == l1.length) = false := by first | simpa using c3 | (simp at c3 ⊢; omega)
 obtain rfl := Option.some.inj H
 go_enter Try.func70, Try.ntmps70
 go_wp2
 go_ret
 exact ⟨er, be HB⟩

/-! ### laws_eqIntS: function 71 -/
def laws_eqIntS.l0 : Nat → List Int → List Int → Int → Option (Bool)
 | 0, _, _, _ => none
 | k + 1, x0, x1, x5 => if x5 < (x0.length : Int) then (if 0 ≤ x5 then (if x5 < (x1.length : Int) then (if (rd x0 x5) = (rd x1 x5) then (laws_eqIntS.l0 k x0 x1 (wrap64 (x5 + 1))) else (some false)) else (none)) else (none)) else (some true)
def laws_eqIntS.f (k : Nat) (l0 : List Int) (l1 : List Int) : Option (Bool) := if (l0.length : Int) = (l1.length : Int) then (laws_eqIntS.l0 k l0 l1 0) else (some false)
theorem laws_eqIntS.mono_l : ∀ k, (∀ y0 y1 y2, LeO (laws_eqIntS.l0 k y0 y1 y2) (laws_eqIntS.l0 (k + 1) y0 y1 y2))
 | 0 => fun _ _ _ r h => by simp [laws_eqIntS.l0] at h
 | k + 1 => by
  have aj := laws_eqIntS.mono_l k
  ·intro y0 y1 y2; unfold laws_eqIntS.l0
   repeat' first | (with_reducible first | apply aj | apply lr | apply ln | apply li | refine lb ?_ fun _ => ?_) | apply aj | apply ln | apply li | refine lb ?_ fun _ => ?_
theorem laws_eqIntS.mono : ∀ a0 a1 k, LeO (laws_eqIntS.f k a0 a1) (laws_eqIntS.f (k + 1) a0 a1) := by
 intro a0 a1 k; have aj := laws_eqIntS.mono_l k; unfold laws_eqIntS.f
 repeat' first | (with_reducible first | apply aj | apply lr | apply ln | apply li | refine lb ?_ fun _ => ?_) | apply aj | apply ln | apply li | refine lb ?_ fun _ => ?_
set_option maxHeartbeats 8000000 in
set_option maxRecDepth 100000 in
theorem laws_eqIntS.calls (k : Nat) (A0 : Option Addr) (c0 : Nat) (l0 : List Int) (A1 : Option Addr) (c1 : Nat) (l1 : List Int) (r : Bool) (w : World) (av : Kd.C (Kd.int .i64) w A0 l0.length l0) (aw : l0.length ≤ c0) (ax : Kd.C (Kd.int .i64) w A1 l1.length l1) (ay : l1.length ≤ c1) (h : laws_eqIntS.f k l0 l1 = some r) :
  Calls Try.prog 71 #[.slice A0 l0.length c0, .slice A1 l1.length c1] w fun e w' => e = .returned (.bool r) ∧ Drawn0 w w' := by
 have az := Aside0.mk av; have aE := Aside0.mk aw; clear av aw; have aA := Aside0.mk ax; have aF := Aside0.mk ay; clear ax ay; have H : (if (l0.length : Int) = (l1.length : Int) then (laws_eqIntS.l0 k l0 l1 0) else (some false)) = some r := h; clear h
 by_cases c3 : (l0.length : Int) = (l1.length : Int)
 ·rw [if_pos c3] at H; have ak : ((l0.length : Int) == (l1.length : Int)) = true := beq_iff_eq.mpr c3; have al : ((l0.length : Int) != (l1.length : Int)) = false := bne_eq_false_iff_eq.mpr c3; have an : (l0.length == l1.length) = true := by first | simpa using c3 | (simp at c3 ⊢; omega)
  clear c3; have H' := Aside0.mk H; clear H
  go_enter Try.func71, Try.ntmps71
  go_wp2
  repeat (go_quiet (fail); try go_wp2)
  go_loopg [5] k (fun kq v5 w' => ∃ (aa : Int), v5 = .int .i64 aa ∧ Aside0 (laws_eqIntS.l0 kq l0 l1 aa = some r) ∧ Aside0 (kq ≤ k) ∧ Drawn0 w w')
  case atStart => exact ⟨(0), rs, H', ⟨Nat.le_refl _⟩, by repeat (first | exact Drawn0.refl _ | apply Drawn0.step)⟩
  case round =>
   clear H'
   try clear c1; try clear p2; try clear c3; try clear ak; try clear al; try clear an
   obtain ⟨aa, rfl, HA, aB, ⟨m1, rfl⟩⟩ := hrel
   cases gk with
   | zero => exact absurd HA.out (by simp [laws_eqIntS.l0])
   | succ k1 =>
    have H := HA.out; clear HA; simp only [laws_eqIntS.l0] at H
    by_cases c4 : aa < (l0.length : Int)
    ·rw [if_pos c4] at H; have aq : decide (aa < (l0.length : Int)) = true := decide_eq_true c4; clear c4
     by_cases c5 : 0 ≤ aa
     ·rw [if_pos c5] at H; have aC : decide (0 ≤ aa) = true := decide_eq_true c5; clear c5
      by_cases c6 : aa < (l1.length : Int)
      ·rw [if_pos c6] at H; have aD : decide (aa < (l1.length : Int)) = true := decide_eq_true c6; clear c6
       by_cases c7 : (rd l0 aa) = (rd l1 aa)
       ·rw [if_pos c7] at H; have ar : ((rd l0 aa) == (rd l1 aa)) = true := beq_iff_eq.mpr c7; have au : ((rd l0 aa) != (rd l1 aa)) = false := bne_eq_false_iff_eq.mpr c7; clear c7; have H' := Aside0.mk H; clear H; have ab : 0 ≤ (aa : Int) := od; have ac : aa < (l0.length : Int) := od; obtain ⟨ao, ah, af⟩ := Kd.at_int az.out aa ab ac; cases ah; replace ab := eq_true ab; replace ac := eq_true ac; have ad : 0 ≤ (aa : Int) := od; have ae : aa < (l1.length : Int) := od; obtain ⟨ap, ai, ag⟩ := Kd.at_int aA.out aa ad ae; cases ai; replace ad := eq_true ad; replace ae := eq_true ae
        go_wp2
        repeat (go_quiet (fail); try go_wp2)
        go_roundg k1
        case measure => have := aB.out; omega
        case rel => exact ⟨(wrap64 (aa + 1)), rs, H', ⟨by have := aB.out; omega⟩, by repeat (first | exact Drawn0.refl _ | apply Drawn0.step)⟩
       rw [if_neg c7] at H; have ar : ((rd l0 aa) == (rd l1 aa)) = false := beq_eq_false_iff_ne.mpr c7; have au : ((rd l0 aa) != (rd l1 aa)) = true := bne_iff_ne.mpr c7; obtain rfl := Option.some.inj H; have ab : 0 ≤ (aa : Int) := od; have ac : aa < (l0.length : Int) := od; obtain ⟨ao, ah, af⟩ := Kd.at_int az.out aa ab ac; cases ah; replace ab := eq_true ab; replace ac := eq_true ac; have ad : 0 ≤ (aa : Int) := od; have ae : aa < (l1.length : Int) := od; obtain ⟨ap, ai, ag⟩ := Kd.at_int aA.out aa ad ae; cases ai; replace ad := eq_true ad; replace ae := eq_true ae
       go_wp2
       repeat (go_quiet (fail); try go_wp2)
       go_ret
       exact ⟨by first | rfl | (simp; done) | (simp [*]; done), by repeat (first | exact Drawn0.refl _ | apply Drawn0.step)⟩
      rw [if_neg c6] at H; exact absurd H (by simp)
     rw [if_neg c5] at H; exact absurd H (by simp)
    rw [if_neg c4] at H; have aq : decide (aa < (l0.length : Int)) = false := decide_eq_false c4; clear c4; obtain rfl := Option.some.inj H
    go_wp2
    repeat (go_quiet (fail); try go_wp2)
    go_ret
    exact ⟨by first | rfl | (simp; done) | (simp [*]; done), by repeat (first | exact Drawn0.refl _ | apply Drawn0.step)⟩
 rw [if_neg c3] at H; have ak : ((l0.length : Int) == (l1.length : Int)) = false := beq_eq_false_iff_ne.mpr c3; have al : ((l0.length : Int) != (l1.length : Int)) = true := bne_iff_ne.mpr c3; have an : (l0.length == l1.length) = false := by first | simpa using c3 | (simp at c3 ⊢; omega)
 obtain rfl := Option.some.inj H
 go_enter Try.func71, Try.ntmps71
 go_wp2
 repeat (go_quiet (fail); try go_wp2)
 go_ret
 exact ⟨by first | rfl | (simp; done) | (simp [*]; done), by repeat (first | exact Drawn0.refl _ | apply Drawn0.step)⟩

/-! ### laws_eqThree: function 20 -/
def laws_eqThree.f (k : Nat) (an : Int) (ao : Int) (ag : List (S68)) (ai : List (S68)) (ak : List Int) (ap : Int) (aq : Int) (ah : List (S68)) (aj : List (S68)) (al : List Int) : Option (Bool) := if an = ap then (if ao = aq then ((laws_eqItemS.f k ag ah).bind fun aO => (if aO = true then ((laws_eqItemS.f k ai aj).bind fun aQ => (if aQ = true then ((laws_eqIntS.f k ak al).bind fun aR => (if aR = true then (some true) else (some false))) else (some false))) else (some false))) else (some false)) else (some false)
theorem laws_eqThree.mono : ∀ a0 a1 a2 a3 a4 a5 a6 a7 a8 a9 k, LeO (laws_eqThree.f k a0 a1 a2 a3 a4 a5 a6 a7 a8 a9) (laws_eqThree.f (k + 1) a0 a1 a2 a3 a4 a5 a6 a7 a8 a9) := by
 intro a0 a1 a2 a3 a4 a5 a6 a7 a8 a9 k; unfold laws_eqThree.f
 repeat' first | (with_reducible first | apply laws_eqIntS.mono | apply laws_eqItemS.mono | apply lr | apply ln | apply li | refine lb ?_ fun _ => ?_) | apply ln | apply li | refine lb ?_ fun _ => ?_
set_option maxHeartbeats 8000000 in
set_option maxRecDepth 100000 in
theorem laws_eqThree.calls (k : Nat) (an : Int) (ao : Int) (ar : Option Addr) (au : Nat) (ag : List (S68)) (ax : Option Addr) (ay : Nat) (ai : List (S68)) (aB : Option Addr) (aC : Nat) (ak : List Int) (ap : Int) (aq : Int) (av : Option Addr) (aw : Nat) (ah : List (S68)) (az : Option Addr) (aA : Nat) (aj : List (S68)) (aD : Option Addr) (aE : Nat) (al : List Int) (r : Bool) (w : World) (aY : Kd.C k68 w ar ag.length ag) (aZ : ag.length ≤ au) (ba : Kd.C k68 w ax ai.length ai) (bc : ai.length ≤ ay) (bd : Kd.C (Kd.int .i64) w aB ak.length ak) (bf : ak.length ≤ aC) (bg : Kd.C k68 w av ah.length ah) (bh : ah.length ≤ aw) (bi : Kd.C k68 w az aj.length aj) (bj : aj.length ≤ aA) (bm : Kd.C (Kd.int .i64) w aD al.length al) (bn : al.length ≤ aE) (h : laws_eqThree.f k an ao ag ai ak ap aq ah aj al = some r) :
  Calls Try.prog 20 #[.agg #[.int .i64 an, .int .i64 ao, .slice ar ag.length au, .slice ax ai.length ay, .slice aB ak.length aC], .agg #[.int .i64 ap, .int .i64 aq, .slice av ah.length aw, .slice az aj.length aA, .slice aD al.length aE]] w fun e w' => e = .returned (.bool r) ∧ Below w.heap.size w w' := by
 have hu30 := Try.underlying30; have aJ := Aside0.mk aY; have aK := Aside0.mk aZ; clear aY aZ; have aU := Aside0.mk ba; have aV := Aside0.mk bc; clear ba bc; have bo := Aside0.mk bd; have bq := Aside0.mk bf; clear bd bf; have aL := Aside0.mk bg; have aN := Aside0.mk bh; clear bg bh; have aW := Aside0.mk bi; have aX := Aside0.mk bj; clear bi bj; have br := Aside0.mk bm; have bs := Aside0.mk bn; clear bm bn; have HB := Aside0.mk (Below.refl w.heap.size w); have H : (if an = ap then (if ao = aq then ((laws_eqItemS.f k ag ah).bind fun aO => (if aO = true then ((laws_eqItemS.f k ai aj).bind fun aQ => (if aQ = true then ((laws_eqIntS.f k ak al).bind fun aR => (if aR = true then (some true) else (some false))) else (some false))) else (some false))) else (some false)) else (some false)) = some r := h; clear h
 by_cases c3 : an = ap
 ·rw [if_pos c3] at H; have b2 : (an == ap) = true := beq_iff_eq.mpr c3; have b3 : (an != ap) = false := bne_eq_false_iff_eq.mpr c3; clear c3
  by_cases c4 : ao = aq
  ·rw [if_pos c4] at H; have b4 : (ao == aq) = true := beq_iff_eq.mpr c4; have b5 : (ao != aq) = false := bne_eq_false_iff_eq.mpr c4; clear c4; obtain ⟨aO, A5, H⟩ := ob H
   try dsimp only at H
   by_cases c6 : aO = true
   ·subst c6; rw [if_pos rfl] at H; obtain ⟨aQ, A7, H⟩ := ob H
    try dsimp only at H
    by_cases c8 : aQ = true
    ·subst c8; rw [if_pos rfl] at H; obtain ⟨aR, A9, H⟩ := ob H
     try dsimp only at H
     by_cases c10 : aR = true
     ·subst c10; rw [if_pos rfl] at H; obtain rfl := Option.some.inj H
      go_enter Try.func20, Try.ntmps20
      go_wp2_with (first | ((with_reducible refine gate_dst (N := 2) rfl ?_); refine bx 2 #[.int .i64 an, .int .i64 ao, .slice ar ag.length au, .slice ax ai.length ay, .slice aB ak.length aC] 30 ?_; intro aF hg co hbox hb; have aa := am hbox; have aG := gs0 hg HB; have ab := gs0 hg HB; replace HB := s0 HB hb; clear hb hbox hg) | ((with_reducible refine gate_dst (N := 3) rfl ?_); refine bx 3 #[.int .i64 ap, .int .i64 aq, .slice av ah.length aw, .slice az aj.length aA, .slice aD al.length aE] 30 ?_; intro aH hg cp hbox hb; have ac := am hbox; have aI := gs1 hg HB ab; have af := gs1 hg HB ab; replace HB := s1 HB ab hb; have ad := nl hg aa; have ae := ng hg aa; replace aa := bb aa hb; clear hb hbox hg; have b9 := ad.out; have ca := ae.out; have bu := bz5 aa; have bw := bz5 ac) | ((with_reducible refine gate_callee (f := 70) rfl ?_); refine gl 19 Try.func70 #[.slice ar ag.length au, .slice av ah.length aw] ?_; (with_reducible refine (laws_eqItemS.calls k _ _ ag _ _ ah true _ (cb aJ HB) aK.out (cb aL HB) aN.out A5.out).mono ?_); rintro e cs ⟨rfl, hb⟩; refine ⟨_, rfl, ?_⟩; replace aa := bb aa hb; replace ac := bb ac hb; replace HB := s2 HB ab af hb; (try clear hb); have bz := bz5 aa; have bA := bz5 ac) | ((with_reducible refine gate_callee (f := 70) rfl ?_); refine gl 25 Try.func70 #[.slice ax ai.length ay, .slice az aj.length aA] ?_; (with_reducible refine (laws_eqItemS.calls k _ _ ai _ _ aj true _ (cb aU HB) aV.out (cb aW HB) aX.out A7.out).mono ?_); rintro e ct ⟨rfl, hb⟩; refine ⟨_, rfl, ?_⟩; replace aa := bb aa hb; replace ac := bb ac hb; replace HB := s2 HB ab af hb; (try clear hb); have bC := bz5 aa; have bD := bz5 ac) | ((with_reducible refine gate_callee (f := 71) rfl ?_); refine gl 31 Try.func71 #[.slice aB ak.length aC, .slice aD al.length aE] ?_; (with_reducible refine (laws_eqIntS.calls k _ _ ak _ _ al true _ (cb bo HB) bq.out (cb br HB) bs.out A9.out).mono ?_); rintro e w' ⟨rfl, ⟨nd, rfl⟩⟩; refine ⟨_, rfl, ?_⟩))
      go_ret
      exact ⟨er, be2 HB ab af⟩
     replace c10 := Bool.eq_false_iff.mpr c10; subst c10; rw [if_neg nf] at H; obtain rfl := Option.some.inj H
     go_enter Try.func20, Try.ntmps20
     go_wp2_with (first | ((with_reducible refine gate_dst (N := 2) rfl ?_); refine bx 2 #[.int .i64 an, .int .i64 ao, .slice ar ag.length au, .slice ax ai.length ay, .slice aB ak.length aC] 30 ?_; intro aF hg cu hbox hb; have aa := am hbox; have aG := gs0 hg HB; have ab := gs0 hg HB; replace HB := s0 HB hb; clear hb hbox hg) | ((with_reducible refine gate_dst (N := 3) rfl ?_); refine bx 3 #[.int .i64 ap, .int .i64 aq, .slice av ah.length aw, .slice az aj.length aA, .slice aD al.length aE] 30 ?_; intro aH hg cw hbox hb; have ac := am hbox; have aI := gs1 hg HB ab; have af := gs1 hg HB ab; replace HB := s1 HB ab hb; have ad := nl hg aa; have ae := ng hg aa; replace aa := bb aa hb; clear hb hbox hg; have cc := ad.out; have cd := ae.out; have bF := bz5 aa; have bG := bz5 ac) | ((with_reducible refine gate_callee (f := 70) rfl ?_); refine gl 19 Try.func70 #[.slice ar ag.length au, .slice av ah.length aw] ?_; (with_reducible refine (laws_eqItemS.calls k _ _ ag _ _ ah true _ (cb aJ HB) aK.out (cb aL HB) aN.out A5.out).mono ?_); rintro e cx ⟨rfl, hb⟩; refine ⟨_, rfl, ?_⟩; replace aa := bb aa hb; replace ac := bb ac hb; replace HB := s2 HB ab af hb; (try clear hb); have bH := bz5 aa; have bI := bz5 ac) | ((with_reducible refine gate_callee (f := 70) rfl ?_); refine gl 25 Try.func70 #[.slice ax ai.length ay, .slice az aj.length aA] ?_; (with_reducible refine (laws_eqItemS.calls k _ _ ai _ _ aj true _ (cb aU HB) aV.out (cb aW HB) aX.out A7.out).mono ?_); rintro e cy ⟨rfl, hb⟩; refine ⟨_, rfl, ?_⟩; replace aa := bb aa hb; replace ac := bb ac hb; replace HB := s2 HB ab af hb; (try clear hb); have bJ := bz5 aa; have bM := bz5 ac) | ((with_reducible refine gate_callee (f := 71) rfl ?_); refine gl 31 Try.func71 #[.slice aB ak.length aC, .slice aD al.length aE] ?_; (with_reducible refine (laws_eqIntS.calls k _ _ ak _ _ al false _ (cb bo HB) bq.out (cb br HB) bs.out A9.out).mono ?_); rintro e w' ⟨rfl, ⟨nd, rfl⟩⟩; refine ⟨_, rfl, ?_⟩))
     go_ret
     exact ⟨er, be2 HB ab af⟩
    replace c8 := Bool.eq_false_iff.mpr c8; subst c8; rw [if_neg nf] at H; obtain rfl := Option.some.inj H
    go_enter Try.func20, Try.ntmps20
    go_wp2_with (first | ((with_reducible refine gate_dst (N := 2) rfl ?_); refine bx 2 #[.int .i64 an, .int .i64 ao, .slice ar ag.length au, .slice ax ai.length ay, .slice aB ak.length aC] 30 ?_; intro aF hg cz hbox hb; have aa := am hbox; have aG := gs0 hg HB; have ab := gs0 hg HB; replace HB := s0 HB hb; clear hb hbox hg) | ((with_reducible refine gate_dst (N := 3) rfl ?_); refine bx 3 #[.int .i64 ap, .int .i64 aq, .slice av ah.length aw, .slice az aj.length aA, .slice aD al.length aE] 30 ?_; intro aH hg cA hbox hb; have ac := am hbox; have aI := gs1 hg HB ab; have af := gs1 hg HB ab; replace HB := s1 HB ab hb; have ad := nl hg aa; have ae := ng hg aa; replace aa := bb aa hb; clear hb hbox hg; have ce := ad.out; have cf := ae.out; have bN := bz5 aa; have bO := bz5 ac) | ((with_reducible refine gate_callee (f := 70) rfl ?_); refine gl 19 Try.func70 #[.slice ar ag.length au, .slice av ah.length aw] ?_; (with_reducible refine (laws_eqItemS.calls k _ _ ag _ _ ah true _ (cb aJ HB) aK.out (cb aL HB) aN.out A5.out).mono ?_); rintro e cC ⟨rfl, hb⟩; refine ⟨_, rfl, ?_⟩; replace aa := bb aa hb; replace ac := bb ac hb; replace HB := s2 HB ab af hb; (try clear hb); have bQ := bz5 aa; have bR := bz5 ac) | ((with_reducible refine gate_callee (f := 70) rfl ?_); refine gl 25 Try.func70 #[.slice ax ai.length ay, .slice az aj.length aA] ?_; (with_reducible refine (laws_eqItemS.calls k _ _ ai _ _ aj false _ (cb aU HB) aV.out (cb aW HB) aX.out A7.out).mono ?_); rintro e cD ⟨rfl, hb⟩; refine ⟨_, rfl, ?_⟩; replace aa := bb aa hb; replace ac := bb ac hb; replace HB := s2 HB ab af hb; (try clear hb)))
    go_ret
    exact ⟨er, be2 HB ab af⟩
   replace c6 := Bool.eq_false_iff.mpr c6; subst c6; rw [if_neg nf] at H; obtain rfl := Option.some.inj H
   go_enter Try.func20, Try.ntmps20
   go_wp2_with (first | ((with_reducible refine gate_dst (N := 2) rfl ?_); refine bx 2 #[.int .i64 an, .int .i64 ao, .slice ar ag.length au, .slice ax ai.length ay, .slice aB ak.length aC] 30 ?_; intro aF hg cE hbox hb; have aa := am hbox; have aG := gs0 hg HB; have ab := gs0 hg HB; replace HB := s0 HB hb; clear hb hbox hg) | ((with_reducible refine gate_dst (N := 3) rfl ?_); refine bx 3 #[.int .i64 ap, .int .i64 aq, .slice av ah.length aw, .slice az aj.length aA, .slice aD al.length aE] 30 ?_; intro aH hg cF hbox hb; have ac := am hbox; have aI := gs1 hg HB ab; have af := gs1 hg HB ab; replace HB := s1 HB ab hb; have ad := nl hg aa; have ae := ng hg aa; replace aa := bb aa hb; clear hb hbox hg; have cg := ad.out; have ci := ae.out; have bS := bz5 aa; have bU := bz5 ac) | ((with_reducible refine gate_callee (f := 70) rfl ?_); refine gl 19 Try.func70 #[.slice ar ag.length au, .slice av ah.length aw] ?_; (with_reducible refine (laws_eqItemS.calls k _ _ ag _ _ ah false _ (cb aJ HB) aK.out (cb aL HB) aN.out A5.out).mono ?_); rintro e cG ⟨rfl, hb⟩; refine ⟨_, rfl, ?_⟩; replace aa := bb aa hb; replace ac := bb ac hb; replace HB := s2 HB ab af hb; (try clear hb)))
   go_ret
   exact ⟨er, be2 HB ab af⟩
  rw [if_neg c4] at H; have b4 : (ao == aq) = false := beq_eq_false_iff_ne.mpr c4; have b5 : (ao != aq) = true := bne_iff_ne.mpr c4; obtain rfl := Option.some.inj H
  go_enter Try.func20, Try.ntmps20
  go_wp2_with (first | ((with_reducible refine gate_dst (N := 2) rfl ?_); refine bx 2 #[.int .i64 an, .int .i64 ao, .slice ar ag.length au, .slice ax ai.length ay, .slice aB ak.length aC] 30 ?_; intro aF hg cI hbox hb; have aa := am hbox; have aG := gs0 hg HB; have ab := gs0 hg HB; replace HB := s0 HB hb; clear hb hbox hg) | ((with_reducible refine gate_dst (N := 3) rfl ?_); refine bx 3 #[.int .i64 ap, .int .i64 aq, .slice av ah.length aw, .slice az aj.length aA, .slice aD al.length aE] 30 ?_; intro aH hg cK hbox hb; have ac := am hbox; have aI := gs1 hg HB ab; have af := gs1 hg HB ab; replace HB := s1 HB ab hb; have ad := nl hg aa; have ae := ng hg aa; replace aa := bb aa hb; clear hb hbox hg; have ck := ad.out; have cl := ae.out; have bW := bz5 aa; have bZ := bz5 ac))
  go_ret
  exact ⟨er, be2 HB ab af⟩
 rw [if_neg c3] at H; have b2 : (an == ap) = false := beq_eq_false_iff_ne.mpr c3; have b3 : (an != ap) = true := bne_iff_ne.mpr c3; obtain rfl := Option.some.inj H
 go_enter Try.func20, Try.ntmps20
 go_wp2_with (first | ((with_reducible refine gate_dst (N := 2) rfl ?_); refine bx 2 #[.int .i64 an, .int .i64 ao, .slice ar ag.length au, .slice ax ai.length ay, .slice aB ak.length aC] 30 ?_; intro aF hg cL hbox hb; have aa := am hbox; have aG := gs0 hg HB; have ab := gs0 hg HB; replace HB := s0 HB hb; clear hb hbox hg) | ((with_reducible refine gate_dst (N := 3) rfl ?_); refine bx 3 #[.int .i64 ap, .int .i64 aq, .slice av ah.length aw, .slice az aj.length aA, .slice aD al.length aE] 30 ?_; intro aH hg cM hbox hb; have ac := am hbox; have aI := gs1 hg HB ab; have af := gs1 hg HB ab; replace HB := s1 HB ab hb; have ad := nl hg aa; have ae := ng hg aa; replace aa := bb aa hb; clear hb hbox hg; have cm := ad.out; have cn := ae.out; have b0 := bz5 aa; have b1 := bz5 ac))
 go_ret
 exact ⟨er, be2 HB ab af⟩

/-! ### laws_markText: function 100 -/
def laws_markText.l0 : Nat → Int → ByteArray → Option (ByteArray)
 | 0, _, _ => none
 | k + 1, x0, x3 => if x0 > 0 then ((some (([(wrap64 (48 + (Int.tmod x0 10))) % 256] : List Int) : List Int)).bind fun ac => (if (strOfNums ac).size + x3.size ≤ 9223372036854775807 then (laws_markText.l0 k (wrap64 (Int.tdiv x0 10)) ((strOfNums ac) ++ x3)) else (none))) else (if 1 + x3.size ≤ 9223372036854775807 then (some ((⟨#[109]⟩ : ByteArray) ++ x3)) else (none))
def laws_markText.f (k : Nat) (a0 : Int) : Option (ByteArray) := if a0 ≤ 0 then (some (⟨#[109, 48]⟩ : ByteArray)) else (laws_markText.l0 k a0 (⟨#[]⟩ : ByteArray))
theorem laws_markText.mono_l : ∀ k, (∀ y0 y1, LeO (laws_markText.l0 k y0 y1) (laws_markText.l0 (k + 1) y0 y1))
 | 0 => fun _ _ r h => by simp [laws_markText.l0] at h
 | k + 1 => by
  have af := laws_markText.mono_l k
  ·intro y0 y1; unfold laws_markText.l0
   repeat' first | (with_reducible first | apply af | apply lr | apply ln | apply li | refine lb ?_ fun _ => ?_) | apply af | apply ln | apply li | refine lb ?_ fun _ => ?_
theorem laws_markText.mono : ∀ a0 k, LeO (laws_markText.f k a0) (laws_markText.f (k + 1) a0) := by
 intro a0 k; have af := laws_markText.mono_l k; unfold laws_markText.f
 repeat' first | (with_reducible first | apply af | apply lr | apply ln | apply li | refine lb ?_ fun _ => ?_) | apply af | apply ln | apply li | refine lb ?_ fun _ => ?_
set_option maxHeartbeats 8000000 in
set_option maxRecDepth 100000 in
theorem laws_markText.calls (k : Nat) (a0 : Int) (r : ByteArray) (w : World) (h : laws_markText.f k a0 = some r) :
  Calls Try.prog 100 #[.int .i64 a0] w fun e w' => e = .returned (.string r) ∧ Below w.heap.size w w' := by
 have HB := Aside0.mk (Below.refl w.heap.size w); have H : (if a0 ≤ 0 then (some (⟨#[109, 48]⟩ : ByteArray)) else (laws_markText.l0 k a0 (⟨#[]⟩ : ByteArray))) = some r := h; clear h
 by_cases c2 : a0 ≤ 0
 ·rw [if_pos c2] at H; have ag : decide (a0 ≤ 0) = true := decide_eq_true c2; clear c2; obtain rfl := Option.some.inj H
  go_enter Try.func100, Try.ntmps100
  go_wp2
  go_ret
  exact ⟨er, be HB⟩
 rw [if_neg c2] at H; have ag : decide (a0 ≤ 0) = false := decide_eq_false c2; clear c2; have H' := Aside0.mk H; clear H
 go_enter Try.func100, Try.ntmps100
 go_wp2
 go_loopg [0, 3] k (fun kq v0 v3 w' => ∃ (aa : Int) (ab : ByteArray), v0 = .int .i64 aa ∧ v3 = .string ab ∧ Aside0 (laws_markText.l0 kq aa ab = some r) ∧ Aside0 (kq ≤ k) ∧ Aside0 (Below w.heap.size w w'))
 case atStart => exact ⟨(a0), ((⟨#[]⟩ : ByteArray)), rs, rs, H', ⟨Nat.le_refl _⟩, ⟨be HB⟩⟩
 case round =>
  clear H'
  try clear c1; try clear c2; try clear ag; try clear p2
  obtain ⟨aa, ab, rfl, rfl, HA, al, HB⟩ := hrel
  cases gk with
  | zero => exact absurd HA.out (by simp [laws_markText.l0])
  | succ k1 =>
   have H := HA.out; clear HA; simp only [laws_markText.l0] at H
   by_cases c3 : aa > 0
   ·rw [if_pos c3] at H; have aj : decide (0 < aa) = true := decide_eq_true c3; clear c3; obtain ⟨ac, ad, H⟩ := oy H; have ae := Aside0.mk ad; clear ad
    by_cases c4 : (strOfNums ac).size + ab.size ≤ 9223372036854775807
    ·rw [if_pos c4] at H; have an := eq_true c4; have ao : decide ((strOfNums ac).size + ab.size ≤ 9223372036854775807) = true := decide_eq_true c4
     try have ap : (9223372036854775807 < (strOfNums ac).size + ab.size) = False := eq_false (Nat.not_lt.2 c4)
     have H' := Aside0.mk H; clear H
     go_wp2_with (first | ((with_reducible refine gate_dst (N := 12) rfl ?_); refine Kd.R_lit (Kd.int .u8) _ 5 ?hg (N := 12) ?hd (xs := ([(wrap64 (48 + (Int.tmod aa 10))) % 256] : List Int)) (inner := [.int .u8 ((wrap64 (48 + (Int.tmod aa 10))) % 256)]) (ok := fun _ => True) (okp := fun _ => True) ?hr ?hp (fun _ hk => hk) trivial (Below.refl _ _) (Nat.le_refl _) (by simp) ?_; (case hd => rfl); (case hg => rfl); (case hr => first | (go_simp; done) | (go_simp; rfl)); (case hp => exact (Reps.one (show Kd.M (Kd.int .u8) _ _ _ ((wrap64 (48 + (Int.tmod aa 10))) % 256) [.int .u8 ((wrap64 (48 + (Int.tmod aa 10))) % 256)] from rfl) (Reps.none _ _))); intro aq w5 ah hb hg_ hnew_; clear hg_ hnew_; (first | rw [← ae.out] at ah | (simp only [Int.reduceToNat] at ah; rw [← ae.out] at ah)); have ai := Aside0.mk (Kd.R_lower ah (below_size (be HB))); replace HB := s0 HB hb; clear hb ah; have ar := own_string (P := Try.prog) Try.underlying62 Try.underlying5 Try.underlying9 (Kd.own_of_R ai.out)))
     go_roundg k1
     case measure => have := al.out; omega
     case rel => exact ⟨(wrap64 (Int.tdiv aa 10)), ((strOfNums ac) ++ ab), rs, rs, H', ⟨by have := al.out; omega⟩, ⟨be HB⟩⟩
    rw [if_neg c4] at H; exact absurd H (by simp)
   rw [if_neg c3] at H; have aj : decide (0 < aa) = false := decide_eq_false c3; clear c3
   by_cases c8 : 1 + ab.size ≤ 9223372036854775807
   ·rw [if_pos c8] at H; have au := eq_true c8; have av : decide (1 + ab.size ≤ 9223372036854775807) = true := decide_eq_true c8
    try have aw : (9223372036854775807 < 1 + ab.size) = False := eq_false (Nat.not_lt.2 c8)
    obtain rfl := Option.some.inj H
    go_wp2
    go_ret
    exact ⟨er, be HB⟩
   rw [if_neg c8] at H; exact absurd H (by simp)

end Go.Proofs.Ytfjhkediaholmaa.QFnExactPut
