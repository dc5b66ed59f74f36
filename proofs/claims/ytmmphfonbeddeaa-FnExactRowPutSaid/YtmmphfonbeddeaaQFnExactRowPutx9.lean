-- made by a program of this session (myprint.py)
import Derived.Test.YtmmphfonbeddeaaQFnExactRowPutx0
import Derived.Test.YtmmphfonbeddeaaQFnExactRowPutx8
namespace Go.Proofs.Ytmmphfonbeddeaa.QFnExactRowPut
open Go.RowKit Go.Proofs.YtmmphfonbeddeaaW.PrintWords Go.Proofs.YtmmphfonbeddeaaW.PrintLast Go.Proofs.YtmmphfonbeddeaaW.PrintMore
attribute [local go_sem] max2_int min2_int max_two min_two max_three min_three max_four min_four   -- for this text's walks alone
set_option linter.unusedVariables false
set_option linter.unusedSimpArgs false

/-! ### laws_eqItemS: function 26 -/
def laws_eqItemS.l0 : Nat → List (S42) → List (S42) → Int → Option (Bool)
 | 0, _, _, _ => none
 | k + 1, x0, x1, x5 => if x5 < (x0.length : Int) then (if 0 ≤ x5 then (if x5 < (x1.length : Int) then ((laws_eqItem.f ((rd_T42 x0 x5).f0) ((rd_T42 x0 x5).f1) ((rd_T42 x0 x5).f2) ((rd_T42 x1 x5).f0) ((rd_T42 x1 x5).f1) ((rd_T42 x1 x5).f2)).bind fun ax => (if ax = true then (laws_eqItemS.l0 k x0 x1 (wrap64 (x5 + 1))) else (some false))) else (none)) else (none)) else (some true)
def laws_eqItemS.f (k : Nat) (l0 : List (S42)) (l1 : List (S42)) : Option (Bool) := if (l0.length : Int) = (l1.length : Int) then (laws_eqItemS.l0 k l0 l1 0) else (some false)
theorem laws_eqItemS.mono_l : ∀ k, (∀ y0 y1 y2, LeO (laws_eqItemS.l0 k y0 y1 y2) (laws_eqItemS.l0 (k + 1) y0 y1 y2))
 | 0 => fun _ _ _ r h => by simp [laws_eqItemS.l0] at h
 | k + 1 => by
  have aA := laws_eqItemS.mono_l k
  ·intro y0 y1 y2; unfold laws_eqItemS.l0
   repeat' first | (with_reducible first | apply aA | apply lr | apply ln | apply li | refine lb ?_ fun _ => ?_) | apply aA | apply ln | apply li | refine lb ?_ fun _ => ?_
theorem laws_eqItemS.mono : ∀ a0 a1 k, LeO (laws_eqItemS.f k a0 a1) (laws_eqItemS.f (k + 1) a0 a1) := by
 intro a0 a1 k; have aA := laws_eqItemS.mono_l k; unfold laws_eqItemS.f
 repeat' first | (with_reducible first | apply aA | apply lr | apply ln | apply li | refine lb ?_ fun _ => ?_) | apply aA | apply ln | apply li | refine lb ?_ fun _ => ?_
def laws_eqItemS.T6 : Bool × List (List Nat × List Nat) := (true, [([], []), ([], []), ([0, 1], [0, 1]), ([2], [2]), ([], []), ([], []), ([4, 5], [4, 5]), ([6], [6]), ([3, 7], [3, 7]), ([8], [8])])
def laws_eqItemS.B6 : List Nat := [0, 0, 3, 7, 0, 0, 48, 112, 255, 511]
theorem laws_eqItemS.tab6 : rtab .any (opsOf Try.f26 6) = laws_eqItemS.T6 := by kernel_rfl
theorem laws_eqItemS.bits6 : waitsOk laws_eqItemS.T6.2 laws_eqItemS.B6 = true := by kernel_rfl
set_option maxHeartbeats 8000000 in
set_option maxRecDepth 100000 in
theorem laws_eqItemS.calls (k : Nat) (A0 : Option Addr) (c0 : Nat) (l0 : List (S42)) (A1 : Option Addr) (c1 : Nat) (l1 : List (S42)) (r : Bool) (w : World) (aF : Kd.C k42 w A0 l0.length l0) (aG : l0.length ≤ c0) (aH : Kd.C k42 w A1 l1.length l1) (aI : l1.length ≤ c1) (h : laws_eqItemS.f k l0 l1 = some r) :
  Calls Try.prog 26 #[.slice A0 l0.length c0, .slice A1 l1.length c1] w fun e w' => e = .returned (.bool r) ∧ Below w.heap.size w w' := by
 have hu42 := Try.underlying42; have aJ := Aside0.mk aF; have aV := Aside0.mk aG; clear aF aG; have aK := Aside0.mk aH; have aW := Aside0.mk aI; clear aH aI; have HB := Aside0.mk (Below.refl w.heap.size w); have H : (if (l0.length : Int) = (l1.length : Int) then (laws_eqItemS.l0 k l0 l1 0) else (some false)) = some r := h; clear h
 by_cases c3 : (l0.length : Int) = (l1.length : Int)
 ·rw [if_pos c3] at H; have aB : ((l0.length : Int) == (l1.length : Int)) = true := beq_iff_eq.mpr c3; have aC : ((l0.length : Int) != (l1.length : Int)) = false := bne_eq_false_iff_eq.mpr c3; have aD : (l0.length == l1.length) = true := by first | simpa using c3 | (simp at c3 ⊢; omega)
  clear c3; have H' := Aside0.mk H; clear H
  go_enter Try.func26, Try.ntmps26
  go_wp2
  go_loopg [5] k (fun kq v5 w' => ∃ (aa : Int), v5 = .int .i64 aa ∧ Aside0 (laws_eqItemS.l0 kq l0 l1 aa = some r) ∧ Aside0 (kq ≤ k) ∧ Aside0 (Below w.heap.size w w'))
  case atStart => exact ⟨(0), rs, H', ⟨Nat.le_refl _⟩, ⟨be HB⟩⟩
  case round =>
   clear H'
   try clear c1; try clear c2; try clear p2; try clear c3; try clear aB; try clear aC; try clear aD
   obtain ⟨aa, rfl, HA, aL, HB⟩ := hrel
   cases gk with
   | zero => exact absurd HA.out (by simp [laws_eqItemS.l0])
   | succ k1 =>
    have H := HA.out; clear HA; simp only [laws_eqItemS.l0] at H
    by_cases c4 : aa < (l0.length : Int)
    ·rw [if_pos c4] at H; have aE : decide (aa < (l0.length : Int)) = true := decide_eq_true c4; clear c4
     by_cases c5 : 0 ≤ aa
     ·rw [if_pos c5] at H; have aO : decide (0 ≤ aa) = true := decide_eq_true c5; clear c5
      by_cases c6 : aa < (l1.length : Int)
      ·rw [if_pos c6] at H; have aQ : decide (aa < (l1.length : Int)) = true := decide_eq_true c6; clear c6; obtain ⟨ax, A7, H⟩ := ob H
       try dsimp only at H
       by_cases c8 : ax = true
       ·subst c8; rw [if_pos rfl] at H; have H' := Aside0.mk H; clear H
        try go_wp2
        replace HB := eL HB; have aq : 0 ≤ (aa : Int) := od; have ar : aa < (l0.length : Int) := od; obtain ⟨ah, ay, ab, ac, ad⟩ := at_T42 aJ.out aa aq ar; have aj := ad; have ak := ac; have al := ab; cases ay; replace ab := hc HB ab; replace ac := hc HB ac; replace ad := hc HB ad; replace aq := eq_true aq; replace ar := eq_true ar; have au : 0 ≤ (aa : Int) := od; have av : aa < (l1.length : Int) := od; obtain ⟨ai, az, ae, af, ag⟩ := at_T42 aK.out aa au av; have an := ag; have ao := af; have ap := ae; cases az; replace ae := hc HB ae; replace af := hc HB af; replace ag := hc HB ag; replace au := eq_true au; replace av := eq_true av; refine start_ (n := 10) (S := fun w' => w'.cell? (ah.add ((aa).toNat * 3)) = some (.string ((rd_T42 l0 aa).f0)) ∧ w'.cell? ⟨(ah.add ((aa).toNat * 3)).block, (ah.add ((aa).toNat * 3)).off + 1, none⟩ = some (.string ((rd_T42 l0 aa).f1)) ∧ w'.cell? ⟨(ah.add ((aa).toNat * 3)).block, (ah.add ((aa).toNat * 3)).off + 2, none⟩ = some (.int .i64 ((rd_T42 l0 aa).f2)) ∧ w'.cell? (ai.add ((aa).toNat * 3)) = some (.string ((rd_T42 l1 aa).f0)) ∧ w'.cell? ⟨(ai.add ((aa).toNat * 3)).block, (ai.add ((aa).toNat * 3)).off + 1, none⟩ = some (.string ((rd_T42 l1 aa).f1)) ∧ w'.cell? ⟨(ai.add ((aa).toNat * 3)).block, (ai.add ((aa).toNat * 3)).off + 2, none⟩ = some (.int .i64 ((rd_T42 l1 aa).f2))) (ds := []) (bv 10 0x0) (by kernel_rfl) rfl rfl ⟨(hc HB al), (hc HB ak), (hc HB aj), (hc HB ap), (hc HB ao), (hc HB an)⟩ (fun hHeld => ?_); refine with_tabW laws_eqItemS.tab6 laws_eqItemS.bits6 (fun HT_ HW_ => ?_); (first | ((conv in (World.drew (World.drewN wr _)) => skip); generalize hqw_ : World.drew (World.drewN wr _) = w9 at hHeld ⊢; replace HB := Aside0.mk (Go.Proofs.Ytmmphfonbeddeaa.Mo.below_to hqw_ HB.out); replace ab := Go.Proofs.Ytmmphfonbeddeaa.Mo.cell_to hqw_ ab; replace ac := Go.Proofs.Ytmmphfonbeddeaa.Mo.cell_to hqw_ ac; replace ad := Go.Proofs.Ytmmphfonbeddeaa.Mo.cell_to hqw_ ad; replace ae := Go.Proofs.Ytmmphfonbeddeaa.Mo.cell_to hqw_ ae; replace af := Go.Proofs.Ytmmphfonbeddeaa.Mo.cell_to hqw_ af; replace ag := Go.Proofs.Ytmmphfonbeddeaa.Mo.cell_to hqw_ ag; clear hqw_) | generalize wr.drew = w9 at HB ab ac ad ae af ag hHeld ⊢); refine py HT_ 0 17 (bv 10 0x1) ?_; refine py HT_ 1 18 (bv 10 0x3) ?_; refine py HT_ 2 19 (bv 10 0x7) ?_; refine py HT_ 4 21 (bv 10 0x17) ?_; refine py HT_ 5 22 (bv 10 0x37) ?_; refine py HT_ 6 23 (bv 10 0x77) ?_; refine tk HT_ HW_ hHeld 3 20 (bv 10 0x7f) ?_; refine tk HT_ HW_ hHeld 7 24 (bv 10 0xff) ?_; refine oh HT_ 8 (some 25) (bv 10 0x1ff) fun K hK => ?_; refine gz Try.func42 #[.agg #[.string ((rd_T42 l0 aa).f0), .string ((rd_T42 l0 aa).f1), .int .i64 ((rd_T42 l0 aa).f2)], .agg #[.string ((rd_T42 l1 aa).f0), .string ((rd_T42 l1 aa).f1), .int .i64 ((rd_T42 l1 aa).f2)]] ?_
        with_reducible refine (laws_eqItem.calls ((rd_T42 l0 aa).f0) ((rd_T42 l0 aa).f1) ((rd_T42 l0 aa).f2) ((rd_T42 l1 aa).f0) ((rd_T42 l1 aa).f1) ((rd_T42 l1 aa).f2) true _ A7.out).mono ?_
        rintro e aX ⟨rfl, hb⟩; refine ⟨_, rfl, ?_⟩; replace HB := s0 HB hb; (try clear hb); (try clear aR); (try clear hk); (try clear hi); refine hK.out _ _ ⟨(hc HB al), (hc HB ak), (hc HB aj), (hc HB ap), (hc HB ao), (hc HB an)⟩ (fun hHeld => ?_); clear hK K; refine nx ?_
        refine py HT_ 9 26 (bv 10 0x3ff) ?_; refine dh HT_ ?_
        try go_wp2
        go_roundg k1
        case measure => have := aL.out; omega
        case rel => exact ⟨(wrap64 (aa + 1)), rs, H', ⟨by have := aL.out; omega⟩, ⟨be HB⟩⟩
       replace c8 := Bool.eq_false_iff.mpr c8; subst c8; rw [if_neg nf] at H; obtain rfl := Option.some.inj H
       try go_wp2
       replace HB := eL HB; have aq : 0 ≤ (aa : Int) := od; have ar : aa < (l0.length : Int) := od; obtain ⟨ah, ay, ab, ac, ad⟩ := at_T42 aJ.out aa aq ar; have aj := ad; have ak := ac; have al := ab; cases ay; replace ab := hc HB ab; replace ac := hc HB ac; replace ad := hc HB ad; replace aq := eq_true aq; replace ar := eq_true ar; have au : 0 ≤ (aa : Int) := od; have av : aa < (l1.length : Int) := od; obtain ⟨ai, az, ae, af, ag⟩ := at_T42 aK.out aa au av; have an := ag; have ao := af; have ap := ae; cases az; replace ae := hc HB ae; replace af := hc HB af; replace ag := hc HB ag; replace au := eq_true au; replace av := eq_true av; refine start_ (n := 10) (S := fun w' => w'.cell? (ah.add ((aa).toNat * 3)) = some (.string ((rd_T42 l0 aa).f0)) ∧ w'.cell? ⟨(ah.add ((aa).toNat * 3)).block, (ah.add ((aa).toNat * 3)).off + 1, none⟩ = some (.string ((rd_T42 l0 aa).f1)) ∧ w'.cell? ⟨(ah.add ((aa).toNat * 3)).block, (ah.add ((aa).toNat * 3)).off + 2, none⟩ = some (.int .i64 ((rd_T42 l0 aa).f2)) ∧ w'.cell? (ai.add ((aa).toNat * 3)) = some (.string ((rd_T42 l1 aa).f0)) ∧ w'.cell? ⟨(ai.add ((aa).toNat * 3)).block, (ai.add ((aa).toNat * 3)).off + 1, none⟩ = some (.string ((rd_T42 l1 aa).f1)) ∧ w'.cell? ⟨(ai.add ((aa).toNat * 3)).block, (ai.add ((aa).toNat * 3)).off + 2, none⟩ = some (.int .i64 ((rd_T42 l1 aa).f2))) (ds := []) (bv 10 0x0) (by kernel_rfl) rfl rfl ⟨(hc HB al), (hc HB ak), (hc HB aj), (hc HB ap), (hc HB ao), (hc HB an)⟩ (fun hHeld => ?_); refine with_tabW laws_eqItemS.tab6 laws_eqItemS.bits6 (fun HT_ HW_ => ?_); (first | ((conv in (World.drew (World.drewN wr _)) => skip); generalize hqw_ : World.drew (World.drewN wr _) = aU at hHeld ⊢; replace HB := Aside0.mk (Go.Proofs.Ytmmphfonbeddeaa.Mo.below_to hqw_ HB.out); replace ab := Go.Proofs.Ytmmphfonbeddeaa.Mo.cell_to hqw_ ab; replace ac := Go.Proofs.Ytmmphfonbeddeaa.Mo.cell_to hqw_ ac; replace ad := Go.Proofs.Ytmmphfonbeddeaa.Mo.cell_to hqw_ ad; replace ae := Go.Proofs.Ytmmphfonbeddeaa.Mo.cell_to hqw_ ae; replace af := Go.Proofs.Ytmmphfonbeddeaa.Mo.cell_to hqw_ af; replace ag := Go.Proofs.Ytmmphfonbeddeaa.Mo.cell_to hqw_ ag; clear hqw_) | generalize wr.drew = aU at HB ab ac ad ae af ag hHeld ⊢); refine py HT_ 0 17 (bv 10 0x1) ?_; refine py HT_ 1 18 (bv 10 0x3) ?_; refine py HT_ 2 19 (bv 10 0x7) ?_; refine py HT_ 4 21 (bv 10 0x17) ?_; refine py HT_ 5 22 (bv 10 0x37) ?_; refine py HT_ 6 23 (bv 10 0x77) ?_; refine tk HT_ HW_ hHeld 3 20 (bv 10 0x7f) ?_; refine tk HT_ HW_ hHeld 7 24 (bv 10 0xff) ?_; refine oh HT_ 8 (some 25) (bv 10 0x1ff) fun K hK => ?_; refine gz Try.func42 #[.agg #[.string ((rd_T42 l0 aa).f0), .string ((rd_T42 l0 aa).f1), .int .i64 ((rd_T42 l0 aa).f2)], .agg #[.string ((rd_T42 l1 aa).f0), .string ((rd_T42 l1 aa).f1), .int .i64 ((rd_T42 l1 aa).f2)]] ?_
       with_reducible refine (laws_eqItem.calls ((rd_T42 l0 aa).f0) ((rd_T42 l0 aa).f1) ((rd_T42 l0 aa).f2) ((rd_T42 l1 aa).f0) ((rd_T42 l1 aa).f1) ((rd_T42 l1 aa).f2) false _ A7.out).mono ?_
       rintro e aY ⟨rfl, hb⟩; refine ⟨_, rfl, ?_⟩; replace HB := s0 HB hb; (try clear hb); (try clear aR); (try clear hk); (try clear hi); refine hK.out _ _ ⟨(hc HB al), (hc HB ak), (hc HB aj), (hc HB ap), (hc HB ao), (hc HB an)⟩ (fun hHeld => ?_); clear hK K; refine nx ?_
       refine py HT_ 9 26 (bv 10 0x3ff) ?_; refine dh HT_ ?_
       try go_wp2
       go_ret
       exact ⟨er, be HB⟩
      rw [if_neg c6] at H; exact absurd H (by simp)
     rw [if_neg c5] at H; exact absurd H (by simp)
    rw [if_neg c4] at H; have aE : decide (aa < (l0.length : Int)) = false := decide_eq_false c4; clear c4; obtain rfl := Option.some.inj H
    go_wp2
    go_ret
    exact ⟨er, be HB⟩
 rw [if_neg c3] at H; have aB : ((l0.length : Int) == (l1.length : Int)) = false := beq_eq_false_iff_ne.mpr c3; have aC : ((l0.length : Int) != (l1.length : Int)) = true := bne_iff_ne.mpr c3; have aD : (l0.length == l1.length) = false := by first | simpa using c3 | (simp at c3 ⊢; omega)
 obtain rfl := Option.some.inj H
 go_enter Try.func26, Try.ntmps26
 go_wp2
 go_ret
 exact ⟨er, be HB⟩

/-! ### laws_eqRow: function 8 -/
def laws_eqRow.f (k : Nat) (ah : Int) (ai : Int) (af : List (S42)) (aj : Int) (ak : Int) (ag : List (S42)) : Option (Bool) := if ah = aj then (if ai = ak then ((laws_eqItemS.f k af ag).bind fun ar => (if ar = true then (some true) else (some false))) else (some false)) else (some false)
theorem laws_eqRow.mono : ∀ a0 a1 a2 a3 a4 a5 k, LeO (laws_eqRow.f k a0 a1 a2 a3 a4 a5) (laws_eqRow.f (k + 1) a0 a1 a2 a3 a4 a5) := by
 intro a0 a1 a2 a3 a4 a5 k; unfold laws_eqRow.f
 repeat' first | (with_reducible first | apply laws_eqItemS.mono | apply lr | apply ln | apply li | refine lb ?_ fun _ => ?_) | apply ln | apply li | refine lb ?_ fun _ => ?_
set_option maxHeartbeats 8000000 in
set_option maxRecDepth 100000 in
theorem laws_eqRow.calls (k : Nat) (ah : Int) (ai : Int) (an : Option Addr) (ao : Nat) (af : List (S42)) (aj : Int) (ak : Int) (ap : Option Addr) (aq : Nat) (ag : List (S42)) (r : Bool) (w : World) (ay : Kd.C k42 w an af.length af) (az : af.length ≤ ao) (aA : Kd.C k42 w ap ag.length ag) (aB : ag.length ≤ aq) (h : laws_eqRow.f k ah ai af aj ak ag = some r) :
  Calls Try.prog 8 #[.agg #[.int .i64 ah, .int .i64 ai, .slice an af.length ao], .agg #[.int .i64 aj, .int .i64 ak, .slice ap ag.length aq]] w fun e w' => e = .returned (.bool r) ∧ Below w.heap.size w w' := by
 have hu28 := Try.underlying28; have aC := Aside0.mk ay; have aD := Aside0.mk az; clear ay az; have aE := Aside0.mk aA; have aF := Aside0.mk aB; clear aA aB; have HB := Aside0.mk (Below.refl w.heap.size w); have H : (if ah = aj then (if ai = ak then ((laws_eqItemS.f k af ag).bind fun ar => (if ar = true then (some true) else (some false))) else (some false)) else (some false)) = some r := h; clear h
 by_cases c3 : ah = aj
 ·rw [if_pos c3] at H; have aQ : (ah == aj) = true := beq_iff_eq.mpr c3; have aR : (ah != aj) = false := bne_eq_false_iff_eq.mpr c3; clear c3
  by_cases c4 : ai = ak
  ·rw [if_pos c4] at H; have aU : (ai == ak) = true := beq_iff_eq.mpr c4; have aV : (ai != ak) = false := bne_eq_false_iff_eq.mpr c4; clear c4; obtain ⟨ar, A5, H⟩ := ob H
   try dsimp only at H
   by_cases c6 : ar = true
   ·subst c6; rw [if_pos rfl] at H; obtain rfl := Option.some.inj H
    go_enter Try.func8, Try.ntmps8
    go_wp2_with (first | ((with_reducible refine gate_dst (N := 2) rfl ?_); refine bx 2 #[.int .i64 ah, .int .i64 ai, .slice an af.length ao] 28 ?_; intro au hg w7 hbox hb; have aa := am hbox; have av := gs0 hg HB; have ab := gs0 hg HB; replace HB := s0 HB hb; clear hb hbox hg) | ((with_reducible refine gate_dst (N := 3) rfl ?_); refine bx 3 #[.int .i64 aj, .int .i64 ak, .slice ap ag.length aq] 28 ?_; intro aw hg w8 hbox hb; have ae := am hbox; have ax := gs1 hg HB ab; have al := gs1 hg HB ab; replace HB := s1 HB ab hb; have ac := nl hg aa; have ad := ng hg aa; replace aa := bb aa hb; clear hb hbox hg; have a9 := ac.out; have ba := ad.out; have aG := bz3 aa; have aH := bz3 ae) | ((with_reducible refine gate_callee (f := 26) rfl ?_); refine gl 19 Try.func26 #[.slice an af.length ao, .slice ap ag.length aq] ?_; (with_reducible refine (laws_eqItemS.calls k _ _ af _ _ ag true _ (cb aC HB) aD.out (cb aE HB) aF.out A5.out).mono ?_); rintro e bc ⟨rfl, hb⟩; refine ⟨_, rfl, ?_⟩; replace aa := bb aa hb; replace ae := bb ae hb; replace HB := s2 HB ab al hb; (try clear hb)))
    go_ret
    exact ⟨er, be2 HB ab al⟩
   replace c6 := Bool.eq_false_iff.mpr c6; subst c6; rw [if_neg nf] at H; obtain rfl := Option.some.inj H
   go_enter Try.func8, Try.ntmps8
   go_wp2_with (first | ((with_reducible refine gate_dst (N := 2) rfl ?_); refine bx 2 #[.int .i64 ah, .int .i64 ai, .slice an af.length ao] 28 ?_; intro au hg bd hbox hb; have aa := am hbox; have av := gs0 hg HB; have ab := gs0 hg HB; replace HB := s0 HB hb; clear hb hbox hg) | ((with_reducible refine gate_dst (N := 3) rfl ?_); refine bx 3 #[.int .i64 aj, .int .i64 ak, .slice ap ag.length aq] 28 ?_; intro aw hg bf hbox hb; have ae := am hbox; have ax := gs1 hg HB ab; have al := gs1 hg HB ab; replace HB := s1 HB ab hb; have ac := nl hg aa; have ad := ng hg aa; replace aa := bb aa hb; clear hb hbox hg; have aX := ac.out; have aY := ad.out; have aI := bz3 aa; have aJ := bz3 ae) | ((with_reducible refine gate_callee (f := 26) rfl ?_); refine gl 19 Try.func26 #[.slice an af.length ao, .slice ap ag.length aq] ?_; (with_reducible refine (laws_eqItemS.calls k _ _ af _ _ ag false _ (cb aC HB) aD.out (cb aE HB) aF.out A5.out).mono ?_); rintro e bg ⟨rfl, hb⟩; refine ⟨_, rfl, ?_⟩; replace aa := bb aa hb; replace ae := bb ae hb; replace HB := s2 HB ab al hb; (try clear hb)))
   go_ret
   exact ⟨er, be2 HB ab al⟩
  rw [if_neg c4] at H; have aU : (ai == ak) = false := beq_eq_false_iff_ne.mpr c4; have aV : (ai != ak) = true := bne_iff_ne.mpr c4; obtain rfl := Option.some.inj H
  go_enter Try.func8, Try.ntmps8
  go_wp2_with (first | ((with_reducible refine gate_dst (N := 2) rfl ?_); refine bx 2 #[.int .i64 ah, .int .i64 ai, .slice an af.length ao] 28 ?_; intro au hg bh hbox hb; have aa := am hbox; have av := gs0 hg HB; have ab := gs0 hg HB; replace HB := s0 HB hb; clear hb hbox hg) | ((with_reducible refine gate_dst (N := 3) rfl ?_); refine bx 3 #[.int .i64 aj, .int .i64 ak, .slice ap ag.length aq] 28 ?_; intro aw hg bi hbox hb; have ae := am hbox; have ax := gs1 hg HB ab; have al := gs1 hg HB ab; replace HB := s1 HB ab hb; have ac := nl hg aa; have ad := ng hg aa; replace aa := bb aa hb; clear hb hbox hg; have aZ := ac.out; have a6 := ad.out; have aK := bz3 aa; have aL := bz3 ae))
  go_ret
  exact ⟨er, be2 HB ab al⟩
 rw [if_neg c3] at H; have aQ : (ah == aj) = false := beq_eq_false_iff_ne.mpr c3; have aR : (ah != aj) = true := bne_iff_ne.mpr c3; obtain rfl := Option.some.inj H
 go_enter Try.func8, Try.ntmps8
 go_wp2_with (first | ((with_reducible refine gate_dst (N := 2) rfl ?_); refine bx 2 #[.int .i64 ah, .int .i64 ai, .slice an af.length ao] 28 ?_; intro au hg bj hbox hb; have aa := am hbox; have av := gs0 hg HB; have ab := gs0 hg HB; replace HB := s0 HB hb; clear hb hbox hg) | ((with_reducible refine gate_dst (N := 3) rfl ?_); refine bx 3 #[.int .i64 aj, .int .i64 ak, .slice ap ag.length aq] 28 ?_; intro aw hg bm hbox hb; have ae := am hbox; have ax := gs1 hg HB ab; have al := gs1 hg HB ab; replace HB := s1 HB ab hb; have ac := nl hg aa; have ad := ng hg aa; replace aa := bb aa hb; clear hb hbox hg; have a7 := ac.out; have a8 := ad.out; have aN := bz3 aa; have aO := bz3 ae))
 go_ret
 exact ⟨er, be2 HB ab al⟩

/-! ### laws_eqStringS: function 9 -/
def laws_eqStringS.l0 : Nat → List ByteArray → List ByteArray → Int → Option (Bool)
 | 0, _, _, _ => none
 | k + 1, x0, x1, x5 => if x5 < (x0.length : Int) then (if 0 ≤ x5 then (if x5 < (x1.length : Int) then (if (rdOf ByteArray.empty x0 x5).toList = (rdOf ByteArray.empty x1 x5).toList then (laws_eqStringS.l0 k x0 x1 (wrap64 (x5 + 1))) else (some false)) else (none)) else (none)) else (some true)
def laws_eqStringS.f (k : Nat) (l0 : List ByteArray) (l1 : List ByteArray) : Option (Bool) := if (l0.length : Int) = (l1.length : Int) then (laws_eqStringS.l0 k l0 l1 0) else (some false)
theorem laws_eqStringS.mono_l : ∀ k, (∀ y0 y1 y2, LeO (laws_eqStringS.l0 k y0 y1 y2) (laws_eqStringS.l0 (k + 1) y0 y1 y2))
 | 0 => fun _ _ _ r h => by simp [laws_eqStringS.l0] at h
 | k + 1 => by
  have aj := laws_eqStringS.mono_l k
  ·intro y0 y1 y2; unfold laws_eqStringS.l0
   repeat' first | (with_reducible first | apply aj | apply lr | apply ln | apply li | refine lb ?_ fun _ => ?_) | apply aj | apply ln | apply li | refine lb ?_ fun _ => ?_
theorem laws_eqStringS.mono : ∀ a0 a1 k, LeO (laws_eqStringS.f k a0 a1) (laws_eqStringS.f (k + 1) a0 a1) := by
 intro a0 a1 k; have aj := laws_eqStringS.mono_l k; unfold laws_eqStringS.f
 repeat' first | (with_reducible first | apply aj | apply lr | apply ln | apply li | refine lb ?_ fun _ => ?_) | apply aj | apply ln | apply li | refine lb ?_ fun _ => ?_
set_option maxHeartbeats 8000000 in
set_option maxRecDepth 100000 in
theorem laws_eqStringS.calls (k : Nat) (A0 : Option Addr) (c0 : Nat) (l0 : List ByteArray) (A1 : Option Addr) (c1 : Nat) (l1 : List ByteArray) (r : Bool) (w : World) (av : Kd.C Kd.string w A0 l0.length l0) (aw : l0.length ≤ c0) (ax : Kd.C Kd.string w A1 l1.length l1) (ay : l1.length ≤ c1) (h : laws_eqStringS.f k l0 l1 = some r) :
  Calls Try.prog 9 #[.slice A0 l0.length c0, .slice A1 l1.length c1] w fun e w' => e = .returned (.bool r) ∧ Drawn0 w w' := by
 have az := Aside0.mk av; have aE := Aside0.mk aw; clear av aw; have aA := Aside0.mk ax; have aF := Aside0.mk ay; clear ax ay; have H : (if (l0.length : Int) = (l1.length : Int) then (laws_eqStringS.l0 k l0 l1 0) else (some false)) = some r := h; clear h
 by_cases c3 : (l0.length : Int) = (l1.length : Int)
 ·rw [if_pos c3] at H; have ak : ((l0.length : Int) == (l1.length : Int)) = true := beq_iff_eq.mpr c3; have al : ((l0.length : Int) != (l1.length : Int)) = false := bne_eq_false_iff_eq.mpr c3; have an : (l0.length == l1.length) = true := by first | simpa using c3 | (simp at c3 ⊢; omega)
  clear c3; have H' := Aside0.mk H; clear H
  go_enter Try.func9, Try.ntmps9
  go_wp2
  repeat (go_quiet (fail); try go_wp2)
  go_loopg [5] k (fun kq v5 w' => ∃ (aa : Int), v5 = .int .i64 aa ∧ Aside0 (laws_eqStringS.l0 kq l0 l1 aa = some r) ∧ Aside0 (kq ≤ k) ∧ Drawn0 w w')
  case atStart => exact ⟨(0), rs, H', ⟨Nat.le_refl _⟩, by repeat (first | exact Drawn0.refl _ | apply Drawn0.step)⟩
  case round =>
   clear H'
   try clear c1; try clear p2; try clear c3; try clear ak; try clear al; try clear an
   obtain ⟨aa, rfl, HA, aB, ⟨m1, rfl⟩⟩ := hrel
   cases gk with
   | zero => exact absurd HA.out (by simp [laws_eqStringS.l0])
   | succ k1 =>
    have H := HA.out; clear HA; simp only [laws_eqStringS.l0] at H
    by_cases c4 : aa < (l0.length : Int)
    ·rw [if_pos c4] at H; have aq : decide (aa < (l0.length : Int)) = true := decide_eq_true c4; clear c4
     by_cases c5 : 0 ≤ aa
     ·rw [if_pos c5] at H; have aC : decide (0 ≤ aa) = true := decide_eq_true c5; clear c5
      by_cases c6 : aa < (l1.length : Int)
      ·rw [if_pos c6] at H; have aD : decide (aa < (l1.length : Int)) = true := decide_eq_true c6; clear c6
       by_cases c7 : (rdOf ByteArray.empty l0 aa).toList = (rdOf ByteArray.empty l1 aa).toList
       ·rw [if_pos c7] at H; have ar : ((rdOf ByteArray.empty l0 aa).toList == (rdOf ByteArray.empty l1 aa).toList) = true := beq_iff_eq.mpr c7; have au : ((rdOf ByteArray.empty l0 aa).toList != (rdOf ByteArray.empty l1 aa).toList) = false := bne_eq_false_iff_eq.mpr c7; clear c7; have H' := Aside0.mk H; clear H; have ab : 0 ≤ (aa : Int) := od; have ac : aa < (l0.length : Int) := od; obtain ⟨ao, ah, af⟩ := Kd.at_string az.out aa ab ac; cases ah; replace ab := eq_true ab; replace ac := eq_true ac; have ad : 0 ≤ (aa : Int) := od; have ae : aa < (l1.length : Int) := od; obtain ⟨ap, ai, ag⟩ := Kd.at_string aA.out aa ad ae; cases ai; replace ad := eq_true ad; replace ae := eq_true ae
        go_wp2
        repeat (go_quiet (fail); try go_wp2)
        go_roundg k1
        case measure => have := aB.out; omega
        case rel => exact ⟨(wrap64 (aa + 1)), rs, H', ⟨by have := aB.out; omega⟩, by repeat (first | exact Drawn0.refl _ | apply Drawn0.step)⟩
       rw [if_neg c7] at H; have ar : ((rdOf ByteArray.empty l0 aa).toList == (rdOf ByteArray.empty l1 aa).toList) = false := beq_eq_false_iff_ne.mpr c7; have au : ((rdOf ByteArray.empty l0 aa).toList != (rdOf ByteArray.empty l1 aa).toList) = true := bne_iff_ne.mpr c7; obtain rfl := Option.some.inj H; have ab : 0 ≤ (aa : Int) := od; have ac : aa < (l0.length : Int) := od; obtain ⟨ao, ah, af⟩ := Kd.at_string az.out aa ab ac; cases ah; replace ab := eq_true ab; replace ac := eq_true ac; have ad : 0 ≤ (aa : Int) := od; have ae : aa < (l1.length : Int) := od; obtain ⟨ap, ai, ag⟩ := Kd.at_string aA.out aa ad ae; cases ai; replace ad := eq_true ad; replace ae := eq_true ae
       go_wp2
       repeat (go_quiet (fail); try go_wp2)
       go_ret
       exact ⟨by first | rfl | (simp; done) | (simp [*]; done), by repeat (first | exact Drawn0.refl _ | apply Drawn0.step)⟩
      rw [if_neg c6] at H; exact absurd H (by simp)
     rw [if_neg c5] at H; exact absurd H (by simp)
    rw [if_neg c4] at H; have aq : decide (aa < (l0.length : Int)) = false := decide_eq_false c4; clear c4; obtain rfl := Option.some.inj H
    go_wp2
    repeat (go_quiet (fail); try go_wp2)
    go_ret
    exact ⟨by first | rfl | (simp; done) | (simp [*]; done), by repeat (first | exact Drawn0.refl _ | apply Drawn0.step)⟩
 rw [if_neg c3] at H; have ak : ((l0.length : Int) == (l1.length : Int)) = false := beq_eq_false_iff_ne.mpr c3; have al : ((l0.length : Int) != (l1.length : Int)) = true := bne_iff_ne.mpr c3; have an : (l0.length == l1.length) = false := by first | simpa using c3 | (simp at c3 ⊢; omega)
 obtain rfl := Option.some.inj H
 go_enter Try.func9, Try.ntmps9
 go_wp2
 repeat (go_quiet (fail); try go_wp2)
 go_ret
 exact ⟨by first | rfl | (simp; done) | (simp [*]; done), by repeat (first | exact Drawn0.refl _ | apply Drawn0.step)⟩

/-! ### laws_markText: function 28 -/
def laws_markText.l0 : Nat → Int → ByteArray → Option (ByteArray)
 | 0, _, _ => none
 | k + 1, x0, x3 => if x0 > 0 then ((some (([(wrap64 (48 + (Int.tmod x0 10))) % 256] : List Int) : List Int)).bind fun ac => (if (strOfNums ac).size + x3.size ≤ 9223372036854775807 then (laws_markText.l0 k (wrap64 (Int.tdiv x0 10)) ((strOfNums ac) ++ x3)) else (none))) else (if 1 + x3.size ≤ 9223372036854775807 then (some ((⟨#[109]⟩ : ByteArray) ++ x3)) else (none))
def laws_markText.f (k : Nat) (a0 : Int) : Option (ByteArray) := if a0 ≤ 0 then (some (⟨#[109, 48]⟩ : ByteArray)) else (laws_markText.l0 k a0 (⟨#[]⟩ : ByteArray))
theorem laws_markText.mono_l : ∀ k, (∀ y0 y1, LeO (laws_markText.l0 k y0 y1) (laws_markText.l0 (k + 1) y0 y1))
 | 0 => fun _ _ r h => by simp [laws_markText.l0] at h
 | k + 1 => by
  have af := laws_markText.mono_l k
  ·intro y0 y1; unfold laws_markText.l0
   repeat' first | (with_reducible first | apply af | apply lr | apply ln | apply li | refine lb ?_ fun _ => ?_) | apply af | apply ln | apply li | refine lb ?_ fun _ => ?_
theorem laws_markText.mono : ∀ a0 k, LeO (laws_markText.f k a0) (laws_markText.f (k + 1) a0) := by
 intro a0 k; have af := laws_markText.mono_l k; unfold laws_markText.f
 repeat' first | (with_reducible first | apply af | apply lr | apply ln | apply li | refine lb ?_ fun _ => ?_) | apply af | apply ln | apply li | refine lb ?_ fun _ => ?_
set_option maxHeartbeats 8000000 in
set_option maxRecDepth 100000 in
theorem laws_markText.calls (k : Nat) (a0 : Int) (r : ByteArray) (w : World) (h : laws_markText.f k a0 = some r) :
  Calls Try.prog 28 #[.int .i64 a0] w fun e w' => e = .returned (.string r) ∧ Below w.heap.size w w' := by
 have HB := Aside0.mk (Below.refl w.heap.size w); have H : (if a0 ≤ 0 then (some (⟨#[109, 48]⟩ : ByteArray)) else (laws_markText.l0 k a0 (⟨#[]⟩ : ByteArray))) = some r := h; clear h
 by_cases c2 : a0 ≤ 0
 ·rw [if_pos c2] at H; have ag : decide (a0 ≤ 0) = true := decide_eq_true c2; clear c2; obtain rfl := Option.some.inj H
  go_enter Try.func28, Try.ntmps28
  go_wp2
  go_ret
  exact ⟨er, be HB⟩
 rw [if_neg c2] at H; have ag : decide (a0 ≤ 0) = false := decide_eq_false c2; clear c2; have H' := Aside0.mk H; clear H
 go_enter Try.func28, Try.ntmps28
 go_wp2
 go_loopg [0, 3] k (fun kq v0 v3 w' => ∃ (aa : Int) (ab : ByteArray), v0 = .int .i64 aa ∧ v3 = .string ab ∧ Aside0 (laws_markText.l0 kq aa ab = some r) ∧ Aside0 (kq ≤ k) ∧ Aside0 (Below w.heap.size w w'))
 case atStart => exact ⟨(a0), ((⟨#[]⟩ : ByteArray)), rs, rs, H', ⟨Nat.le_refl _⟩, ⟨be HB⟩⟩
 case round =>
  clear H'
  try clear c2; try clear ag; try clear p2
  obtain ⟨aa, ab, rfl, rfl, HA, al, HB⟩ := hrel
  cases gk with
  | zero => exact absurd HA.out (by simp [laws_markText.l0])
  | succ k1 =>
   have H := HA.out; clear HA; simp only [laws_markText.l0] at H
   by_cases c3 : aa > 0
   ·rw [if_pos c3] at H; have aj : decide (0 < aa) = true := decide_eq_true c3; clear c3; obtain ⟨ac, ad, H⟩ := oy H; have ae := Aside0.mk ad; clear ad
    by_cases c4 : (strOfNums ac).size + ab.size ≤ 9223372036854775807
    ·rw [if_pos c4] at H; have an := eq_true c4; have ao : decide ((strOfNums ac).size + ab.size ≤ 9223372036854775807) = true := decide_eq_true c4
     try have ap : (9223372036854775807 < (strOfNums ac).size + ab.size) = False := eq_false (Nat.not_lt.2 c4)
     have H' := Aside0.mk H; clear H
     go_wp2_with (first | ((with_reducible refine gate_dst (N := 12) rfl ?_); refine Kd.R_lit (Kd.int .u8) _ 5 ?hg (N := 12) ?hd (xs := ([(wrap64 (48 + (Int.tmod aa 10))) % 256] : List Int)) (inner := [.int .u8 ((wrap64 (48 + (Int.tmod aa 10))) % 256)]) (ok := fun _ => True) (okp := fun _ => True) ?hr ?hp (fun _ hk => hk) trivial (Below.refl _ _) (Nat.le_refl _) (by simp) ?_; (case hd => rfl); (case hg => rfl); (case hr => first | (go_simp; done) | (go_simp; rfl)); (case hp => exact (Reps.one (show Kd.M (Kd.int .u8) _ _ _ ((wrap64 (48 + (Int.tmod aa 10))) % 256) [.int .u8 ((wrap64 (48 + (Int.tmod aa 10))) % 256)] from rfl) (Reps.none _ _))); intro aq w5 ah hb hg_ hnew_; clear hg_ hnew_; (first | rw [← ae.out] at ah | (simp only [Int.reduceToNat] at ah; rw [← ae.out] at ah)); have ai := rl0 ah HB; replace HB := s0 HB hb; clear hb ah; have ar := own_string (P := Try.prog) Try.underlying63 Try.underlying5 Try.underlying9 (Kd.own_of_R ai.out)))
     go_roundg k1
     case measure => have := al.out; omega
     case rel => exact ⟨(wrap64 (Int.tdiv aa 10)), ((strOfNums ac) ++ ab), rs, rs, H', ⟨by have := al.out; omega⟩, ⟨be HB⟩⟩
    rw [if_neg c4] at H; exact absurd H (by simp)
   rw [if_neg c3] at H; have aj : decide (0 < aa) = false := decide_eq_false c3; clear c3
   by_cases c8 : 1 + ab.size ≤ 9223372036854775807
   ·rw [if_pos c8] at H; have au := eq_true c8; have av : decide (1 + ab.size ≤ 9223372036854775807) = true := decide_eq_true c8
    try have aw : (9223372036854775807 < 1 + ab.size) = False := eq_false (Nat.not_lt.2 c8)
    obtain rfl := Option.some.inj H
    go_wp2
    go_ret
    exact ⟨er, be HB⟩
   rw [if_neg c8] at H; exact absurd H (by simp)

/-! ### laws_markItemS: function 27 -/
def laws_markItemS.l0 : Nat → List (S42) → Int → Int → Option (Int × (List (S42)))
 | 0, _, _, _ => none
 | k + 1, x0, x1, x5 => if x5 < (x0.length : Int) then ((laws_markText.f k x1).bind fun aj => (if 0 ≤ x5 then ((some (x0.set (x5 : Int).toNat (⟨aj, (rd_T42 x0 x5).f1, (rd_T42 x0 x5).f2⟩ : S42) : List (S42))).bind fun ae => ((laws_markText.f k (wrap64 (x1 + 1))).bind fun ah => ((some (ae.set (x5 : Int).toNat (⟨(rd_T42 ae x5).f0, ah, (rd_T42 ae x5).f2⟩ : S42) : List (S42))).bind fun ac => (laws_markItemS.l0 k (ac.set (x5 : Int).toNat (⟨(rd_T42 ac x5).f0, (rd_T42 ac x5).f1, wrap64 ((wrap64 (x1 + 1)) + 1)⟩ : S42)) (wrap64 ((wrap64 ((wrap64 (x1 + 1)) + 1)) + 1)) (wrap64 (x5 + 1)))))) else (none))) else (some (x1, x0))
def laws_markItemS.f (k : Nat) (l0 : List (S42)) (a1 : Int) : Option (Int × (List (S42))) := laws_markItemS.l0 k l0 a1 0
theorem laws_markItemS.mono_l : ∀ k, (∀ y0 y1 y2, LeO (laws_markItemS.l0 k y0 y1 y2) (laws_markItemS.l0 (k + 1) y0 y1 y2))
 | 0 => fun _ _ _ r h => by simp [laws_markItemS.l0] at h
 | k + 1 => by
  have aZ := laws_markItemS.mono_l k
  ·intro y0 y1 y2; unfold laws_markItemS.l0
   repeat' first | (with_reducible first | apply aZ | apply laws_markText.mono | apply lr | apply ln | apply li | refine lb ?_ fun _ => ?_) | apply aZ | apply ln | apply li | refine lb ?_ fun _ => ?_
theorem laws_markItemS.mono : ∀ a0 a1 k, LeO (laws_markItemS.f k a0 a1) (laws_markItemS.f (k + 1) a0 a1) := by
 intro a0 a1 k; have aZ := laws_markItemS.mono_l k; unfold laws_markItemS.f
 repeat' first | (with_reducible first | apply aZ | apply laws_markText.mono | apply lr | apply ln | apply li | refine lb ?_ fun _ => ?_) | apply aZ | apply ln | apply li | refine lb ?_ fun _ => ?_
set_option maxHeartbeats 8000000 in
set_option maxRecDepth 100000 in
theorem laws_markItemS.calls (k : Nat) (ak : Nat → Prop) (ai : Value) (l0 : List (S42)) (a1 : Int) (r1 : Int) (r2 : List (S42)) (w0 w : World) (hB : Below w0.heap.size w0 w) (b4 : Kd.R k42 42 w w0.heap.size ak ai l0) (h : laws_markItemS.f k l0 a1 = some (r1, r2)) :
  Calls Try.prog 27 #[ai, .int .i64 a1] w fun e w' => e = .returned (.int .i64 r1) ∧ Kd.R k42 42 w' w0.heap.size (fun k_ => (ak k_ ∨ w.heap.size ≤ k_)) ai r2 ∧ Below w0.heap.size w0 w' ∧ Kept w w' (fun k_ => ak k_) := by
 have b5 := Aside0.mk (show Kd.R k42 42 w w0.heap.size (fun k_ => (ak k_ ∨ w.heap.size ≤ k_)) ai l0 from Kd.R_mono b4 (fun k_ hk => (.inl hk))); have HK := Aside0.mk (Kept.refl w (fun k_ => ak k_)); have cf := Aside0.mk hB.size; have HB := Aside0.mk hB; clear hB; have H : (laws_markItemS.l0 k l0 a1 0) = some (r1, r2) := h; clear h; have H' := Aside0.mk H; clear H
 go_enter Try.func27, Try.ntmps27
 go_wp2
 go_loopg [1, 5] k (fun kq v1 v5 w' => ∃ (ab : List (S42)) (af : Int) (aa : Int), v1 = .int .i64 af ∧ v5 = .int .i64 aa ∧ Aside0 (laws_markItemS.l0 kq ab af aa = some (r1, r2)) ∧ Aside0 (kq ≤ k) ∧ Aside0 (Kd.R k42 42 w' w0.heap.size (fun k_ => (ak k_ ∨ w.heap.size ≤ k_)) ai ab) ∧ Aside0 (Kept w w' (fun k_ => ak k_)) ∧ Aside0 (Below w0.heap.size w0 w'))
 case atStart => exact ⟨(l0), (a1), (0), rs, rs, H', ⟨Nat.le_refl _⟩, ⟨ro b5⟩, ⟨(kp HK)⟩, ⟨be HB⟩⟩
 case round =>
  clear H'
  try clear c2; try clear p2
  obtain ⟨ab, af, aa, rfl, rfl, HA, bo, ad, HK, HB⟩ := hrel
  cases gk with
  | zero => exact absurd HA.out (by simp [laws_markItemS.l0])
  | succ k1 =>
   have H := HA.out; clear HA; simp only [laws_markItemS.l0] at H
   by_cases c3 : aa < (ab.length : Int)
   ·rw [if_pos c3] at H; have bc : decide (aa < (ab.length : Int)) = true := decide_eq_true c3; clear c3; obtain ⟨aj, A4, H⟩ := ob H
    by_cases c5 : 0 ≤ aa
    ·rw [if_pos c5] at H; have b6 : decide (0 ≤ aa) = true := decide_eq_true c5; clear c5; obtain ⟨ae, al, H⟩ := oy H; have a2 := Aside0.mk al; clear al; obtain ⟨ah, A7, H⟩ := ob H; obtain ⟨ac, an, H⟩ := oy H; have a3 := Aside0.mk an; clear an; obtain ⟨aL, ao⟩ : ∃ y_ : List (S42), y_ = (ac.set (aa : Int).toNat (⟨(rd_T42 ac aa).f0, (rd_T42 ac aa).f1, wrap64 ((wrap64 (af + 1)) + 1)⟩ : S42)) := ⟨_, rfl⟩; rw [← ao] at H; have a4 := Aside0.mk ao; clear ao; have H' := Aside0.mk H; clear H; obtain ⟨b7, ap, bd⟩ := Kd.R_slice ad.out; subst bd
     go_wp2_with (first | ((with_reducible refine gate_callee (f := 28) rfl ?_); refine gl 15 Try.func28 #[.int .i64 af] ?_; (with_reducible refine (laws_markText.calls k1 af aj _ A4.out).mono ?_); rintro e ax ⟨rfl, hb⟩; refine ⟨_, rfl, ?_⟩; replace ad := rb ad hb; replace HK := kbp HK hb; replace HB := s0 HB hb; (try clear hb); have p6 : 0 ≤ (aa : Int) := od; have q6 : (aa : Int) < ((ab.length : Int) : Int) := od; obtain ⟨ag, cg, bs, bu, b8, ci, bw⟩ := Kd.R_form ad.out (by omega); (first | cases bs | (injection bs with ea_ en_ ec_; (first | subst ea_ | (injection ea_ with ea_; subst ea_)); subst ec_; clear en_)); have bf := Aside0.mk bu; have ck := Aside0.mk bw; clear bu b8 bw; have bz := Aside0.mk (show (ak ag ∨ w.heap.size ≤ ag) from (ad.out.1 _ rfl)); obtain ⟨cl, bg, bA, ay, az⟩ := Kd.R_elem ad.out z42 (aa : Int) p6 q6; obtain rfl := k42_openM bA; have bC : ax.cell? ⟨ag, (aa : Int).toNat * 3, none⟩ = some (.string ((rd_T42 ab aa).f0)) := ay 0 _ rfl; have bD : ax.cell? ⟨ag, (aa : Int).toNat * 3 + 1, none⟩ = some (.string ((rd_T42 ab aa).f1)) := ay 1 _ rfl; have bF : ax.cell? ⟨ag, (aa : Int).toNat * 3 + 2, none⟩ = some (.int .i64 ((rd_T42 ab aa).f2)) := ay 2 _ rfl; have bG : ax.frozen? ⟨ag, (aa : Int).toNat * 3, none⟩ = false := az 0; have bH : ax.frozen? ⟨ag, (aa : Int).toNat * 3 + 1, none⟩ = false := az 1; have bI : ax.frozen? ⟨ag, (aa : Int).toNat * 3 + 2, none⟩ = false := az 2; clear bg ay az bA; replace p6 := eq_true p6; replace q6 := eq_true q6; have a5 := Aside0.mk (show Kd.R k42 42 ax w0.heap.size (fun k_ => (ak k_ ∨ w.heap.size ≤ k_)) (.slice (some ⟨ag, 0, none⟩) ab.length ap) ab from (ro ad)); obtain ⟨b9, aF, a6, au, aG⟩ := Kd.R_elem a5.out z42 (aa : Int) (od) (by have h_ : (aa : Int) < ((ab.length : Int) : Int) := od; first | exact h_ | (have e_ := (Kd.R_reads' ad.out).1; omega) | simpa using h_); obtain rfl := k42_openM a6; have aN := Kd.R_seg a5.out (aa : Int) (od) (by have h_ : (aa : Int) < ((ab.length : Int) : Int) := od; first | exact h_ | (have e_ := (Kd.R_reads' ad.out).1; omega) | simpa using h_) (seg := [.string aj]) (j := 0) aF au (show 1 ≤ 3 from by decide) (x' := (⟨aj, (rd_T42 ab aa).f1, (rd_T42 ab aa).f2⟩ : S42)) (k42_mkM _ _ _ (⟨aj, (rd_T42 ab aa).f1, (rd_T42 ab aa).f2⟩ : S42) ) (fun _ hk => hk); have aO := au 0 _ rfl; (try simp only [show (k42).sz = 3 from rfl, Nat.mul_one, Nat.add_zero] at aO); have aQ := aG 0; (try simp only [show (k42).sz = 3 from rfl, Nat.mul_one, Nat.add_zero] at aQ); clear aF au aG a6) | ((with_reducible refine gate_store (t := 9) (p := 17) rfl ?_); refine store_event (t := 9) (p := 17) (v := ?vo_w13) (w1 := (ax.setCell ⟨ag, (aa : Int).toNat * 3, none⟩ (.string aj))) ?hg ?ho ?hn ?hr ?_; (case ho => rfl); (case hg => rfl); (case hn => rfl); (case hr => first | (go_simp; done) | (go_simp; rfl)); intro bh hw; have hg : ax.grownBy bh (some ag) := (by rw [hw]; exact aN.2); have hp_ : Kd.R k42 42 bh w0.heap.size (fun k_ => (ak k_ ∨ w.heap.size ≤ k_)) (.slice (some ⟨ag, 0, none⟩) ab.length ap) ae := (by rw [hw, a2.out]; exact aN.1); clear aN; replace HB := Aside0.mk ((by rw [hw]; exact below_set (HB.out) bf.out : Below w0.heap.size w0 bh)); replace HK := Aside0.mk (Kept.of_grown (S := (fun k_ => ak k_)) hg (kp HK) (fun k_ e_ => (ad.out.1 k_ e_))); replace ad := Aside0.mk (hp_); clear hg hw hp_) | ((with_reducible refine gate_callee (f := 28) rfl ?_); refine gl 23 Try.func28 #[.int .i64 (wrap64 (af + 1))] ?_; (with_reducible refine (laws_markText.calls k1 (wrap64 (af + 1)) ah _ A7.out).mono ?_); rintro e aA ⟨rfl, hb⟩; refine ⟨_, rfl, ?_⟩; replace ad := rb ad hb; replace HK := kbp HK hb; replace HB := s0 HB hb; (try clear hb); have p8 : 0 ≤ (aa : Int) := od; have q8 : (aa : Int) < ((ab.length : Int) : Int) := od; obtain ⟨cm, bi, bJ, aB, aC⟩ := Kd.R_elem ad.out z42 (aa : Int) p8 q8; obtain rfl := k42_openM bJ; have bM : aA.cell? ⟨ag, (aa : Int).toNat * 3, none⟩ = some (.string ((rd_T42 ae aa).f0)) := aB 0 _ rfl; have bN : aA.cell? ⟨ag, (aa : Int).toNat * 3 + 1, none⟩ = some (.string ((rd_T42 ae aa).f1)) := aB 1 _ rfl; have bO : aA.cell? ⟨ag, (aa : Int).toNat * 3 + 2, none⟩ = some (.int .i64 ((rd_T42 ae aa).f2)) := aB 2 _ rfl; have bQ : aA.frozen? ⟨ag, (aa : Int).toNat * 3, none⟩ = false := aC 0; have bR : aA.frozen? ⟨ag, (aa : Int).toNat * 3 + 1, none⟩ = false := aC 1; have bS : aA.frozen? ⟨ag, (aa : Int).toNat * 3 + 2, none⟩ = false := aC 2; clear bi aB aC bJ; replace p8 := eq_true p8; replace q8 := eq_true q8; have a7 := Aside0.mk (show Kd.R k42 42 aA w0.heap.size (fun k_ => (ak k_ ∨ w.heap.size ≤ k_)) (.slice (some ⟨ag, 0, none⟩) ab.length ap) ae from (ro ad)); obtain ⟨ca, aH, a8, av, aI⟩ := Kd.R_elem a7.out z42 (aa : Int) (od) (by have h_ : (aa : Int) < ((ab.length : Int) : Int) := od; first | exact h_ | (have e_ := (Kd.R_reads' ad.out).1; omega) | simpa using h_); obtain rfl := k42_openM a8; have aR := Kd.R_seg a7.out (aa : Int) (od) (by have h_ : (aa : Int) < ((ab.length : Int) : Int) := od; first | exact h_ | (have e_ := (Kd.R_reads' ad.out).1; omega) | simpa using h_) (seg := [.string ah]) (j := 1) aH av (show 2 ≤ 3 from by decide) (x' := (⟨(rd_T42 ae aa).f0, ah, (rd_T42 ae aa).f2⟩ : S42)) (k42_mkM _ _ _ (⟨(rd_T42 ae aa).f0, ah, (rd_T42 ae aa).f2⟩ : S42) ) (fun _ hk => hk); have aU := av 1 _ rfl; (try simp only [show (k42).sz = 3 from rfl, Nat.mul_one, Nat.add_zero] at aU); have aV := aI 1; (try simp only [show (k42).sz = 3 from rfl, Nat.mul_one, Nat.add_zero] at aV); clear aH av aI a8) | ((with_reducible refine gate_store (t := 9) (p := 25) rfl ?_); refine store_event (t := 9) (p := 25) (v := ?vo_w16) (w1 := (aA.setCell ⟨ag, (aa : Int).toNat * 3 + 1, none⟩ (.string ah))) ?hg ?ho ?hn ?hr ?_; (case ho => rfl); (case hg => rfl); (case hn => rfl); (case hr => first | (go_simp; done) | (go_simp; rfl)); intro aq hw; have hg : aA.grownBy aq (some ag) := (by rw [hw]; exact aR.2); have hp_ : Kd.R k42 42 aq w0.heap.size (fun k_ => (ak k_ ∨ w.heap.size ≤ k_)) (.slice (some ⟨ag, 0, none⟩) ab.length ap) ac := (by rw [hw, a3.out]; exact aR.1); clear aR; replace HB := Aside0.mk ((by rw [hw]; exact below_set (HB.out) bf.out : Below w0.heap.size w0 aq)); replace HK := Aside0.mk (Kept.of_grown (S := (fun k_ => ak k_)) hg (kp HK) (fun k_ e_ => (ad.out.1 k_ e_))); replace ad := Aside0.mk (hp_); clear hg hw hp_; have p9 : 0 ≤ (aa : Int) := od; have q9 : (aa : Int) < ((ab.length : Int) : Int) := od; obtain ⟨cn, bj, bU, aD, aE⟩ := Kd.R_elem ad.out z42 (aa : Int) p9 q9; obtain rfl := k42_openM bU; have bW : aq.cell? ⟨ag, (aa : Int).toNat * 3, none⟩ = some (.string ((rd_T42 ac aa).f0)) := aD 0 _ rfl; have bZ : aq.cell? ⟨ag, (aa : Int).toNat * 3 + 1, none⟩ = some (.string ((rd_T42 ac aa).f1)) := aD 1 _ rfl; have b0 : aq.cell? ⟨ag, (aa : Int).toNat * 3 + 2, none⟩ = some (.int .i64 ((rd_T42 ac aa).f2)) := aD 2 _ rfl; have b1 : aq.frozen? ⟨ag, (aa : Int).toNat * 3, none⟩ = false := aE 0; have b2 : aq.frozen? ⟨ag, (aa : Int).toNat * 3 + 1, none⟩ = false := aE 1; have b3 : aq.frozen? ⟨ag, (aa : Int).toNat * 3 + 2, none⟩ = false := aE 2; clear bj aD aE bU; replace p9 := eq_true p9; replace q9 := eq_true q9; have a9 := Aside0.mk (show Kd.R k42 42 aq w0.heap.size (fun k_ => (ak k_ ∨ w.heap.size ≤ k_)) (.slice (some ⟨ag, 0, none⟩) ab.length ap) ac from (ro ad)); obtain ⟨cc, aJ, ba, aw, aK⟩ := Kd.R_elem a9.out z42 (aa : Int) (od) (by have h_ : (aa : Int) < ((ab.length : Int) : Int) := od; first | exact h_ | (have e_ := (Kd.R_reads' ad.out).1; omega) | simpa using h_); obtain rfl := k42_openM ba; have aW := Kd.R_seg a9.out (aa : Int) (od) (by have h_ : (aa : Int) < ((ab.length : Int) : Int) := od; first | exact h_ | (have e_ := (Kd.R_reads' ad.out).1; omega) | simpa using h_) (seg := [.int .i64 (wrap64 ((wrap64 (af + 1)) + 1))]) (j := 2) aJ aw (show 3 ≤ 3 from by decide) (x' := (⟨(rd_T42 ac aa).f0, (rd_T42 ac aa).f1, wrap64 ((wrap64 (af + 1)) + 1)⟩ : S42)) (k42_mkM _ _ _ (⟨(rd_T42 ac aa).f0, (rd_T42 ac aa).f1, wrap64 ((wrap64 (af + 1)) + 1)⟩ : S42) ) (fun _ hk => hk); have aX := aw 2 _ rfl; (try simp only [show (k42).sz = 3 from rfl, Nat.mul_one, Nat.add_zero] at aX); have aY := aK 2; (try simp only [show (k42).sz = 3 from rfl, Nat.mul_one, Nat.add_zero] at aY); clear aJ aw aK ba) | ((with_reducible refine gate_store (t := 3) (p := 32) rfl ?_); refine store_event (t := 3) (p := 32) (v := ?vo_w18) (w1 := (aq.setCell ⟨ag, (aa : Int).toNat * 3 + 2, none⟩ (.int .i64 (wrap64 ((wrap64 (af + 1)) + 1))))) ?hg ?ho ?hn ?hr ?_; (case ho => rfl); (case hg => rfl); (case hn => rfl); (case hr => first | (go_simp; done) | (go_simp; rfl)); intro bm hw; have hg : aq.grownBy bm (some ag) := (by rw [hw]; exact aW.2); have hp_ : Kd.R k42 42 bm w0.heap.size (fun k_ => (ak k_ ∨ w.heap.size ≤ k_)) (.slice (some ⟨ag, 0, none⟩) ab.length ap) aL := (by rw [hw, a4.out]; exact aW.1); clear aW; replace HB := Aside0.mk ((by rw [hw]; exact below_set (HB.out) bf.out : Below w0.heap.size w0 bm)); replace HK := Aside0.mk (Kept.of_grown (S := (fun k_ => ak k_)) hg (kp HK) (fun k_ e_ => (ad.out.1 k_ e_))); replace ad := Aside0.mk (hp_); clear hg hw hp_))
     go_roundg k1
     case measure => have := bo.out; omega
     case rel => exact ⟨(aL), (wrap64 ((wrap64 ((wrap64 (af + 1)) + 1)) + 1)), (wrap64 (aa + 1)), rs, rs, H', ⟨by have := bo.out; omega⟩, ⟨ro ad⟩, ⟨(kp HK)⟩, ⟨be HB⟩⟩
    rw [if_neg c5] at H; exact absurd H (by simp)
   rw [if_neg c3] at H; have bc : decide (aa < (ab.length : Int)) = false := decide_eq_false c3; clear c3; simp only [Option.some.injEq, Prod.mk.injEq] at H; obtain ⟨rfl, rfl⟩ := H; obtain ⟨cd, ce, bn⟩ := Kd.R_slice ad.out; subst bn
   go_wp2
   go_ret
   exact ⟨er, (ro ad), be HB, (kp HK)⟩

/-! ### laws_markRow: function 10 -/
def laws_markRow.f (k : Nat) (ag : Int) (ah : Int) (ac : List (S42)) (a1 : Int) : Option (Int × (List (S42))) := (laws_markItemS.f k ac a1).bind fun ae => (some (ae.1, ae.2))
theorem laws_markRow.mono : ∀ a0 a1 a2 a3 k, LeO (laws_markRow.f k a0 a1 a2 a3) (laws_markRow.f (k + 1) a0 a1 a2 a3) := by
 intro a0 a1 a2 a3 k; unfold laws_markRow.f
 repeat' first | (with_reducible first | apply laws_markItemS.mono | apply lr | apply ln | apply li | refine lb ?_ fun _ => ?_) | apply ln | apply li | refine lb ?_ fun _ => ?_
set_option maxHeartbeats 8000000 in
set_option maxRecDepth 100000 in
theorem laws_markRow.calls (k : Nat) (ag : Int) (ah : Int) (ab : Nat → Prop) (ad : Value) (ac : List (S42)) (a1 : Int) (r1 : Int) (r2 : List (S42)) (w0 w : World) (hB : Below w0.heap.size w0 w) (al : Kd.R k42 42 w w0.heap.size ab ad ac) (h : laws_markRow.f k ag ah ac a1 = some (r1, r2)) :
  Calls Try.prog 10 #[.agg #[.int .i64 ag, .int .i64 ah, ad], .int .i64 a1] w fun e w' => e = .returned (.int .i64 r1) ∧ Kd.R k42 42 w' w0.heap.size (fun k_ => (ab k_ ∨ w.heap.size ≤ k_)) ad r2 ∧ Below w0.heap.size w0 w' ∧ Kept w w' (fun k_ => ab k_) := by
 have hu28 := Try.underlying28; have aa := Aside0.mk (show Kd.R k42 42 w w0.heap.size (fun k_ => (ab k_ ∨ w.heap.size ≤ k_)) ad ac from Kd.R_mono al (fun k_ hk => (.inl hk))); have HK := Aside0.mk (Kept.refl w (fun k_ => ab k_)); have ax := Aside0.mk hB.size; have HB := Aside0.mk hB; clear hB; have H : ((laws_markItemS.f k ac a1).bind fun ae => (some (ae.1, ae.2))) = some (r1, r2) := h; clear h; obtain ⟨⟨an, ao⟩, A3, H⟩ := ob H; (dsimp only at H); simp only [Option.some.injEq, Prod.mk.injEq] at H; obtain ⟨rfl, rfl⟩ := H; obtain ⟨ap, aq, aw⟩ := Kd.R_slice aa.out; subst aw
 go_enter Try.func10, Try.ntmps10
 go_wp2_with (first | ((with_reducible refine gate_dst (N := 2) rfl ?_); refine bx 2 #[.int .i64 ag, .int .i64 ah, .slice ap ac.length aq] 28 ?_; intro ai hg w5 hbox hb; replace aa := rb aa hb; have af := am hbox; have aj := kgp hg HK; replace HK := kbp HK hb; have ak := gs0 hg HB; replace HB := s0 HB hb; clear hb hbox hg; have ar := bz3 af) | ((with_reducible refine gate_callee (f := 27) rfl ?_); refine gl 8 Try.func27 #[.slice ap ac.length aq, .int .i64 a1] ?_; (with_reducible refine (laws_markItemS.calls k (fun k_ => some k_ = (.slice ap ac.length aq : Value).ownBlock) (.slice ap ac.length aq) ac a1 an ao w0 _ ?side1 ?side2 A3.out).mono ?_); (case side1 => exact be1 HB ak); (case side2 => exact Kd.R_tight rfl aa.out); rintro e w7 ⟨rfl, av, hb, hkp⟩; refine ⟨_, rfl, ?_⟩; replace af := Aside0.mk (blk_kept (bk af) hkp (fun hs_ => (fun e_ => (Kd.R_ne aa.out af.out (by decide)) e_) hs_)); replace HK := Aside0.mk (Kept.then_ (S := (fun k_ => ab k_)) (kp1 HK aj) hkp (fun k_ hs_ => (fun e_ => (aa.out.1 k_ e_.symm)) hs_)); replace aa := Aside0.mk (Kd.R_reok rfl av (fun k_ e_ => aa.out.1 k_ e_)); replace HB := Aside0.mk (hb); (try clear hb); (try clear hkp); (try clear av)))
 go_ret
 exact ⟨er, (ro aa), be1 HB ak, (kp1 HK aj)⟩

end Go.Proofs.Ytmmphfonbeddeaa.QFnExactRowPut
