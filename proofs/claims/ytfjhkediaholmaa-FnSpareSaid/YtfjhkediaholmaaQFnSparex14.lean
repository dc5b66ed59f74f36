-- made by a program of this session (myprint.py)
import Derived.Test.YtfjhkediaholmaaQFnSparex0
import Derived.Test.YtfjhkediaholmaaQFnSparex7
import Derived.Test.YtfjhkediaholmaaQFnSparex13
namespace Go.Proofs.Ytfjhkediaholmaa.QFnSpare
open Go.RowKit Go.Proofs.YtfjhkediaholmaaW.PrintWords Go.Proofs.YtfjhkediaholmaaW.PrintLast Go.Proofs.YtfjhkediaholmaaW.PrintMore
attribute [local go_sem] max2_int min2_int max_two min_two max_three min_three max_four min_four   -- for this text's walks alone
set_option linter.unusedVariables false
set_option linter.unusedSimpArgs false

/-! ### spec_l10Haunt: function 92 -/
def spec_l10Haunt.f (k : Nat) (an : Int) (ao : Int) (aj : List (S68)) (ak : List (S68)) (az : List Int) (a1 : Int) : Option (Int × Int × (List (S68)) × (List (S68)) × List Int) := (spec_l08But.f k az a1).bind fun aA => (if aA.length < 17592186044416 then ((some (aA ++ [a1] : List Int)).bind fun ad => ((spec_l10Ghosts.f an ao aj ak ad).bind fun aC => (if (ad.length : Int) > aC then (if 1 ≤ (ad.length : Int) then (some (an, ao, aj, ak, (ad.drop (1 : Int).toNat))) else (none)) else (some (an, ao, aj, ak, ad))))) else (none))
theorem spec_l10Haunt.mono : ∀ a0 a1 a2 a3 a4 a5 k, LeO (spec_l10Haunt.f k a0 a1 a2 a3 a4 a5) (spec_l10Haunt.f (k + 1) a0 a1 a2 a3 a4 a5) := by
 intro a0 a1 a2 a3 a4 a5 k; unfold spec_l10Haunt.f
 repeat' first | (with_reducible first | apply spec_l08But.mono | apply lr | apply ln | apply li | refine lb ?_ fun _ => ?_) | apply ln | apply li | refine lb ?_ fun _ => ?_
set_option maxHeartbeats 8000000 in
set_option maxRecDepth 100000 in
theorem spec_l10Haunt.calls (k : Nat) (an : Int) (ao : Int) (ae : Nat → Prop) (aI : Value) (aj : List (S68)) (af : Nat → Prop) (aJ : Value) (ak : List (S68)) (a9 : Option Addr) (ba : Nat) (az : List Int) (a1 : Int) (r1 : Int) (r2 : Int) (r3 : List (S68)) (r4 : List (S68)) (r5 : List Int) (w0 w : World) (hB : Below w0.heap.size w0 w) (bq : Kd.R k68 68 w w0.heap.size ae aI aj) (bc : ∀ k_, ae k_ → ¬ af k_) (br : Kd.R k68 68 w w0.heap.size af aJ ak) (bd : ∀ k_, af k_ → ¬ ae k_) (bs : ∀ W_, Kept w W_ (fun k_ => ae k_ ∨ af k_) → Kd.C (Kd.int .i64) W_ a9 az.length az) (bu : az.length ≤ ba) (h : spec_l10Haunt.f k an ao aj ak az a1 = some (r1, r2, r3, r4, r5)) :
  Calls Try.prog 92 #[.agg #[.int .i64 an, .int .i64 ao, aI, aJ, .slice a9 az.length ba], .int .i64 a1] w fun e w' => ∃ b5 b6 cf : Value, e = .returned (.agg #[.int .i64 r1, .int .i64 r2, b5, b6, cf]) ∧ Kd.R k68 68 w' w0.heap.size (fun k_ => ((ae k_ ∨ af k_) ∨ w.heap.size ≤ k_) ∧ some k_ ≠ (b6 : Value).ownBlock) b5 r3 ∧ Kd.R k68 68 w' w0.heap.size (fun k_ => ((ae k_ ∨ af k_) ∨ w.heap.size ≤ k_) ∧ some k_ ≠ (b5 : Value).ownBlock) b6 r4 ∧ Kd.Q (Kd.int .i64) 3 w' w0.heap.size (fun k_ => ((ae k_ ∨ af k_) ∨ w.heap.size ≤ k_)) cf r5 ∧ Below w0.heap.size w0 w' ∧ Kept w w' (fun k_ => ae k_ ∨ af k_) := by
 have hu30 := Try.underlying30; have ab := Aside0.mk (show Kd.R k68 68 w w0.heap.size (fun k_ => ((ae k_ ∨ af k_) ∨ w.heap.size ≤ k_) ∧ some k_ ≠ (aJ : Value).ownBlock) aI aj from Kd.R_mono bq (fun k_ hk => ⟨(.inl (.inl hk)), fun e_ => bc k_ hk (br.1 k_ e_.symm)⟩)); have ac := Aside0.mk (show Kd.R k68 68 w w0.heap.size (fun k_ => ((ae k_ ∨ af k_) ∨ w.heap.size ≤ k_) ∧ some k_ ≠ (aI : Value).ownBlock) aJ ak from Kd.R_mono br (fun k_ hk => ⟨(.inl (.inr hk)), fun e_ => bd k_ hk (bq.1 k_ e_.symm)⟩)); have bw := Aside0.mk bs; have bz := Aside0.mk bu; clear bs bu; have HK := Aside0.mk (Kept.refl w (fun k_ => ae k_ ∨ af k_)); have cC := Aside0.mk hB.size; have HB := Aside0.mk hB; clear hB; have H : ((spec_l08But.f k az a1).bind fun aA => (if aA.length < 17592186044416 then ((some (aA ++ [a1] : List Int)).bind fun ad => ((spec_l10Ghosts.f an ao aj ak ad).bind fun aC => (if (ad.length : Int) > aC then (if 1 ≤ (ad.length : Int) then (some (an, ao, aj, ak, (ad.drop (1 : Int).toNat))) else (none)) else (some (an, ao, aj, ak, ad))))) else (none))) = some (r1, r2, r3, r4, r5) := h; clear h; obtain ⟨aA, A3, H⟩ := ob H
 by_cases c4 : aA.length < 17592186044416
 ·rw [if_pos c4] at H; have bQ := Aside0.mk c4; clear c4; obtain ⟨ad, aX, H⟩ := oy H; have bA := Aside0.mk aX; clear aX; obtain ⟨aC, A5, H⟩ := ob H
  by_cases c6 : (ad.length : Int) > aC
  ·rw [if_pos c6] at H; have b7 : decide (aC < (ad.length : Int)) = true := decide_eq_true c6; clear c6
   by_cases c7 : 1 ≤ (ad.length : Int)
   ·rw [if_pos c7] at H; have co := eq_true c7; have cp : decide (1 ≤ (ad.length : Int)) = true := decide_eq_true c7; clear c7; obtain ⟨aH, aY⟩ : ∃ y_ : List Int, y_ = (ad.drop (1 : Int).toNat) := ⟨_, rfl⟩; rw [← aY] at H; have bC := Aside0.mk aY; clear aY; simp only [Option.some.injEq, Prod.mk.injEq] at H; obtain ⟨rfl, rfl, rfl, rfl, rfl⟩ := H; obtain ⟨bg, bh, cs⟩ := Kd.R_slice ab.out; subst cs; obtain ⟨bi, bj, ct⟩ := Kd.R_slice ac.out; subst ct
    go_enter Try.func92, Try.ntmps92
    try go_wp2_with (first | ((with_reducible refine gate_dst (N := 2) rfl ?_); refine bx 2 #[.int .i64 an, .int .i64 ao, .slice bg aj.length bh, .slice bi ak.length bj, .slice a9 az.length ba] 30 ?_; intro ah hg cD hbox hb; replace ab := rb ab hb; replace ac := rb ac hb; have aa := am hbox; have ap := kgp hg HK; replace HK := kbp HK hb; have aq := gs0 hg HB; replace HB := s0 HB hb; clear hb hbox hg) | ((with_reducible refine gate_dst (N := 4) rfl ?_); refine bx 4 #[.int .i64 0, .int .i64 0, .slice none 0 0, .slice none 0 0, .slice none 0 0] 30 ?_; intro al hg cE hbox hb; replace ab := rb ab hb; replace ac := rb ac hb; have ag := am hbox; have ar := kgp1 hg HK ap; replace HK := kbp1 HK ap hb; have av := gs1 hg HB aq; replace HB := s1 HB aq hb; have aD := nl hg aa; have au := ng hg aa; replace aa := bb aa hb; clear hb hbox hg; have ck := aD.out; have cl := au.out; have bU := bz5 aa) | ((with_reducible refine gate_callee (f := 96) rfl ?_); refine gl 8 Try.func96 #[.slice a9 az.length ba, .int .i64 a1] ?_; (with_reducible refine (spec_l08But.calls k _ _ az a1 aA _ ?side1 bz.out A3.out).mono ?_); (case side1 => exact Kd.C_kept_now bw.out (kp2 HK ap ar)); rintro e cF ⟨bJ, rfl, bR, hb⟩; refine ⟨_, rfl, ?_⟩; replace ab := rb ab hb; replace ac := rb ac hb; have aw := Aside0.mk (Kd.R_lower (Kd.R_newM (M := fun k_ => ((ae k_ ∨ af k_) ∨ w.heap.size ≤ k_)) bR (by first | exact HK.out.1 | exact (show Kept w _ (fun k_ => ae k_ ∨ af k_) from (kp2 HK ap ar)).1) (fun k_ h_ => .inr h_)) (below_size (be2 HB aq av))); replace aa := bb aa hb; replace ag := bb ag hb; replace HK := kbp2 HK ap ar hb; replace HB := s2 HB aq av hb; (try clear hb); (try clear bR)) | ((with_reducible refine gate_builtin (b := .append) (xs := #[.tmp 8, .tmp 10]) rfl ?_); at_builtin; refine Kd.R_append (Kd.int .i64) (w0 := w0) w0.heap.size rfl (.tmp 8) (.tmp 10) 23 3 (.int .i64 0) 8 rfl Try.underlying23 info3 rfl (by decide) (by omega) bJ aA a1 [.int .i64 a1] (fun k_ => ((ae k_ ∨ af k_) ∨ w.heap.size ≤ k_)) (fun _ => False) rfl rfl ?aP (fun _ hk => hk.elim) ?aF ?aO ?aB ?aS ?aL ?_; (case aP => exact rfl); (case aB => exact (be2 HB aq av)); (case aF => exact (fun k_ hk => (.inr (Nat.le_trans (by first | exact HK.out.1 | exact (show Kept w _ (fun k_ => ae k_ ∨ af k_) from (kp2 HK ap ar)).1) hk)))); (case aO => exact (by (with_reducible repeat (first | apply Kd.R_alloc | apply Kd.R_drewN | apply Kd.R_drew)); exact Kd.R_mono aw.out (fun _ hk => hk.1))); (case aS => exact (below_size (be2 HB aq av))); (case aL => have := bQ.out; omega); intro b8 bD ho hb hg hat; rw [← bA.out] at ho; replace ab := Aside0.mk (Kd.R_over' (ro ab) (Kd.R_typed (ro aw)) (by decide) hg); replace ac := Aside0.mk (Kd.R_over' (ro ac) (Kd.R_typed (ro aw)) (by decide) hg); replace aa := bgr aa hg (Kd.R_ne aw.out aa.out (by decide)); replace ag := bgr ag hg (Kd.R_ne aw.out ag.out (by decide)); replace HB := Aside0.mk (hb); replace HK := Aside0.mk (Kept.of_grown (S := (fun k_ => ae k_ ∨ af k_)) hg (kp2 HK ap ar) (fun k_ e_ => (aw.out.1 k_ e_).1)); have ai := Aside0.mk (ho); clear aw; clear ho hb hg hat; obtain ⟨ax, ay, b9⟩ := Kd.R_slice ai.out; subst b9; have bW := bz5 aa))
    generalize hV_ : (bD.setCell ⟨ah, 4, none⟩ (.slice ax ad.length ay)) = cu; replace ab := vrf hV_ ab aa; replace ac := vrf hV_ ac aa; replace ai := vrf hV_ ai aa; replace aa : Aside0 (cu.heap[ah]? = some (.cells #[.int .i64 an, .int .i64 ao, .slice bg aj.length bh, .slice bi ak.length bj, .slice ax ad.length ay] 30 (0, 0))) := vp hV_ aa; replace ag : Aside0 (cu.heap[al]? = some (.cells #[.int .i64 0, .int .i64 0, .slice none 0 0, .slice none 0 0, .slice none 0 0] 30 (0, 0))) := vp1 hV_ ag au; replace HK := vkp2 hV_ HK ap ar; replace HB := vb2 hV_ HB aq av; clear hV_; replace ab := eR ab; replace ac := eR ac; replace ai := eR ai; replace aa := eB aa; replace ag := eB ag; replace HK := eK HK; replace HB := eL HB; refine start_ (n := 6) (S := fun w' => w'.cell? ⟨ah, 0, none⟩ = some (.int .i64 an) ∧ w'.cell? ⟨ah, 1, none⟩ = some (.int .i64 ao) ∧ w'.cell? ⟨ah, 2, none⟩ = some (.slice bg aj.length bh) ∧ w'.cell? ⟨ah, 3, none⟩ = some (.slice bi ak.length bj) ∧ w'.cell? ⟨ah, 4, none⟩ = some (.slice ax ad.length ay)) (ds := []) (bv 6 0x0) (by kernel_rfl) rfl rfl (bq5 aa) (fun hHeld => ?_); generalize cu.drew = cG at ab ac ai aa ag HK HB hHeld ⊢; refine pz 0 13 (bv 6 0x1) ?_
    refine tz hHeld 1 14 (bv 6 0x3) ?_
    refine pz 2 15 (bv 6 0x7) ?_
    refine tz hHeld 3 16 (bv 6 0xf) ?_
    refine oz 4 (some 17) (bv 6 0x1f) fun K hK => ?_; refine gz Try.func57 #[.agg #[.int .i64 an, .int .i64 ao, .slice bg aj.length bh, .slice bi ak.length bj, .slice ax ad.length ay]] ?_
    with_reducible refine (spec_l10Ghosts.calls an ao _ _ aj _ _ ak _ _ ad aC _ ?side1 ?side2 ?side3 ?side4 ?side5 ?side6 A5.out).mono ?_
    (case side1 => exact cr ab)
    (case side2 => exact (Kd.R_reads' ab.out).2.1)
    (case side3 => exact cr ac)
    (case side4 => exact (Kd.R_reads' ac.out).2.1)
    (case side5 => exact cr ai)
    (case side6 => exact (Kd.R_reads' ai.out).2.1)
    rintro e cw ⟨rfl, hb⟩; refine ⟨_, rfl, ?_⟩; replace ab := rb ab hb; replace ac := rb ac hb; replace ai := rb ai hb; replace aa := bb aa hb; replace ag := bb ag hb; replace HK := kbp2 HK ap ar hb; replace HB := s2 HB aq av hb; (try clear hb); (try clear cx); (try clear hk); (try clear hi); refine hK.out _ _ (bq5 aa) (fun hHeld => ?_); clear hK K; refine nx ?_
    refine pz 5 18 (bv 6 0x3f) ?_
    refine dz ?_; have bZ := bz5 aa; have ca : (1 : Int) ≤ ((ad.length : Int) : Int) := od; obtain ⟨cy, bF, _, bG, _⟩ := info_parts info3; have bM := cut_from (P := Try.prog) 23 3 .i64 Try.underlying23 bF 1 bG ax ad.length ay 1 (by omega) ca; have bf := Kd.Q_drop (k := (1 : Int).toNat) (Kd.Q_of_R ai.out) (by omega); obtain ⟨bm, bn⟩ : ∃ A1, A1 = (if ay = (1 : Int).toNat then ax else (ax : Option Addr).map (·.add ((1 : Int).toNat * 1))) := ⟨_, rfl⟩; obtain ⟨bo, bN⟩ : ∃ c1, c1 = ay - (1 : Int).toNat := ⟨_, rfl⟩; have bO : aH.length = ad.length - (1 : Int).toNat := (by rw [bC.out, List.length_drop]); rw [← bC.out] at bf; rw [← bO, ← bn, ← bN] at bM; replace bf : Kd.Q (Kd.int .i64) 3 cw w0.heap.size (fun k_ => ((ae k_ ∨ af k_) ∨ w.heap.size ≤ k_)) (.slice bm aH.length bo) aH := (by rw [bn, bN, bO]; exact bf); have cz : Aside0 ((Value.slice bm aH.length bo).ownBlock = (.slice ax ad.length ay : Value).ownBlock) := ⟨by rw [bn]; split <;> (cases (ax : Option Addr) <;> rfl)⟩; clear bO bF bG ai bn bN; have bS := Aside0.mk bf; clear bf; replace ca := eq_true ca; have b0 := bz5 ag
    try go_wp2
    refine bodyPost_ret (results_cell_row rfl _ _ al 30 #[.int .i64 an, .int .i64 ao, .slice bg aj.length bh, .slice bi ak.length bj, .slice bm aH.length bo] (0, 0) _ rfl (bp1 ag au) Try.underlying30 rfl (by kernel_rfl)) rfl ?_; exact ⟨_, _, _, er, (rf2 ab ag aa), (rf2 ac ag aa), (qf2 bS ag aa), be2 HB aq av, (kp2 HK ap ar)⟩
   rw [if_neg c7] at H; exact absurd H (by simp)
  rw [if_neg c6] at H; have b7 : decide (aC < (ad.length : Int)) = false := decide_eq_false c6; clear c6; simp only [Option.some.injEq, Prod.mk.injEq] at H; obtain ⟨rfl, rfl, rfl, rfl, rfl⟩ := H; obtain ⟨aZ, a6, cc⟩ := Kd.R_slice ab.out; subst cc; obtain ⟨a7, a8, cd⟩ := Kd.R_slice ac.out; subst cd
  go_enter Try.func92, Try.ntmps92
  try go_wp2_with (first | ((with_reducible refine gate_dst (N := 2) rfl ?_); refine bx 2 #[.int .i64 an, .int .i64 ao, .slice aZ aj.length a6, .slice a7 ak.length a8, .slice a9 az.length ba] 30 ?_; intro ah hg cI hbox hb; replace ab := rb ab hb; replace ac := rb ac hb; have aa := am hbox; have ap := kgp hg HK; replace HK := kbp HK hb; have aq := gs0 hg HB; replace HB := s0 HB hb; clear hb hbox hg) | ((with_reducible refine gate_dst (N := 4) rfl ?_); refine bx 4 #[.int .i64 0, .int .i64 0, .slice none 0 0, .slice none 0 0, .slice none 0 0] 30 ?_; intro al hg cK hbox hb; replace ab := rb ab hb; replace ac := rb ac hb; have ag := am hbox; have ar := kgp1 hg HK ap; replace HK := kbp1 HK ap hb; have av := gs1 hg HB aq; replace HB := s1 HB aq hb; have aD := nl hg aa; have au := ng hg aa; replace aa := bb aa hb; clear hb hbox hg; have cm := aD.out; have cn := au.out; have b1 := bz5 aa) | ((with_reducible refine gate_callee (f := 96) rfl ?_); refine gl 8 Try.func96 #[.slice a9 az.length ba, .int .i64 a1] ?_; (with_reducible refine (spec_l08But.calls k _ _ az a1 aA _ ?side1 bz.out A3.out).mono ?_); (case side1 => exact Kd.C_kept_now bw.out (kp2 HK ap ar)); rintro e cL ⟨bJ, rfl, bR, hb⟩; refine ⟨_, rfl, ?_⟩; replace ab := rb ab hb; replace ac := rb ac hb; have aw := Aside0.mk (Kd.R_lower (Kd.R_newM (M := fun k_ => ((ae k_ ∨ af k_) ∨ w.heap.size ≤ k_)) bR (by first | exact HK.out.1 | exact (show Kept w _ (fun k_ => ae k_ ∨ af k_) from (kp2 HK ap ar)).1) (fun k_ h_ => .inr h_)) (below_size (be2 HB aq av))); replace aa := bb aa hb; replace ag := bb ag hb; replace HK := kbp2 HK ap ar hb; replace HB := s2 HB aq av hb; (try clear hb); (try clear bR)) | ((with_reducible refine gate_builtin (b := .append) (xs := #[.tmp 8, .tmp 10]) rfl ?_); at_builtin; refine Kd.R_append (Kd.int .i64) (w0 := w0) w0.heap.size rfl (.tmp 8) (.tmp 10) 23 3 (.int .i64 0) 8 rfl Try.underlying23 info3 rfl (by decide) (by omega) bJ aA a1 [.int .i64 a1] (fun k_ => ((ae k_ ∨ af k_) ∨ w.heap.size ≤ k_)) (fun _ => False) rfl rfl ?aP (fun _ hk => hk.elim) ?aF ?aO ?aB ?aS ?aL ?_; (case aP => exact rfl); (case aB => exact (be2 HB aq av)); (case aF => exact (fun k_ hk => (.inr (Nat.le_trans (by first | exact HK.out.1 | exact (show Kept w _ (fun k_ => ae k_ ∨ af k_) from (kp2 HK ap ar)).1) hk)))); (case aO => exact (by (with_reducible repeat (first | apply Kd.R_alloc | apply Kd.R_drewN | apply Kd.R_drew)); exact Kd.R_mono aw.out (fun _ hk => hk.1))); (case aS => exact (below_size (be2 HB aq av))); (case aL => have := bQ.out; omega); intro b8 bH ho hb hg hat; rw [← bA.out] at ho; replace ab := Aside0.mk (Kd.R_over' (ro ab) (Kd.R_typed (ro aw)) (by decide) hg); replace ac := Aside0.mk (Kd.R_over' (ro ac) (Kd.R_typed (ro aw)) (by decide) hg); replace aa := bgr aa hg (Kd.R_ne aw.out aa.out (by decide)); replace ag := bgr ag hg (Kd.R_ne aw.out ag.out (by decide)); replace HB := Aside0.mk (hb); replace HK := Aside0.mk (Kept.of_grown (S := (fun k_ => ae k_ ∨ af k_)) hg (kp2 HK ap ar) (fun k_ e_ => (aw.out.1 k_ e_).1)); have ai := Aside0.mk (ho); clear aw; clear ho hb hg hat; obtain ⟨aE, aG, ce⟩ := Kd.R_slice ai.out; subst ce; have b2 := bz5 aa))
  generalize hV_ : (bH.setCell ⟨ah, 4, none⟩ (.slice aE ad.length aG)) = cA; replace ab := vrf hV_ ab aa; replace ac := vrf hV_ ac aa; replace ai := vrf hV_ ai aa; replace aa : Aside0 (cA.heap[ah]? = some (.cells #[.int .i64 an, .int .i64 ao, .slice aZ aj.length a6, .slice a7 ak.length a8, .slice aE ad.length aG] 30 (0, 0))) := vp hV_ aa; replace ag : Aside0 (cA.heap[al]? = some (.cells #[.int .i64 0, .int .i64 0, .slice none 0 0, .slice none 0 0, .slice none 0 0] 30 (0, 0))) := vp1 hV_ ag au; replace HK := vkp2 hV_ HK ap ar; replace HB := vb2 hV_ HB aq av; clear hV_; replace ab := eR ab; replace ac := eR ac; replace ai := eR ai; replace aa := eB aa; replace ag := eB ag; replace HK := eK HK; replace HB := eL HB; refine start_ (n := 6) (S := fun w' => w'.cell? ⟨ah, 0, none⟩ = some (.int .i64 an) ∧ w'.cell? ⟨ah, 1, none⟩ = some (.int .i64 ao) ∧ w'.cell? ⟨ah, 2, none⟩ = some (.slice aZ aj.length a6) ∧ w'.cell? ⟨ah, 3, none⟩ = some (.slice a7 ak.length a8) ∧ w'.cell? ⟨ah, 4, none⟩ = some (.slice aE ad.length aG)) (ds := []) (bv 6 0x0) (by kernel_rfl) rfl rfl (bq5 aa) (fun hHeld => ?_); generalize cA.drew = cM at ab ac ai aa ag HK HB hHeld ⊢; refine pz 0 13 (bv 6 0x1) ?_
  refine tz hHeld 1 14 (bv 6 0x3) ?_
  refine pz 2 15 (bv 6 0x7) ?_
  refine tz hHeld 3 16 (bv 6 0xf) ?_
  refine oz 4 (some 17) (bv 6 0x1f) fun K hK => ?_; refine gz Try.func57 #[.agg #[.int .i64 an, .int .i64 ao, .slice aZ aj.length a6, .slice a7 ak.length a8, .slice aE ad.length aG]] ?_
  with_reducible refine (spec_l10Ghosts.calls an ao _ _ aj _ _ ak _ _ ad aC _ ?side1 ?side2 ?side3 ?side4 ?side5 ?side6 A5.out).mono ?_
  (case side1 => exact cr ab)
  (case side2 => exact (Kd.R_reads' ab.out).2.1)
  (case side3 => exact cr ac)
  (case side4 => exact (Kd.R_reads' ac.out).2.1)
  (case side5 => exact cr ai)
  (case side6 => exact (Kd.R_reads' ai.out).2.1)
  rintro e cN ⟨rfl, hb⟩; refine ⟨_, rfl, ?_⟩; replace ab := rb ab hb; replace ac := rb ac hb; replace ai := rb ai hb; replace aa := bb aa hb; replace ag := bb ag hb; replace HK := kbp2 HK ap ar hb; replace HB := s2 HB aq av hb; (try clear hb); (try clear cx); (try clear hk); (try clear hi); refine hK.out _ _ (bq5 aa) (fun hHeld => ?_); clear hK K; refine nx ?_
  refine pz 5 18 (bv 6 0x3f) ?_
  refine dz ?_; have b3 := bz5 aa; have b4 := bz5 ag
  try go_wp2
  refine bodyPost_ret (results_cell_row rfl _ _ al 30 #[.int .i64 an, .int .i64 ao, .slice aZ aj.length a6, .slice a7 ak.length a8, .slice aE ad.length aG] (0, 0) _ rfl (bp ag) Try.underlying30 rfl (by kernel_rfl)) rfl ?_; exact ⟨_, _, _, er, (rf ab ag), (rf ac ag), Kd.Q_of_R (rf ai ag), be2 HB aq av, (kp2 HK ap ar)⟩
 rw [if_neg c4] at H; exact absurd H (by simp)

/-! ### spec_Hash: function 93 -/
def spec_Hash.l0 : Nat → ByteArray → Int → Int → Option (Int)
 | 0, _, _, _ => none
 | k + 1, x0, x3, x4 => if x4 < (x0.size : Int) then (if 0 ≤ x4 then (spec_Hash.l0 k x0 (Int.tmod (wrap64 ((Go.bits .xor .i64 x3 (wrap64 (bt x0 x4))) * 16777619)) 4294967296) (wrap64 (x4 + 1))) else (none)) else (some x3)
def spec_Hash.f (k : Nat) (a0 : ByteArray) : Option (Int) := spec_Hash.l0 k a0 2166136261 0
theorem spec_Hash.mono_l : ∀ k, (∀ y0 y1 y2, LeO (spec_Hash.l0 k y0 y1 y2) (spec_Hash.l0 (k + 1) y0 y1 y2))
 | 0 => fun _ _ _ r h => by simp [spec_Hash.l0] at h
 | k + 1 => by
  have ac := spec_Hash.mono_l k
  ·intro y0 y1 y2; unfold spec_Hash.l0
   repeat' first | (with_reducible first | apply ac | apply lr | apply ln | apply li | refine lb ?_ fun _ => ?_) | apply ac | apply ln | apply li | refine lb ?_ fun _ => ?_
theorem spec_Hash.mono : ∀ a0 k, LeO (spec_Hash.f k a0) (spec_Hash.f (k + 1) a0) := by
 intro a0 k; have ac := spec_Hash.mono_l k; unfold spec_Hash.f
 repeat' first | (with_reducible first | apply ac | apply lr | apply ln | apply li | refine lb ?_ fun _ => ?_) | apply ac | apply ln | apply li | refine lb ?_ fun _ => ?_
set_option maxHeartbeats 8000000 in
set_option maxRecDepth 100000 in
theorem spec_Hash.calls (k : Nat) (a0 : ByteArray) (r : Int) (w : World) (h : spec_Hash.f k a0 = some r) :
  Calls Try.prog 93 #[.string a0] w fun e w' => e = .returned (.int .i64 r) ∧ Drawn0 w w' := by
 have H : (spec_Hash.l0 k a0 2166136261 0) = some r := h; clear h; have H' := Aside0.mk H; clear H
 go_enter Try.func93, Try.ntmps93
 go_wp2
 go_loopg [3, 4] k (fun kq v3 v4 w' => ∃ (ab : Int) (aa : Int), v3 = .int .i64 ab ∧ v4 = .int .i64 aa ∧ Aside0 (spec_Hash.l0 kq a0 ab aa = some r) ∧ Aside0 (kq ≤ k) ∧ Drawn0 w w')
 case atStart => exact ⟨(2166136261), (0), rs, rs, H', ⟨Nat.le_refl _⟩, by repeat (first | exact Drawn0.refl _ | apply Drawn0.step)⟩
 case round =>
  clear H'; obtain ⟨ab, aa, rfl, rfl, HA, ae, ⟨m1, rfl⟩⟩ := hrel
  cases gk with
  | zero => exact absurd HA.out (by simp [spec_Hash.l0])
  | succ k1 =>
   have H := HA.out; clear HA; simp only [spec_Hash.l0] at H
   by_cases c2 : aa < (a0.size : Int)
   ·rw [if_pos c2] at H; have ad : decide (aa < (a0.size : Int)) = true := decide_eq_true c2; clear c2
    by_cases c3 : 0 ≤ aa
    ·rw [if_pos c3] at H; have af : decide (0 ≤ aa) = true := decide_eq_true c3; clear c3; have H' := Aside0.mk H; clear H; have p4 : 0 ≤ (aa : Int) := od; have q4 : aa < (a0.size : Int) := od; have ag := bt_at a0 aa; replace p4 := eq_true p4; replace q4 := eq_true q4
     go_wp2
     go_roundg k1
     case measure => have := ae.out; omega
     case rel => exact ⟨(Int.tmod (wrap64 ((Go.bits .xor .i64 ab (wrap64 (bt a0 aa))) * 16777619)) 4294967296), (wrap64 (aa + 1)), rs, rs, H', ⟨by have := ae.out; omega⟩, by repeat (first | exact Drawn0.refl _ | apply Drawn0.step)⟩
    rw [if_neg c3] at H; exact absurd H (by simp)
   rw [if_neg c2] at H; have ad : decide (aa < (a0.size : Int)) = false := decide_eq_false c2; clear c2; obtain rfl := Option.some.inj H
   go_wp2
   go_ret
   exact ⟨by first | rfl | (simp; done) | (simp [*]; done), by repeat (first | exact Drawn0.refl _ | apply Drawn0.step)⟩

end Go.Proofs.Ytfjhkediaholmaa.QFnSpare
