-- made by a program of this session (myprint.py)
import Derived.Test.YtgkliacflbenfaaQFnAgesx0
namespace Go.Proofs.Ytgkliacflbenfaa.QFnAges
open Go.RowKit Go.Proofs.YtgkliacflbenfaaW.PrintWords Go.Proofs.YtgkliacflbenfaaW.PrintLast Go.Proofs.YtgkliacflbenfaaW.PrintMore
attribute [local go_sem] max2_int min2_int max_two min_two max_three min_three max_four min_four   -- for this text's walks alone
set_option linter.unusedVariables false
set_option linter.unusedSimpArgs false

/-! ### spec_l06Copy: function 69 -/
def spec_l06Copy.f (ao : Int) (ai : List Int) (ah : List (S63)) : Option (Int × List Int × (List (S63))) := (some (([] : List Int) : List Int)).bind fun av => (if av.length + ai.length < 17592186044416 then ((some (([] : List (S63)) : List (S63))).bind fun al => (if al.length + ah.length < 8796093022208 then (some (ao, (av ++ ai), (al ++ ah))) else (none))) else (none))
def spec_l06Copy.T1 : Bool × List (List Nat × List Nat) := (true, [([], []), ([0], [0]), ([], []), ([], []), ([3], [3]), ([2, 4], [2, 4]), ([], []), ([], []), ([7], [7]), ([6, 8, 5], [6, 8]), ([1, 5, 9], [1, 5, 9]), ([10, 9, 0, 1, 2, 3, 4, 5, 6, 7, 8, 9, 10], [10])])
def spec_l06Copy.B1 : List Nat := [0, 1, 0, 0, 8, 28, 0, 0, 128, 508, 1023, 2047]
theorem spec_l06Copy.tab1 : rtab .any (opsOf Try.f69 1) = spec_l06Copy.T1 := by kernel_rfl
theorem spec_l06Copy.bits1 : waitsOk spec_l06Copy.T1.2 spec_l06Copy.B1 = true := by kernel_rfl
set_option maxHeartbeats 8000000 in
set_option maxRecDepth 100000 in
theorem spec_l06Copy.calls (ao : Int) (aA : Option Addr) (aC : Nat) (ai : List Int) (aD : Option Addr) (aE : Nat) (ah : List (S63)) (r1 : Int) (r2 : List Int) (r3 : List (S63)) (w : World) (a1 : Kd.C (Kd.int .i64) w aA ai.length ai) (a2 : ai.length ≤ aC) (a3 : Kd.C k63 w aD ah.length ah) (a4 : ah.length ≤ aE) (h : spec_l06Copy.f ao ai ah = some (r1, r2, r3)) :
  Calls Try.prog 69 #[.agg #[.int .i64 ao, .slice aA ai.length aC, .slice aD ah.length aE]] w fun e w' => ∃ bF bG : Value, e = .returned (.agg #[.int .i64 r1, bF, bG]) ∧ Kd.R (Kd.int .i64) 3 w' w.heap.size (fun _ => True) bF r2 ∧ Kd.R k63 63 w' w.heap.size (fun _ => True) bG r3 ∧ Below w.heap.size w w' := by
 have hu26 := Try.underlying26; have aX := Aside0.mk a1; have bH := Aside0.mk a2; clear a1 a2; have a8 := Aside0.mk a3; have bI := Aside0.mk a4; clear a3 a4; have HB := Aside0.mk (Below.refl w.heap.size w); have H : ((some (([] : List Int) : List Int)).bind fun av => (if av.length + ai.length < 17592186044416 then ((some (([] : List (S63)) : List (S63))).bind fun al => (if al.length + ah.length < 8796093022208 then (some (ao, (av ++ ai), (al ++ ah))) else (none))) else (none))) = some (r1, r2, r3) := h; clear h; obtain ⟨av, aG, H⟩ := oy H; have aV := Aside0.mk aG; clear aG
 by_cases c2 : av.length + ai.length < 17592186044416
 ·rw [if_pos c2] at H; have a7 := Aside0.mk c2; clear c2; obtain ⟨aW, aH⟩ : ∃ y_ : List Int, y_ = (av ++ ai) := ⟨_, rfl⟩; rw [← aH] at H; have aY := Aside0.mk aH; clear aH; obtain ⟨al, aI, H⟩ := oy H; have ay := Aside0.mk aI; clear aI
  by_cases c3 : al.length + ah.length < 8796093022208
  ·rw [if_pos c3] at H; have bq := Aside0.mk c3; clear c3; obtain ⟨a9, aJ⟩ : ∃ y_ : List (S63), y_ = (al ++ ah) := ⟨_, rfl⟩; rw [← aJ] at H; have ba := Aside0.mk aJ; clear aJ; simp only [Option.some.injEq, Prod.mk.injEq] at H; obtain ⟨rfl, rfl, rfl⟩ := H
   go_enter Try.func69, Try.ntmps69
   try go_wp2_with (first | ((with_reducible refine gate_dst (N := 1) rfl ?_); refine bx 1 #[.int .i64 ao, .slice aA ai.length aC, .slice aD ah.length aE] 26 ?_; intro an hg w4 hbox hb; have aa := am hbox; have bJ := gs0 hg HB; have ad := gs0 hg HB; replace HB := s0 HB hb; clear hb hbox hg) | ((with_reducible refine gate_dst (N := 2) rfl ?_); refine bx 2 #[.int .i64 0, .slice none 0 0, .slice none 0 0] 26 ?_; intro aj hg w5 hbox hb; have ab := am hbox; have bM := gs1 hg HB ad; have ae := gs1 hg HB ad; replace HB := s1 HB ad hb; have ac := nl hg aa; have aw := ng hg aa; replace aa := bb aa hb; clear hb hbox hg))
   replace aa := eB aa; replace ab := eB ab; replace HB := eL HB; refine start_ (n := 12) (S := fun w' => w'.cell? ⟨an, 0, none⟩ = some (.int .i64 ao) ∧ w'.cell? ⟨an, 1, none⟩ = some (.slice aA ai.length aC) ∧ w'.cell? ⟨an, 2, none⟩ = some (.slice aD ah.length aE)) (ds := []) (bv 12 0x0) (by kernel_rfl) rfl rfl (bq3 aa) (fun hHeld => ?_); refine with_tabW spec_l06Copy.tab1 spec_l06Copy.bits1 (fun HT_ HW_ => ?_); generalize w5.drew = w6 at aa ab HB hHeld ⊢; refine py HT_ 0 3 (bv 12 0x1) ?_; refine py HT_ 3 6 (bv 12 0x9) ?_; refine py HT_ 7 10 (bv 12 0x89) ?_; refine tk HT_ HW_ hHeld 1 4 (bv 12 0x8b) ?_; refine tk HT_ HW_ hHeld 4 7 (bv 12 0x9b) ?_; refine tk HT_ HW_ hHeld 8 11 (bv 12 0x19b) ?_; refine join_ (σ := Value × Value × Value) 3 (bv 12 0x1ff) (fun s_ => [(5, s_.1), (8, s_.2.1), (9, s_.2.2)]) (fun s_ w' => (Kd.R (Kd.int .i64) 3 w' w.heap.size (fun _ => True) s_.2.1 aW) ∧ (Kd.R k63 63 w' w.heap.size (fun _ => True) s_.2.2 al) ∧ (w'.heap[an]? = some (.cells #[.int .i64 ao, .slice aA ai.length aC, .slice aD ah.length aE] 26 (0, 0))) ∧ (w'.heap[aj]? = some (.cells #[.int .i64 0, .slice none 0 0, .slice none 0 0] 26 (0, 0))) ∧ (Below w.heap.size w w')) ?_ ?_
   rotate_left
   ·intro hCont; refine two_ (i := 2) (j := 6) (Ni := some 5) (Nj := some 9) (bv 12 0x19f) (bv 12 0x1db) rfl rfl rfl rfl (two_of HT_.out (by kernel_rfl)) (by decide) (by decide) (fun K hK => ?_) (fun K hK => ?_)
    ·skip
     refine lt_ (Kd.int .i64) 3 5 ([] : List Int) [] (Reps.none _ _) ?_; intro aK w7 aZ hb; (first | rw [← aV.out] at aZ | (simp only [Int.reduceToNat] at aZ; rw [← aV.out] at aZ)); have ag := rl2 aZ HB ad ae; replace aa := bb aa hb; replace ab := bb ab hb; replace HB := s2 HB ad ae hb; clear hb aZ; refine hK.out _ _ (bq3 aa) (fun hHeld => ?_); clear hK K; refine nx ?_
     refine two_ (i := 5) (j := 6) (Ni := some 8) (Nj := some 9) (bv 12 0x1bf) (bv 12 0x1df) rfl rfl rfl rfl (two_of HT_.out (by kernel_rfl)) (by decide) (by decide) (fun K hK => ?_) (fun K hK => ?_)
     ·skip
      refine Kd.R_append_rows_step (Kd.int .i64) (w0 := w) w.heap.size (by rfl) (.tmp 5) (.tmp 7) 23 3 (.int .i64 0) 8 rfl Try.underlying23 info3 rfl (by decide) (by omega) aK av ai _ _ _ (fun _ => True) (fun _ => False) rfl rfl ?aO ?aR (fun _ _ h => h) (fun _ h => h.elim) ?aF ?aB ?aS ?aL ?_
      (case aR => exact cb aX HB)
      (case aB => exact (be2 HB ad ae))
      (case aF => exact (fun _ _ => trivial))
      (case aO => exact (ro ag))
      (case aS => exact (below_size (be2 HB ad ae)))
      (case aL => have := a7.out; omega)
      intro aU w9 ho hb hg hat; rw [← aY.out] at ho; replace aa := bgr aa hg (Kd.R_ne ag.out aa.out (by decide)); replace ab := bgr ab hg (Kd.R_ne ag.out ab.out (by decide)); replace HB := Aside0.mk (hb); have ak := Aside0.mk (ho); clear ag; clear ho hb hg hat; refine hK.out _ _ (bq3 aa) (fun hHeld => ?_); clear hK K; refine nx ?_
      refine oh HT_ 6 (some 9) (bv 12 0x1ff) fun K hK => ?_; refine lt_ k63 63 9 ([] : List (S63)) [] (Reps.none _ _) ?_; intro aN b5 a0 hb; (first | rw [← ay.out] at a0 | (simp only [Int.reduceToNat] at a0; rw [← ay.out] at a0)); replace ak := rb ak hb; have af := rl2 a0 HB ad ae; replace aa := bb aa hb; replace ab := bb ab hb; replace HB := s2 HB ad ae hb; clear hb a0; refine hK.out _ _ (bq3 aa) (fun hHeld => ?_); clear hK K; refine nx ?_
      exact norm_ (by simp only [putAll, Act.put, List.setIfInBounds_toArray, List.set_cons_zero, List.set_cons_succ]) (hCont (aK, aU, aN) _ ⟨(ro ak), (ro af), (bk aa), (bk ab), (be2 HB ad ae)⟩)
     skip
     refine lt_ k63 63 9 ([] : List (S63)) [] (Reps.none _ _) ?_; intro aN w9 ax hb; (first | rw [← ay.out] at ax | (simp only [Int.reduceToNat] at ax; rw [← ay.out] at ax)); replace ag := rb ag hb; have af := rl2 ax HB ad ae; replace aa := bb aa hb; replace ab := bb ab hb; replace HB := s2 HB ad ae hb; clear hb ax; refine hK.out _ _ (bq3 aa) (fun hHeld => ?_); clear hK K; refine nx ?_
     refine oh HT_ 5 (some 8) (bv 12 0x1ff) fun K hK => ?_; refine Kd.R_append_rows_step (Kd.int .i64) (w0 := w) w.heap.size (by rfl) (.tmp 5) (.tmp 7) 23 3 (.int .i64 0) 8 rfl Try.underlying23 info3 rfl (by decide) (by omega) aK av ai _ _ _ (fun _ => True) (fun _ => False) rfl rfl ?aO ?aR (fun _ _ h => h) (fun _ h => h.elim) ?aF ?aB ?aS ?aL ?_
     (case aR => exact cb aX HB)
     (case aB => exact (be2 HB ad ae))
     (case aF => exact (fun _ _ => trivial))
     (case aO => exact (ro ag))
     (case aS => exact (below_size (be2 HB ad ae)))
     (case aL => have := a7.out; omega)
     intro aU b0 ho hb hg hat; rw [← aY.out] at ho; replace aa := bgr aa hg (Kd.R_ne ag.out aa.out (by decide)); replace ab := bgr ab hg (Kd.R_ne ag.out ab.out (by decide)); replace af := Aside0.mk (Kd.R_over' (ro af) (Kd.R_typed (ro ag)) (by decide) hg); replace HB := Aside0.mk (hb); have ak := Aside0.mk (ho); clear ag; clear ho hb hg hat; refine hK.out _ _ (bq3 aa) (fun hHeld => ?_); clear hK K; refine nx ?_
     exact norm_ (by simp only [putAll, Act.put, List.setIfInBounds_toArray, List.set_cons_zero, List.set_cons_succ]) (hCont (aK, aU, aN) _ ⟨(ro ak), (ro af), (bk aa), (bk ab), (be2 HB ad ae)⟩)
    skip
    refine lt_ k63 63 9 ([] : List (S63)) [] (Reps.none _ _) ?_; intro aN w7 aZ hb; (first | rw [← ay.out] at aZ | (simp only [Int.reduceToNat] at aZ; rw [← ay.out] at aZ)); have af := rl2 aZ HB ad ae; replace aa := bb aa hb; replace ab := bb ab hb; replace HB := s2 HB ad ae hb; clear hb aZ; refine hK.out _ _ (bq3 aa) (fun hHeld => ?_); clear hK K; refine nx ?_
    refine oh HT_ 2 (some 5) (bv 12 0x1df) fun K hK => ?_; refine lt_ (Kd.int .i64) 3 5 ([] : List Int) [] (Reps.none _ _) ?_; intro aK w9 ax hb; (first | rw [← aV.out] at ax | (simp only [Int.reduceToNat] at ax; rw [← aV.out] at ax)); replace af := rb af hb; have ag := rl2 ax HB ad ae; replace aa := bb aa hb; replace ab := bb ab hb; replace HB := s2 HB ad ae hb; clear hb ax; refine hK.out _ _ (bq3 aa) (fun hHeld => ?_); clear hK K; refine nx ?_
    refine oh HT_ 5 (some 8) (bv 12 0x1ff) fun K hK => ?_; refine Kd.R_append_rows_step (Kd.int .i64) (w0 := w) w.heap.size (by rfl) (.tmp 5) (.tmp 7) 23 3 (.int .i64 0) 8 rfl Try.underlying23 info3 rfl (by decide) (by omega) aK av ai _ _ _ (fun _ => True) (fun _ => False) rfl rfl ?aO ?aR (fun _ _ h => h) (fun _ h => h.elim) ?aF ?aB ?aS ?aL ?_
    (case aR => exact cb aX HB)
    (case aB => exact (be2 HB ad ae))
    (case aF => exact (fun _ _ => trivial))
    (case aO => exact (ro ag))
    (case aS => exact (below_size (be2 HB ad ae)))
    (case aL => have := a7.out; omega)
    intro aU b0 ho hb hg hat; rw [← aY.out] at ho; replace aa := bgr aa hg (Kd.R_ne ag.out aa.out (by decide)); replace ab := bgr ab hg (Kd.R_ne ag.out ab.out (by decide)); replace af := Aside0.mk (Kd.R_over' (ro af) (Kd.R_typed (ro ag)) (by decide) hg); replace HB := Aside0.mk (hb); have ak := Aside0.mk (ho); clear ag; clear ho hb hg hat; refine hK.out _ _ (bq3 aa) (fun hHeld => ?_); clear hK K; refine nx ?_
    exact norm_ (by simp only [putAll, Act.put, List.setIfInBounds_toArray, List.set_cons_zero, List.set_cons_succ]) (hCont (aK, aU, aN) _ ⟨(ro ak), (ro af), (bk aa), (bk ab), (be2 HB ad ae)⟩)
   rintro ⟨aK, aU, aN⟩ a5 ⟨bN, bO, bQ, bR, bS⟩; (try dsimp only at bN bO bQ bR bS); have ak := am bN; have af := am bO; replace aa := am bQ; replace ab := am bR; replace HB := am bS; clear bN bO bQ bR bS; have hHeld := bq3 aa; refine nz ?_
   refine oh HT_ 9 (some 12) (bv 12 0x3ff) fun K hK => ?_; refine Kd.R_append_rows_step k63 (w0 := w) w.heap.size (by rfl) (.tmp 9) (.tmp 11) 24 63 (.agg #[(.int .i64 0), (.int .i64 0)]) 16 rfl Try.underlying24 info63 rfl (by decide) (by omega) aN al ah _ _ _ (fun _ => True) (fun _ => False) rfl rfl ?aO ?aR (fun _ _ h => h) (fun _ h => h.elim) ?aF ?aB ?aS ?aL ?_
   (case aR => exact cb a8 HB)
   (case aB => exact (be2 HB ad ae))
   (case aF => exact (fun _ _ => trivial))
   (case aO => exact (ro af))
   (case aS => exact (below_size (be2 HB ad ae)))
   (case aL => have := bq.out; omega)
   intro b1 br ho hb hg hat; rw [← ba.out] at ho; replace aa := bgr aa hg (Kd.R_ne af.out aa.out (by decide)); replace ab := bgr ab hg (Kd.R_ne af.out ab.out (by decide)); replace ak := Aside0.mk (Kd.R_over' (ro ak) (Kd.R_typed (ro af)) (by decide) hg); replace HB := Aside0.mk (hb); have a6 := Aside0.mk (ho); clear af; clear ho hb hg hat; obtain ⟨bs, bu, bc⟩ := Kd.R_slice a6.out; (first | subst bc | (injection bc with bd bw bf; have bz := bd.symm; have bA := bf.symm; clear bd bw bf; subst bz; subst bA)); obtain ⟨bC, bD, bg⟩ := Kd.R_slice ak.out; (first | subst bg | (injection bg with bd bw bf; have bz := bd.symm; have bA := bf.symm; clear bd bw bf; subst bz; subst bA)); refine hK.out _ _ (bq3 aa) (fun hHeld => ?_); clear hK K; refine nx ?_
   refine py HT_ 10 13 (bv 12 0x7ff) ?_; refine oh HT_ 11 none (bv 12 0xfff) fun K hK => ?_; have b2 : br.cell? ⟨aj, 0, none⟩ = some (.int .i64 0) := bc0 ab; have bU := blk_frozen ab.out 0; have bh := ac.out; have bi := aw.out; have b3 : br.cell? ⟨aj, 1, none⟩ = some (.slice none 0 0) := bc1 ab; have bW := blk_frozen ab.out 1; have bj := ac.out; have bm := aw.out; have b4 : br.cell? ⟨aj, 2, none⟩ = some (.slice none 0 0) := bc2 ab; have bZ := blk_frozen ab.out 2; have bn := ac.out; have bo := aw.out; refine sk ?_
   refine hK.out _ _ ⟨(cq ac hHeld.1), (cq ac hHeld.2.1), (cq ac hHeld.2.2)⟩ (fun hHeld => ?_); clear hK K; refine dh HT_ ?_
   try go_wp2
   refine bodyPost_ret (results_cell_row rfl _ _ aj 26 #[.int .i64 ao, .slice bC aW.length bD, .slice bs a9.length bu] (0, 0) _ rfl (bp ab) Try.underlying26 rfl (by kernel_rfl)) rfl ?_; exact ⟨_, _, er, (rfn ak ab), (rfn a6 ab), be2 HB ad ae⟩
  rw [if_neg c3] at H; exact absurd H (by simp)
 rw [if_neg c2] at H; exact absurd H (by simp)

end Go.Proofs.Ytgkliacflbenfaa.QFnAges
