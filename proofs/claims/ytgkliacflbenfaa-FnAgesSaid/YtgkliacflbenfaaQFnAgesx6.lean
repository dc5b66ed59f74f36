-- made by a program of this session (myprint.py)
import Derived.Test.YtgkliacflbenfaaQFnAgesx0
import Derived.Test.YtgkliacflbenfaaQFnAgesx5
namespace Go.Proofs.Ytgkliacflbenfaa.QFnAges
open Go.RowKit Go.Proofs.YtgkliacflbenfaaW.PrintWords Go.Proofs.YtgkliacflbenfaaW.PrintLast Go.Proofs.YtgkliacflbenfaaW.PrintMore
attribute [local go_sem] max2_int min2_int max_two min_two max_three min_three max_four min_four   -- for this text's walks alone
set_option linter.unusedVariables false
set_option linter.unusedSimpArgs false

/-! ### spec_l09Copy: function 45 -/
def spec_l09Copy.f (aq : List Int) (az : Int) (ao : List Int) (ap : List (S63)) (aj : List Int) : Option (List Int × Int × List Int × (List (S63)) × List Int) := (some (([] : List Int) : List Int)).bind fun aE => (if aE.length + aq.length < 17592186044416 then ((spec_l06Copy.f az ao ap).bind fun ar => ((some (([] : List Int) : List Int)).bind fun ax => (if ax.length + aj.length < 17592186044416 then (some ((aE ++ aq), ar.1, ar.2.1, ar.2.2, (ax ++ aj))) else (none)))) else (none))
def spec_l09Copy.T1 : Bool × List (List Nat × List Nat) := (true, [([], []), ([], []), ([1], [1]), ([0, 2], [0, 2]), ([], []), ([4], [4]), ([5, 3], [5]), ([], []), ([], []), ([8], [8]), ([7, 9, 6], [7, 9]), ([3, 6, 10], [3, 6, 10]), ([11, 10, 0, 1, 2, 3, 4, 5, 6, 7, 8, 9, 10, 11], [11])])
def spec_l09Copy.B1 : List Nat := [0, 0, 2, 7, 0, 16, 63, 0, 0, 256, 1023, 2047, 4095]
theorem spec_l09Copy.tab1 : rtab .any (opsOf Try.f45 1) = spec_l09Copy.T1 := by kernel_rfl
theorem spec_l09Copy.bits1 : waitsOk spec_l09Copy.T1.2 spec_l09Copy.B1 = true := by kernel_rfl
set_option maxHeartbeats 8000000 in
set_option maxRecDepth 100000 in
theorem spec_l09Copy.calls (a2 : Option Addr) (a3 : Nat) (aq : List Int) (az : Int) (aJ : Option Addr) (aK : Nat) (ao : List Int) (aN : Option Addr) (aQ : Nat) (ap : List (S63)) (a4 : Option Addr) (a5 : Nat) (aj : List Int) (r1 : List Int) (r2 : Int) (r3 : List Int) (r4 : List (S63)) (r5 : List Int) (w : World) (bA : Kd.C (Kd.int .i64) w a2 aq.length aq) (bC : aq.length ≤ a3) (bD : Kd.C (Kd.int .i64) w aJ ao.length ao) (bF : ao.length ≤ aK) (bG : Kd.C k63 w aN ap.length ap) (bH : ap.length ≤ aQ) (bI : Kd.C (Kd.int .i64) w a4 aj.length aj) (bJ : aj.length ≤ a5) (h : spec_l09Copy.f aq az ao ap aj = some (r1, r2, r3, r4, r5)) :
  Calls Try.prog 45 #[.agg #[.slice a2 aq.length a3, .int .i64 az, .slice aJ ao.length aK, .slice aN ap.length aQ, .slice a4 aj.length a5]] w fun e w' => ∃ b4 b5 cx b6 : Value, e = .returned (.agg #[b4, .int .i64 r2, b5, cx, b6]) ∧ Kd.R (Kd.int .i64) 3 w' w.heap.size (fun k_ => some k_ ≠ (b5 : Value).ownBlock ∧ some k_ ≠ (b6 : Value).ownBlock) b4 r1 ∧ Kd.R (Kd.int .i64) 3 w' w.heap.size (fun k_ => some k_ ≠ (b4 : Value).ownBlock ∧ some k_ ≠ (b6 : Value).ownBlock) b5 r3 ∧ Kd.R k63 63 w' w.heap.size (fun _ => True) cx r4 ∧ Kd.R (Kd.int .i64) 3 w' w.heap.size (fun k_ => some k_ ≠ (b4 : Value).ownBlock ∧ some k_ ≠ (b5 : Value).ownBlock) b6 r5 ∧ Below w.heap.size w w' := by
 have hu28 := Try.underlying28; have hu26 := Try.underlying26; have bq := Aside0.mk bA; have cy := Aside0.mk bC; clear bA bC; have bg := Aside0.mk bD; have bh := Aside0.mk bF; clear bD bF; have bi := Aside0.mk bG; have bj := Aside0.mk bH; clear bG bH; have bS := Aside0.mk bI; have cz := Aside0.mk bJ; clear bI bJ; have HB := Aside0.mk (Below.refl w.heap.size w); have H : ((some (([] : List Int) : List Int)).bind fun aE => (if aE.length + aq.length < 17592186044416 then ((spec_l06Copy.f az ao ap).bind fun ar => ((some (([] : List Int) : List Int)).bind fun ax => (if ax.length + aj.length < 17592186044416 then (some ((aE ++ aq), ar.1, ar.2.1, ar.2.2, (ax ++ aj))) else (none)))) else (none))) = some (r1, r2, r3, r4, r5) := h; clear h; obtain ⟨aE, a6, H⟩ := oy H; have bm := Aside0.mk a6; clear a6
 by_cases c2 : aE.length + aq.length < 17592186044416
 ·rw [if_pos c2] at H; have bN := Aside0.mk c2; clear c2; obtain ⟨bd, a7⟩ : ∃ y_ : List Int, y_ = (aE ++ aq) := ⟨_, rfl⟩; rw [← a7] at H; have br := Aside0.mk a7; clear a7; obtain ⟨⟨aY, aV, aW⟩, A3, H⟩ := ob H; (dsimp only at H); obtain ⟨ax, a8, H⟩ := oy H; have aI := Aside0.mk a8; clear a8
  by_cases c4 : ax.length + aj.length < 17592186044416
  ·rw [if_pos c4] at H; have ck := Aside0.mk c4; clear c4; obtain ⟨bU, a9⟩ : ∃ y_ : List Int, y_ = (ax ++ aj) := ⟨_, rfl⟩; rw [← a9] at H; have bW := Aside0.mk a9; clear a9; simp only [Option.some.injEq, Prod.mk.injEq] at H; obtain ⟨rfl, rfl, rfl, rfl, rfl⟩ := H
   go_enter Try.func45, Try.ntmps45
   try go_wp2_with (first | ((with_reducible refine gate_dst (N := 1) rfl ?_); refine bx 1 #[.slice a2 aq.length a3, .int .i64 az, .slice aJ ao.length aK, .slice aN ap.length aQ, .slice a4 aj.length a5] 28 ?_; intro ak hg w5 hbox hb; have aa := am hbox; have cC := gs0 hg HB; have ad := gs0 hg HB; replace HB := s0 HB hb; clear hb hbox hg) | ((with_reducible refine gate_dst (N := 2) rfl ?_); refine bx 2 #[.slice none 0 0, .int .i64 0, .slice none 0 0, .slice none 0 0, .slice none 0 0] 28 ?_; intro ah hg w6 hbox hb; have ac := am hbox; have cD := gs1 hg HB ad; have ae := gs1 hg HB ad; replace HB := s1 HB ad hb; have ab := nl hg aa; have aA := ng hg aa; replace aa := bb aa hb; clear hb hbox hg))
   replace aa := eB aa; replace ac := eB ac; replace HB := eL HB; refine start_ (n := 13) (S := fun w' => w'.cell? ⟨ak, 0, none⟩ = some (.slice a2 aq.length a3) ∧ w'.cell? ⟨ak, 1, none⟩ = some (.int .i64 az) ∧ w'.cell? ⟨ak, 2, none⟩ = some (.slice aJ ao.length aK) ∧ w'.cell? ⟨ak, 3, none⟩ = some (.slice aN ap.length aQ) ∧ w'.cell? ⟨ak, 4, none⟩ = some (.slice a4 aj.length a5)) (ds := []) (bv 13 0x0) (by kernel_rfl) rfl rfl (bq5 aa) (fun hHeld => ?_); refine with_tabW spec_l09Copy.tab1 spec_l09Copy.bits1 (fun HT_ HW_ => ?_); generalize w6.drew = w7 at aa ac HB hHeld ⊢; refine py HT_ 1 4 (bv 13 0x2) ?_; refine py HT_ 4 7 (bv 13 0x12) ?_; refine py HT_ 8 11 (bv 13 0x112) ?_; refine tk HT_ HW_ hHeld 2 5 (bv 13 0x116) ?_; refine tk HT_ HW_ hHeld 5 8 (bv 13 0x136) ?_; refine tk HT_ HW_ hHeld 9 12 (bv 13 0x336) ?_; refine join_ (σ := Value × Value × Value × Value × Value) 3 (bv 13 0x3ff) (fun s_ => [(3, s_.1), (6, s_.2.1), (9, .agg #[.int .i64 aY, s_.2.2.1, s_.2.2.2.1]), (10, s_.2.2.2.2)]) (fun s_ w' => (Kd.R (Kd.int .i64) 3 w' w.heap.size (fun k_ => some k_ ≠ (s_.2.2.1 : Value).ownBlock ∧ some k_ ≠ (s_.2.2.2.2 : Value).ownBlock) s_.2.1 bd) ∧ (Kd.R (Kd.int .i64) 3 w' w.heap.size (fun k_ => some k_ ≠ (s_.2.1 : Value).ownBlock ∧ some k_ ≠ (s_.2.2.2.2 : Value).ownBlock) s_.2.2.1 aV) ∧ (Kd.R k63 63 w' w.heap.size (fun _ => True) s_.2.2.2.1 aW) ∧ (Kd.R (Kd.int .i64) 3 w' w.heap.size (fun k_ => some k_ ≠ (s_.2.1 : Value).ownBlock ∧ some k_ ≠ (s_.2.2.1 : Value).ownBlock) s_.2.2.2.2 ax) ∧ (w'.heap[ak]? = some (.cells #[.slice a2 aq.length a3, .int .i64 az, .slice aJ ao.length aK, .slice aN ap.length aQ, .slice a4 aj.length a5] 28 (0, 0))) ∧ (w'.heap[ah]? = some (.cells #[.slice none 0 0, .int .i64 0, .slice none 0 0, .slice none 0 0, .slice none 0 0] 28 (0, 0))) ∧ (Below w.heap.size w w')) ?_ ?_
   rotate_left
   ·intro hCont; refine two_ (i := 0) (j := 7) (Ni := some 3) (Nj := some 10) (bv 13 0x337) (bv 13 0x3b6) rfl rfl rfl rfl (two_of HT_.out (by kernel_rfl)) (by decide) (by decide) (fun K hK => ?_) (fun K hK => ?_)
    ·skip
     refine lt_ (Kd.int .i64) 3 3 ([] : List Int) [] (Reps.none _ _) ?_; intro aZ w8 bs hb; (first | rw [← bm.out] at bs | (simp only [Int.reduceToNat] at bs; rw [← bm.out] at bs)); have al := rl2 bs HB ad ae; replace aa := bb aa hb; replace ac := bb ac hb; replace HB := s2 HB ad ae hb; clear hb bs; refine hK.out _ _ (bq5 aa) (fun hHeld => ?_); clear hK K; refine nx ?_
     refine two_ (i := 3) (j := 7) (Ni := some 6) (Nj := some 10) (bv 13 0x33f) (bv 13 0x3b7) rfl rfl rfl rfl (two_of HT_.out (by kernel_rfl)) (by decide) (by decide) (fun K hK => ?_) (fun K hK => ?_)
     ·skip
      refine Kd.R_append_rows_step (Kd.int .i64) (w0 := w) w.heap.size (by rfl) (.tmp 3) (.tmp 5) 23 3 (.int .i64 0) 8 rfl Try.underlying23 info3 rfl (by decide) (by omega) aZ aE aq _ _ _ (fun _ => True) (fun _ => False) rfl rfl ?aO ?aR (fun _ _ h => h) (fun _ h => h.elim) ?aF ?aB ?aS ?aL ?_
      (case aR => exact cb bq HB)
      (case aB => exact (be2 HB ad ae))
      (case aF => exact (fun _ _ => trivial))
      (case aO => exact (ro al))
      (case aS => exact (below_size (be2 HB ad ae)))
      (case aL => have := bN.out; omega)
      intro aU cE ho hb hg hat; rw [← br.out] at ho; replace aa := bgr aa hg (Kd.R_ne al.out aa.out (by decide)); replace ac := bgr ac hg (Kd.R_ne al.out ac.out (by decide)); replace HB := Aside0.mk (hb); have af := Aside0.mk (ho); clear al; clear ho hb hg hat; refine hK.out _ _ (bq5 aa) (fun hHeld => ?_); clear hK K; refine nx ?_
      refine two_ (i := 6) (j := 7) (Ni := some 9) (Nj := some 10) (bv 13 0x37f) (bv 13 0x3bf) rfl rfl rfl rfl (two_of HT_.out (by kernel_rfl)) (by decide) (by decide) (fun K hK => ?_) (fun K hK => ?_)
      ·skip
       refine gz Try.func69 #[.agg #[.int .i64 az, .slice aJ ao.length aK, .slice aN ap.length aQ]] ?_
       with_reducible refine (spec_l06Copy.calls az _ _ ao _ _ ap aY aV aW _ ?side1 ?side2 ?side3 ?side4 A3.out).mono ?_
       (case side1 => exact cb bg HB)
       (case side2 => exact bh.out)
       (case side3 => exact cb bi HB)
       (case side4 => exact bj.out)
       rintro e cX ⟨aG, a0, rfl, a1, bu, hb⟩; refine ⟨_, rfl, ?_⟩; have ai := Aside0.mk (Kd.R_lower (nw a1 af) (below_size (be2 HB ad ae))); replace af := Aside0.mk (Kd.R_elder' (ro af) (Kd.R_base a1) hb); have an := rl2 bu HB ad ae; replace aa := bb aa hb; replace ac := bb ac hb; replace HB := s2 HB ad ae hb; (try clear hb); (try clear cl); (try clear hk); (try clear hi); (try clear a1); (try clear bu); refine hK.out _ _ (bq5 aa) (fun hHeld => ?_); clear hK K; refine nx ?_
       refine oh HT_ 7 (some 10) (bv 13 0x3ff) fun K hK => ?_; refine lt_ (Kd.int .i64) 3 10 ([] : List Int) [] (Reps.none _ _) ?_; intro aD cF bf hb; (first | rw [← aI.out] at bf | (simp only [Int.reduceToNat] at bf; rw [← aI.out] at bf)); replace an := rb an hb; have ag := Aside0.mk (Kd.R_lower (nw (nw bf af) ai) (below_size (be2 HB ad ae))); replace af := Aside0.mk (Kd.R_elder' (ro af) (Kd.R_base bf) hb); replace ai := Aside0.mk (Kd.R_elder' (ro ai) (Kd.R_base bf) hb); replace aa := bb aa hb; replace ac := bb ac hb; replace HB := s2 HB ad ae hb; clear hb bf; refine hK.out _ _ (bq5 aa) (fun hHeld => ?_); clear hK K; refine nx ?_
       exact norm_ (by simp only [putAll, Act.put, List.setIfInBounds_toArray, List.set_cons_zero, List.set_cons_succ]) (hCont (aZ, aU, aG, a0, aD) _ ⟨(by (with_reducible repeat (first | apply Kd.R_alloc | apply Kd.R_drewN | apply Kd.R_drew)); exact rm af), (by (with_reducible repeat (first | apply Kd.R_alloc | apply Kd.R_drewN | apply Kd.R_drew)); exact rm ai), (ro an), (by (with_reducible repeat (first | apply Kd.R_alloc | apply Kd.R_drewN | apply Kd.R_drew)); exact rm ag), (bk aa), (bk ac), (be2 HB ad ae)⟩)
      skip
      refine lt_ (Kd.int .i64) 3 10 ([] : List Int) [] (Reps.none _ _) ?_; intro aD cX bn hb; (first | rw [← aI.out] at bn | (simp only [Int.reduceToNat] at bn; rw [← aI.out] at bn)); have ag := Aside0.mk (Kd.R_lower (nw bn af) (below_size (be2 HB ad ae))); replace af := Aside0.mk (Kd.R_elder' (ro af) (Kd.R_base bn) hb); replace aa := bb aa hb; replace ac := bb ac hb; replace HB := s2 HB ad ae hb; clear hb bn; refine hK.out _ _ (bq5 aa) (fun hHeld => ?_); clear hK K; refine nx ?_
      refine oh HT_ 6 (some 9) (bv 13 0x3ff) fun K hK => ?_; refine gz Try.func69 #[.agg #[.int .i64 az, .slice aJ ao.length aK, .slice aN ap.length aQ]] ?_
      with_reducible refine (spec_l06Copy.calls az _ _ ao _ _ ap aY aV aW _ ?side1 ?side2 ?side3 ?side4 A3.out).mono ?_
      (case side1 => exact cb bg HB)
      (case side2 => exact bh.out)
      (case side3 => exact cb bi HB)
      (case side4 => exact bj.out)
      rintro e cG ⟨aG, a0, rfl, a1, bu, hb⟩; refine ⟨_, rfl, ?_⟩; have ai := Aside0.mk (Kd.R_lower (nw (nw a1 af) ag) (below_size (be2 HB ad ae))); replace af := Aside0.mk (Kd.R_elder' (ro af) (Kd.R_base a1) hb); replace ag := Aside0.mk (Kd.R_elder' (ro ag) (Kd.R_base a1) hb); have an := rl2 bu HB ad ae; replace aa := bb aa hb; replace ac := bb ac hb; replace HB := s2 HB ad ae hb; (try clear hb); (try clear cl); (try clear hk); (try clear hi); (try clear a1); (try clear bu); refine hK.out _ _ (bq5 aa) (fun hHeld => ?_); clear hK K; refine nx ?_
      exact norm_ (by simp only [putAll, Act.put, List.setIfInBounds_toArray, List.set_cons_zero, List.set_cons_succ]) (hCont (aZ, aU, aG, a0, aD) _ ⟨(by (with_reducible repeat (first | apply Kd.R_alloc | apply Kd.R_drewN | apply Kd.R_drew)); exact rm af), (by (with_reducible repeat (first | apply Kd.R_alloc | apply Kd.R_drewN | apply Kd.R_drew)); exact rm ai), (ro an), (by (with_reducible repeat (first | apply Kd.R_alloc | apply Kd.R_drewN | apply Kd.R_drew)); exact rm ag), (bk aa), (bk ac), (be2 HB ad ae)⟩)
     skip
     refine lt_ (Kd.int .i64) 3 10 ([] : List Int) [] (Reps.none _ _) ?_; intro aD cE aH hb; (first | rw [← aI.out] at aH | (simp only [Int.reduceToNat] at aH; rw [← aI.out] at aH)); have ag := Aside0.mk (Kd.R_lower (nw aH al) (below_size (be2 HB ad ae))); replace al := Aside0.mk (Kd.R_elder' (ro al) (Kd.R_base aH) hb); replace aa := bb aa hb; replace ac := bb ac hb; replace HB := s2 HB ad ae hb; clear hb aH; refine hK.out _ _ (bq5 aa) (fun hHeld => ?_); clear hK K; refine nx ?_
     refine oh HT_ 3 (some 6) (bv 13 0x3bf) fun K hK => ?_; refine Kd.R_append_rows_step (Kd.int .i64) (w0 := w) w.heap.size (by rfl) (.tmp 3) (.tmp 5) 23 3 (.int .i64 0) 8 rfl Try.underlying23 info3 rfl (by decide) (by omega) aZ aE aq _ _ _ (fun k_ => some k_ ≠ (aD : Value).ownBlock) (fun _ => False) rfl rfl ?aO ?aR (fun _ _ h => h) (fun _ h => h.elim) ?aF ?aB ?aS ?aL ?_
     (case aR => exact cb bq HB)
     (case aB => exact (be2 HB ad ae))
     (case aF => exact (fun k_ hk => Kd.fresh' (Kd.R_lt (ro ag)) k_ hk))
     (case aO => exact (by (with_reducible repeat (first | apply Kd.R_alloc | apply Kd.R_drewN | apply Kd.R_drew)); exact Kd.R_mono al.out (fun _ hk => hk.2)))
     (case aS => exact (below_size (be2 HB ad ae)))
     (case aL => have := bN.out; omega)
     intro aU cF ho hb hg hat; rw [← br.out] at ho; replace aa := bgr aa hg (Kd.R_ne al.out aa.out (by decide)); replace ac := bgr ac hg (Kd.R_ne al.out ac.out (by decide)); replace ag := Aside0.mk (Kd.R_after (ok := (fun _ => True)) (ro ag) hg hat); replace HB := Aside0.mk (hb); have af := Aside0.mk (ho); clear al; clear ho hb hg hat; refine hK.out _ _ (bq5 aa) (fun hHeld => ?_); clear hK K; refine nx ?_
     refine oh HT_ 6 (some 9) (bv 13 0x3ff) fun K hK => ?_; refine gz Try.func69 #[.agg #[.int .i64 az, .slice aJ ao.length aK, .slice aN ap.length aQ]] ?_
     with_reducible refine (spec_l06Copy.calls az _ _ ao _ _ ap aY aV aW _ ?side1 ?side2 ?side3 ?side4 A3.out).mono ?_
     (case side1 => exact cb bg HB)
     (case side2 => exact bh.out)
     (case side3 => exact cb bi HB)
     (case side4 => exact bj.out)
     rintro e cG ⟨aG, a0, rfl, a1, bu, hb⟩; refine ⟨_, rfl, ?_⟩; have ai := Aside0.mk (Kd.R_lower (nw (nw a1 ag) af) (below_size (be2 HB ad ae))); replace ag := Aside0.mk (Kd.R_elder' (ro ag) (Kd.R_base a1) hb); replace af := Aside0.mk (Kd.R_elder' (ro af) (Kd.R_base a1) hb); have an := rl2 bu HB ad ae; replace aa := bb aa hb; replace ac := bb ac hb; replace HB := s2 HB ad ae hb; (try clear hb); (try clear cl); (try clear hk); (try clear hi); (try clear a1); (try clear bu); refine hK.out _ _ (bq5 aa) (fun hHeld => ?_); clear hK K; refine nx ?_
     exact norm_ (by simp only [putAll, Act.put, List.setIfInBounds_toArray, List.set_cons_zero, List.set_cons_succ]) (hCont (aZ, aU, aG, a0, aD) _ ⟨(by (with_reducible repeat (first | apply Kd.R_alloc | apply Kd.R_drewN | apply Kd.R_drew)); exact rm af), (by (with_reducible repeat (first | apply Kd.R_alloc | apply Kd.R_drewN | apply Kd.R_drew)); exact rm ai), (ro an), (by (with_reducible repeat (first | apply Kd.R_alloc | apply Kd.R_drewN | apply Kd.R_drew)); exact rm ag), (bk aa), (bk ac), (be2 HB ad ae)⟩)
    skip
    refine lt_ (Kd.int .i64) 3 10 ([] : List Int) [] (Reps.none _ _) ?_; intro aD w8 bs hb; (first | rw [← aI.out] at bs | (simp only [Int.reduceToNat] at bs; rw [← aI.out] at bs)); have ag := rl2 bs HB ad ae; replace aa := bb aa hb; replace ac := bb ac hb; replace HB := s2 HB ad ae hb; clear hb bs; refine hK.out _ _ (bq5 aa) (fun hHeld => ?_); clear hK K; refine nx ?_
    refine oh HT_ 0 (some 3) (bv 13 0x3b7) fun K hK => ?_; refine lt_ (Kd.int .i64) 3 3 ([] : List Int) [] (Reps.none _ _) ?_; intro aZ cE aH hb; (first | rw [← bm.out] at aH | (simp only [Int.reduceToNat] at aH; rw [← bm.out] at aH)); have al := Aside0.mk (Kd.R_lower (nw aH ag) (below_size (be2 HB ad ae))); replace ag := Aside0.mk (Kd.R_elder' (ro ag) (Kd.R_base aH) hb); replace aa := bb aa hb; replace ac := bb ac hb; replace HB := s2 HB ad ae hb; clear hb aH; refine hK.out _ _ (bq5 aa) (fun hHeld => ?_); clear hK K; refine nx ?_
    refine oh HT_ 3 (some 6) (bv 13 0x3bf) fun K hK => ?_; refine Kd.R_append_rows_step (Kd.int .i64) (w0 := w) w.heap.size (by rfl) (.tmp 3) (.tmp 5) 23 3 (.int .i64 0) 8 rfl Try.underlying23 info3 rfl (by decide) (by omega) aZ aE aq _ _ _ (fun k_ => some k_ ≠ (aD : Value).ownBlock) (fun _ => False) rfl rfl ?aO ?aR (fun _ _ h => h) (fun _ h => h.elim) ?aF ?aB ?aS ?aL ?_
    (case aR => exact cb bq HB)
    (case aB => exact (be2 HB ad ae))
    (case aF => exact (fun k_ hk => Kd.fresh' (Kd.R_lt (ro ag)) k_ hk))
    (case aO => exact (by (with_reducible repeat (first | apply Kd.R_alloc | apply Kd.R_drewN | apply Kd.R_drew)); exact Kd.R_mono al.out (fun _ hk => hk.2)))
    (case aS => exact (below_size (be2 HB ad ae)))
    (case aL => have := bN.out; omega)
    intro aU cF ho hb hg hat; rw [← br.out] at ho; replace aa := bgr aa hg (Kd.R_ne al.out aa.out (by decide)); replace ac := bgr ac hg (Kd.R_ne al.out ac.out (by decide)); replace ag := Aside0.mk (Kd.R_after (ok := (fun _ => True)) (ro ag) hg hat); replace HB := Aside0.mk (hb); have af := Aside0.mk (ho); clear al; clear ho hb hg hat; refine hK.out _ _ (bq5 aa) (fun hHeld => ?_); clear hK K; refine nx ?_
    refine oh HT_ 6 (some 9) (bv 13 0x3ff) fun K hK => ?_; refine gz Try.func69 #[.agg #[.int .i64 az, .slice aJ ao.length aK, .slice aN ap.length aQ]] ?_
    with_reducible refine (spec_l06Copy.calls az _ _ ao _ _ ap aY aV aW _ ?side1 ?side2 ?side3 ?side4 A3.out).mono ?_
    (case side1 => exact cb bg HB)
    (case side2 => exact bh.out)
    (case side3 => exact cb bi HB)
    (case side4 => exact bj.out)
    rintro e cG ⟨aG, a0, rfl, a1, bu, hb⟩; refine ⟨_, rfl, ?_⟩; have ai := Aside0.mk (Kd.R_lower (nw (nw a1 ag) af) (below_size (be2 HB ad ae))); replace ag := Aside0.mk (Kd.R_elder' (ro ag) (Kd.R_base a1) hb); replace af := Aside0.mk (Kd.R_elder' (ro af) (Kd.R_base a1) hb); have an := rl2 bu HB ad ae; replace aa := bb aa hb; replace ac := bb ac hb; replace HB := s2 HB ad ae hb; (try clear hb); (try clear cl); (try clear hk); (try clear hi); (try clear a1); (try clear bu); refine hK.out _ _ (bq5 aa) (fun hHeld => ?_); clear hK K; refine nx ?_
    exact norm_ (by simp only [putAll, Act.put, List.setIfInBounds_toArray, List.set_cons_zero, List.set_cons_succ]) (hCont (aZ, aU, aG, a0, aD) _ ⟨(by (with_reducible repeat (first | apply Kd.R_alloc | apply Kd.R_drewN | apply Kd.R_drew)); exact rm af), (by (with_reducible repeat (first | apply Kd.R_alloc | apply Kd.R_drewN | apply Kd.R_drew)); exact rm ai), (ro an), (by (with_reducible repeat (first | apply Kd.R_alloc | apply Kd.R_drewN | apply Kd.R_drew)); exact rm ag), (bk aa), (bk ac), (be2 HB ad ae)⟩)
   rintro ⟨aZ, aU, aG, a0, aD⟩ bo ⟨cI, cK, cL, cM, cN, cO, cP⟩; (try dsimp only at cI cK cL cM cN cO cP); have af := am cI; have ai := am cK; have an := am cL; have ag := am cM; replace aa := am cN; replace ac := am cO; replace HB := am cP; clear cI cK cL cM cN cO cP; have hHeld := bq5 aa; refine nz ?_
   refine oh HT_ 10 (some 13) (bv 13 0x7ff) fun K hK => ?_; refine Kd.R_append_rows_step (Kd.int .i64) (w0 := w) w.heap.size (by rfl) (.tmp 10) (.tmp 12) 23 3 (.int .i64 0) 8 rfl Try.underlying23 info3 rfl (by decide) (by omega) aD ax aj _ _ _ (fun k_ => some k_ ≠ (aU : Value).ownBlock ∧ some k_ ≠ (aG : Value).ownBlock) (fun _ => False) rfl rfl ?aO ?aR (fun _ _ h => h) (fun _ h => h.elim) ?aF ?aB ?aS ?aL ?_
   (case aR => exact cb bS HB)
   (case aB => exact (be2 HB ad ae))
   (case aF => exact (fun k_ hk => ⟨Kd.fresh' (Kd.R_lt (ro af)) k_ hk, Kd.fresh' (Kd.R_lt (ro ai)) k_ hk⟩))
   (case aO => exact (ro ag))
   (case aS => exact (below_size (be2 HB ad ae)))
   (case aL => have := ck.out; omega)
   intro cY bZ ho hb hg hat; rw [← bW.out] at ho; replace aa := bgr aa hg (Kd.R_ne ag.out aa.out (by decide)); replace ac := bgr ac hg (Kd.R_ne ag.out ac.out (by decide)); replace af := Aside0.mk (Kd.R_after (ok := (fun k_ => some k_ ≠ (aG : Value).ownBlock)) (ro af) hg hat); replace ai := Aside0.mk (Kd.R_after (ok := (fun k_ => some k_ ≠ (aU : Value).ownBlock)) (ro ai) hg hat); replace an := Aside0.mk (Kd.R_over' (ro an) (Kd.R_typed (ro ag)) (by decide) hg); replace HB := Aside0.mk (hb); have bM := Aside0.mk (ho); clear ag; clear ho hb hg hat; obtain ⟨cm, cn, b0⟩ := Kd.R_slice bM.out; (first | subst b0 | (injection b0 with bw bO bz; have bQ := bw.symm; have bR := bz.symm; clear bw bO bz; subst bQ; subst bR)); obtain ⟨co, cp, b1⟩ := Kd.R_slice an.out; (first | subst b1 | (injection b1 with bw bO bz; have bQ := bw.symm; have bR := bz.symm; clear bw bO bz; subst bQ; subst bR)); obtain ⟨cs, ct, b2⟩ := Kd.R_slice ai.out; (first | subst b2 | (injection b2 with bw bO bz; have bQ := bw.symm; have bR := bz.symm; clear bw bO bz; subst bQ; subst bR)); obtain ⟨cu, cw, b3⟩ := Kd.R_slice af.out; (first | subst b3 | (injection b3 with bw bO bz; have bQ := bw.symm; have bR := bz.symm; clear bw bO bz; subst bQ; subst bR)); refine hK.out _ _ (bq5 aa) (fun hHeld => ?_); clear hK K; refine nx ?_
   refine py HT_ 11 14 (bv 13 0xfff) ?_; refine oh HT_ 12 none (bv 13 0x1fff) fun K hK => ?_; have cZ : bZ.cell? ⟨ah, 0, none⟩ = some (.slice none 0 0) := bc0 ac; have cQ := blk_frozen ac.out 0; have b7 := ab.out; have b8 := aA.out; have c0 : bZ.cell? ⟨ah, 1, none⟩ = some (.int .i64 0) := bc1 ac; have cS := blk_frozen ac.out 1; have b9 := ab.out; have ca := aA.out; have c1 : bZ.cell? ⟨ah, 2, none⟩ = some (.slice none 0 0) := bc2 ac; have cT := blk_frozen ac.out 2; have cc := ab.out; have cd := aA.out; have da : bZ.cell? ⟨ah, 3, none⟩ = some (.slice none 0 0) := bc3 ac; have cU := blk_frozen ac.out 3; have ce := ab.out; have cf := aA.out; have db : bZ.cell? ⟨ah, 4, none⟩ = some (.slice none 0 0) := bc4 ac; have cW := blk_frozen ac.out 4; have cg := ab.out; have ci := aA.out; refine sk ?_
   refine hK.out _ _ ⟨(cq ab hHeld.1), (cq ab hHeld.2.1), (cq ab hHeld.2.2.1), (cq ab hHeld.2.2.2.1), (cq ab hHeld.2.2.2.2)⟩ (fun hHeld => ?_); clear hK K; refine dh HT_ ?_
   try go_wp2
   refine bodyPost_ret (results_cell_row rfl _ _ ah 28 #[.slice cu bd.length cw, .int .i64 aY, .slice cs aV.length ct, .slice co aW.length cp, .slice cm bU.length cn] (0, 0) _ rfl (bp ac) Try.underlying28 rfl (by kernel_rfl)) rfl ?_; exact ⟨_, _, _, _, er, (rf af ac), (rf ai ac), (rfn an ac), (rf bM ac), be2 HB ad ae⟩
  rw [if_neg c4] at H; exact absurd H (by simp)
 rw [if_neg c2] at H; exact absurd H (by simp)

/-! ### spec_l08With: function 46 -/
def spec_l08With.l0 : Nat → Int → List Int → Bool → List Int → Int → Int → Option (List Int)
 | 0, _, _, _, _, _, _ => none
 | k + 1, x1, x5, x6, au, a5, ar => if ar < a5 then (if 0 ≤ ar then (if ar < (au.length : Int) then (if x6 = true then (if x5.length < 17592186044416 then (spec_l08With.l0 k x1 (x5 ++ [rd au ar]) x6 au a5 (wrap64 (ar + 1))) else (none)) else (if x1 < (rd au ar) then (if x5.length < 17592186044416 then ((some (x5 ++ [x1] : List Int)).bind fun ah => (if ah.length < 17592186044416 then (spec_l08With.l0 k x1 (ah ++ [rd au ar]) true au a5 (wrap64 (ar + 1))) else (none))) else (none)) else (if x5.length < 17592186044416 then (spec_l08With.l0 k x1 (x5 ++ [rd au ar]) x6 au a5 (wrap64 (ar + 1))) else (none)))) else (none)) else (none)) else (if x6 = true then (some x5) else (if x5.length < 17592186044416 then (some (x5 ++ [x1])) else (none)))
def spec_l08With.f (k : Nat) (l0 : List Int) (a1 : Int) : Option (List Int) := spec_l08With.l0 k a1 (([] : List Int)) false l0 (l0.length : Int) 0
theorem spec_l08With.mono_l : ∀ k, (∀ y0 y1 y2 y3 y4 y5, LeO (spec_l08With.l0 k y0 y1 y2 y3 y4 y5) (spec_l08With.l0 (k + 1) y0 y1 y2 y3 y4 y5))
 | 0 => fun _ _ _ _ _ _ r h => by simp [spec_l08With.l0] at h
 | k + 1 => by
  have aA := spec_l08With.mono_l k
  ·intro y0 y1 y2 y3 y4 y5; unfold spec_l08With.l0
   repeat' first | (with_reducible first | apply aA | apply lr | apply ln | apply li | refine lb ?_ fun _ => ?_) | apply aA | apply ln | apply li | refine lb ?_ fun _ => ?_
theorem spec_l08With.mono : ∀ a0 a1 k, LeO (spec_l08With.f k a0 a1) (spec_l08With.f (k + 1) a0 a1) := by
 intro a0 a1 k; have aA := spec_l08With.mono_l k; unfold spec_l08With.f
 repeat' first | (with_reducible first | apply aA | apply lr | apply ln | apply li | refine lb ?_ fun _ => ?_) | apply aA | apply ln | apply li | refine lb ?_ fun _ => ?_
set_option maxHeartbeats 8000000 in
set_option maxRecDepth 100000 in
theorem spec_l08With.calls (k : Nat) (A0 : Option Addr) (c0 : Nat) (l0 : List Int) (a1 : Int) (r : List Int) (w : World) (bi : Kd.C (Kd.int .i64) w A0 l0.length l0) (bj : l0.length ≤ c0) (h : spec_l08With.f k l0 a1 = some r) :
  Calls Try.prog 46 #[.slice A0 l0.length c0, .int .i64 a1] w fun e w' => ∃ bm : Value, e = .returned (bm) ∧ Kd.R (Kd.int .i64) 3 w' w.heap.size (fun _ => True) bm r ∧ Below w.heap.size w w' := by
 have bc := Aside0.mk bi; have bA := Aside0.mk bj; clear bi bj; have HB := Aside0.mk (Below.refl w.heap.size w); have H : (spec_l08With.l0 k a1 (([] : List Int)) false l0 (l0.length : Int) 0) = some r := h; clear h; obtain ⟨aC, ai⟩ : ∃ y_ : List Int, y_ = (([] : List Int)) := ⟨_, rfl⟩; rw [← ai] at H; have av := Aside0.mk ai; clear ai; have H' := Aside0.mk H; clear H
 go_enter Try.func46, Try.ntmps46
 go_wp2_with (first | ((with_reducible refine gate_dst (N := 9) rfl ?_); refine Kd.R_lit (Kd.int .i64) _ 3 ?hg (N := 9) ?hd (xs := ([] : List Int)) (inner := []) (ok := fun _ => True) (okp := fun _ => True) ?hr ?hp (fun _ hk => hk) trivial (Below.refl _ _) (Nat.le_refl _) (by simp) ?_; (case hd => rfl); (case hg => rfl); (case hr => first | (go_simp; done) | (go_simp; rfl)); (case hp => exact (Reps.none _ _)); intro bn w3 aD hb hg_ hnew_; clear hg_ hnew_; (first | rw [← av.out] at aD | (simp only [Int.reduceToNat] at aD; rw [← av.out] at aD)); have aE := rl0 aD HB; replace HB := s0 HB hb; clear hb aD))
 go_loopg [5, 6, 12] k (fun kq v5 v6 bo w' => ∃ (ac : List Int) (ap : Bool) (aa : Int), v6 = .bool ap ∧ bo = .int .i64 aa ∧ Aside0 (spec_l08With.l0 kq a1 ac ap l0 (l0.length : Int) aa = some r) ∧ Aside0 (kq ≤ k) ∧ Aside0 (Kd.R (Kd.int .i64) 3 w' w.heap.size (fun _ => True) v5 ac) ∧ Aside0 (Below w.heap.size w w'))
 case atStart => exact ⟨(aC), (false), (0), rs, rs, H', ⟨Nat.le_refl _⟩, ⟨ro aE⟩, ⟨be HB⟩⟩
 case round =>
  clear H'
  try clear p2; try clear c4
  obtain ⟨ac, ap, aa, rfl, rfl, HA, ay, ag, HB⟩ := hrel
  cases gk with
  | zero => exact absurd HA.out (by simp [spec_l08With.l0])
  | succ k1 =>
   have H := HA.out; clear HA; simp only [spec_l08With.l0] at H
   by_cases c5 : aa < (l0.length : Int)
   ·rw [if_pos c5] at H; have bd : decide (aa < (l0.length : Int)) = true := decide_eq_true c5; clear c5
    by_cases c6 : 0 ≤ aa
    ·rw [if_pos c6] at H; have bq : decide (0 ≤ aa) = true := decide_eq_true c6; clear c6
     by_cases c7 : aa < (l0.length : Int)
     ·rw [if_pos c7] at H; have br : decide (aa < (l0.length : Int)) = true := decide_eq_true c7; clear c7
      by_cases c8 : ap = true
      ·subst c8; rw [if_pos rfl] at H
       by_cases c9 : ac.length < 17592186044416
       ·rw [if_pos c9] at H; have bf := Aside0.mk c9; clear c9; obtain ⟨aG, aj⟩ : ∃ y_ : List Int, y_ = (ac ++ [rd l0 aa]) := ⟨_, rfl⟩; rw [← aj] at H; have aH := Aside0.mk aj; clear aj; have H' := Aside0.mk H; clear H; have ae : 0 ≤ (aa : Int) := od; have af : aa < (l0.length : Int) := od; obtain ⟨aw, aq, ab⟩ := Kd.at_int bc.out aa ae af; cases aq; replace ab := hc HB ab; replace ae := eq_true ae; replace af := eq_true af
        go_wp2_with (first | ((with_reducible refine gate_builtin (b := .append) (xs := #[.tmp 27, .tmp 29]) rfl ?_); at_builtin; refine Kd.R_append (Kd.int .i64) (w0 := w) w.heap.size rfl (.tmp 27) (.tmp 29) 23 3 (.int .i64 0) 8 rfl Try.underlying23 info3 rfl (by decide) (by omega) u5 ac (rd l0 aa) [.int .i64 (rd l0 aa)] (fun _ => True) (fun _ => False) rfl rfl ?aP (fun _ hk => hk.elim) ?aF ?aO ?aB ?aS ?aL ?_; (case aP => exact rfl); (case aB => exact (be HB)); (case aF => exact (fun _ _ => trivial)); (case aO => exact (ro ag)); (case aS => exact (below_size (be HB))); (case aL => have := bf.out; omega); intro bs bC ho hb hg hat; rw [← aH.out] at ho; replace HB := Aside0.mk (hb); have aI := Aside0.mk (ho); clear ag; clear ho hb hg hat))
        go_roundg k1
        case measure => have := ay.out; omega
        case rel => exact ⟨(aG), (true), (wrap64 (aa + 1)), rs, rs, H', ⟨by have := ay.out; omega⟩, ⟨ro aI⟩, ⟨be HB⟩⟩
       rw [if_neg c9] at H; exact absurd H (by simp)
      replace c8 := Bool.eq_false_iff.mpr c8; subst c8; rw [if_neg nf] at H
      by_cases az : a1 < (rd l0 aa)
      ·rw [if_pos az] at H; have aJ : decide (a1 < (rd l0 aa)) = true := decide_eq_true az; clear az
       by_cases a6 : ac.length < 17592186044416
       ·rw [if_pos a6] at H; have aK := Aside0.mk a6; clear a6; obtain ⟨ah, ak, H⟩ := oy H; have aN := Aside0.mk ak; clear ak
        by_cases a7 : ah.length < 17592186044416
        ·rw [if_pos a7] at H; have aQ := Aside0.mk a7; clear a7; obtain ⟨aR, al⟩ : ∃ y_ : List Int, y_ = (ah ++ [rd l0 aa]) := ⟨_, rfl⟩; rw [← al] at H; have aU := Aside0.mk al; clear al; have H' := Aside0.mk H; clear H; have ae : 0 ≤ (aa : Int) := od; have af : aa < (l0.length : Int) := od; obtain ⟨aw, aq, ab⟩ := Kd.at_int bc.out aa ae af; cases aq; replace ab := hc HB ab; replace ae := eq_true ae; replace af := eq_true af
         go_wp2_with (first | ((with_reducible refine gate_builtin (b := .append) (xs := #[.tmp 23, .tmp 25]) rfl ?_); at_builtin; refine Kd.R_append (Kd.int .i64) (w0 := w) w.heap.size rfl (.tmp 23) (.tmp 25) 23 3 (.int .i64 0) 8 rfl Try.underlying23 info3 rfl (by decide) (by omega) u5 ac a1 [.int .i64 a1] (fun _ => True) (fun _ => False) rfl rfl ?aP (fun _ hk => hk.elim) ?aF ?aO ?aB ?aS ?aL ?_; (case aP => exact rfl); (case aB => exact (be HB)); (case aF => exact (fun _ _ => trivial)); (case aO => exact (ro ag)); (case aS => exact (below_size (be HB))); (case aL => have := aK.out; omega); intro bg bD ho hb hg hat; rw [← aN.out] at ho; replace HB := Aside0.mk (hb); have ax := Aside0.mk (ho); clear ag; clear ho hb hg hat) | ((with_reducible refine gate_builtin (b := .append) (xs := #[.tmp 27, .tmp 29]) rfl ?_); at_builtin; refine Kd.R_append (Kd.int .i64) (w0 := w) w.heap.size rfl (.tmp 27) (.tmp 29) 23 3 (.int .i64 0) 8 rfl Try.underlying23 info3 rfl (by decide) (by omega) bg ah (rd l0 aa) [.int .i64 (rd l0 aa)] (fun _ => True) (fun _ => False) rfl rfl ?aP (fun _ hk => hk.elim) ?aF ?aO ?aB ?aS ?aL ?_; (case aP => exact rfl); (case aB => exact (be HB)); (case aF => exact (fun _ _ => trivial)); (case aO => exact (ro ax)); (case aS => exact (below_size (be HB))); (case aL => have := aQ.out; omega); intro bu bF ho hb hg hat; rw [← aU.out] at ho; replace HB := Aside0.mk (hb); have aV := Aside0.mk (ho); clear ax; clear ho hb hg hat))
         go_roundg k1
         case measure => have := ay.out; omega
         case rel => exact ⟨(aR), (true), (wrap64 (aa + 1)), rs, rs, H', ⟨by have := ay.out; omega⟩, ⟨ro aV⟩, ⟨be HB⟩⟩
        rw [if_neg a7] at H; exact absurd H (by simp)
       rw [if_neg a6] at H; exact absurd H (by simp)
      rw [if_neg az] at H; have aJ : decide (a1 < (rd l0 aa)) = false := decide_eq_false az; clear az
      by_cases a8 : ac.length < 17592186044416
      ·rw [if_pos a8] at H; have aW := Aside0.mk a8; clear a8; obtain ⟨aX, an⟩ : ∃ y_ : List Int, y_ = (ac ++ [rd l0 aa]) := ⟨_, rfl⟩; rw [← an] at H; have aY := Aside0.mk an; clear an; have H' := Aside0.mk H; clear H; have ae : 0 ≤ (aa : Int) := od; have af : aa < (l0.length : Int) := od; obtain ⟨aw, aq, ab⟩ := Kd.at_int bc.out aa ae af; cases aq; replace ab := hc HB ab; replace ae := eq_true ae; replace af := eq_true af
       go_wp2_with (first | ((with_reducible refine gate_builtin (b := .append) (xs := #[.tmp 27, .tmp 29]) rfl ?_); at_builtin; refine Kd.R_append (Kd.int .i64) (w0 := w) w.heap.size rfl (.tmp 27) (.tmp 29) 23 3 (.int .i64 0) 8 rfl Try.underlying23 info3 rfl (by decide) (by omega) u5 ac (rd l0 aa) [.int .i64 (rd l0 aa)] (fun _ => True) (fun _ => False) rfl rfl ?aP (fun _ hk => hk.elim) ?aF ?aO ?aB ?aS ?aL ?_; (case aP => exact rfl); (case aB => exact (be HB)); (case aF => exact (fun _ _ => trivial)); (case aO => exact (ro ag)); (case aS => exact (below_size (be HB))); (case aL => have := aW.out; omega); intro bw bG ho hb hg hat; rw [← aY.out] at ho; replace HB := Aside0.mk (hb); have aZ := Aside0.mk (ho); clear ag; clear ho hb hg hat))
       go_roundg k1
       case measure => have := ay.out; omega
       case rel => exact ⟨(aX), (false), (wrap64 (aa + 1)), rs, rs, H', ⟨by have := ay.out; omega⟩, ⟨ro aZ⟩, ⟨be HB⟩⟩
      rw [if_neg a8] at H; exact absurd H (by simp)
     rw [if_neg c7] at H; exact absurd H (by simp)
    rw [if_neg c6] at H; exact absurd H (by simp)
   rw [if_neg c5] at H; have bd : decide (aa < (l0.length : Int)) = false := decide_eq_false c5; clear c5
   by_cases a9 : ap = true
   ·subst a9; rw [if_pos rfl] at H; obtain rfl := Option.some.inj H
    go_wp2
    go_ret
    exact ⟨_, er, (ro ag), be HB⟩
   replace a9 := Bool.eq_false_iff.mpr a9; subst a9; rw [if_neg nf] at H
   by_cases ba : ac.length < 17592186044416
   ·rw [if_pos ba] at H; have a2 := Aside0.mk ba; clear ba; obtain ⟨bh, ao⟩ : ∃ y_ : List Int, y_ = (ac ++ [a1]) := ⟨_, rfl⟩; rw [← ao] at H; have a3 := Aside0.mk ao; clear ao; obtain rfl := Option.some.inj H
    go_wp2_with (first | ((with_reducible refine gate_builtin (b := .append) (xs := #[.tmp 34, .tmp 36]) rfl ?_); at_builtin; refine Kd.R_append (Kd.int .i64) (w0 := w) w.heap.size rfl (.tmp 34) (.tmp 36) 23 3 (.int .i64 0) 8 rfl Try.underlying23 info3 rfl (by decide) (by omega) u5 ac a1 [.int .i64 a1] (fun _ => True) (fun _ => False) rfl rfl ?aP (fun _ hk => hk.elim) ?aF ?aO ?aB ?aS ?aL ?_; (case aP => exact rfl); (case aB => exact (be HB)); (case aF => exact (fun _ _ => trivial)); (case aO => exact (ro ag)); (case aS => exact (below_size (be HB))); (case aL => have := a2.out; omega); intro bz bH ho hb hg hat; rw [← a3.out] at ho; replace HB := Aside0.mk (hb); have a4 := Aside0.mk (ho); clear ag; clear ho hb hg hat))
    go_ret
    exact ⟨_, er, (ro a4), be HB⟩
   rw [if_neg ba] at H; exact absurd H (by simp)

end Go.Proofs.Ytgkliacflbenfaa.QFnAges
