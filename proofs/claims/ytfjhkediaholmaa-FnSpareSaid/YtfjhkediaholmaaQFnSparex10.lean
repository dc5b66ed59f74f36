-- made by a program of this session (myprint.py)
import Derived.Test.YtfjhkediaholmaaQFnSparex0
namespace Go.Proofs.Ytfjhkediaholmaa.QFnSpare
open Go.RowKit Go.Proofs.YtfjhkediaholmaaW.PrintWords Go.Proofs.YtfjhkediaholmaaW.PrintLast Go.Proofs.YtfjhkediaholmaaW.PrintMore
attribute [local go_sem] max2_int min2_int max_two min_two max_three min_three max_four min_four   -- for this text's walks alone
set_option linter.unusedVariables false
set_option linter.unusedSimpArgs false

/-! ### spec_l10Copy: function 83 -/
def spec_l10Copy.f (ap : Int) (aq : Int) (an : List (S68)) (al : List (S68)) (aj : List Int) : Option (Int × Int × (List (S68)) × (List (S68)) × List Int) := (some (([] : List (S68)) : List (S68))).bind fun aU => (if aU.length + an.length < 3518437208883 then ((some (([] : List (S68)) : List (S68))).bind fun aQ => (if aQ.length + al.length < 3518437208883 then ((some (([] : List Int) : List Int)).bind fun aI => (if aI.length + aj.length < 17592186044416 then (some (ap, aq, (aU ++ an), (aQ ++ al), (aI ++ aj))) else (none))) else (none))) else (none))
def spec_l10Copy.T1 : Bool × List (List Nat × List Nat) := (true, [([], []), ([0], [0]), ([], []), ([2], [2]), ([], []), ([], []), ([5], [5]), ([4, 6], [4, 6]), ([], []), ([], []), ([9], [9]), ([8, 10, 7], [8, 10]), ([], []), ([], []), ([13], [13]), ([12, 14, 11], [12, 14]), ([1, 3, 7, 11, 15], [1, 3, 7, 11, 15]), ([16, 15, 0, 1, 2, 3, 4, 5, 6, 7, 8, 9, 10, 11, 12, 13, 14, 15, 16], [16])])
def spec_l10Copy.B1 : List Nat := [0, 1, 0, 4, 0, 0, 32, 112, 0, 0, 512, 2032, 0, 0, 8192, 32752, 65535, 131071]
theorem spec_l10Copy.tab1 : rtab .any (opsOf Try.f83 1) = spec_l10Copy.T1 := by kernel_rfl
theorem spec_l10Copy.bits1 : waitsOk spec_l10Copy.T1.2 spec_l10Copy.B1 = true := by kernel_rfl
set_option maxHeartbeats 8000000 in
set_option maxRecDepth 100000 in
theorem spec_l10Copy.calls (ap : Int) (aq : Int) (ar : Option Addr) (au : Nat) (an : List (S68)) (av : Option Addr) (aw : Nat) (al : List (S68)) (ax : Option Addr) (ay : Nat) (aj : List Int) (r1 : Int) (r2 : Int) (r3 : List (S68)) (r4 : List (S68)) (r5 : List Int) (w : World) (bR : Kd.C k68 w ar an.length an) (bS : an.length ≤ au) (bU : Kd.C k68 w av al.length al) (bW : al.length ≤ aw) (bZ : Kd.C (Kd.int .i64) w ax aj.length aj) (b0 : aj.length ≤ ay) (h : spec_l10Copy.f ap aq an al aj = some (r1, r2, r3, r4, r5)) :
  Calls Try.prog 83 #[.agg #[.int .i64 ap, .int .i64 aq, .slice ar an.length au, .slice av al.length aw, .slice ax aj.length ay]] w fun e w' => ∃ cA cC cN : Value, e = .returned (.agg #[.int .i64 r1, .int .i64 r2, cA, cC, cN]) ∧ Kd.R k68 68 w' w.heap.size (fun k_ => some k_ ≠ (cC : Value).ownBlock) cA r3 ∧ Kd.R k68 68 w' w.heap.size (fun k_ => some k_ ≠ (cA : Value).ownBlock) cC r4 ∧ Kd.R (Kd.int .i64) 3 w' w.heap.size (fun _ => True) cN r5 ∧ Below w.heap.size w w' := by
 have hu30 := Try.underlying30; have bF := Aside0.mk bR; have cO := Aside0.mk bS; clear bR bS; have b1 := Aside0.mk bU; have cP := Aside0.mk bW; clear bU bW; have b8 := Aside0.mk bZ; have cQ := Aside0.mk b0; clear bZ b0; have HB := Aside0.mk (Below.refl w.heap.size w); have H : ((some (([] : List (S68)) : List (S68))).bind fun aU => (if aU.length + an.length < 3518437208883 then ((some (([] : List (S68)) : List (S68))).bind fun aQ => (if aQ.length + al.length < 3518437208883 then ((some (([] : List Int) : List Int)).bind fun aI => (if aI.length + aj.length < 17592186044416 then (some (ap, aq, (aU ++ an), (aQ ++ al), (aI ++ aj))) else (none))) else (none))) else (none))) = some (r1, r2, r3, r4, r5) := h; clear h; obtain ⟨aU, bn, H⟩ := oy H; have ba := Aside0.mk bn; clear bn
 by_cases c2 : aU.length + an.length < 3518437208883
 ·rw [if_pos c2] at H; have bQ := Aside0.mk c2; clear c2; obtain ⟨a4, bo⟩ : ∃ y_ : List (S68), y_ = (aU ++ an) := ⟨_, rfl⟩; rw [← bo] at H; have bG := Aside0.mk bo; clear bo; obtain ⟨aQ, bq, H⟩ := oy H; have aZ := Aside0.mk bq; clear bq
  by_cases c3 : aQ.length + al.length < 3518437208883
  ·rw [if_pos c3] at H; have b9 := Aside0.mk c3; clear c3; obtain ⟨br, bs⟩ : ∃ y_ : List (S68), y_ = (aQ ++ al) := ⟨_, rfl⟩; rw [← bs] at H; have b2 := Aside0.mk bs; clear bs; obtain ⟨aI, bu, H⟩ := oy H; have aV := Aside0.mk bu; clear bu
   by_cases c4 : aI.length + aj.length < 17592186044416
   ·rw [if_pos c4] at H; have cD := Aside0.mk c4; clear c4; obtain ⟨ca, bw⟩ : ∃ y_ : List Int, y_ = (aI ++ aj) := ⟨_, rfl⟩; rw [← bw] at H; have cc := Aside0.mk bw; clear bw; simp only [Option.some.injEq, Prod.mk.injEq] at H; obtain ⟨rfl, rfl, rfl, rfl, rfl⟩ := H
    go_enter Try.func83, Try.ntmps83
    try go_wp2_with (first | ((with_reducible refine gate_dst (N := 1) rfl ?_); refine bx 1 #[.int .i64 ap, .int .i64 aq, .slice ar an.length au, .slice av al.length aw, .slice ax aj.length ay] 30 ?_; intro ab hg w5 hbox hb; have aa := am hbox; have cS := gs0 hg HB; have ad := gs0 hg HB; replace HB := s0 HB hb; clear hb hbox hg) | ((with_reducible refine gate_dst (N := 2) rfl ?_); refine bx 2 #[.int .i64 0, .int .i64 0, .slice none 0 0, .slice none 0 0, .slice none 0 0] 30 ?_; intro ai hg w6 hbox hb; have ac := am hbox; have cT := gs1 hg HB ad; have ae := gs1 hg HB ad; replace HB := s1 HB ad hb; have af := nl hg aa; have aX := ng hg aa; replace aa := bb aa hb; clear hb hbox hg))
    replace aa := eB aa; replace ac := eB ac; replace HB := eL HB; refine start_ (n := 18) (S := fun w' => w'.cell? ⟨ab, 0, none⟩ = some (.int .i64 ap) ∧ w'.cell? ⟨ab, 1, none⟩ = some (.int .i64 aq) ∧ w'.cell? ⟨ab, 2, none⟩ = some (.slice ar an.length au) ∧ w'.cell? ⟨ab, 3, none⟩ = some (.slice av al.length aw) ∧ w'.cell? ⟨ab, 4, none⟩ = some (.slice ax aj.length ay)) (ds := []) (bv 18 0x0) (by kernel_rfl) rfl rfl (bq5 aa) (fun hHeld => ?_); refine with_tabW spec_l10Copy.tab1 spec_l10Copy.bits1 (fun HT_ HW_ => ?_); generalize w6.drew = w7 at aa ac HB hHeld ⊢; refine py HT_ 0 3 (bv 18 0x1) ?_; refine py HT_ 2 5 (bv 18 0x5) ?_; refine py HT_ 5 8 (bv 18 0x25) ?_; refine py HT_ 9 12 (bv 18 0x225) ?_; refine py HT_ 13 16 (bv 18 0x2225) ?_; refine tk HT_ HW_ hHeld 1 4 (bv 18 0x2227) ?_; refine tk HT_ HW_ hHeld 3 6 (bv 18 0x222f) ?_; refine tk HT_ HW_ hHeld 6 9 (bv 18 0x226f) ?_; refine tk HT_ HW_ hHeld 10 13 (bv 18 0x266f) ?_; refine tk HT_ HW_ hHeld 14 17 (bv 18 0x666f) ?_; refine join_ (σ := Value × Value × Value × Value × Value) 3 (bv 18 0x7fff) (fun s_ => [(7, s_.1), (10, s_.2.1), (11, s_.2.2.1), (14, s_.2.2.2.1), (15, s_.2.2.2.2)]) (fun s_ w' => (Kd.R k68 68 w' w.heap.size (fun k_ => some k_ ≠ (s_.2.2.2.1 : Value).ownBlock) s_.2.1 a4) ∧ (Kd.R k68 68 w' w.heap.size (fun k_ => some k_ ≠ (s_.2.1 : Value).ownBlock) s_.2.2.2.1 br) ∧ (Kd.R (Kd.int .i64) 3 w' w.heap.size (fun _ => True) s_.2.2.2.2 aI) ∧ (w'.heap[ab]? = some (.cells #[.int .i64 ap, .int .i64 aq, .slice ar an.length au, .slice av al.length aw, .slice ax aj.length ay] 30 (0, 0))) ∧ (w'.heap[ai]? = some (.cells #[.int .i64 0, .int .i64 0, .slice none 0 0, .slice none 0 0, .slice none 0 0] 30 (0, 0))) ∧ (Below w.heap.size w w')) ?_ ?_
    rotate_left
    ·intro a7; refine join_ (σ := Value × Value × Value × Value) 4 (bv 18 0x6fff) (fun s_ => [(7, s_.1), (10, s_.2.1), (11, s_.2.2.1), (14, s_.2.2.2)]) (fun s_ w' => (Kd.R k68 68 w' w.heap.size (fun k_ => some k_ ≠ (s_.2.2.2 : Value).ownBlock) s_.2.1 a4) ∧ (Kd.R k68 68 w' w.heap.size (fun k_ => some k_ ≠ (s_.2.1 : Value).ownBlock) s_.2.2.2 br) ∧ (w'.heap[ab]? = some (.cells #[.int .i64 ap, .int .i64 aq, .slice ar an.length au, .slice av al.length aw, .slice ax aj.length ay] 30 (0, 0))) ∧ (w'.heap[ai]? = some (.cells #[.int .i64 0, .int .i64 0, .slice none 0 0, .slice none 0 0, .slice none 0 0] 30 (0, 0))) ∧ (Below w.heap.size w w')) ?_ ?_
     rotate_left
     ·intro bD; refine join_ (σ := Value × Value × Value × Value) 4 (bv 18 0x77ff) (fun s_ => [(7, s_.1), (10, s_.2.1), (11, s_.2.2.1), (15, s_.2.2.2)]) (fun s_ w' => (Kd.R k68 68 w' w.heap.size (fun k_ => some k_ ≠ (s_.2.2.1 : Value).ownBlock) s_.2.1 a4) ∧ (Kd.R k68 68 w' w.heap.size (fun k_ => some k_ ≠ (s_.2.1 : Value).ownBlock) s_.2.2.1 aQ) ∧ (Kd.R (Kd.int .i64) 3 w' w.heap.size (fun _ => True) s_.2.2.2 aI) ∧ (w'.heap[ab]? = some (.cells #[.int .i64 ap, .int .i64 aq, .slice ar an.length au, .slice av al.length aw, .slice ax aj.length ay] 30 (0, 0))) ∧ (w'.heap[ai]? = some (.cells #[.int .i64 0, .int .i64 0, .slice none 0 0, .slice none 0 0, .slice none 0 0] 30 (0, 0))) ∧ (Below w.heap.size w w')) ?_ ?_
      rotate_left
      ·intro a8; refine join_ (σ := Value × Value × Value) 5 (bv 18 0x67ff) (fun s_ => [(7, s_.1), (10, s_.2.1), (11, s_.2.2)]) (fun s_ w' => (Kd.R k68 68 w' w.heap.size (fun k_ => some k_ ≠ (s_.2.2 : Value).ownBlock) s_.2.1 a4) ∧ (Kd.R k68 68 w' w.heap.size (fun k_ => some k_ ≠ (s_.2.1 : Value).ownBlock) s_.2.2 aQ) ∧ (w'.heap[ab]? = some (.cells #[.int .i64 ap, .int .i64 aq, .slice ar an.length au, .slice av al.length aw, .slice ax aj.length ay] 30 (0, 0))) ∧ (w'.heap[ai]? = some (.cells #[.int .i64 0, .int .i64 0, .slice none 0 0, .slice none 0 0, .slice none 0 0] 30 (0, 0))) ∧ (Below w.heap.size w w')) ?_ ?_
       rotate_left
       ·intro bH; refine join_ (σ := Value × Value × Value) 5 (bv 18 0x76ff) (fun s_ => [(7, s_.1), (10, s_.2.1), (15, s_.2.2)]) (fun s_ w' => (Kd.R k68 68 w' w.heap.size (fun _ => True) s_.2.1 a4) ∧ (Kd.R (Kd.int .i64) 3 w' w.heap.size (fun _ => True) s_.2.2 aI) ∧ (w'.heap[ab]? = some (.cells #[.int .i64 ap, .int .i64 aq, .slice ar an.length au, .slice av al.length aw, .slice ax aj.length ay] 30 (0, 0))) ∧ (w'.heap[ai]? = some (.cells #[.int .i64 0, .int .i64 0, .slice none 0 0, .slice none 0 0, .slice none 0 0] 30 (0, 0))) ∧ (Below w.heap.size w w')) ?_ ?_
        rotate_left
        ·intro bz; refine join_ (σ := Value × Value × Value) 5 (bv 18 0x777f) (fun s_ => [(7, s_.1), (11, s_.2.1), (15, s_.2.2)]) (fun s_ w' => (Kd.R k68 68 w' w.heap.size (fun k_ => some k_ ≠ (s_.2.1 : Value).ownBlock) s_.1 aU) ∧ (Kd.R k68 68 w' w.heap.size (fun k_ => some k_ ≠ (s_.1 : Value).ownBlock) s_.2.1 aQ) ∧ (Kd.R (Kd.int .i64) 3 w' w.heap.size (fun _ => True) s_.2.2 aI) ∧ (w'.heap[ab]? = some (.cells #[.int .i64 ap, .int .i64 aq, .slice ar an.length au, .slice av al.length aw, .slice ax aj.length ay] 30 (0, 0))) ∧ (w'.heap[ai]? = some (.cells #[.int .i64 0, .int .i64 0, .slice none 0 0, .slice none 0 0, .slice none 0 0] 30 (0, 0))) ∧ (Below w.heap.size w w')) ?_ ?_
         rotate_left
         ·intro bj; refine join_ (σ := Value × Value) 6 (bv 18 0x66ff) (fun s_ => [(7, s_.1), (10, s_.2)]) (fun s_ w' => (Kd.R k68 68 w' w.heap.size (fun _ => True) s_.2 a4) ∧ (w'.heap[ab]? = some (.cells #[.int .i64 ap, .int .i64 aq, .slice ar an.length au, .slice av al.length aw, .slice ax aj.length ay] 30 (0, 0))) ∧ (w'.heap[ai]? = some (.cells #[.int .i64 0, .int .i64 0, .slice none 0 0, .slice none 0 0, .slice none 0 0] 30 (0, 0))) ∧ (Below w.heap.size w w')) ?_ ?_
          rotate_left
          ·intro cd; refine join_ (σ := Value × Value) 6 (bv 18 0x677f) (fun s_ => [(7, s_.1), (11, s_.2)]) (fun s_ w' => (Kd.R k68 68 w' w.heap.size (fun k_ => some k_ ≠ (s_.2 : Value).ownBlock) s_.1 aU) ∧ (Kd.R k68 68 w' w.heap.size (fun k_ => some k_ ≠ (s_.1 : Value).ownBlock) s_.2 aQ) ∧ (w'.heap[ab]? = some (.cells #[.int .i64 ap, .int .i64 aq, .slice ar an.length au, .slice av al.length aw, .slice ax aj.length ay] 30 (0, 0))) ∧ (w'.heap[ai]? = some (.cells #[.int .i64 0, .int .i64 0, .slice none 0 0, .slice none 0 0, .slice none 0 0] 30 (0, 0))) ∧ (Below w.heap.size w w')) ?_ ?_
           rotate_left
           ·intro b3; refine join_ (σ := Value × Value) 6 (bv 18 0x767f) (fun s_ => [(7, s_.1), (15, s_.2)]) (fun s_ w' => (Kd.R k68 68 w' w.heap.size (fun _ => True) s_.1 aU) ∧ (Kd.R (Kd.int .i64) 3 w' w.heap.size (fun _ => True) s_.2 aI) ∧ (w'.heap[ab]? = some (.cells #[.int .i64 ap, .int .i64 aq, .slice ar an.length au, .slice av al.length aw, .slice ax aj.length ay] 30 (0, 0))) ∧ (w'.heap[ai]? = some (.cells #[.int .i64 0, .int .i64 0, .slice none 0 0, .slice none 0 0, .slice none 0 0] 30 (0, 0))) ∧ (Below w.heap.size w w')) ?_ ?_
            rotate_left
            ·intro bM; refine join_ (σ := Value × Value) 6 (bv 18 0x776f) (fun s_ => [(11, s_.1), (15, s_.2)]) (fun s_ w' => (Kd.R k68 68 w' w.heap.size (fun _ => True) s_.1 aQ) ∧ (Kd.R (Kd.int .i64) 3 w' w.heap.size (fun _ => True) s_.2 aI) ∧ (w'.heap[ab]? = some (.cells #[.int .i64 ap, .int .i64 aq, .slice ar an.length au, .slice av al.length aw, .slice ax aj.length ay] 30 (0, 0))) ∧ (w'.heap[ai]? = some (.cells #[.int .i64 0, .int .i64 0, .slice none 0 0, .slice none 0 0, .slice none 0 0] 30 (0, 0))) ∧ (Below w.heap.size w w')) ?_ ?_
             rotate_left
             ·intro bN; refine join_ (σ := Value) 7 (bv 18 0x667f) (fun s_ => [(7, s_)]) (fun s_ w' => (Kd.R k68 68 w' w.heap.size (fun _ => True) s_ aU) ∧ (w'.heap[ab]? = some (.cells #[.int .i64 ap, .int .i64 aq, .slice ar an.length au, .slice av al.length aw, .slice ax aj.length ay] 30 (0, 0))) ∧ (w'.heap[ai]? = some (.cells #[.int .i64 0, .int .i64 0, .slice none 0 0, .slice none 0 0, .slice none 0 0] 30 (0, 0))) ∧ (Below w.heap.size w w')) ?_ ?_
              rotate_left
              ·intro c0; refine join_ (σ := Value) 7 (bv 18 0x676f) (fun s_ => [(11, s_)]) (fun s_ w' => (Kd.R k68 68 w' w.heap.size (fun _ => True) s_ aQ) ∧ (w'.heap[ab]? = some (.cells #[.int .i64 ap, .int .i64 aq, .slice ar an.length au, .slice av al.length aw, .slice ax aj.length ay] 30 (0, 0))) ∧ (w'.heap[ai]? = some (.cells #[.int .i64 0, .int .i64 0, .slice none 0 0, .slice none 0 0, .slice none 0 0] 30 (0, 0))) ∧ (Below w.heap.size w w')) ?_ ?_
               rotate_left
               ·intro c1; refine join_ (σ := Value) 7 (bv 18 0x766f) (fun s_ => [(15, s_)]) (fun s_ w' => (Kd.R (Kd.int .i64) 3 w' w.heap.size (fun _ => True) s_ aI) ∧ (w'.heap[ab]? = some (.cells #[.int .i64 ap, .int .i64 aq, .slice ar an.length au, .slice av al.length aw, .slice ax aj.length ay] 30 (0, 0))) ∧ (w'.heap[ai]? = some (.cells #[.int .i64 0, .int .i64 0, .slice none 0 0, .slice none 0 0, .slice none 0 0] 30 (0, 0))) ∧ (Below w.heap.size w w')) ?_ ?_
                rotate_left
                ·intro cE; refine three_ (i := 4) (j := 8) (k := 12) (Ni := some 7) (Nj := some 11) (Nk := some 15) (bv 18 0x667f) (bv 18 0x676f) (bv 18 0x766f) rfl rfl rfl rfl rfl rfl (three_of HT_.out (by kernel_rfl)) (by decide) (by decide) (by decide) (fun K hK => ?_) (fun K hK => ?_) (fun K hK => ?_)
                 ·skip
                  refine lt_ k68 68 7 ([] : List (S68)) [] (Reps.none _ _) ?_; intro aH w8 bA hb; (first | rw [← ba.out] at bA | (simp only [Int.reduceToNat] at bA; rw [← ba.out] at bA)); have ao := rl2 bA HB ad ae; replace aa := bb aa hb; replace ac := bb ac hb; replace HB := s2 HB ad ae hb; clear hb bA; refine hK.out _ _ (bq5 aa) (fun hHeld => ?_); clear hK K; refine nx ?_
                  exact nm (c0 (aH) _ ⟨(ro ao), (bk aa), (bk ac), (be2 HB ad ae)⟩)
                 ·skip
                  refine lt_ k68 68 11 ([] : List (S68)) [] (Reps.none _ _) ?_; intro aE w8 bA hb; (first | rw [← aZ.out] at bA | (simp only [Int.reduceToNat] at bA; rw [← aZ.out] at bA)); have ag := rl2 bA HB ad ae; replace aa := bb aa hb; replace ac := bb ac hb; replace HB := s2 HB ad ae hb; clear hb bA; refine hK.out _ _ (bq5 aa) (fun hHeld => ?_); clear hK K; refine nx ?_
                  exact nm (c1 (aE) _ ⟨(ro ag), (bk aa), (bk ac), (be2 HB ad ae)⟩)
                 skip
                 refine lt_ (Kd.int .i64) 3 15 ([] : List Int) [] (Reps.none _ _) ?_; intro aK w8 bA hb; (first | rw [← aV.out] at bA | (simp only [Int.reduceToNat] at bA; rw [← aV.out] at bA)); have ah := rl2 bA HB ad ae; replace aa := bb aa hb; replace ac := bb ac hb; replace HB := s2 HB ad ae hb; clear hb bA; refine hK.out _ _ (bq5 aa) (fun hHeld => ?_); clear hK K; refine nx ?_
                 exact nm (cE (aK) _ ⟨(ro ah), (bk aa), (bk ac), (be2 HB ad ae)⟩)
                skip
                rintro aK a9 ⟨a0, a1, a2, a3⟩; have ah := am a0; replace aa := am a1; replace ac := am a2; replace HB := am a3; clear a0 a1 a2 a3; have hHeld := bq5 aa; refine nz ?_
                refine two_ (i := 4) (j := 8) (Ni := some 7) (Nj := some 11) (bv 18 0x767f) (bv 18 0x776f) rfl rfl rfl rfl (two_of HT_.out (by kernel_rfl)) (by decide) (by decide) (fun K hK => ?_) (fun K hK => ?_)
                ·skip
                 refine lt_ k68 68 7 ([] : List (S68)) [] (Reps.none _ _) ?_; intro aH bC aJ hb; (first | rw [← ba.out] at aJ | (simp only [Int.reduceToNat] at aJ; rw [← ba.out] at aJ)); replace ah := rb ah hb; have ao := rl2 aJ HB ad ae; replace aa := bb aa hb; replace ac := bb ac hb; replace HB := s2 HB ad ae hb; clear hb aJ; refine hK.out _ _ (bq5 aa) (fun hHeld => ?_); clear hK K; refine nx ?_
                 exact nm (bM (aH, aK) _ ⟨(ro ao), (ro ah), (bk aa), (bk ac), (be2 HB ad ae)⟩)
                skip
                refine lt_ k68 68 11 ([] : List (S68)) [] (Reps.none _ _) ?_; intro aE bC aJ hb; (first | rw [← aZ.out] at aJ | (simp only [Int.reduceToNat] at aJ; rw [← aZ.out] at aJ)); replace ah := rb ah hb; have ag := rl2 aJ HB ad ae; replace aa := bb aa hb; replace ac := bb ac hb; replace HB := s2 HB ad ae hb; clear hb aJ; refine hK.out _ _ (bq5 aa) (fun hHeld => ?_); clear hK K; refine nx ?_
                exact nm (bN (aE, aK) _ ⟨(ro ag), (ro ah), (bk aa), (bk ac), (be2 HB ad ae)⟩)
               skip
               rintro aE a9 ⟨a0, a1, a2, a3⟩; have ag := am a0; replace aa := am a1; replace ac := am a2; replace HB := am a3; clear a0 a1 a2 a3; have hHeld := bq5 aa; refine nz ?_
               refine two_ (i := 4) (j := 12) (Ni := some 7) (Nj := some 15) (bv 18 0x677f) (bv 18 0x776f) rfl rfl rfl rfl (two_of HT_.out (by kernel_rfl)) (by decide) (by decide) (fun K hK => ?_) (fun K hK => ?_)
               ·skip
                refine lt_ k68 68 7 ([] : List (S68)) [] (Reps.none _ _) ?_; intro aH bC aJ hb; (first | rw [← ba.out] at aJ | (simp only [Int.reduceToNat] at aJ; rw [← ba.out] at aJ)); have ao := Aside0.mk (Kd.R_lower (nw aJ ag) (below_size (be2 HB ad ae))); replace ag := Aside0.mk (Kd.R_elder' (ro ag) (Kd.R_base aJ) hb); replace aa := bb aa hb; replace ac := bb ac hb; replace HB := s2 HB ad ae hb; clear hb aJ; refine hK.out _ _ (bq5 aa) (fun hHeld => ?_); clear hK K; refine nx ?_
                exact nm (b3 (aH, aE) _ ⟨(by (with_reducible repeat (first | apply Kd.R_alloc | apply Kd.R_drewN | apply Kd.R_drew)); exact Kd.R_mono ao.out (fun _ hk => hk.2)), (by (with_reducible repeat (first | apply Kd.R_alloc | apply Kd.R_drewN | apply Kd.R_drew)); exact Kd.R_mono ag.out (fun _ hk => hk.2)), (bk aa), (bk ac), (be2 HB ad ae)⟩)
               skip
               refine lt_ (Kd.int .i64) 3 15 ([] : List Int) [] (Reps.none _ _) ?_; intro aK bC aJ hb; (first | rw [← aV.out] at aJ | (simp only [Int.reduceToNat] at aJ; rw [← aV.out] at aJ)); replace ag := rb ag hb; have ah := rl2 aJ HB ad ae; replace aa := bb aa hb; replace ac := bb ac hb; replace HB := s2 HB ad ae hb; clear hb aJ; refine hK.out _ _ (bq5 aa) (fun hHeld => ?_); clear hK K; refine nx ?_
               exact nm (bN (aE, aK) _ ⟨(ro ag), (ro ah), (bk aa), (bk ac), (be2 HB ad ae)⟩)
              skip
              rintro aH a9 ⟨a0, a1, a2, a3⟩; have ao := am a0; replace aa := am a1; replace ac := am a2; replace HB := am a3; clear a0 a1 a2 a3; have hHeld := bq5 aa; refine nz ?_
              refine three_ (i := 7) (j := 8) (k := 12) (Ni := some 10) (Nj := some 11) (Nk := some 15) (bv 18 0x66ff) (bv 18 0x677f) (bv 18 0x767f) rfl rfl rfl rfl rfl rfl (three_of HT_.out (by kernel_rfl)) (by decide) (by decide) (by decide) (fun K hK => ?_) (fun K hK => ?_) (fun K hK => ?_)
              ·skip
               refine Kd.R_append_rows_step k68 (w0 := w) w.heap.size (by rfl) (.tmp 7) (.tmp 9) 28 68 (.agg #[(.string ⟨#[]⟩), (.string ⟨#[]⟩), (.int .i64 0)]) 40 rfl Try.underlying28 info68 rfl (by decide) (by omega) aH aU an _ _ _ (fun _ => True) (fun _ => False) rfl rfl ?aO ?aR (fun _ _ h => h) (fun _ h => h.elim) ?aF ?aB ?aS ?aL ?_
               (case aR => exact cb bF HB)
               (case aB => exact (be2 HB ad ae))
               (case aF => exact (fun _ _ => trivial))
               (case aO => exact (ro ao))
               (case aS => exact (below_size (be2 HB ad ae)))
               (case aL => have := bQ.out; omega)
               intro aN bC ho hb hg hat; rw [← bG.out] at ho; replace aa := bgr aa hg (Kd.R_ne ao.out aa.out (by decide)); replace ac := bgr ac hg (Kd.R_ne ao.out ac.out (by decide)); replace HB := Aside0.mk (hb); have ak := Aside0.mk (ho); clear ao; clear ho hb hg hat; refine hK.out _ _ (bq5 aa) (fun hHeld => ?_); clear hK K; refine nx ?_
               exact nm (cd (aH, aN) _ ⟨(ro ak), (bk aa), (bk ac), (be2 HB ad ae)⟩)
              ·skip
               refine lt_ k68 68 11 ([] : List (S68)) [] (Reps.none _ _) ?_; intro aE bC aJ hb; (first | rw [← aZ.out] at aJ | (simp only [Int.reduceToNat] at aJ; rw [← aZ.out] at aJ)); have ag := Aside0.mk (Kd.R_lower (nw aJ ao) (below_size (be2 HB ad ae))); replace ao := Aside0.mk (Kd.R_elder' (ro ao) (Kd.R_base aJ) hb); replace aa := bb aa hb; replace ac := bb ac hb; replace HB := s2 HB ad ae hb; clear hb aJ; refine hK.out _ _ (bq5 aa) (fun hHeld => ?_); clear hK K; refine nx ?_
               exact nm (b3 (aH, aE) _ ⟨(by (with_reducible repeat (first | apply Kd.R_alloc | apply Kd.R_drewN | apply Kd.R_drew)); exact Kd.R_mono ao.out (fun _ hk => hk.2)), (by (with_reducible repeat (first | apply Kd.R_alloc | apply Kd.R_drewN | apply Kd.R_drew)); exact Kd.R_mono ag.out (fun _ hk => hk.2)), (bk aa), (bk ac), (be2 HB ad ae)⟩)
              skip
              refine lt_ (Kd.int .i64) 3 15 ([] : List Int) [] (Reps.none _ _) ?_; intro aK bC aJ hb; (first | rw [← aV.out] at aJ | (simp only [Int.reduceToNat] at aJ; rw [← aV.out] at aJ)); replace ao := rb ao hb; have ah := rl2 aJ HB ad ae; replace aa := bb aa hb; replace ac := bb ac hb; replace HB := s2 HB ad ae hb; clear hb aJ; refine hK.out _ _ (bq5 aa) (fun hHeld => ?_); clear hK K; refine nx ?_
              exact nm (bM (aH, aK) _ ⟨(ro ao), (ro ah), (bk aa), (bk ac), (be2 HB ad ae)⟩)
             skip
             rintro ⟨aE, aK⟩ a6 ⟨a0, a1, a2, a3, bc⟩; (try dsimp only at a0 a1 a2 a3 bc); have ag := am a0; have ah := am a1; replace aa := am a2; replace ac := am a3; replace HB := am bc; clear a0 a1 a2 a3 bc; have hHeld := bq5 aa; refine nz ?_
             refine oh HT_ 4 (some 7) (bv 18 0x777f) fun K hK => ?_; refine lt_ k68 68 7 ([] : List (S68)) [] (Reps.none _ _) ?_; intro aH bd aY hb; (first | rw [← ba.out] at aY | (simp only [Int.reduceToNat] at aY; rw [← ba.out] at aY)); replace ah := rb ah hb; have ao := Aside0.mk (Kd.R_lower (nw aY ag) (below_size (be2 HB ad ae))); replace ag := Aside0.mk (Kd.R_elder' (ro ag) (Kd.R_base aY) hb); replace aa := bb aa hb; replace ac := bb ac hb; replace HB := s2 HB ad ae hb; clear hb aY; refine hK.out _ _ (bq5 aa) (fun hHeld => ?_); clear hK K; refine nx ?_
             exact nm (bj (aH, aE, aK) _ ⟨(by (with_reducible repeat (first | apply Kd.R_alloc | apply Kd.R_drewN | apply Kd.R_drew)); exact Kd.R_mono ao.out (fun _ hk => hk.2)), (by (with_reducible repeat (first | apply Kd.R_alloc | apply Kd.R_drewN | apply Kd.R_drew)); exact Kd.R_mono ag.out (fun _ hk => hk.2)), (ro ah), (bk aa), (bk ac), (be2 HB ad ae)⟩)
            skip
            rintro ⟨aH, aK⟩ a6 ⟨a0, a1, a2, a3, bc⟩; (try dsimp only at a0 a1 a2 a3 bc); have ao := am a0; have ah := am a1; replace aa := am a2; replace ac := am a3; replace HB := am bc; clear a0 a1 a2 a3 bc; have hHeld := bq5 aa; refine nz ?_
            refine two_ (i := 7) (j := 8) (Ni := some 10) (Nj := some 11) (bv 18 0x76ff) (bv 18 0x777f) rfl rfl rfl rfl (two_of HT_.out (by kernel_rfl)) (by decide) (by decide) (fun K hK => ?_) (fun K hK => ?_)
            ·skip
             refine Kd.R_append_rows_step k68 (w0 := w) w.heap.size (by rfl) (.tmp 7) (.tmp 9) 28 68 (.agg #[(.string ⟨#[]⟩), (.string ⟨#[]⟩), (.int .i64 0)]) 40 rfl Try.underlying28 info68 rfl (by decide) (by omega) aH aU an _ _ _ (fun _ => True) (fun _ => False) rfl rfl ?aO ?aR (fun _ _ h => h) (fun _ h => h.elim) ?aF ?aB ?aS ?aL ?_
             (case aR => exact cb bF HB)
             (case aB => exact (be2 HB ad ae))
             (case aF => exact (fun _ _ => trivial))
             (case aO => exact (ro ao))
             (case aS => exact (below_size (be2 HB ad ae)))
             (case aL => have := bQ.out; omega)
             intro aN bd ho hb hg hat; rw [← bG.out] at ho; replace aa := bgr aa hg (Kd.R_ne ao.out aa.out (by decide)); replace ac := bgr ac hg (Kd.R_ne ao.out ac.out (by decide)); replace ah := Aside0.mk (Kd.R_over' (ro ah) (Kd.R_typed (ro ao)) (by decide) hg); replace HB := Aside0.mk (hb); have ak := Aside0.mk (ho); clear ao; clear ho hb hg hat; refine hK.out _ _ (bq5 aa) (fun hHeld => ?_); clear hK K; refine nx ?_
             exact nm (bz (aH, aN, aK) _ ⟨(ro ak), (ro ah), (bk aa), (bk ac), (be2 HB ad ae)⟩)
            skip
            refine lt_ k68 68 11 ([] : List (S68)) [] (Reps.none _ _) ?_; intro aE bd aY hb; (first | rw [← aZ.out] at aY | (simp only [Int.reduceToNat] at aY; rw [← aZ.out] at aY)); replace ah := rb ah hb; have ag := Aside0.mk (Kd.R_lower (nw aY ao) (below_size (be2 HB ad ae))); replace ao := Aside0.mk (Kd.R_elder' (ro ao) (Kd.R_base aY) hb); replace aa := bb aa hb; replace ac := bb ac hb; replace HB := s2 HB ad ae hb; clear hb aY; refine hK.out _ _ (bq5 aa) (fun hHeld => ?_); clear hK K; refine nx ?_
            exact nm (bj (aH, aE, aK) _ ⟨(by (with_reducible repeat (first | apply Kd.R_alloc | apply Kd.R_drewN | apply Kd.R_drew)); exact Kd.R_mono ao.out (fun _ hk => hk.2)), (by (with_reducible repeat (first | apply Kd.R_alloc | apply Kd.R_drewN | apply Kd.R_drew)); exact Kd.R_mono ag.out (fun _ hk => hk.2)), (ro ah), (bk aa), (bk ac), (be2 HB ad ae)⟩)
           skip
           rintro ⟨aH, aE⟩ a6 ⟨a0, a1, a2, a3, bc⟩; (try dsimp only at a0 a1 a2 a3 bc); have ao := am a0; have ag := am a1; replace aa := am a2; replace ac := am a3; replace HB := am bc; clear a0 a1 a2 a3 bc; have hHeld := bq5 aa; refine nz ?_
           refine two_ (i := 7) (j := 12) (Ni := some 10) (Nj := some 15) (bv 18 0x67ff) (bv 18 0x777f) rfl rfl rfl rfl (two_of HT_.out (by kernel_rfl)) (by decide) (by decide) (fun K hK => ?_) (fun K hK => ?_)
           ·skip
            refine Kd.R_append_rows_step k68 (w0 := w) w.heap.size (by rfl) (.tmp 7) (.tmp 9) 28 68 (.agg #[(.string ⟨#[]⟩), (.string ⟨#[]⟩), (.int .i64 0)]) 40 rfl Try.underlying28 info68 rfl (by decide) (by omega) aH aU an _ _ _ (fun k_ => some k_ ≠ (aE : Value).ownBlock) (fun _ => False) rfl rfl ?aO ?aR (fun _ _ h => h) (fun _ h => h.elim) ?aF ?aB ?aS ?aL ?_
            (case aR => exact cb bF HB)
            (case aB => exact (be2 HB ad ae))
            (case aF => exact (fun k_ hk => Kd.fresh' (Kd.R_lt (ro ag)) k_ hk))
            (case aO => exact (ro ao))
            (case aS => exact (below_size (be2 HB ad ae)))
            (case aL => have := bQ.out; omega)
            intro aN bd ho hb hg hat; rw [← bG.out] at ho; replace aa := bgr aa hg (Kd.R_ne ao.out aa.out (by decide)); replace ac := bgr ac hg (Kd.R_ne ao.out ac.out (by decide)); replace ag := Aside0.mk (Kd.R_after (ok := (fun _ => True)) (by (with_reducible repeat (first | apply Kd.R_alloc | apply Kd.R_drewN | apply Kd.R_drew)); exact rm ag) hg hat); replace HB := Aside0.mk (hb); have ak := Aside0.mk (ho); clear ao; clear ho hb hg hat; refine hK.out _ _ (bq5 aa) (fun hHeld => ?_); clear hK K; refine nx ?_
            exact nm (bH (aH, aN, aE) _ ⟨(ro ak), (by (with_reducible repeat (first | apply Kd.R_alloc | apply Kd.R_drewN | apply Kd.R_drew)); exact Kd.R_mono ag.out (fun _ hk => hk.2)), (bk aa), (bk ac), (be2 HB ad ae)⟩)
           skip
           refine lt_ (Kd.int .i64) 3 15 ([] : List Int) [] (Reps.none _ _) ?_; intro aK bd aY hb; (first | rw [← aV.out] at aY | (simp only [Int.reduceToNat] at aY; rw [← aV.out] at aY)); replace ao := rb ao hb; replace ag := rb ag hb; have ah := rl2 aY HB ad ae; replace aa := bb aa hb; replace ac := bb ac hb; replace HB := s2 HB ad ae hb; clear hb aY; refine hK.out _ _ (bq5 aa) (fun hHeld => ?_); clear hK K; refine nx ?_
           exact nm (bj (aH, aE, aK) _ ⟨(ro ao), (ro ag), (ro ah), (bk aa), (bk ac), (be2 HB ad ae)⟩)
          skip
          rintro ⟨aH, aN⟩ bC ⟨a0, a1, a2, a3⟩; (try dsimp only at a0 a1 a2 a3); have ak := am a0; replace aa := am a1; replace ac := am a2; replace HB := am a3; clear a0 a1 a2 a3; have hHeld := bq5 aa; refine nz ?_
          refine two_ (i := 8) (j := 12) (Ni := some 11) (Nj := some 15) (bv 18 0x67ff) (bv 18 0x76ff) rfl rfl rfl rfl (two_of HT_.out (by kernel_rfl)) (by decide) (by decide) (fun K hK => ?_) (fun K hK => ?_)
          ·skip
           refine lt_ k68 68 11 ([] : List (S68)) [] (Reps.none _ _) ?_; intro aE a6 bf hb; (first | rw [← aZ.out] at bf | (simp only [Int.reduceToNat] at bf; rw [← aZ.out] at bf)); have ag := Aside0.mk (Kd.R_lower (nw bf ak) (below_size (be2 HB ad ae))); replace ak := Aside0.mk (Kd.R_elder' (ro ak) (Kd.R_base bf) hb); replace aa := bb aa hb; replace ac := bb ac hb; replace HB := s2 HB ad ae hb; clear hb bf; refine hK.out _ _ (bq5 aa) (fun hHeld => ?_); clear hK K; refine nx ?_
           exact nm (bH (aH, aN, aE) _ ⟨(by (with_reducible repeat (first | apply Kd.R_alloc | apply Kd.R_drewN | apply Kd.R_drew)); exact Kd.R_mono ak.out (fun _ hk => hk.2)), (by (with_reducible repeat (first | apply Kd.R_alloc | apply Kd.R_drewN | apply Kd.R_drew)); exact Kd.R_mono ag.out (fun _ hk => hk.2)), (bk aa), (bk ac), (be2 HB ad ae)⟩)
          skip
          refine lt_ (Kd.int .i64) 3 15 ([] : List Int) [] (Reps.none _ _) ?_; intro aK a6 bf hb; (first | rw [← aV.out] at bf | (simp only [Int.reduceToNat] at bf; rw [← aV.out] at bf)); replace ak := rb ak hb; have ah := rl2 bf HB ad ae; replace aa := bb aa hb; replace ac := bb ac hb; replace HB := s2 HB ad ae hb; clear hb bf; refine hK.out _ _ (bq5 aa) (fun hHeld => ?_); clear hK K; refine nx ?_
          exact nm (bz (aH, aN, aK) _ ⟨(ro ak), (ro ah), (bk aa), (bk ac), (be2 HB ad ae)⟩)
         skip
         rintro ⟨aH, aE, aK⟩ bg ⟨a0, a1, a2, a3, bc, b4⟩; (try dsimp only at a0 a1 a2 a3 bc b4); have ao := am a0; have ag := am a1; have ah := am a2; replace aa := am a3; replace ac := am bc; replace HB := am b4; clear a0 a1 a2 a3 bc b4; have hHeld := bq5 aa; refine nz ?_
         refine oh HT_ 7 (some 10) (bv 18 0x77ff) fun K hK => ?_; refine Kd.R_append_rows_step k68 (w0 := w) w.heap.size (by rfl) (.tmp 7) (.tmp 9) 28 68 (.agg #[(.string ⟨#[]⟩), (.string ⟨#[]⟩), (.int .i64 0)]) 40 rfl Try.underlying28 info68 rfl (by decide) (by omega) aH aU an _ _ _ (fun k_ => some k_ ≠ (aE : Value).ownBlock) (fun _ => False) rfl rfl ?aO ?aR (fun _ _ h => h) (fun _ h => h.elim) ?aF ?aB ?aS ?aL ?_
         (case aR => exact cb bF HB)
         (case aB => exact (be2 HB ad ae))
         (case aF => exact (fun k_ hk => Kd.fresh' (Kd.R_lt (ro ag)) k_ hk))
         (case aO => exact (ro ao))
         (case aS => exact (below_size (be2 HB ad ae)))
         (case aL => have := bQ.out; omega)
         intro aN bI ho hb hg hat; rw [← bG.out] at ho; replace aa := bgr aa hg (Kd.R_ne ao.out aa.out (by decide)); replace ac := bgr ac hg (Kd.R_ne ao.out ac.out (by decide)); replace ag := Aside0.mk (Kd.R_after (ok := (fun _ => True)) (by (with_reducible repeat (first | apply Kd.R_alloc | apply Kd.R_drewN | apply Kd.R_drew)); exact rm ag) hg hat); replace ah := Aside0.mk (Kd.R_over' (ro ah) (Kd.R_typed (ro ao)) (by decide) hg); replace HB := Aside0.mk (hb); have ak := Aside0.mk (ho); clear ao; clear ho hb hg hat; refine hK.out _ _ (bq5 aa) (fun hHeld => ?_); clear hK K; refine nx ?_
         exact nm (a8 (aH, aN, aE, aK) _ ⟨(ro ak), (by (with_reducible repeat (first | apply Kd.R_alloc | apply Kd.R_drewN | apply Kd.R_drew)); exact Kd.R_mono ag.out (fun _ hk => hk.2)), (ro ah), (bk aa), (bk ac), (be2 HB ad ae)⟩)
        skip
        rintro ⟨aH, aN, aK⟩ bd ⟨a0, a1, a2, a3, bc⟩; (try dsimp only at a0 a1 a2 a3 bc); have ak := am a0; have ah := am a1; replace aa := am a2; replace ac := am a3; replace HB := am bc; clear a0 a1 a2 a3 bc; have hHeld := bq5 aa; refine nz ?_
        refine oh HT_ 8 (some 11) (bv 18 0x77ff) fun K hK => ?_; refine lt_ k68 68 11 ([] : List (S68)) [] (Reps.none _ _) ?_; intro aE bg bh hb; (first | rw [← aZ.out] at bh | (simp only [Int.reduceToNat] at bh; rw [← aZ.out] at bh)); replace ah := rb ah hb; have ag := Aside0.mk (Kd.R_lower (nw bh ak) (below_size (be2 HB ad ae))); replace ak := Aside0.mk (Kd.R_elder' (ro ak) (Kd.R_base bh) hb); replace aa := bb aa hb; replace ac := bb ac hb; replace HB := s2 HB ad ae hb; clear hb bh; refine hK.out _ _ (bq5 aa) (fun hHeld => ?_); clear hK K; refine nx ?_
        exact nm (a8 (aH, aN, aE, aK) _ ⟨(by (with_reducible repeat (first | apply Kd.R_alloc | apply Kd.R_drewN | apply Kd.R_drew)); exact Kd.R_mono ak.out (fun _ hk => hk.2)), (by (with_reducible repeat (first | apply Kd.R_alloc | apply Kd.R_drewN | apply Kd.R_drew)); exact Kd.R_mono ag.out (fun _ hk => hk.2)), (ro ah), (bk aa), (bk ac), (be2 HB ad ae)⟩)
       skip
       rintro ⟨aH, aN, aE⟩ bd ⟨a0, a1, a2, a3, bc⟩; (try dsimp only at a0 a1 a2 a3 bc); have ak := am a0; have ag := am a1; replace aa := am a2; replace ac := am a3; replace HB := am bc; clear a0 a1 a2 a3 bc; have hHeld := bq5 aa; refine nz ?_
       refine two_ (i := 11) (j := 12) (Ni := some 14) (Nj := some 15) (bv 18 0x6fff) (bv 18 0x77ff) rfl rfl rfl rfl (two_of HT_.out (by kernel_rfl)) (by decide) (by decide) (fun K hK => ?_) (fun K hK => ?_)
       ·skip
        refine Kd.R_append_rows_step k68 (w0 := w) w.heap.size (by rfl) (.tmp 11) (.tmp 13) 28 68 (.agg #[(.string ⟨#[]⟩), (.string ⟨#[]⟩), (.int .i64 0)]) 40 rfl Try.underlying28 info68 rfl (by decide) (by omega) aE aQ al _ _ _ (fun k_ => some k_ ≠ (aN : Value).ownBlock) (fun _ => False) rfl rfl ?aO ?aR (fun _ _ h => h) (fun _ h => h.elim) ?aF ?aB ?aS ?aL ?_
        (case aR => exact cb b1 HB)
        (case aB => exact (be2 HB ad ae))
        (case aF => exact (fun k_ hk => Kd.fresh' (Kd.R_lt (ro ak)) k_ hk))
        (case aO => exact (ro ag))
        (case aS => exact (below_size (be2 HB ad ae)))
        (case aL => have := b9.out; omega)
        intro bm bg ho hb hg hat; rw [← b2.out] at ho; replace aa := bgr aa hg (Kd.R_ne ag.out aa.out (by decide)); replace ac := bgr ac hg (Kd.R_ne ag.out ac.out (by decide)); replace ak := Aside0.mk (Kd.R_after (ok := (fun _ => True)) (by (with_reducible repeat (first | apply Kd.R_alloc | apply Kd.R_drewN | apply Kd.R_drew)); exact rm ak) hg hat); replace HB := Aside0.mk (hb); have aW := Aside0.mk (ho); clear ag; clear ho hb hg hat; refine hK.out _ _ (bq5 aa) (fun hHeld => ?_); clear hK K; refine nx ?_
        exact nm (bD (aH, aN, aE, bm) _ ⟨(by (with_reducible repeat (first | apply Kd.R_alloc | apply Kd.R_drewN | apply Kd.R_drew)); exact Kd.R_mono ak.out (fun _ hk => hk.2)), (ro aW), (bk aa), (bk ac), (be2 HB ad ae)⟩)
       skip
       refine lt_ (Kd.int .i64) 3 15 ([] : List Int) [] (Reps.none _ _) ?_; intro aK bg bh hb; (first | rw [← aV.out] at bh | (simp only [Int.reduceToNat] at bh; rw [← aV.out] at bh)); replace ak := rb ak hb; replace ag := rb ag hb; have ah := rl2 bh HB ad ae; replace aa := bb aa hb; replace ac := bb ac hb; replace HB := s2 HB ad ae hb; clear hb bh; refine hK.out _ _ (bq5 aa) (fun hHeld => ?_); clear hK K; refine nx ?_
       exact nm (a8 (aH, aN, aE, aK) _ ⟨(ro ak), (ro ag), (ro ah), (bk aa), (bk ac), (be2 HB ad ae)⟩)
      skip
      rintro ⟨aH, aN, aE, aK⟩ bI ⟨a0, a1, a2, a3, bc, b4⟩; (try dsimp only at a0 a1 a2 a3 bc b4); have ak := am a0; have ag := am a1; have ah := am a2; replace aa := am a3; replace ac := am bc; replace HB := am b4; clear a0 a1 a2 a3 bc b4; have hHeld := bq5 aa; refine nz ?_
      refine oh HT_ 11 (some 14) (bv 18 0x7fff) fun K hK => ?_; refine Kd.R_append_rows_step k68 (w0 := w) w.heap.size (by rfl) (.tmp 11) (.tmp 13) 28 68 (.agg #[(.string ⟨#[]⟩), (.string ⟨#[]⟩), (.int .i64 0)]) 40 rfl Try.underlying28 info68 rfl (by decide) (by omega) aE aQ al _ _ _ (fun k_ => some k_ ≠ (aN : Value).ownBlock) (fun _ => False) rfl rfl ?aO ?aR (fun _ _ h => h) (fun _ h => h.elim) ?aF ?aB ?aS ?aL ?_
      (case aR => exact cb b1 HB)
      (case aB => exact (be2 HB ad ae))
      (case aF => exact (fun k_ hk => Kd.fresh' (Kd.R_lt (ro ak)) k_ hk))
      (case aO => exact (ro ag))
      (case aS => exact (below_size (be2 HB ad ae)))
      (case aL => have := b9.out; omega)
      intro bm bJ ho hb hg hat; rw [← b2.out] at ho; replace aa := bgr aa hg (Kd.R_ne ag.out aa.out (by decide)); replace ac := bgr ac hg (Kd.R_ne ag.out ac.out (by decide)); replace ak := Aside0.mk (Kd.R_after (ok := (fun _ => True)) (by (with_reducible repeat (first | apply Kd.R_alloc | apply Kd.R_drewN | apply Kd.R_drew)); exact rm ak) hg hat); replace ah := Aside0.mk (Kd.R_over' (ro ah) (Kd.R_typed (ro ag)) (by decide) hg); replace HB := Aside0.mk (hb); have aW := Aside0.mk (ho); clear ag; clear ho hb hg hat; refine hK.out _ _ (bq5 aa) (fun hHeld => ?_); clear hK K; refine nx ?_
      exact nm (a7 (aH, aN, aE, bm, aK) _ ⟨(by (with_reducible repeat (first | apply Kd.R_alloc | apply Kd.R_drewN | apply Kd.R_drew)); exact Kd.R_mono ak.out (fun _ hk => hk.2)), (ro aW), (ro ah), (bk aa), (bk ac), (be2 HB ad ae)⟩)
     skip
     rintro ⟨aH, aN, aE, bm⟩ bg ⟨a0, a1, a2, a3, bc⟩; (try dsimp only at a0 a1 a2 a3 bc); have ak := am a0; have aW := am a1; replace aa := am a2; replace ac := am a3; replace HB := am bc; clear a0 a1 a2 a3 bc; have hHeld := bq5 aa; refine nz ?_
     refine oh HT_ 12 (some 15) (bv 18 0x7fff) fun K hK => ?_; refine lt_ (Kd.int .i64) 3 15 ([] : List Int) [] (Reps.none _ _) ?_; intro aK bI bO hb; (first | rw [← aV.out] at bO | (simp only [Int.reduceToNat] at bO; rw [← aV.out] at bO)); replace ak := rb ak hb; replace aW := rb aW hb; have ah := rl2 bO HB ad ae; replace aa := bb aa hb; replace ac := bb ac hb; replace HB := s2 HB ad ae hb; clear hb bO; refine hK.out _ _ (bq5 aa) (fun hHeld => ?_); clear hK K; refine nx ?_
     exact nm (a7 (aH, aN, aE, bm, aK) _ ⟨(ro ak), (ro aW), (ro ah), (bk aa), (bk ac), (be2 HB ad ae)⟩)
    rintro ⟨aH, aN, aE, bm, aK⟩ bJ ⟨a0, a1, a2, a3, bc, b4⟩; (try dsimp only at a0 a1 a2 a3 bc b4); have ak := am a0; have aW := am a1; have ah := am a2; replace aa := am a3; replace ac := am bc; replace HB := am b4; clear a0 a1 a2 a3 bc b4; have hHeld := bq5 aa; refine nz ?_
    refine oh HT_ 15 (some 18) (bv 18 0xffff) fun K hK => ?_; refine Kd.R_append_rows_step (Kd.int .i64) (w0 := w) w.heap.size (by rfl) (.tmp 15) (.tmp 17) 23 3 (.int .i64 0) 8 rfl Try.underlying23 info3 rfl (by decide) (by omega) aK aI aj _ _ _ (fun _ => True) (fun _ => False) rfl rfl ?aO ?aR (fun _ _ h => h) (fun _ h => h.elim) ?aF ?aB ?aS ?aL ?_
    (case aR => exact cb b8 HB)
    (case aB => exact (be2 HB ad ae))
    (case aF => exact (fun _ _ => trivial))
    (case aO => exact (ro ah))
    (case aS => exact (below_size (be2 HB ad ae)))
    (case aL => have := cD.out; omega)
    intro da ce ho hb hg hat; rw [← cc.out] at ho; replace aa := bgr aa hg (Kd.R_ne ah.out aa.out (by decide)); replace ac := bgr ac hg (Kd.R_ne ah.out ac.out (by decide)); replace ak := Aside0.mk (Kd.R_over' (ro ak) (Kd.R_typed (ro ah)) (by decide) hg); replace aW := Aside0.mk (Kd.R_over' (ro aW) (Kd.R_typed (ro ah)) (by decide) hg); replace HB := Aside0.mk (hb); have b5 := Aside0.mk (ho); clear ah; clear ho hb hg hat; obtain ⟨cF, cG, cf⟩ := Kd.R_slice b5.out; (first | subst cf | (injection cf with b6 cg b7; have ci := b6.symm; have ck := b7.symm; clear b6 cg b7; subst ci; subst ck)); obtain ⟨cI, cK, cl⟩ := Kd.R_slice aW.out; (first | subst cl | (injection cl with b6 cg b7; have ci := b6.symm; have ck := b7.symm; clear b6 cg b7; subst ci; subst ck)); obtain ⟨cL, cM, cm⟩ := Kd.R_slice ak.out; (first | subst cm | (injection cm with b6 cg b7; have ci := b6.symm; have ck := b7.symm; clear b6 cg b7; subst ci; subst ck)); refine hK.out _ _ (bq5 aa) (fun hHeld => ?_); clear hK K; refine nx ?_
    refine py HT_ 16 19 (bv 18 0x1ffff) ?_; refine oh HT_ 17 none (bv 18 0x3ffff) fun K hK => ?_; have db : ce.cell? ⟨ai, 0, none⟩ = some (.int .i64 0) := bc0 ac; have cU := blk_frozen ac.out 0; have cn := af.out; have co := aX.out; have dc : ce.cell? ⟨ai, 1, none⟩ = some (.int .i64 0) := bc1 ac; have cW := blk_frozen ac.out 1; have cp := af.out; have cs := aX.out; have dd : ce.cell? ⟨ai, 2, none⟩ = some (.slice none 0 0) := bc2 ac; have cX := blk_frozen ac.out 2; have ct := af.out; have cu := aX.out; have de : ce.cell? ⟨ai, 3, none⟩ = some (.slice none 0 0) := bc3 ac; have cY := blk_frozen ac.out 3; have cw := af.out; have cx := aX.out; have df : ce.cell? ⟨ai, 4, none⟩ = some (.slice none 0 0) := bc4 ac; have cZ := blk_frozen ac.out 4; have cy := af.out; have cz := aX.out; refine sk ?_
    refine hK.out _ _ ⟨(cq af hHeld.1), (cq af hHeld.2.1), (cq af hHeld.2.2.1), (cq af hHeld.2.2.2.1), (cq af hHeld.2.2.2.2)⟩ (fun hHeld => ?_); clear hK K; refine dh HT_ ?_
    try go_wp2
    refine bodyPost_ret (results_cell_row rfl _ _ ai 30 #[.int .i64 ap, .int .i64 aq, .slice cL a4.length cM, .slice cI br.length cK, .slice cF ca.length cG] (0, 0) _ rfl (bp ac) Try.underlying30 rfl (by kernel_rfl)) rfl ?_; exact ⟨_, _, _, er, (rf ak ac), (rf aW ac), (rfn b5 ac), be2 HB ad ae⟩
   rw [if_neg c4] at H; exact absurd H (by simp)
  rw [if_neg c3] at H; exact absurd H (by simp)
 rw [if_neg c2] at H; exact absurd H (by simp)

end Go.Proofs.Ytfjhkediaholmaa.QFnSpare
