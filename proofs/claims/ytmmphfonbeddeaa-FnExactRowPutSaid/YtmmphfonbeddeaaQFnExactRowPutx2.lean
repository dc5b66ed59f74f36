-- made by a program of this session (myprint.py)
import Derived.Test.YtmmphfonbeddeaaQFnExactRowPutx0
import Derived.Test.YtmmphfonbeddeaaQFnExactRowPutx1
namespace Go.Proofs.Ytmmphfonbeddeaa.QFnExactRowPut
open Go.RowKit Go.Proofs.YtmmphfonbeddeaaW.PrintWords Go.Proofs.YtmmphfonbeddeaaW.PrintLast Go.Proofs.YtmmphfonbeddeaaW.PrintMore
attribute [local go_sem] max2_int min2_int max_two min_two max_three min_three max_four min_four   -- for this text's walks alone
set_option linter.unusedVariables false
set_option linter.unusedSimpArgs false

/-! ### spec_RowOk: function 15 -/
mutual
def spec_RowOk.j0 : Nat → Bool → Int → Int → List (S42) → Option (Bool)
 | 0, _, _, _, _ => none
 | k + 1, cp, av, ax, aq => if cp = true then (some false) else (spec_RowOk.l0 k aq (aq.length : Int) 0 av ax aq)
def spec_RowOk.l0 : Nat → List (S42) → Int → Int → Int → Int → List (S42) → Option (Bool)
 | 0, _, _, _, _, _, _ => none
 | k + 1, aN, b3, aG, av, ax, aq => if aG < b3 then (if 0 ≤ aG then (if aG < (aN.length : Int) then ((spec_ItemOk.f k ((rd_T42 aN aG).f0) ((rd_T42 aN aG).f1) ((rd_T42 aN aG).f2)).bind fun aV => (if aV = true then ((spec_l10At.f k aq ((rd_T42 aN aG).f0)).bind fun aw => (if aw = aG then (if ((rd_T42 aN aG).f2) > 1 then (some false) else (if ((rd_T42 aN aG).f2) = 1 then (if av = 3 then (spec_RowOk.l0 k aN b3 (wrap64 (aG + 1)) av ax aq) else (some false)) else (spec_RowOk.l0 k aN b3 (wrap64 (aG + 1)) av ax aq))) else (some false))) else (some false))) else (none)) else (none)) else (some true)
end
def spec_RowOk.f (k : Nat) (al : Int) (an : Int) (ab : List (S42)) : Option (Bool) := if al < 1 then (spec_RowOk.j0 k true al an ab) else (if al > 3 then (spec_RowOk.j0 k true al an ab) else ((spec_l01In.f an 1 60).bind fun aH => (if aH = true then (spec_RowOk.j0 k (decide ((ab.length : Int) > an)) al an ab) else (spec_RowOk.j0 k true al an ab))))
theorem spec_RowOk.mono_l : ∀ k, (∀ y0 y1 y2 y3, LeO (spec_RowOk.j0 k y0 y1 y2 y3) (spec_RowOk.j0 (k + 1) y0 y1 y2 y3)) ∧ (∀ y0 y1 y2 y3 y4 y5, LeO (spec_RowOk.l0 k y0 y1 y2 y3 y4 y5) (spec_RowOk.l0 (k + 1) y0 y1 y2 y3 y4 y5))
 | 0 => ⟨fun _ _ _ _ r h => by simp [spec_RowOk.j0] at h, fun _ _ _ _ _ _ r h => by simp [spec_RowOk.l0] at h⟩
 | k + 1 => by
  obtain ⟨aW, aX⟩ := spec_RowOk.mono_l k; refine ⟨?_, ?_⟩
  ·intro y0 y1 y2 y3; unfold spec_RowOk.j0
   repeat' first | (with_reducible first | apply aW | apply aX | apply spec_ItemOk.mono | apply spec_l10At.mono | apply lr | apply ln | apply li | refine lb ?_ fun _ => ?_) | apply aW | apply aX | apply ln | apply li | refine lb ?_ fun _ => ?_
  intro y0 y1 y2 y3 y4 y5; unfold spec_RowOk.l0
  repeat' first | (with_reducible first | apply aW | apply aX | apply spec_ItemOk.mono | apply spec_l10At.mono | apply lr | apply ln | apply li | refine lb ?_ fun _ => ?_) | apply aW | apply aX | apply ln | apply li | refine lb ?_ fun _ => ?_
theorem spec_RowOk.mono : ∀ a0 a1 a2 k, LeO (spec_RowOk.f k a0 a1 a2) (spec_RowOk.f (k + 1) a0 a1 a2) := by
 intro a0 a1 a2 k; obtain ⟨aW, aX⟩ := spec_RowOk.mono_l k; unfold spec_RowOk.f
 repeat' first | (with_reducible first | apply aW | apply aX | apply spec_ItemOk.mono | apply spec_l10At.mono | apply lr | apply ln | apply li | refine lb ?_ fun _ => ?_) | apply aW | apply aX | apply ln | apply li | refine lb ?_ fun _ => ?_
set_option maxHeartbeats 8000000 in
set_option maxRecDepth 100000 in
theorem spec_RowOk.calls (k : Nat) (al : Int) (an : Int) (aI : Option Addr) (aJ : Nat) (ab : List (S42)) (r : Bool) (w : World) (aQ : Kd.C k42 w aI ab.length ab) (aR : ab.length ≤ aJ) (h : spec_RowOk.f k al an ab = some r) :
  Calls Try.prog 15 #[.agg #[.int .i64 al, .int .i64 an, .slice aI ab.length aJ]] w fun e w' => e = .returned (.bool r) ∧ Below w.heap.size w w' := by
 have hu28 := Try.underlying28; have hu42 := Try.underlying42; have ar := Aside0.mk aQ; have az := Aside0.mk aR; clear aQ aR; have HB := Aside0.mk (Below.refl w.heap.size w); have H : (if al < 1 then (spec_RowOk.j0 k true al an ab) else (if al > 3 then (spec_RowOk.j0 k true al an ab) else ((spec_l01In.f an 1 60).bind fun aH => (if aH = true then (spec_RowOk.j0 k (decide ((ab.length : Int) > an)) al an ab) else (spec_RowOk.j0 k true al an ab))))) = some r := h; clear h; have b4 := Aside0.mk H; clear H
 go_enter Try.func15, Try.ntmps15
 go_upto_region 1 with (first | ((with_reducible refine gate_dst (N := 1) rfl ?_); (try (refine gate_guard (by rfl) ?_; dsimp only)); refine bx 1 #[.int .i64 al, .int .i64 an, .slice aI ab.length aJ] 28 ?_; intro aU hg w3 hbox hb; have ac := am hbox; have b5 := gs0 hg HB; have ad := gs0 hg HB; replace HB := s0 HB hb; clear hb hbox hg))
 (try simp only [Act.put, List.setIfInBounds_toArray, List.set_cons_zero, List.set_cons_succ])
 go_cut [26] (fun cs wc => ∃ (kq : Nat) (aD : Bool), cs = .bool aD ∧ Aside0 (spec_RowOk.j0 kq aD al an ab = some r) ∧ Aside0 (kq ≤ k) ∧ Aside0 (wc.heap[aU]? = some (.cells #[.int .i64 al, .int .i64 an, (.slice aI ab.length aJ)] 28 (0, 0))) ∧ Aside0 (Below w.heap.size w wc))
 case first =>
  have H := b4.out; clear b4
  by_cases c4 : al < 1
  ·rw [if_pos c4] at H; have aC : decide (al < 1) = true := decide_eq_true c4; clear c4; (first | rw [aC] | (simp only [i64_w, i32_w]; rw [aC]) | skip); have H' := Aside0.mk H; clear H; have aK := bz3 ac
   go_wp2
   go_meet
   case rel => exact ⟨_, (true), rs, H', ⟨by first | omega | exact Nat.le_refl _⟩, ⟨bk ac⟩, ⟨be1 HB ad⟩⟩
  rw [if_neg c4] at H; have aC : decide (al < 1) = false := decide_eq_false c4; clear c4; (first | rw [aC] | (simp only [i64_w, i32_w]; rw [aC]) | skip)
  by_cases c6 : al > 3
  ·rw [if_pos c6] at H; have aY : decide (3 < al) = true := decide_eq_true c6; clear c6; have H' := Aside0.mk H; clear H; have aL := bz3 ac
   go_wp2
   go_meet
   case rel => exact ⟨_, (true), rs, H', ⟨by first | omega | exact Nat.le_refl _⟩, ⟨bk ac⟩, ⟨be1 HB ad⟩⟩
  rw [if_neg c6] at H; have aY : decide (3 < al) = false := decide_eq_false c6; clear c6; obtain ⟨aH, A8, H⟩ := ob H
  try dsimp only at H
  by_cases c9 : aH = true
  ·subst c9; rw [if_pos rfl] at H; have H' := Aside0.mk H; clear H; have aE := bz3 ac
   go_wp2_with (first | (go_at_call 31; (with_reducible refine (spec_l01In.calls an 1 60 true _ A8.out).mono ?_); rintro e w' ⟨rfl, ⟨nd, rfl⟩⟩))
   go_meet
   case rel => exact ⟨_, (decide ((ab.length : Int) > an)), rs, H', ⟨by first | omega | exact Nat.le_refl _⟩, ⟨bk ac⟩, ⟨be1 HB ad⟩⟩
  replace c9 := Bool.eq_false_iff.mpr c9; subst c9; rw [if_neg nf] at H; have H' := Aside0.mk H; clear H; have aF := bz3 ac
  go_wp2_with (first | (go_at_call 31; (with_reducible refine (spec_l01In.calls an 1 60 false _ A8.out).mono ?_); rintro e w' ⟨rfl, ⟨nd, rfl⟩⟩))
  go_meet
  case rel => exact ⟨_, (true), rs, H', ⟨by first | omega | exact Nat.le_refl _⟩, ⟨bk ac⟩, ⟨be1 HB ad⟩⟩
 case rest =>
  clear b4
  try clear c1; try clear p2; try clear c4; try clear aC; try clear c6; try clear aY; try clear c9; try clear aE; try clear aF; try clear aK; try clear aL
  obtain ⟨kq, aD, rfl, HA, bo, ac, HB⟩ := hcut
  cases kq with
  | zero => exact absurd HA.out (by simp [spec_RowOk.j0])
  | succ b7 =>
   have H := HA.out; clear HA; simp only [spec_RowOk.j0] at H
   by_cases a8 : aD = true
   ·subst a8; rw [if_pos rfl] at H; obtain rfl := Option.some.inj H
    go_wp2
    go_ret
    exact ⟨er, be1 HB ad⟩
   replace a8 := Bool.eq_false_iff.mpr a8; subst a8; rw [if_neg nf] at H; have H' := Aside0.mk H; clear H; have aO := bz3 ac
   go_wp2
   go_loopg [30] b7 (fun kq ct w' => ∃ (aa : Int), ct = .int .i64 aa ∧ Aside0 (spec_RowOk.l0 kq ab (ab.length : Int) aa al an ab = some r) ∧ Aside0 (kq ≤ b7) ∧ Aside0 (w'.heap[aU]? = some (.cells #[.int .i64 al, .int .i64 an, (.slice aI ab.length aJ)] 28 (0, 0))) ∧ Aside0 (Below w.heap.size w w'))
   case atStart => exact ⟨(0), rs, H', ⟨Nat.le_refl _⟩, ⟨bk ac⟩, ⟨be1 HB ad⟩⟩
   case round =>
    clear H'
    try clear c1; try clear p2; try clear c4; try clear aC; try clear c6; try clear aY; try clear c9; try clear a8; try clear aE; try clear aF; try clear aO; try clear aK; try clear aL; try clear p2
    obtain ⟨aa, rfl, HA, bq, ac, HB⟩ := hrel
    cases gk with
    | zero => exact absurd HA.out (by simp [spec_RowOk.l0])
    | succ k2 =>
     have H := HA.out; clear HA; simp only [spec_RowOk.l0] at H
     by_cases a5 : aa < (ab.length : Int)
     ·rw [if_pos a5] at H; have a9 : decide (aa < (ab.length : Int)) = true := decide_eq_true a5; clear a5
      by_cases br : 0 ≤ aa
      ·rw [if_pos br] at H; have b8 : decide (0 ≤ aa) = true := decide_eq_true br; clear br
       by_cases bs : aa < (ab.length : Int)
       ·rw [if_pos bs] at H; have b9 : decide (aa < (ab.length : Int)) = true := decide_eq_true bs; clear bs; obtain ⟨aV, a6, H⟩ := ob H
        try dsimp only at H
        by_cases bu : aV = true
        ·subst bu; rw [if_pos rfl] at H; obtain ⟨aw, bd, H⟩ := ob H
         try dsimp only at H
         by_cases aZ : aw = aa
         ·rw [if_pos aZ] at H; have bf : (aw == aa) = true := beq_iff_eq.mpr aZ; have bg : (aw != aa) = false := bne_eq_false_iff_eq.mpr aZ; clear aZ
          by_cases a7 : ((rd_T42 ab aa).f2) > 1
          ·rw [if_pos a7] at H; have bh : decide (1 < ((rd_T42 ab aa).f2)) = true := decide_eq_true a7; clear a7; obtain rfl := Option.some.inj H; have ao : 0 ≤ (aa : Int) := od; have ap : aa < (ab.length : Int) := od; obtain ⟨aA, ay, ag, ah, ai⟩ := at_T42 ar.out aa ao ap; cases ay; replace ag := hc HB ag; replace ah := hc HB ah; replace ai := hc HB ai; replace ao := eq_true ao; replace ap := eq_true ap
           go_wp2_with (first | ((with_reducible refine gate_dst (N := 4) rfl ?_); (try (refine gate_guard (by rfl) ?_; dsimp only)); refine bx 4 #[.string (⟨#[]⟩ : ByteArray), .string (⟨#[]⟩ : ByteArray), .int .i64 0] 42 ?_; intro au hg cu hbox hb; have ae := am hbox; have aB := gs1 hg HB ad; have ak := gs1 hg HB ad; replace HB := s1 HB ad hb; have af := nl hg ac; have aj := ng hg ac; replace ac := bb ac hb; clear hb hbox hg; have ca := aj.out; have cc := af.out; have bw := bz3 ae) | ((with_reducible refine gate_callee (f := 16) rfl ?_); refine gl 36 Try.func16 #[.agg #[.string ((rd_T42 ab aa).f0), .string ((rd_T42 ab aa).f1), .int .i64 ((rd_T42 ab aa).f2)]] ?_; (with_reducible refine (spec_ItemOk.calls k2 ((rd_T42 ab aa).f0) ((rd_T42 ab aa).f1) ((rd_T42 ab aa).f2) true _ a6.out).mono ?_); rintro e cw ⟨rfl, hb⟩; refine ⟨_, rfl, ?_⟩; replace ac := bbf ac af hb; replace ae := Aside0.mk (blk_below (g := au) (o := .cells #[.string ((rd_T42 ab aa).f0), .string ((rd_T42 ab aa).f1), .int .i64 ((rd_T42 ab aa).f2)] 42 (0, 0)) (bp ae) hb); replace HB := s2 HB ad ak hb; (try clear hb); have bz := bz3 ac; have bA := bz3 ae) | (go_at_call 18; (with_reducible refine (spec_l10At.calls k2 _ _ ab ((rd_T42 ab aa).f0) aw _ (cb ar HB) az.out bd.out).mono ?_); rintro e cx ⟨rfl, hb⟩; replace ac := bb ac hb; replace ae := bb ae hb; replace HB := s2 HB ad ak hb; (try clear hb); have bC := bz3 ae))
           go_ret
           exact ⟨er, be2 HB ad ak⟩
          rw [if_neg a7] at H; have bh : decide (1 < ((rd_T42 ab aa).f2)) = false := decide_eq_false a7; clear a7
          by_cases a3 : ((rd_T42 ab aa).f2) = 1
          ·rw [if_pos a3] at H; have bi : (((rd_T42 ab aa).f2) == 1) = true := beq_iff_eq.mpr a3; have bj : (((rd_T42 ab aa).f2) != 1) = false := bne_eq_false_iff_eq.mpr a3; clear a3
           by_cases a4 : al = 3
           ·rw [if_pos a4] at H; have bm : (al == 3) = true := beq_iff_eq.mpr a4; have bn : (al != 3) = false := bne_eq_false_iff_eq.mpr a4; clear a4; have H' := Aside0.mk H; clear H; have ao : 0 ≤ (aa : Int) := od; have ap : aa < (ab.length : Int) := od; obtain ⟨aA, ay, ag, ah, ai⟩ := at_T42 ar.out aa ao ap; cases ay; replace ag := hc HB ag; replace ah := hc HB ah; replace ai := hc HB ai; replace ao := eq_true ao; replace ap := eq_true ap
            go_wp2_with (first | ((with_reducible refine gate_dst (N := 4) rfl ?_); (try (refine gate_guard (by rfl) ?_; dsimp only)); refine bx 4 #[.string (⟨#[]⟩ : ByteArray), .string (⟨#[]⟩ : ByteArray), .int .i64 0] 42 ?_; intro au hg cy hbox hb; have ae := am hbox; have aB := gs1 hg HB ad; have ak := gs1 hg HB ad; replace HB := s1 HB ad hb; have af := nl hg ac; have aj := ng hg ac; replace ac := bb ac hb; clear hb hbox hg; have cd := aj.out; have ce := af.out; have bD := bz3 ae) | ((with_reducible refine gate_callee (f := 16) rfl ?_); refine gl 36 Try.func16 #[.agg #[.string ((rd_T42 ab aa).f0), .string ((rd_T42 ab aa).f1), .int .i64 ((rd_T42 ab aa).f2)]] ?_; (with_reducible refine (spec_ItemOk.calls k2 ((rd_T42 ab aa).f0) ((rd_T42 ab aa).f1) ((rd_T42 ab aa).f2) true _ a6.out).mono ?_); rintro e cz ⟨rfl, hb⟩; refine ⟨_, rfl, ?_⟩; replace ac := bbf ac af hb; replace ae := Aside0.mk (blk_below (g := au) (o := .cells #[.string ((rd_T42 ab aa).f0), .string ((rd_T42 ab aa).f1), .int .i64 ((rd_T42 ab aa).f2)] 42 (0, 0)) (bp ae) hb); replace HB := s2 HB ad ak hb; (try clear hb); have bF := bz3 ac; have bG := bz3 ae) | (go_at_call 18; (with_reducible refine (spec_l10At.calls k2 _ _ ab ((rd_T42 ab aa).f0) aw _ (cb ar HB) az.out bd.out).mono ?_); rintro e cA ⟨rfl, hb⟩; replace ac := bb ac hb; replace ae := bb ae hb; replace HB := s2 HB ad ak hb; (try clear hb); have bH := bz3 ae; have bI := bz3 ac))
            go_roundg k2
            case measure => have := bo.out; have := bq.out; omega
            case rel => exact ⟨(wrap64 (aa + 1)), rs, H', ⟨by have := bo.out; have := bq.out; omega⟩, ⟨bk ac⟩, ⟨be2 HB ad ak⟩⟩
           rw [if_neg a4] at H; have bm : (al == 3) = false := beq_eq_false_iff_ne.mpr a4; have bn : (al != 3) = true := bne_iff_ne.mpr a4; obtain rfl := Option.some.inj H; have ao : 0 ≤ (aa : Int) := od; have ap : aa < (ab.length : Int) := od; obtain ⟨aA, ay, ag, ah, ai⟩ := at_T42 ar.out aa ao ap; cases ay; replace ag := hc HB ag; replace ah := hc HB ah; replace ai := hc HB ai; replace ao := eq_true ao; replace ap := eq_true ap
           go_wp2_with (first | ((with_reducible refine gate_dst (N := 4) rfl ?_); (try (refine gate_guard (by rfl) ?_; dsimp only)); refine bx 4 #[.string (⟨#[]⟩ : ByteArray), .string (⟨#[]⟩ : ByteArray), .int .i64 0] 42 ?_; intro au hg cC hbox hb; have ae := am hbox; have aB := gs1 hg HB ad; have ak := gs1 hg HB ad; replace HB := s1 HB ad hb; have af := nl hg ac; have aj := ng hg ac; replace ac := bb ac hb; clear hb hbox hg; have cf := aj.out; have cg := af.out; have bJ := bz3 ae) | ((with_reducible refine gate_callee (f := 16) rfl ?_); refine gl 36 Try.func16 #[.agg #[.string ((rd_T42 ab aa).f0), .string ((rd_T42 ab aa).f1), .int .i64 ((rd_T42 ab aa).f2)]] ?_; (with_reducible refine (spec_ItemOk.calls k2 ((rd_T42 ab aa).f0) ((rd_T42 ab aa).f1) ((rd_T42 ab aa).f2) true _ a6.out).mono ?_); rintro e cD ⟨rfl, hb⟩; refine ⟨_, rfl, ?_⟩; replace ac := bbf ac af hb; replace ae := Aside0.mk (blk_below (g := au) (o := .cells #[.string ((rd_T42 ab aa).f0), .string ((rd_T42 ab aa).f1), .int .i64 ((rd_T42 ab aa).f2)] 42 (0, 0)) (bp ae) hb); replace HB := s2 HB ad ak hb; (try clear hb); have bM := bz3 ac; have bN := bz3 ae) | (go_at_call 18; (with_reducible refine (spec_l10At.calls k2 _ _ ab ((rd_T42 ab aa).f0) aw _ (cb ar HB) az.out bd.out).mono ?_); rintro e cE ⟨rfl, hb⟩; replace ac := bb ac hb; replace ae := bb ae hb; replace HB := s2 HB ad ak hb; (try clear hb); have bO := bz3 ae; have bQ := bz3 ac))
           go_ret
           exact ⟨er, be2 HB ad ak⟩
          rw [if_neg a3] at H; have bi : (((rd_T42 ab aa).f2) == 1) = false := beq_eq_false_iff_ne.mpr a3; have bj : (((rd_T42 ab aa).f2) != 1) = true := bne_iff_ne.mpr a3; have H' := Aside0.mk H; clear H; have ao : 0 ≤ (aa : Int) := od; have ap : aa < (ab.length : Int) := od; obtain ⟨aA, ay, ag, ah, ai⟩ := at_T42 ar.out aa ao ap; cases ay; replace ag := hc HB ag; replace ah := hc HB ah; replace ai := hc HB ai; replace ao := eq_true ao; replace ap := eq_true ap
          go_wp2_with (first | ((with_reducible refine gate_dst (N := 4) rfl ?_); (try (refine gate_guard (by rfl) ?_; dsimp only)); refine bx 4 #[.string (⟨#[]⟩ : ByteArray), .string (⟨#[]⟩ : ByteArray), .int .i64 0] 42 ?_; intro au hg cF hbox hb; have ae := am hbox; have aB := gs1 hg HB ad; have ak := gs1 hg HB ad; replace HB := s1 HB ad hb; have af := nl hg ac; have aj := ng hg ac; replace ac := bb ac hb; clear hb hbox hg; have ci := aj.out; have ck := af.out; have bR := bz3 ae) | ((with_reducible refine gate_callee (f := 16) rfl ?_); refine gl 36 Try.func16 #[.agg #[.string ((rd_T42 ab aa).f0), .string ((rd_T42 ab aa).f1), .int .i64 ((rd_T42 ab aa).f2)]] ?_; (with_reducible refine (spec_ItemOk.calls k2 ((rd_T42 ab aa).f0) ((rd_T42 ab aa).f1) ((rd_T42 ab aa).f2) true _ a6.out).mono ?_); rintro e cG ⟨rfl, hb⟩; refine ⟨_, rfl, ?_⟩; replace ac := bbf ac af hb; replace ae := Aside0.mk (blk_below (g := au) (o := .cells #[.string ((rd_T42 ab aa).f0), .string ((rd_T42 ab aa).f1), .int .i64 ((rd_T42 ab aa).f2)] 42 (0, 0)) (bp ae) hb); replace HB := s2 HB ad ak hb; (try clear hb); have bS := bz3 ac; have bU := bz3 ae) | (go_at_call 18; (with_reducible refine (spec_l10At.calls k2 _ _ ab ((rd_T42 ab aa).f0) aw _ (cb ar HB) az.out bd.out).mono ?_); rintro e cI ⟨rfl, hb⟩; replace ac := bb ac hb; replace ae := bb ae hb; replace HB := s2 HB ad ak hb; (try clear hb); have bW := bz3 ae))
          go_roundg k2
          case measure => have := bo.out; have := bq.out; omega
          case rel => exact ⟨(wrap64 (aa + 1)), rs, H', ⟨by have := bo.out; have := bq.out; omega⟩, ⟨bk ac⟩, ⟨be2 HB ad ak⟩⟩
         rw [if_neg aZ] at H; have bf : (aw == aa) = false := beq_eq_false_iff_ne.mpr aZ; have bg : (aw != aa) = true := bne_iff_ne.mpr aZ; obtain rfl := Option.some.inj H; have ao : 0 ≤ (aa : Int) := od; have ap : aa < (ab.length : Int) := od; obtain ⟨aA, ay, ag, ah, ai⟩ := at_T42 ar.out aa ao ap; cases ay; replace ag := hc HB ag; replace ah := hc HB ah; replace ai := hc HB ai; replace ao := eq_true ao; replace ap := eq_true ap
         go_wp2_with (first | ((with_reducible refine gate_dst (N := 4) rfl ?_); (try (refine gate_guard (by rfl) ?_; dsimp only)); refine bx 4 #[.string (⟨#[]⟩ : ByteArray), .string (⟨#[]⟩ : ByteArray), .int .i64 0] 42 ?_; intro au hg cK hbox hb; have ae := am hbox; have aB := gs1 hg HB ad; have ak := gs1 hg HB ad; replace HB := s1 HB ad hb; have af := nl hg ac; have aj := ng hg ac; replace ac := bb ac hb; clear hb hbox hg; have cl := aj.out; have cm := af.out; have bZ := bz3 ae) | ((with_reducible refine gate_callee (f := 16) rfl ?_); refine gl 36 Try.func16 #[.agg #[.string ((rd_T42 ab aa).f0), .string ((rd_T42 ab aa).f1), .int .i64 ((rd_T42 ab aa).f2)]] ?_; (with_reducible refine (spec_ItemOk.calls k2 ((rd_T42 ab aa).f0) ((rd_T42 ab aa).f1) ((rd_T42 ab aa).f2) true _ a6.out).mono ?_); rintro e cL ⟨rfl, hb⟩; refine ⟨_, rfl, ?_⟩; replace ac := bbf ac af hb; replace ae := Aside0.mk (blk_below (g := au) (o := .cells #[.string ((rd_T42 ab aa).f0), .string ((rd_T42 ab aa).f1), .int .i64 ((rd_T42 ab aa).f2)] 42 (0, 0)) (bp ae) hb); replace HB := s2 HB ad ak hb; (try clear hb); have b0 := bz3 ac; have b1 := bz3 ae) | (go_at_call 18; (with_reducible refine (spec_l10At.calls k2 _ _ ab ((rd_T42 ab aa).f0) aw _ (cb ar HB) az.out bd.out).mono ?_); rintro e w64 ⟨rfl, hb⟩; replace ac := bb ac hb; replace ae := bb ae hb; replace HB := s2 HB ad ak hb; (try clear hb)))
         go_ret
         exact ⟨er, be2 HB ad ak⟩
        replace bu := Bool.eq_false_iff.mpr bu; subst bu; rw [if_neg nf] at H; obtain rfl := Option.some.inj H; have ao : 0 ≤ (aa : Int) := od; have ap : aa < (ab.length : Int) := od; obtain ⟨aA, ay, ag, ah, ai⟩ := at_T42 ar.out aa ao ap; cases ay; replace ag := hc HB ag; replace ah := hc HB ah; replace ai := hc HB ai; replace ao := eq_true ao; replace ap := eq_true ap
        go_wp2_with (first | ((with_reducible refine gate_dst (N := 4) rfl ?_); (try (refine gate_guard (by rfl) ?_; dsimp only)); refine bx 4 #[.string (⟨#[]⟩ : ByteArray), .string (⟨#[]⟩ : ByteArray), .int .i64 0] 42 ?_; intro au hg cM hbox hb; have ae := am hbox; have aB := gs1 hg HB ad; have ak := gs1 hg HB ad; replace HB := s1 HB ad hb; have af := nl hg ac; have aj := ng hg ac; replace ac := bb ac hb; clear hb hbox hg; have cn := aj.out; have co := af.out; have b2 := bz3 ae) | ((with_reducible refine gate_callee (f := 16) rfl ?_); refine gl 36 Try.func16 #[.agg #[.string ((rd_T42 ab aa).f0), .string ((rd_T42 ab aa).f1), .int .i64 ((rd_T42 ab aa).f2)]] ?_; (with_reducible refine (spec_ItemOk.calls k2 ((rd_T42 ab aa).f0) ((rd_T42 ab aa).f1) ((rd_T42 ab aa).f2) false _ a6.out).mono ?_); rintro e cN ⟨rfl, hb⟩; refine ⟨_, rfl, ?_⟩; replace ac := bbf ac af hb; replace ae := Aside0.mk (blk_below (g := au) (o := .cells #[.string ((rd_T42 ab aa).f0), .string ((rd_T42 ab aa).f1), .int .i64 ((rd_T42 ab aa).f2)] 42 (0, 0)) (bp ae) hb); replace HB := s2 HB ad ak hb; (try clear hb)))
        go_ret
        exact ⟨er, be2 HB ad ak⟩
       rw [if_neg bs] at H; exact absurd H (by simp)
      rw [if_neg br] at H; exact absurd H (by simp)
     rw [if_neg a5] at H; have a9 : decide (aa < (ab.length : Int)) = false := decide_eq_false a5; clear a5; obtain rfl := Option.some.inj H
     go_wp2
     go_ret
     exact ⟨er, be1 HB ad⟩

/-! ### spec_l11Copy: function 17 -/
def spec_l11Copy.f (af : Int) (ag : Int) (ab : List (S42)) : Option (Int × Int × (List (S42))) := (some (([] : List (S42)) : List (S42))).bind fun ae => (if ae.length + ab.length < 3518437208883 then (some (af, ag, (ae ++ ab))) else (none))
set_option maxHeartbeats 8000000 in
set_option maxRecDepth 100000 in
theorem spec_l11Copy.calls (af : Int) (ag : Int) (aw : Option Addr) (ax : Nat) (ab : List (S42)) (r1 : Int) (r2 : Int) (r3 : List (S42)) (w : World) (aq : Kd.C k42 w aw ab.length ab) (ar : ab.length ≤ ax) (h : spec_l11Copy.f af ag ab = some (r1, r2, r3)) :
  Calls Try.prog 17 #[.agg #[.int .i64 af, .int .i64 ag, .slice aw ab.length ax]] w fun e w' => ∃ aU : Value, e = .returned (.agg #[.int .i64 r1, .int .i64 r2, aU]) ∧ Kd.R k42 42 w' w.heap.size (fun _ => True) aU r3 ∧ Below w.heap.size w w' := by
 have hu28 := Try.underlying28; have aC := Aside0.mk aq; have aV := Aside0.mk ar; clear aq ar; have HB := Aside0.mk (Below.refl w.heap.size w); have H : ((some (([] : List (S42)) : List (S42))).bind fun ae => (if ae.length + ab.length < 3518437208883 then (some (af, ag, (ae ++ ab))) else (none))) = some (r1, r2, r3) := h; clear h; obtain ⟨ae, ai, H⟩ := oy H; have au := Aside0.mk ai; clear ai
 by_cases c2 : ae.length + ab.length < 3518437208883
 ·rw [if_pos c2] at H; have aJ := Aside0.mk c2; clear c2; obtain ⟨ap, aj⟩ : ∃ y_ : List (S42), y_ = (ae ++ ab) := ⟨_, rfl⟩; rw [← aj] at H; have aD := Aside0.mk aj; clear aj; simp only [Option.some.injEq, Prod.mk.injEq] at H; obtain ⟨rfl, rfl, rfl⟩ := H
  go_enter Try.func17, Try.ntmps17
  go_wp2_with (first | ((with_reducible refine gate_dst (N := 1) rfl ?_); refine bx 1 #[.int .i64 af, .int .i64 ag, .slice aw ab.length ax] 28 ?_; intro aE hg w3 hbox hb; have aa := am hbox; have aW := gs0 hg HB; have ac := gs0 hg HB; replace HB := s0 HB hb; clear hb hbox hg) | ((with_reducible refine gate_dst (N := 2) rfl ?_); refine bx 2 #[.int .i64 0, .int .i64 0, .slice none 0 0] 28 ?_; intro al hg w4 hbox hb; have ad := am hbox; have aX := gs1 hg HB ac; have ak := gs1 hg HB ac; replace HB := s1 HB ac hb; have ao := nl hg aa; have ah := ng hg aa; replace aa := bb aa hb; clear hb hbox hg) | ((with_reducible refine gate_dst (N := 3) rfl ?_); refine Kd.R_lit k42 _ 42 ?hg (N := 3) ?hd (xs := ([] : List (S42))) (inner := []) (ok := fun _ => True) (okp := fun _ => True) ?hr ?hp (fun _ hk => hk) trivial (Below.refl _ _) (Nat.le_refl _) (by simp) ?_; (case hd => rfl); (case hg => rfl); (case hr => first | (go_simp; done) | (go_simp; rfl)); (case hp => exact (Reps.none _ _)); intro aK w5 aG hb hg_ hnew_; clear hg_ hnew_; (first | rw [← au.out] at aG | (simp only [Int.reduceToNat] at aG; rw [← au.out] at aG)); have an := rl2 aG HB ac ak; replace aa := bb aa hb; replace ad := bb ad hb; replace HB := s2 HB ac ak hb; clear hb aG; have aY := ao.out; have aZ := ah.out; have aN := bz3 aa) | ((with_reducible refine gate_builtin (b := .append) (xs := #[.tmp 3, .tmp 5]) rfl ?_); at_builtin; refine Kd.R_append_rows k42 (w0 := w) w.heap.size rfl (.tmp 3) (.tmp 5) 26 42 (.agg #[(.string ⟨#[]⟩), (.string ⟨#[]⟩), (.int .i64 0)]) 40 rfl Try.underlying26 info42 rfl (by decide) (by omega) aK ae ab _ _ _ (fun _ => True) (fun _ => False) rfl rfl ?aO ?aR (fun _ _ h => h) (fun _ h => h.elim) ?aF ?aB ?aS ?aL ?_; (case aR => exact cb aC HB); (case aB => exact (be2 HB ac ak)); (case aF => exact (fun _ _ => trivial)); (case aO => exact (ro an)); (case aS => exact (below_size (be2 HB ac ak))); (case aL => have := aJ.out; omega); intro a0 w9 ho hb hg hat; rw [← aD.out] at ho; replace aa := bgr aa hg (Kd.R_ne an.out aa.out (by decide)); replace ad := bgr ad hg (Kd.R_ne an.out ad.out (by decide)); replace HB := Aside0.mk (hb); have av := Aside0.mk (ho); clear an; clear ho hb hg hat; obtain ⟨az, aA, aQ⟩ := Kd.R_slice av.out; subst aQ; have aH := bz3 aa; have aI := bz3 ad))
  refine bodyPost_ret (results_cell_row rfl _ _ al 28 #[.int .i64 af, .int .i64 ag, .slice az ap.length aA] (0, 0) _ rfl (bp1 ad ah) Try.underlying28 rfl (by kernel_rfl)) rfl ?_; exact ⟨_, er, (rf2n av ad aa), be2 HB ac ak⟩
 rw [if_neg c2] at H; exact absurd H (by simp)

/-! ### spec_l10Without: function 33 -/
def spec_l10Without.l0 : Nat → ByteArray → List (S42) → List (S42) → Int → Int → Option ((List (S42)))
 | 0, _, _, _, _, _ => none
 | k + 1, x1, x5, x9, aK, ao => if ao < aK then (if 0 ≤ ao then (if ao < (x9.length : Int) then (if ((rd_T42 x9 ao).f0).toList = x1.toList then (spec_l10Without.l0 k x1 x5 x9 aK (wrap64 (ao + 1))) else (if x5.length < 3518437208883 then (spec_l10Without.l0 k x1 (x5 ++ [(⟨(rd_T42 x9 ao).f0, (rd_T42 x9 ao).f1, (rd_T42 x9 ao).f2⟩ : S42)]) x9 aK (wrap64 (ao + 1))) else (none))) else (none)) else (none)) else (some x5)
def spec_l10Without.f (k : Nat) (l0 : List (S42)) (a1 : ByteArray) : Option ((List (S42))) := spec_l10Without.l0 k a1 (([] : List (S42))) l0 (l0.length : Int) 0
theorem spec_l10Without.mono_l : ∀ k, (∀ y0 y1 y2 y3 y4, LeO (spec_l10Without.l0 k y0 y1 y2 y3 y4) (spec_l10Without.l0 (k + 1) y0 y1 y2 y3 y4))
 | 0 => fun _ _ _ _ _ r h => by simp [spec_l10Without.l0] at h
 | k + 1 => by
  have au := spec_l10Without.mono_l k
  ·intro y0 y1 y2 y3 y4; unfold spec_l10Without.l0
   repeat' first | (with_reducible first | apply au | apply lr | apply ln | apply li | refine lb ?_ fun _ => ?_) | apply au | apply ln | apply li | refine lb ?_ fun _ => ?_
theorem spec_l10Without.mono : ∀ a0 a1 k, LeO (spec_l10Without.f k a0 a1) (spec_l10Without.f (k + 1) a0 a1) := by
 intro a0 a1 k; have au := spec_l10Without.mono_l k; unfold spec_l10Without.f
 repeat' first | (with_reducible first | apply au | apply lr | apply ln | apply li | refine lb ?_ fun _ => ?_) | apply au | apply ln | apply li | refine lb ?_ fun _ => ?_
set_option maxHeartbeats 8000000 in
set_option maxRecDepth 100000 in
theorem spec_l10Without.calls (k : Nat) (A0 : Option Addr) (c0 : Nat) (l0 : List (S42)) (a1 : ByteArray) (r : List (S42)) (w : World) (aU : Kd.C k42 w A0 l0.length l0) (aV : l0.length ≤ c0) (h : spec_l10Without.f k l0 a1 = some r) :
  Calls Try.prog 33 #[.slice A0 l0.length c0, .string a1] w fun e w' => ∃ aW : Value, e = .returned (aW) ∧ Kd.R k42 42 w' w.heap.size (fun _ => True) aW r ∧ Below w.heap.size w w' := by
 have hu42 := Try.underlying42; have aX := Aside0.mk aU; have a5 := Aside0.mk aV; clear aU aV; have HB := Aside0.mk (Below.refl w.heap.size w); have H : (spec_l10Without.l0 k a1 (([] : List (S42))) l0 (l0.length : Int) 0) = some r := h; clear h; obtain ⟨av, ah⟩ : ∃ y_ : List (S42), y_ = (([] : List (S42))) := ⟨_, rfl⟩; rw [← ah] at H; have ap := Aside0.mk ah; clear ah; have H' := Aside0.mk H; clear H
 go_enter Try.func33, Try.ntmps33
 go_wp2_with (first | ((with_reducible refine gate_dst (N := 8) rfl ?_); refine Kd.R_lit k42 _ 42 ?hg (N := 8) ?hd (xs := ([] : List (S42))) (inner := []) (ok := fun _ => True) (okp := fun _ => True) ?hr ?hp (fun _ hk => hk) trivial (Below.refl _ _) (Nat.le_refl _) (by simp) ?_; (case hd => rfl); (case hg => rfl); (case hr => first | (go_simp; done) | (go_simp; rfl)); (case hp => exact (Reps.none _ _)); intro aY w3 aw hb hg_ hnew_; clear hg_ hnew_; (first | rw [← ap.out] at aw | (simp only [Int.reduceToNat] at aw; rw [← ap.out] at aw)); have ax := rl0 aw HB; replace HB := s0 HB hb; clear hb aw))
 go_loopg [5, 11] k (fun kq v5 aZ w' => ∃ (ak : List (S42)) (aa : Int), aZ = .int .i64 aa ∧ Aside0 (spec_l10Without.l0 kq a1 ak l0 (l0.length : Int) aa = some r) ∧ Aside0 (kq ≤ k) ∧ Aside0 (Kd.R k42 42 w' w.heap.size (fun _ => True) v5 ak) ∧ Aside0 (Below w.heap.size w w'))
 case atStart => exact ⟨(av), (0), rs, H', ⟨Nat.le_refl _⟩, ⟨ro ax⟩, ⟨be HB⟩⟩
 case round =>
  clear H'
  try clear p2; try clear c3
  obtain ⟨ak, aa, rfl, HA, aG, ag, HB⟩ := hrel
  cases gk with
  | zero => exact absurd HA.out (by simp [spec_l10Without.l0])
  | succ k1 =>
   have H := HA.out; clear HA; simp only [spec_l10Without.l0] at H
   by_cases c5 : aa < (l0.length : Int)
   ·rw [if_pos c5] at H; have aN : decide (aa < (l0.length : Int)) = true := decide_eq_true c5; clear c5
    by_cases c6 : 0 ≤ aa
    ·rw [if_pos c6] at H; have a2 : decide (0 ≤ aa) = true := decide_eq_true c6; clear c6
     by_cases c7 : aa < (l0.length : Int)
     ·rw [if_pos c7] at H; have a3 : decide (aa < (l0.length : Int)) = true := decide_eq_true c7; clear c7
      by_cases c8 : ((rd_T42 l0 aa).f0).toList = a1.toList
      ·rw [if_pos c8] at H; have aQ : (((rd_T42 l0 aa).f0).toList == a1.toList) = true := beq_iff_eq.mpr c8; have aR : (((rd_T42 l0 aa).f0).toList != a1.toList) = false := bne_eq_false_iff_eq.mpr c8; clear c8; have H' := Aside0.mk H; clear H; have al : 0 ≤ (aa : Int) := od; have an : aa < (l0.length : Int) := od; obtain ⟨ay, ar, ac, ad, ae⟩ := at_T42 aX.out aa al an; cases ar; replace ac := hc HB ac; replace ad := hc HB ad; replace ae := hc HB ae; replace al := eq_true al; replace an := eq_true an
       go_wp2_with (first | ((with_reducible refine gate_dst (N := 7) rfl ?_); refine bx 7 #[.string (⟨#[]⟩ : ByteArray), .string (⟨#[]⟩ : ByteArray), .int .i64 0] 42 ?_; intro ab hg w9 hbox hb; replace ag := Aside0.mk (Kd.R_below (Kd.R_elderB (ro ag) ab (Nat.le_of_eq hg.symm)) hb); have af := am hbox; have az := gs0 hg HB; have ai := gs0 hg HB; replace HB := s0 HB hb; clear hb hbox hg; have aH := bz3 af))
       go_roundg k1
       case measure => have := aG.out; omega
       case rel => exact ⟨(ak), (wrap64 (aa + 1)), rs, H', ⟨by have := aG.out; omega⟩, ⟨(rg ab ag)⟩, ⟨be1 HB ai⟩⟩
      rw [if_neg c8] at H; have aQ : (((rd_T42 l0 aa).f0).toList == a1.toList) = false := beq_eq_false_iff_ne.mpr c8; have aR : (((rd_T42 l0 aa).f0).toList != a1.toList) = true := bne_iff_ne.mpr c8
      by_cases aI : ak.length < 3518437208883
      ·rw [if_pos aI] at H; have aA := Aside0.mk aI; clear aI; obtain ⟨aC, aj⟩ : ∃ y_ : List (S42), y_ = (ak ++ [(⟨(rd_T42 l0 aa).f0, (rd_T42 l0 aa).f1, (rd_T42 l0 aa).f2⟩ : S42)]) := ⟨_, rfl⟩; rw [← aj] at H; have aD := Aside0.mk aj; clear aj; have H' := Aside0.mk H; clear H; have al : 0 ≤ (aa : Int) := od; have an : aa < (l0.length : Int) := od; obtain ⟨ay, ar, ac, ad, ae⟩ := at_T42 aX.out aa al an; cases ar; replace ac := hc HB ac; replace ad := hc HB ad; replace ae := hc HB ae; replace al := eq_true al; replace an := eq_true an
       go_wp2_with (first | ((with_reducible refine gate_dst (N := 7) rfl ?_); refine bx 7 #[.string (⟨#[]⟩ : ByteArray), .string (⟨#[]⟩ : ByteArray), .int .i64 0] 42 ?_; intro ab hg a6 hbox hb; replace ag := Aside0.mk (Kd.R_below (Kd.R_elderB (ro ag) ab (Nat.le_of_eq hg.symm)) hb); have af := am hbox; have az := gs0 hg HB; have ai := gs0 hg HB; replace HB := s0 HB hb; clear hb hbox hg; have aJ := bz3 af) | ((with_reducible refine gate_builtin (b := .append) (xs := #[.tmp 19, .tmp 21]) rfl ?_); at_builtin; refine Kd.R_append k42 (w0 := w) w.heap.size rfl (.tmp 19) (.tmp 21) 26 42 (.agg #[(.string ⟨#[]⟩), (.string ⟨#[]⟩), (.int .i64 0)]) 40 rfl Try.underlying26 info42 rfl (by decide) (by omega) u5 ak (⟨(rd_T42 l0 aa).f0, (rd_T42 l0 aa).f1, (rd_T42 l0 aa).f2⟩ : S42) [.string ((rd_T42 l0 aa).f0), .string ((rd_T42 l0 aa).f1), .int .i64 ((rd_T42 l0 aa).f2)] (fun k_ => k_ ≠ ab) (fun _ => False) rfl (by first | (go_simp; done) | (go_simp; rfl)) ?aP (fun _ hk => hk.elim) ?aF ?aO ?aB ?aS ?aL ?_; (case aP => exact k42_mkM _ _ _ (⟨(rd_T42 l0 aa).f0, (rd_T42 l0 aa).f1, (rd_T42 l0 aa).f2⟩ : S42)); (case aB => exact (be1 HB ai)); (case aF => exact (fun k_ hk => Kd.freshB (g := ab) (o := .cells #[.string ((rd_T42 l0 aa).f0), .string ((rd_T42 l0 aa).f1), .int .i64 ((rd_T42 l0 aa).f2)] 42 (0, 0)) (bp af) k_ hk)); (case aO => exact (by (with_reducible repeat (first | apply Kd.R_alloc | apply Kd.R_drewN | apply Kd.R_drew)); exact Kd.R_mono (Kd.R_far (p := ⟨ab, 2, none⟩) (Kd.R_far (p := ⟨ab, 1, none⟩) (Kd.R_far (p := ⟨ab, 0, none⟩) (Kd.R_mono ag.out (fun k_ hk => (⟨hk, hk.2⟩ : _ ∧ k_ ≠ ab))) (fun _ hk => hk.2) (.string ((rd_T42 l0 aa).f0))) (fun _ hk => hk.2) (.string ((rd_T42 l0 aa).f1))) (fun _ hk => hk.2) (.int .i64 ((rd_T42 l0 aa).f2))) (fun _ hk => hk.1.2))); (case aS => exact (below_size (be1 HB ai))); (case aL => have := aA.out; omega); intro a4 a7 ho hb hg hat; rw [← aD.out] at ho; replace af := Aside0.mk (blk_grown (g := ab) (o := .cells #[.string ((rd_T42 l0 aa).f0), .string ((rd_T42 l0 aa).f1), .int .i64 ((rd_T42 l0 aa).f2)] 42 (0, 0)) (bp af) hg (Kd.R_away ag.out (fun _ hk => hk.2))); replace HB := Aside0.mk (hb); have aE := Aside0.mk (ho); clear ag; clear ho hb hg hat))
       go_roundg k1
       case measure => have := aG.out; omega
       case rel => exact ⟨(aC), (wrap64 (aa + 1)), rs, H', ⟨by have := aG.out; omega⟩, ⟨(rom aE)⟩, ⟨be1 HB ai⟩⟩
      rw [if_neg aI] at H; exact absurd H (by simp)
     rw [if_neg c7] at H; exact absurd H (by simp)
    rw [if_neg c6] at H; exact absurd H (by simp)
   rw [if_neg c5] at H; have aN : decide (aa < (l0.length : Int)) = false := decide_eq_false c5; clear c5; obtain rfl := Option.some.inj H
   go_wp2
   go_ret
   exact ⟨_, er, (ro ag), be HB⟩

end Go.Proofs.Ytmmphfonbeddeaa.QFnExactRowPut
