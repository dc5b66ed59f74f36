-- made by a program of this session (myprint.py)
import Derived.Test.YtgkliacflbenfaaQFnAgesx0
import Derived.Test.YtgkliacflbenfaaQFnAgesx13
namespace Go.Proofs.Ytgkliacflbenfaa.QFnAges
open Go.RowKit Go.Proofs.YtgkliacflbenfaaW.PrintWords Go.Proofs.YtgkliacflbenfaaW.PrintLast Go.Proofs.YtgkliacflbenfaaW.PrintMore
attribute [local go_sem] max2_int min2_int max_two min_two max_three min_three max_four min_four   -- for this text's walks alone
set_option linter.unusedVariables false
set_option linter.unusedSimpArgs false

/-! ### impl_AgesOk: function 30 -/
mutual
def impl_AgesOk.j0 : Nat → Bool → Int → List Int → List (S63) → Option (Bool)
 | 0, _, _, _, _ => none
 | k + 1, dv, av, az, ar => if dv = true then (some false) else (impl_AgesOk.l0 k az (az.length : Int) 0 av az ar)
def impl_AgesOk.l0 : Nat → List Int → Int → Int → Int → List Int → List (S63) → Option (Bool)
 | 0, _, _, _, _, _, _ => none
 | k + 1, bA, ct, bj, av, az, ar => if bj < ct then (if 0 ≤ bj then (if bj < (bA.length : Int) then (if (rd bA bj) < (-1) then (some false) else (if (rd bA bj) = (-1) then (impl_AgesOk.l0 k bA ct (wrap64 (bj + 1)) av az ar) else (if (rd bA bj) = av then (impl_AgesOk.l0 k bA ct (wrap64 (bj + 1)) av az ar) else (if (rd bA bj) = (wrap64 (av - 1)) then (impl_AgesOk.l0 k bA ct (wrap64 (bj + 1)) av az ar) else (some false))))) else (none)) else (none)) else (impl_AgesOk.l1 k ar (ar.length : Int) 0 av az ar)
def impl_AgesOk.l1 : Nat → List (S63) → Int → Int → Int → List Int → List (S63) → Option (Bool)
 | 0, _, _, _, _, _, _ => none
 | k + 1, bZ, cQ, a5, av, az, ar => if a5 < cQ then (if 0 ≤ a5 then (if a5 < (bZ.length : Int) then ((impl_within.f ((rd_T63 bZ a5).f1) 0 av).bind fun b0 => (if b0 = true then (if a5 > 0 then (if 0 ≤ (wrap64 (a5 - 1)) then (if (wrap64 (a5 - 1)) < (ar.length : Int) then (if ((rd_T63 ar (wrap64 (a5 - 1))).f1) > ((rd_T63 bZ a5).f1) then (some false) else ((impl_Ages_inLimbo.f k av az ar ((rd_T63 bZ a5).f0)).bind fun aQ => (if aQ = a5 then (impl_AgesOk.l1 k bZ cQ (wrap64 (a5 + 1)) av az ar) else (some false)))) else (none)) else (none)) else ((impl_Ages_inLimbo.f k av az ar ((rd_T63 bZ a5).f0)).bind fun aX => (if aX = a5 then (impl_AgesOk.l1 k bZ cQ (wrap64 (a5 + 1)) av az ar) else (some false)))) else (some false))) else (none)) else (none)) else (some true)
end
def impl_AgesOk.f (k : Nat) (ai : Int) (ag : List Int) (ac : List (S63)) : Option (Bool) := (impl_isNum.f ai).bind fun bg => (if bg = true then ((impl_within.f (ag.length : Int) 1 8).bind fun bh => (if bh = true then (impl_AgesOk.j0 k (decide ((ac.length : Int) > 100)) ai ag ac) else (impl_AgesOk.j0 k true ai ag ac))) else (impl_AgesOk.j0 k true ai ag ac))
theorem impl_AgesOk.mono_l : ∀ k, (∀ y0 y1 y2 y3, LeO (impl_AgesOk.j0 k y0 y1 y2 y3) (impl_AgesOk.j0 (k + 1) y0 y1 y2 y3)) ∧ (∀ y0 y1 y2 y3 y4 y5, LeO (impl_AgesOk.l0 k y0 y1 y2 y3 y4 y5) (impl_AgesOk.l0 (k + 1) y0 y1 y2 y3 y4 y5)) ∧ (∀ y0 y1 y2 y3 y4 y5, LeO (impl_AgesOk.l1 k y0 y1 y2 y3 y4 y5) (impl_AgesOk.l1 (k + 1) y0 y1 y2 y3 y4 y5))
 | 0 => ⟨fun _ _ _ _ r h => by simp [impl_AgesOk.j0] at h, fun _ _ _ _ _ _ r h => by simp [impl_AgesOk.l0] at h, fun _ _ _ _ _ _ r h => by simp [impl_AgesOk.l1] at h⟩
 | k + 1 => by
  obtain ⟨bo, bq, br⟩ := impl_AgesOk.mono_l k; refine ⟨?_, ?_, ?_⟩
  ·intro y0 y1 y2 y3; unfold impl_AgesOk.j0
   repeat' first | (with_reducible first | apply bo | apply bq | apply br | apply impl_Ages_inLimbo.mono | apply lr | apply ln | apply li | refine lb ?_ fun _ => ?_) | apply bo | apply bq | apply br | apply ln | apply li | refine lb ?_ fun _ => ?_
  ·intro y0 y1 y2 y3 y4 y5; unfold impl_AgesOk.l0
   repeat' first | (with_reducible first | apply bo | apply bq | apply br | apply impl_Ages_inLimbo.mono | apply lr | apply ln | apply li | refine lb ?_ fun _ => ?_) | apply bo | apply bq | apply br | apply ln | apply li | refine lb ?_ fun _ => ?_
  intro y0 y1 y2 y3 y4 y5; unfold impl_AgesOk.l1
  repeat' first | (with_reducible first | apply bo | apply bq | apply br | apply impl_Ages_inLimbo.mono | apply lr | apply ln | apply li | refine lb ?_ fun _ => ?_) | apply bo | apply bq | apply br | apply ln | apply li | refine lb ?_ fun _ => ?_
theorem impl_AgesOk.mono : ∀ a0 a1 a2 k, LeO (impl_AgesOk.f k a0 a1 a2) (impl_AgesOk.f (k + 1) a0 a1 a2) := by
 intro a0 a1 a2 k; obtain ⟨bo, bq, br⟩ := impl_AgesOk.mono_l k; unfold impl_AgesOk.f
 repeat' first | (with_reducible first | apply bo | apply bq | apply br | apply impl_Ages_inLimbo.mono | apply lr | apply ln | apply li | refine lb ?_ fun _ => ?_) | apply bo | apply bq | apply br | apply ln | apply li | refine lb ?_ fun _ => ?_
def impl_AgesOk.T12 : Bool × List (List Nat × List Nat) := (true, [([], []), ([0], [0]), ([], []), ([2], [2]), ([1, 3], [1, 3]), ([4], [4]), ([5, 4], [5]), ([6], [6]), ([7, 6], [6, 7]), ([8, 6, 6], [6, 8]), ([9], [9]), ([10, 9], [9, 10]), ([9], [9]), ([12, 9], [9, 12]), ([11, 13, 9], [9, 11, 13]), ([14, 9], [9, 14]), ([15, 9], [9, 15]), ([9], [9]), ([17, 9], [9, 17]), ([16, 18, 9], [9, 16, 18]), ([9, 19, 6], [6, 9, 19]), ([6, 20], [6, 20]), ([21, 9], [21]), ([22], [22]), ([22], [22]), ([24, 22], [22, 24]), ([23, 25, 22, 22], [22, 23, 25]), ([22], [22]), ([26, 27, 22], [22, 26, 27]), ([22, 28], [22, 28])])
def impl_AgesOk.B12 : List Nat := [0, 1, 0, 4, 15, 31, 63, 127, 255, 511, 1023, 2047, 1023, 5119, 16383, 32767, 65535, 1023, 132095, 524287, 1048575, 2097151, 4194303, 8388607, 8388607, 25165823, 67108863, 8388607, 268435455, 536870911]
theorem impl_AgesOk.tab12 : rtab .any (opsOf Try.f30 12) = impl_AgesOk.T12 := by kernel_rfl
theorem impl_AgesOk.bits12 : waitsOk impl_AgesOk.T12.2 impl_AgesOk.B12 = true := by kernel_rfl
set_option maxHeartbeats 8000000 in
set_option maxRecDepth 100000 in
theorem impl_AgesOk.calls (k : Nat) (ai : Int) (aH : Option Addr) (aI : Nat) (ag : List Int) (bf : Option Addr) (aJ : Nat) (ac : List (S63)) (r : Bool) (w : World) (bC : Kd.C (Kd.int .i64) w aH ag.length ag) (bD : ag.length ≤ aI) (bF : Kd.C k63 w bf ac.length ac) (bG : ac.length ≤ aJ) (h : impl_AgesOk.f k ai ag ac = some r) :
  Calls Try.prog 30 #[.agg #[.int .i64 ai, .slice aH ag.length aI, .slice bf ac.length aJ]] w fun e w' => e = .returned (.bool r) ∧ Below w.heap.size w w' := by
 have hu26 := Try.underlying26; have hu63 := Try.underlying63; have aO := Aside0.mk bC; have a8 := Aside0.mk bD; clear bC bD; have aK := Aside0.mk bF; have a9 := Aside0.mk bG; clear bF bG; have HB := Aside0.mk (Below.refl w.heap.size w); have H : ((impl_isNum.f ai).bind fun bg => (if bg = true then ((impl_within.f (ag.length : Int) 1 8).bind fun bh => (if bh = true then (impl_AgesOk.j0 k (decide ((ac.length : Int) > 100)) ai ag ac) else (impl_AgesOk.j0 k true ai ag ac))) else (impl_AgesOk.j0 k true ai ag ac))) = some r := h; clear h; have cS := Aside0.mk H; clear H
 go_enter Try.func30, Try.ntmps30
 go_upto_region 1 with (first | ((with_reducible refine gate_dst (N := 1) rfl ?_); (try (refine gate_guard (by rfl) ?_; dsimp only)); refine bx 1 #[.int .i64 ai, .slice aH ag.length aI, .slice bf ac.length aJ] 26 ?_; intro ap hg w3 hbox hb; have aa := am hbox; have cW := gs0 hg HB; have af := gs0 hg HB; replace HB := s0 HB hb; clear hb hbox hg))
 (try simp only [Act.put, List.setIfInBounds_toArray, List.set_cons_zero, List.set_cons_succ])
 go_cut [23] (fun dw wc => ∃ (kq : Nat) (ba : Bool), dw = .bool ba ∧ Aside0 (impl_AgesOk.j0 kq ba ai ag ac = some r) ∧ Aside0 (kq ≤ k) ∧ Aside0 (wc.heap[ap]? = some (.cells #[.int .i64 ai, (.slice aH ag.length aI), (.slice bf ac.length aJ)] 26 (0, 0))) ∧ Aside0 (Below w.heap.size w wc))
 case first =>
  have H := cS.out; clear cS; obtain ⟨bg, A4, H⟩ := ob H
  try dsimp only at H
  by_cases c5 : bg = true
  ·subst c5; rw [if_pos rfl] at H; obtain ⟨bh, A6, H⟩ := ob H
   try dsimp only at H
   by_cases c7 : bh = true
   ·subst c7; rw [if_pos rfl] at H; have H' := Aside0.mk H; clear H; have a6 := bz3 aa
    go_wp2_with (first | ((with_reducible refine gate_callee (f := 61) rfl ?_); refine gl 9 Try.func61 #[.int .i64 ai] ?_; (with_reducible refine (impl_isNum.calls ai true _ A4.out).mono ?_); rintro e w' ⟨rfl, ⟨nd, rfl⟩⟩; refine ⟨_, rfl, ?_⟩) | (go_at_call 62; (with_reducible refine (impl_within.calls (ag.length : Int) 1 8 true _ A6.out).mono ?_); rintro e w' ⟨rfl, ⟨nd, rfl⟩⟩))
    go_meet
    case rel => exact ⟨_, (decide ((ac.length : Int) > 100)), rs, H', ⟨by first | omega | exact Nat.le_refl _⟩, ⟨bk aa⟩, ⟨be1 HB af⟩⟩
   replace c7 := Bool.eq_false_iff.mpr c7; subst c7; rw [if_neg nf] at H; have H' := Aside0.mk H; clear H; have a7 := bz3 aa
   go_wp2_with (first | ((with_reducible refine gate_callee (f := 61) rfl ?_); refine gl 9 Try.func61 #[.int .i64 ai] ?_; (with_reducible refine (impl_isNum.calls ai true _ A4.out).mono ?_); rintro e w' ⟨rfl, ⟨nd, rfl⟩⟩; refine ⟨_, rfl, ?_⟩) | (go_at_call 62; (with_reducible refine (impl_within.calls (ag.length : Int) 1 8 false _ A6.out).mono ?_); rintro e w' ⟨rfl, ⟨nd, rfl⟩⟩))
   go_meet
   case rel => exact ⟨_, (true), rs, H', ⟨by first | omega | exact Nat.le_refl _⟩, ⟨bk aa⟩, ⟨be1 HB af⟩⟩
  replace c5 := Bool.eq_false_iff.mpr c5; subst c5; rw [if_neg nf] at H; have H' := Aside0.mk H; clear H; have aY := bz3 aa
  go_wp2_with (first | ((with_reducible refine gate_callee (f := 61) rfl ?_); refine gl 9 Try.func61 #[.int .i64 ai] ?_; (with_reducible refine (impl_isNum.calls ai false _ A4.out).mono ?_); rintro e w' ⟨rfl, ⟨nd, rfl⟩⟩; refine ⟨_, rfl, ?_⟩))
  go_meet
  case rel => exact ⟨_, (true), rs, H', ⟨by first | omega | exact Nat.le_refl _⟩, ⟨bk aa⟩, ⟨be1 HB af⟩⟩
 case rest =>
  clear cS
  try clear p2; try clear c3; try clear c5; try clear c6; try clear c7; try clear aY; try clear a6; try clear a7
  obtain ⟨kq, ba, rfl, HA, bm, aa, HB⟩ := hcut
  cases kq with
  | zero => exact absurd HA.out (by simp [impl_AgesOk.j0])
  | succ cZ =>
   have H := HA.out; clear HA; simp only [impl_AgesOk.j0] at H
   by_cases b6 : ba = true
   ·subst b6; rw [if_pos rfl] at H; obtain rfl := Option.some.inj H
    go_wp2
    go_ret
    exact ⟨er, be1 HB af⟩
   replace b6 := Bool.eq_false_iff.mpr b6; subst b6; rw [if_neg nf] at H; have H' := Aside0.mk H; clear H; have bc := bz3 aa
   go_wp2
   go_loopg [27] cZ (fun kq dx w' => ∃ (ah : Int), dx = .int .i64 ah ∧ Aside0 (impl_AgesOk.l0 kq ag (ag.length : Int) ah ai ag ac = some r) ∧ Aside0 (kq ≤ cZ) ∧ Aside0 (w'.heap[ap]? = some (.cells #[.int .i64 ai, (.slice aH ag.length aI), (.slice bf ac.length aJ)] 26 (0, 0))) ∧ Aside0 (Below w.heap.size w w'))
   case atStart => exact ⟨(0), rs, H', ⟨Nat.le_refl _⟩, ⟨bk aa⟩, ⟨be1 HB af⟩⟩
   case round =>
    clear H'
    try clear c1; try clear p2; try clear c3; try clear c5; try clear c6; try clear c7; try clear b6; try clear aY; try clear bc; try clear a6; try clear a7; try clear p2
    obtain ⟨ah, rfl, HA, bn, aa, HB⟩ := hrel
    cases gk with
    | zero => exact absurd HA.out (by simp [impl_AgesOk.l0])
    | succ k2 =>
     have H := HA.out; clear HA; simp only [impl_AgesOk.l0] at H
     by_cases b1 : ah < (ag.length : Int)
     ·rw [if_pos b1] at H; have bH : decide (ah < (ag.length : Int)) = true := decide_eq_true b1; clear b1
      by_cases ca : 0 ≤ ah
      ·rw [if_pos ca] at H; have cc : decide (0 ≤ ah) = true := decide_eq_true ca; clear ca
       by_cases cd : ah < (ag.length : Int)
       ·rw [if_pos cd] at H; have ce : decide (ah < (ag.length : Int)) = true := decide_eq_true cd; clear cd
        by_cases b2 : (rd ag ah) < (-1)
        ·rw [if_pos b2] at H; have bI : decide ((rd ag ah) < (-1)) = true := decide_eq_true b2; clear b2; obtain rfl := Option.some.inj H; have aL : 0 ≤ (ah : Int) := od; have aN : ah < (ag.length : Int) := od; obtain ⟨bd, aZ, au⟩ := Kd.at_int aO.out ah aL aN; cases aZ; replace au := hc HB au; replace aL := eq_true aL; replace aN := eq_true aN
         go_wp2
         go_ret
         exact ⟨er, be1 HB af⟩
        rw [if_neg b2] at H; have bI : decide ((rd ag ah) < (-1)) = false := decide_eq_false b2; clear b2
        by_cases bJ : (rd ag ah) = (-1)
        ·rw [if_pos bJ] at H; have bM : ((rd ag ah) == (-1)) = true := beq_iff_eq.mpr bJ; have bN : ((rd ag ah) != (-1)) = false := bne_eq_false_iff_eq.mpr bJ; clear bJ; have H' := Aside0.mk H; clear H; have aL : 0 ≤ (ah : Int) := od; have aN : ah < (ag.length : Int) := od; obtain ⟨bd, aZ, au⟩ := Kd.at_int aO.out ah aL aN; cases aZ; replace au := hc HB au; replace aL := eq_true aL; replace aN := eq_true aN
         go_wp2
         go_roundg k2
         case measure => have := bm.out; have := bn.out; omega
         case rel => exact ⟨(wrap64 (ah + 1)), rs, H', ⟨by have := bm.out; have := bn.out; omega⟩, ⟨bk aa⟩, ⟨be1 HB af⟩⟩
        rw [if_neg bJ] at H; have bM : ((rd ag ah) == (-1)) = false := beq_eq_false_iff_ne.mpr bJ; have bN : ((rd ag ah) != (-1)) = true := bne_iff_ne.mpr bJ
        by_cases bO : (rd ag ah) = ai
        ·rw [if_pos bO] at H; have bQ : ((rd ag ah) == ai) = true := beq_iff_eq.mpr bO; have bR : ((rd ag ah) != ai) = false := bne_eq_false_iff_eq.mpr bO; clear bO; have H' := Aside0.mk H; clear H; have aL : 0 ≤ (ah : Int) := od; have aN : ah < (ag.length : Int) := od; obtain ⟨bd, aZ, au⟩ := Kd.at_int aO.out ah aL aN; cases aZ; replace au := hc HB au; replace aL := eq_true aL; replace aN := eq_true aN; have bs := bz3 aa
         go_wp2
         go_roundg k2
         case measure => have := bm.out; have := bn.out; omega
         case rel => exact ⟨(wrap64 (ah + 1)), rs, H', ⟨by have := bm.out; have := bn.out; omega⟩, ⟨bk aa⟩, ⟨be1 HB af⟩⟩
        rw [if_neg bO] at H; have bQ : ((rd ag ah) == ai) = false := beq_eq_false_iff_ne.mpr bO; have bR : ((rd ag ah) != ai) = true := bne_iff_ne.mpr bO
        by_cases bS : (rd ag ah) = (wrap64 (ai - 1))
        ·rw [if_pos bS] at H; have bU : ((rd ag ah) == (wrap64 (ai - 1))) = true := beq_iff_eq.mpr bS; have bW : ((rd ag ah) != (wrap64 (ai - 1))) = false := bne_eq_false_iff_eq.mpr bS; clear bS; have H' := Aside0.mk H; clear H; have aL : 0 ≤ (ah : Int) := od; have aN : ah < (ag.length : Int) := od; obtain ⟨bd, aZ, au⟩ := Kd.at_int aO.out ah aL aN; cases aZ; replace au := hc HB au; replace aL := eq_true aL; replace aN := eq_true aN; have bu := bz3 aa
         go_wp2
         go_roundg k2
         case measure => have := bm.out; have := bn.out; omega
         case rel => exact ⟨(wrap64 (ah + 1)), rs, H', ⟨by have := bm.out; have := bn.out; omega⟩, ⟨bk aa⟩, ⟨be1 HB af⟩⟩
        rw [if_neg bS] at H; have bU : ((rd ag ah) == (wrap64 (ai - 1))) = false := beq_eq_false_iff_ne.mpr bS; have bW : ((rd ag ah) != (wrap64 (ai - 1))) = true := bne_iff_ne.mpr bS; obtain rfl := Option.some.inj H; have aL : 0 ≤ (ah : Int) := od; have aN : ah < (ag.length : Int) := od; obtain ⟨bd, aZ, au⟩ := Kd.at_int aO.out ah aL aN; cases aZ; replace au := hc HB au; replace aL := eq_true aL; replace aN := eq_true aN; have bw := bz3 aa
        go_wp2
        go_ret
        exact ⟨er, be1 HB af⟩
       rw [if_neg cd] at H; exact absurd H (by simp)
      rw [if_neg ca] at H; exact absurd H (by simp)
     rw [if_neg b1] at H; have bH : decide (ah < (ag.length : Int)) = false := decide_eq_false b1; clear b1; have H' := Aside0.mk H; clear H; have bz := bz3 aa
     go_wp2
     go_loopg [54] k2 (fun kq dy w' => ∃ (ab : Int), dy = .int .i64 ab ∧ Aside0 (impl_AgesOk.l1 kq ac (ac.length : Int) ab ai ag ac = some r) ∧ Aside0 (kq ≤ k2) ∧ Aside0 (w'.heap[ap]? = some (.cells #[.int .i64 ai, (.slice aH ag.length aI), (.slice bf ac.length aJ)] 26 (0, 0))) ∧ Aside0 (Below w.heap.size w w'))
     case atStart => exact ⟨(0), rs, H', ⟨Nat.le_refl _⟩, ⟨bk aa⟩, ⟨be1 HB af⟩⟩
     case round =>
      clear H'
      try clear c1; try clear c2; try clear p2; try clear c3; try clear c5; try clear c6; try clear p6; try clear c7; try clear p7; try clear q7; try clear dG; try clear b6; try clear b1; try clear bH; try clear ca; try clear cc; try clear cd; try clear ce; try clear b2; try clear bI; try clear bJ; try clear bM; try clear bN; try clear bO; try clear bQ; try clear bR; try clear bS; try clear bU; try clear bW; try clear aY; try clear bc; try clear bs; try clear bu; try clear bw; try clear bz; try clear a6; try clear a7; try clear au; try clear p2; try clear aL; try clear aN
      obtain ⟨ab, rfl, HA, cu, aa, HB⟩ := hrel
      cases gk with
      | zero => exact absurd HA.out (by simp [impl_AgesOk.l1])
      | succ k3 =>
       have H := HA.out; clear HA; simp only [impl_AgesOk.l1] at H
       by_cases b7 : ab < (ac.length : Int)
       ·rw [if_pos b7] at H; have cf : decide (ab < (ac.length : Int)) = true := decide_eq_true b7; clear b7
        by_cases cw : 0 ≤ ab
        ·rw [if_pos cw] at H; have c0 : decide (0 ≤ ab) = true := decide_eq_true cw; clear cw
         by_cases cx : ab < (ac.length : Int)
         ·rw [if_pos cx] at H; have da : decide (ab < (ac.length : Int)) = true := decide_eq_true cx; clear cx; obtain ⟨b0, b3, H⟩ := ob H
          try dsimp only at H
          by_cases cy : b0 = true
          ·subst cy; rw [if_pos rfl] at H
           by_cases b8 : ab > 0
           ·rw [if_pos b8] at H; have ci : decide (0 < ab) = true := decide_eq_true b8; clear b8; obtain ⟨ay, aW⟩ : ∃ j_ : Int, (wrap64 (ab - 1)) = j_ := ⟨_, rfl⟩; replace H : (if 0 ≤ (ay) then (if (ay) < (ac.length : Int) then (if ((rd_T63 ac (ay)).f1) > ((rd_T63 ac ab).f1) then (some false) else ((impl_Ages_inLimbo.f k3 ai ag ac ((rd_T63 ac ab).f0)).bind fun aQ => (if aQ = ab then (impl_AgesOk.l1 k3 ac (ac.length : Int) (wrap64 (ab + 1)) ai ag ac) else (some false)))) else (none)) else (none)) = some r := by first | (rw [aW] at H; exact H) | (simp only [aW] at H ⊢; exact H)
            (try rw [aW] at b3); have cT : (IntKind.i64.wrap (ab - 1)) = ay := (i64_w _).trans aW
            by_cases cz : 0 ≤ (ay)
            ·rw [if_pos cz] at H; have db : decide (0 ≤ (ay)) = true := decide_eq_true cz; clear cz
             by_cases cA : (ay) < (ac.length : Int)
             ·rw [if_pos cA] at H; have dc : decide ((ay) < (ac.length : Int)) = true := decide_eq_true cA; clear cA
              by_cases b9 : ((rd_T63 ac (ay)).f1) > ((rd_T63 ac ab).f1)
              ·rw [if_pos b9] at H; have ck : decide (((rd_T63 ac ab).f1) < ((rd_T63 ac (ay)).f1)) = true := decide_eq_true b9; clear b9; obtain rfl := Option.some.inj H; have aF : 0 ≤ (ab : Int) := od; have aG : ab < (ac.length : Int) := od; obtain ⟨ak, aR, al, an⟩ := at_T63 aK.out ab aF aG; cases aR; replace al := hc HB al; replace an := hc HB an; replace aF := eq_true aF; replace aG := eq_true aG
               try go_wp2_with (first | ((with_reducible refine gate_dst (N := 6) rfl ?_); (try (refine gate_guard (by rfl) ?_; dsimp only)); refine bx 6 #[.int .i64 0, .int .i64 0] 63 ?_; intro ae hg cC hbox hb; have ad := am hbox; have a3 := gs1 hg HB af; have ao := gs1 hg HB af; replace HB := s1 HB af hb; have aj := nl hg aa; have aq := ng hg aa; replace aa := bb aa hb; clear hb hbox hg; have dd := aq.out; have de := aj.out; have cD := bz2 ad))
               generalize hV_ : ((cC.setCell ⟨ae, 0, none⟩ (.int .i64 ((rd_T63 ac ab).f0))).setCell ⟨ae, 1, none⟩ (.int .i64 ((rd_T63 ac ab).f1))) = dA; replace aa : Aside0 (dA.heap[ap]? = some (.cells #[.int .i64 ai, .slice aH ag.length aI, .slice (some ak) ac.length aJ] 26 (0, 0))) := vp1 hV_ aa aj; replace ad : Aside0 (dA.heap[ae]? = some (.cells #[.int .i64 ((rd_T63 ac ab).f0), .int .i64 ((rd_T63 ac ab).f1)] 63 (0, 0))) := vp hV_ ad; replace HB := vb2 hV_ HB af ao; clear hV_; replace aa := eB aa; replace ad := eB ad; replace HB := eL HB; have aU : 0 ≤ ((ay) : Int) := od; have aV : (ay) < (ac.length : Int) := od; obtain ⟨a4, bi, aw, ax⟩ := at_T63 aK.out (ay) aU aV; have aA := ax; have aB := aw; obtain rfl : ak = a4 := (by injection bi); replace aw := hc HB aw; replace ax := hc HB ax; replace aU := eq_true aU; replace aV := eq_true aV; refine start_ (n := 30) (S := fun w' => w'.cell? ⟨ae, 0, none⟩ = some (.int .i64 ((rd_T63 ac ab).f0)) ∧ w'.cell? ⟨ae, 1, none⟩ = some (.int .i64 ((rd_T63 ac ab).f1)) ∧ w'.cell? ⟨ap, 0, none⟩ = some (.int .i64 ai) ∧ w'.cell? ⟨ap, 1, none⟩ = some (.slice aH ag.length aI) ∧ w'.cell? ⟨ap, 2, none⟩ = some (.slice (some ak) ac.length aJ) ∧ w'.cell? (ak.add (((ay)).toNat * 2)) = some (.int .i64 ((rd_T63 ac (ay)).f0)) ∧ w'.cell? ⟨(ak.add (((ay)).toNat * 2)).block, (ak.add (((ay)).toNat * 2)).off + 1, none⟩ = some (.int .i64 ((rd_T63 ac (ay)).f1))) (ds := []) (bv 30 0x0) (by kernel_rfl) rfl rfl ⟨bc0 ad, bc1 ad, bc0 aa, bc1 aa, bc2 aa, (hc HB aB), (hc HB aA)⟩ (fun hHeld => ?_); refine with_tabW impl_AgesOk.tab12 impl_AgesOk.bits12 (fun HT_ HW_ => ?_); generalize dA.drew = dI at aa ad HB aw ax hHeld ⊢; refine py HT_ 0 59 (bv 30 0x1) ?_; refine py HT_ 2 61 (bv 30 0x5) ?_; refine tk HT_ HW_ hHeld 1 60 (bv 30 0x7) ?_; refine tk HT_ HW_ hHeld 3 62 (bv 30 0xf) ?_; refine oh HT_ 4 (some 63) (bv 30 0x1f) fun K hK => ?_; refine gz Try.func62 #[.int .i64 ((rd_T63 ac ab).f1), .int .i64 0, .int .i64 ai] ?_
               with_reducible refine (impl_within.calls ((rd_T63 ac ab).f1) 0 ai true _ b3.out).mono ?_
               rintro e w' ⟨rfl, ⟨nd, rfl⟩⟩; refine ⟨_, rfl, ?_⟩; refine hK.out _ _ ⟨bc0 ad, bc1 ad, bc0 aa, bc1 aa, bc2 aa, (hc (by first | exact HB | exact ⟨pw_below_drewN HB.out _⟩) aB), (hc (by first | exact HB | exact ⟨pw_below_drewN HB.out _⟩) aA)⟩ (fun hHeld => ?_); clear hK K; refine nx ?_
               refine py HT_ 5 64 (bv 30 0x3f) ?_; refine py HT_ 6 65 (bv 30 0x7f) ?_; refine py HT_ 7 66 (bv 30 0xff) ?_; refine py HT_ 8 67 (bv 30 0x1ff) ?_; refine py HT_ 9 68 (bv 30 0x3ff) ?_; refine py HT_ 10 69 (bv 30 0x7ff) ?_; refine py HT_ 12 71 (bv 30 0x17ff) ?_; refine py HT_ 13 72 (bv 30 0x37ff) ?_; refine py HT_ 17 76 (bv 30 0x237ff) ?_; refine tk HT_ HW_ hHeld 11 70 (bv 30 0x23fff) ?_; refine py HT_ 14 73 (bv 30 0x27fff) ?_; refine py HT_ 15 74 (bv 30 0x2ffff) ?_; refine tk HT_ HW_ hHeld 16 75 (bv 30 0x3ffff) ?_; refine tk HT_ HW_ hHeld 18 77 (bv 30 0x7ffff) ?_; refine py HT_ 19 78 (bv 30 0xfffff) ?_; refine py HT_ 20 79 (bv 30 0x1fffff) ?_; refine py HT_ 21 80 (bv 30 0x3fffff) ?_; refine py HT_ 22 81 (bv 30 0x7fffff) ?_; refine pu HT_ 23 82 (bv 30 0xffffff) ?_; refine pu HT_ 24 83 (bv 30 0x1ffffff) ?_; refine pu HT_ 25 84 (bv 30 0x3ffffff) ?_; refine pu HT_ 26 85 (bv 30 0x7ffffff) ?_; refine pu HT_ 27 86 (bv 30 0xfffffff) ?_; refine pu HT_ 28 87 (bv 30 0x1fffffff) ?_; refine py HT_ 29 88 (bv 30 0x3fffffff) ?_; refine dh HT_ ?_
               try go_wp2
               go_ret
               exact ⟨by first | rfl | (simp [errW_none, errW_some] <;> rfl) | (simp only [← aW]; first | rfl | (simp [errW_none, errW_some] <;> rfl)) | (simp [*, errW_none, errW_some] <;> rfl), be2 HB af ao⟩
              rw [if_neg b9] at H; have ck : decide (((rd_T63 ac ab).f1) < ((rd_T63 ac (ay)).f1)) = false := decide_eq_false b9; clear b9; obtain ⟨aQ, df, H⟩ := ob H
              try dsimp only at H
              by_cases b4 : aQ = ab
              ·rw [if_pos b4] at H; have cm : (aQ == ab) = true := beq_iff_eq.mpr b4; have cn : (aQ != ab) = false := bne_eq_false_iff_eq.mpr b4; clear b4; have H' := Aside0.mk H; clear H; have aF : 0 ≤ (ab : Int) := od; have aG : ab < (ac.length : Int) := od; obtain ⟨ak, aR, al, an⟩ := at_T63 aK.out ab aF aG; cases aR; replace al := hc HB al; replace an := hc HB an; replace aF := eq_true aF; replace aG := eq_true aG
               try go_wp2_with (first | ((with_reducible refine gate_dst (N := 6) rfl ?_); (try (refine gate_guard (by rfl) ?_; dsimp only)); refine bx 6 #[.int .i64 0, .int .i64 0] 63 ?_; intro ae hg cE hbox hb; have ad := am hbox; have a3 := gs1 hg HB af; have ao := gs1 hg HB af; replace HB := s1 HB af hb; have aj := nl hg aa; have aq := ng hg aa; replace aa := bb aa hb; clear hb hbox hg; have dg := aq.out; have di := aj.out; have cF := bz2 ad))
               generalize hV_ : ((cE.setCell ⟨ae, 0, none⟩ (.int .i64 ((rd_T63 ac ab).f0))).setCell ⟨ae, 1, none⟩ (.int .i64 ((rd_T63 ac ab).f1))) = dC; replace aa : Aside0 (dC.heap[ap]? = some (.cells #[.int .i64 ai, .slice aH ag.length aI, .slice (some ak) ac.length aJ] 26 (0, 0))) := vp1 hV_ aa aj; replace ad : Aside0 (dC.heap[ae]? = some (.cells #[.int .i64 ((rd_T63 ac ab).f0), .int .i64 ((rd_T63 ac ab).f1)] 63 (0, 0))) := vp hV_ ad; replace HB := vb2 hV_ HB af ao; clear hV_; replace aa := eB aa; replace ad := eB ad; replace HB := eL HB; have aU : 0 ≤ ((ay) : Int) := od; have aV : (ay) < (ac.length : Int) := od; obtain ⟨a4, bi, aw, ax⟩ := at_T63 aK.out (ay) aU aV; have aA := ax; have aB := aw; obtain rfl : ak = a4 := (by injection bi); replace aw := hc HB aw; replace ax := hc HB ax; replace aU := eq_true aU; replace aV := eq_true aV; refine start_ (n := 30) (S := fun w' => w'.cell? ⟨ae, 0, none⟩ = some (.int .i64 ((rd_T63 ac ab).f0)) ∧ w'.cell? ⟨ae, 1, none⟩ = some (.int .i64 ((rd_T63 ac ab).f1)) ∧ w'.cell? ⟨ap, 0, none⟩ = some (.int .i64 ai) ∧ w'.cell? ⟨ap, 1, none⟩ = some (.slice aH ag.length aI) ∧ w'.cell? ⟨ap, 2, none⟩ = some (.slice (some ak) ac.length aJ) ∧ w'.cell? (ak.add (((ay)).toNat * 2)) = some (.int .i64 ((rd_T63 ac (ay)).f0)) ∧ w'.cell? ⟨(ak.add (((ay)).toNat * 2)).block, (ak.add (((ay)).toNat * 2)).off + 1, none⟩ = some (.int .i64 ((rd_T63 ac (ay)).f1))) (ds := []) (bv 30 0x0) (by kernel_rfl) rfl rfl ⟨bc0 ad, bc1 ad, bc0 aa, bc1 aa, bc2 aa, (hc HB aB), (hc HB aA)⟩ (fun hHeld => ?_); refine with_tabW impl_AgesOk.tab12 impl_AgesOk.bits12 (fun HT_ HW_ => ?_); generalize dC.drew = dJ at aa ad HB aw ax hHeld ⊢; refine py HT_ 0 59 (bv 30 0x1) ?_; refine py HT_ 2 61 (bv 30 0x5) ?_; refine tk HT_ HW_ hHeld 1 60 (bv 30 0x7) ?_; refine tk HT_ HW_ hHeld 3 62 (bv 30 0xf) ?_; refine oh HT_ 4 (some 63) (bv 30 0x1f) fun K hK => ?_; refine gz Try.func62 #[.int .i64 ((rd_T63 ac ab).f1), .int .i64 0, .int .i64 ai] ?_
               with_reducible refine (impl_within.calls ((rd_T63 ac ab).f1) 0 ai true _ b3.out).mono ?_
               rintro e w' ⟨rfl, ⟨nd, rfl⟩⟩; refine ⟨_, rfl, ?_⟩; refine hK.out _ _ ⟨bc0 ad, bc1 ad, bc0 aa, bc1 aa, bc2 aa, (hc (by first | exact HB | exact ⟨pw_below_drewN HB.out _⟩) aB), (hc (by first | exact HB | exact ⟨pw_below_drewN HB.out _⟩) aA)⟩ (fun hHeld => ?_); clear hK K; refine nx ?_
               refine py HT_ 5 64 (bv 30 0x3f) ?_; refine py HT_ 6 65 (bv 30 0x7f) ?_; refine py HT_ 7 66 (bv 30 0xff) ?_; refine py HT_ 8 67 (bv 30 0x1ff) ?_; refine py HT_ 9 68 (bv 30 0x3ff) ?_; refine py HT_ 10 69 (bv 30 0x7ff) ?_; refine py HT_ 12 71 (bv 30 0x17ff) ?_; refine py HT_ 13 72 (bv 30 0x37ff) ?_; refine py HT_ 17 76 (bv 30 0x237ff) ?_; refine tk HT_ HW_ hHeld 11 70 (bv 30 0x23fff) ?_; refine py HT_ 14 73 (bv 30 0x27fff) ?_; refine py HT_ 15 74 (bv 30 0x2ffff) ?_; refine tk HT_ HW_ hHeld 16 75 (bv 30 0x3ffff) ?_; refine tk HT_ HW_ hHeld 18 77 (bv 30 0x7ffff) ?_; refine py HT_ 19 78 (bv 30 0xfffff) ?_; refine py HT_ 20 79 (bv 30 0x1fffff) ?_; refine py HT_ 21 80 (bv 30 0x3fffff) ?_; refine py HT_ 22 81 (bv 30 0x7fffff) ?_; refine py HT_ 24 83 (bv 30 0x17fffff) ?_; refine py HT_ 27 86 (bv 30 0x97fffff) ?_; refine tk HT_ HW_ hHeld 23 82 (bv 30 0x9ffffff) ?_; refine tk HT_ HW_ hHeld 25 84 (bv 30 0xbffffff) ?_; refine oh HT_ 26 (some 85) (bv 30 0xfffffff) fun K hK => ?_; refine gz Try.func33 #[.agg #[.int .i64 ai, .slice aH ag.length aI, .slice (some ak) ac.length aJ], .int .i64 ((rd_T63 ac ab).f0)] ?_
               with_reducible refine (impl_Ages_inLimbo.calls k3 ai _ _ ag _ _ ac ((rd_T63 ac ab).f0) aQ _ ?side1 ?side2 ?side3 ?side4 df.out).mono ?_
               (case side1 => repeat (first | exact (Kd.C_below aO.out (be2 HB af ao)) | (with_reducible refine Kd.C_alloc ?_ _) | (with_reducible refine Kd.C_drewN ?_ _) | (with_reducible refine Kd.C_drew ?_)))
               (case side2 => exact a8.out)
               (case side3 => repeat (first | exact (Kd.C_below aK.out (be2 HB af ao)) | (with_reducible refine Kd.C_alloc ?_ _) | (with_reducible refine Kd.C_drewN ?_ _) | (with_reducible refine Kd.C_drew ?_)))
               (case side4 => exact a9.out)
               rintro e dL ⟨rfl, hb⟩; refine ⟨_, rfl, ?_⟩; replace aa := bb aa hb; replace ad := bb ad hb; replace HB := s2 HB af ao hb; (try clear hb); (try clear cU); (try clear hk); (try clear hi); refine hK.out _ _ ⟨bc0 ad, bc1 ad, bc0 aa, bc1 aa, bc2 aa, (hc HB aB), (hc HB aA)⟩ (fun hHeld => ?_); clear hK K; refine nx ?_
               refine py HT_ 28 87 (bv 30 0x1fffffff) ?_; refine py HT_ 29 88 (bv 30 0x3fffffff) ?_; refine dh HT_ ?_
               try go_wp2
               go_roundg k3
               case measure => have := bm.out; have := bn.out; have := cu.out; omega
               case rel => exact ⟨(wrap64 (ab + 1)), rs, H', ⟨by have := bm.out; have := bn.out; have := cu.out; omega⟩, ⟨bk aa⟩, ⟨be2 HB af ao⟩⟩
              rw [if_neg b4] at H; have cm : (aQ == ab) = false := beq_eq_false_iff_ne.mpr b4; have cn : (aQ != ab) = true := bne_iff_ne.mpr b4; obtain rfl := Option.some.inj H; have aF : 0 ≤ (ab : Int) := od; have aG : ab < (ac.length : Int) := od; obtain ⟨ak, aR, al, an⟩ := at_T63 aK.out ab aF aG; cases aR; replace al := hc HB al; replace an := hc HB an; replace aF := eq_true aF; replace aG := eq_true aG
              try go_wp2_with (first | ((with_reducible refine gate_dst (N := 6) rfl ?_); (try (refine gate_guard (by rfl) ?_; dsimp only)); refine bx 6 #[.int .i64 0, .int .i64 0] 63 ?_; intro ae hg cG hbox hb; have ad := am hbox; have a3 := gs1 hg HB af; have ao := gs1 hg HB af; replace HB := s1 HB af hb; have aj := nl hg aa; have aq := ng hg aa; replace aa := bb aa hb; clear hb hbox hg; have dj := aq.out; have dl := aj.out; have cI := bz2 ad))
              generalize hV_ : ((cG.setCell ⟨ae, 0, none⟩ (.int .i64 ((rd_T63 ac ab).f0))).setCell ⟨ae, 1, none⟩ (.int .i64 ((rd_T63 ac ab).f1))) = dD; replace aa : Aside0 (dD.heap[ap]? = some (.cells #[.int .i64 ai, .slice aH ag.length aI, .slice (some ak) ac.length aJ] 26 (0, 0))) := vp1 hV_ aa aj; replace ad : Aside0 (dD.heap[ae]? = some (.cells #[.int .i64 ((rd_T63 ac ab).f0), .int .i64 ((rd_T63 ac ab).f1)] 63 (0, 0))) := vp hV_ ad; replace HB := vb2 hV_ HB af ao; clear hV_; replace aa := eB aa; replace ad := eB ad; replace HB := eL HB; have aU : 0 ≤ ((ay) : Int) := od; have aV : (ay) < (ac.length : Int) := od; obtain ⟨a4, bi, aw, ax⟩ := at_T63 aK.out (ay) aU aV; have aA := ax; have aB := aw; obtain rfl : ak = a4 := (by injection bi); replace aw := hc HB aw; replace ax := hc HB ax; replace aU := eq_true aU; replace aV := eq_true aV; refine start_ (n := 30) (S := fun w' => w'.cell? ⟨ae, 0, none⟩ = some (.int .i64 ((rd_T63 ac ab).f0)) ∧ w'.cell? ⟨ae, 1, none⟩ = some (.int .i64 ((rd_T63 ac ab).f1)) ∧ w'.cell? ⟨ap, 0, none⟩ = some (.int .i64 ai) ∧ w'.cell? ⟨ap, 1, none⟩ = some (.slice aH ag.length aI) ∧ w'.cell? ⟨ap, 2, none⟩ = some (.slice (some ak) ac.length aJ) ∧ w'.cell? (ak.add (((ay)).toNat * 2)) = some (.int .i64 ((rd_T63 ac (ay)).f0)) ∧ w'.cell? ⟨(ak.add (((ay)).toNat * 2)).block, (ak.add (((ay)).toNat * 2)).off + 1, none⟩ = some (.int .i64 ((rd_T63 ac (ay)).f1))) (ds := []) (bv 30 0x0) (by kernel_rfl) rfl rfl ⟨bc0 ad, bc1 ad, bc0 aa, bc1 aa, bc2 aa, (hc HB aB), (hc HB aA)⟩ (fun hHeld => ?_); refine with_tabW impl_AgesOk.tab12 impl_AgesOk.bits12 (fun HT_ HW_ => ?_); generalize dD.drew = dM at aa ad HB aw ax hHeld ⊢; refine py HT_ 0 59 (bv 30 0x1) ?_; refine py HT_ 2 61 (bv 30 0x5) ?_; refine tk HT_ HW_ hHeld 1 60 (bv 30 0x7) ?_; refine tk HT_ HW_ hHeld 3 62 (bv 30 0xf) ?_; refine oh HT_ 4 (some 63) (bv 30 0x1f) fun K hK => ?_; refine gz Try.func62 #[.int .i64 ((rd_T63 ac ab).f1), .int .i64 0, .int .i64 ai] ?_
              with_reducible refine (impl_within.calls ((rd_T63 ac ab).f1) 0 ai true _ b3.out).mono ?_
              rintro e w' ⟨rfl, ⟨nd, rfl⟩⟩; refine ⟨_, rfl, ?_⟩; refine hK.out _ _ ⟨bc0 ad, bc1 ad, bc0 aa, bc1 aa, bc2 aa, (hc (by first | exact HB | exact ⟨pw_below_drewN HB.out _⟩) aB), (hc (by first | exact HB | exact ⟨pw_below_drewN HB.out _⟩) aA)⟩ (fun hHeld => ?_); clear hK K; refine nx ?_
              refine py HT_ 5 64 (bv 30 0x3f) ?_; refine py HT_ 6 65 (bv 30 0x7f) ?_; refine py HT_ 7 66 (bv 30 0xff) ?_; refine py HT_ 8 67 (bv 30 0x1ff) ?_; refine py HT_ 9 68 (bv 30 0x3ff) ?_; refine py HT_ 10 69 (bv 30 0x7ff) ?_; refine py HT_ 12 71 (bv 30 0x17ff) ?_; refine py HT_ 13 72 (bv 30 0x37ff) ?_; refine py HT_ 17 76 (bv 30 0x237ff) ?_; refine tk HT_ HW_ hHeld 11 70 (bv 30 0x23fff) ?_; refine py HT_ 14 73 (bv 30 0x27fff) ?_; refine py HT_ 15 74 (bv 30 0x2ffff) ?_; refine tk HT_ HW_ hHeld 16 75 (bv 30 0x3ffff) ?_; refine tk HT_ HW_ hHeld 18 77 (bv 30 0x7ffff) ?_; refine py HT_ 19 78 (bv 30 0xfffff) ?_; refine py HT_ 20 79 (bv 30 0x1fffff) ?_; refine py HT_ 21 80 (bv 30 0x3fffff) ?_; refine py HT_ 22 81 (bv 30 0x7fffff) ?_; refine py HT_ 24 83 (bv 30 0x17fffff) ?_; refine py HT_ 27 86 (bv 30 0x97fffff) ?_; refine tk HT_ HW_ hHeld 23 82 (bv 30 0x9ffffff) ?_; refine tk HT_ HW_ hHeld 25 84 (bv 30 0xbffffff) ?_; refine oh HT_ 26 (some 85) (bv 30 0xfffffff) fun K hK => ?_; refine gz Try.func33 #[.agg #[.int .i64 ai, .slice aH ag.length aI, .slice (some ak) ac.length aJ], .int .i64 ((rd_T63 ac ab).f0)] ?_
              with_reducible refine (impl_Ages_inLimbo.calls k3 ai _ _ ag _ _ ac ((rd_T63 ac ab).f0) aQ _ ?side1 ?side2 ?side3 ?side4 df.out).mono ?_
              (case side1 => repeat (first | exact (Kd.C_below aO.out (be2 HB af ao)) | (with_reducible refine Kd.C_alloc ?_ _) | (with_reducible refine Kd.C_drewN ?_ _) | (with_reducible refine Kd.C_drew ?_)))
              (case side2 => exact a8.out)
              (case side3 => repeat (first | exact (Kd.C_below aK.out (be2 HB af ao)) | (with_reducible refine Kd.C_alloc ?_ _) | (with_reducible refine Kd.C_drewN ?_ _) | (with_reducible refine Kd.C_drew ?_)))
              (case side4 => exact a9.out)
              rintro e dN ⟨rfl, hb⟩; refine ⟨_, rfl, ?_⟩; replace aa := bb aa hb; replace ad := bb ad hb; replace HB := s2 HB af ao hb; (try clear hb); (try clear cU); (try clear hk); (try clear hi); refine hK.out _ _ ⟨bc0 ad, bc1 ad, bc0 aa, bc1 aa, bc2 aa, (hc HB aB), (hc HB aA)⟩ (fun hHeld => ?_); clear hK K; refine nx ?_
              refine py HT_ 28 87 (bv 30 0x1fffffff) ?_; refine py HT_ 29 88 (bv 30 0x3fffffff) ?_; refine dh HT_ ?_
              try go_wp2
              go_ret
              exact ⟨by first | rfl | (simp [errW_none, errW_some] <;> rfl) | (simp only [← aW]; first | rfl | (simp [errW_none, errW_some] <;> rfl)) | (simp [*, errW_none, errW_some] <;> rfl), be2 HB af ao⟩
             rw [if_neg cA] at H; exact absurd H (by simp)
            rw [if_neg cz] at H; exact absurd H (by simp)
           rw [if_neg b8] at H; have ci : decide (0 < ab) = false := decide_eq_false b8; clear b8; obtain ⟨aX, dm, H⟩ := ob H
           try dsimp only at H
           by_cases b5 : aX = ab
           ·rw [if_pos b5] at H; have cp : (aX == ab) = true := beq_iff_eq.mpr b5; have cs : (aX != ab) = false := bne_eq_false_iff_eq.mpr b5; clear b5; have H' := Aside0.mk H; clear H; have aF : 0 ≤ (ab : Int) := od; have aG : ab < (ac.length : Int) := od; obtain ⟨ak, aR, al, an⟩ := at_T63 aK.out ab aF aG; cases aR; replace al := hc HB al; replace an := hc HB an; replace aF := eq_true aF; replace aG := eq_true aG
            try go_wp2_with (first | ((with_reducible refine gate_dst (N := 6) rfl ?_); (try (refine gate_guard (by rfl) ?_; dsimp only)); refine bx 6 #[.int .i64 0, .int .i64 0] 63 ?_; intro ae hg cK hbox hb; have ad := am hbox; have a3 := gs1 hg HB af; have ao := gs1 hg HB af; replace HB := s1 HB af hb; have aj := nl hg aa; have aq := ng hg aa; replace aa := bb aa hb; clear hb hbox hg; have dn := aq.out; have dp := aj.out; have cL := bz2 ad))
            generalize hV_ : ((cK.setCell ⟨ae, 0, none⟩ (.int .i64 ((rd_T63 ac ab).f0))).setCell ⟨ae, 1, none⟩ (.int .i64 ((rd_T63 ac ab).f1))) = dE; replace aa : Aside0 (dE.heap[ap]? = some (.cells #[.int .i64 ai, .slice aH ag.length aI, .slice (some ak) ac.length aJ] 26 (0, 0))) := vp1 hV_ aa aj; replace ad : Aside0 (dE.heap[ae]? = some (.cells #[.int .i64 ((rd_T63 ac ab).f0), .int .i64 ((rd_T63 ac ab).f1)] 63 (0, 0))) := vp hV_ ad; replace HB := vb2 hV_ HB af ao; clear hV_; replace aa := eB aa; replace ad := eB ad; replace HB := eL HB; refine start_ (n := 30) (S := fun w' => w'.cell? ⟨ae, 0, none⟩ = some (.int .i64 ((rd_T63 ac ab).f0)) ∧ w'.cell? ⟨ae, 1, none⟩ = some (.int .i64 ((rd_T63 ac ab).f1)) ∧ w'.cell? ⟨ap, 0, none⟩ = some (.int .i64 ai) ∧ w'.cell? ⟨ap, 1, none⟩ = some (.slice aH ag.length aI) ∧ w'.cell? ⟨ap, 2, none⟩ = some (.slice (some ak) ac.length aJ)) (ds := []) (bv 30 0x0) (by kernel_rfl) rfl rfl (bs2 ad (bq3 aa)) (fun hHeld => ?_); refine with_tabW impl_AgesOk.tab12 impl_AgesOk.bits12 (fun HT_ HW_ => ?_); generalize dE.drew = dP at aa ad HB hHeld ⊢; refine py HT_ 0 59 (bv 30 0x1) ?_; refine py HT_ 2 61 (bv 30 0x5) ?_; refine tk HT_ HW_ hHeld 1 60 (bv 30 0x7) ?_; refine tk HT_ HW_ hHeld 3 62 (bv 30 0xf) ?_; refine oh HT_ 4 (some 63) (bv 30 0x1f) fun K hK => ?_; refine gz Try.func62 #[.int .i64 ((rd_T63 ac ab).f1), .int .i64 0, .int .i64 ai] ?_
            with_reducible refine (impl_within.calls ((rd_T63 ac ab).f1) 0 ai true _ b3.out).mono ?_
            rintro e w' ⟨rfl, ⟨nd, rfl⟩⟩; refine ⟨_, rfl, ?_⟩; refine hK.out _ _ (bs2 ad (bq3 aa)) (fun hHeld => ?_); clear hK K; refine nx ?_
            refine py HT_ 5 64 (bv 30 0x3f) ?_; refine py HT_ 6 65 (bv 30 0x7f) ?_; refine py HT_ 7 66 (bv 30 0xff) ?_; refine py HT_ 8 67 (bv 30 0x1ff) ?_; refine py HT_ 9 68 (bv 30 0x3ff) ?_; refine pu HT_ 10 69 (bv 30 0x7ff) ?_; refine pu HT_ 11 70 (bv 30 0xfff) ?_; refine pu HT_ 12 71 (bv 30 0x1fff) ?_; refine pu HT_ 13 72 (bv 30 0x3fff) ?_; refine pu HT_ 14 73 (bv 30 0x7fff) ?_; refine pu HT_ 15 74 (bv 30 0xffff) ?_; refine pu HT_ 16 75 (bv 30 0x1ffff) ?_; refine pu HT_ 17 76 (bv 30 0x3ffff) ?_; refine pu HT_ 18 77 (bv 30 0x7ffff) ?_; refine pu HT_ 19 78 (bv 30 0xfffff) ?_; refine py HT_ 20 79 (bv 30 0x1fffff) ?_; refine py HT_ 21 80 (bv 30 0x3fffff) ?_; refine py HT_ 22 81 (bv 30 0x7fffff) ?_; refine py HT_ 24 83 (bv 30 0x17fffff) ?_; refine py HT_ 27 86 (bv 30 0x97fffff) ?_; refine tk HT_ HW_ hHeld 23 82 (bv 30 0x9ffffff) ?_; refine tk HT_ HW_ hHeld 25 84 (bv 30 0xbffffff) ?_; refine oh HT_ 26 (some 85) (bv 30 0xfffffff) fun K hK => ?_; refine gz Try.func33 #[.agg #[.int .i64 ai, .slice aH ag.length aI, .slice (some ak) ac.length aJ], .int .i64 ((rd_T63 ac ab).f0)] ?_
            with_reducible refine (impl_Ages_inLimbo.calls k3 ai _ _ ag _ _ ac ((rd_T63 ac ab).f0) aX _ ?side1 ?side2 ?side3 ?side4 dm.out).mono ?_
            (case side1 => repeat (first | exact (Kd.C_below aO.out (be2 HB af ao)) | (with_reducible refine Kd.C_alloc ?_ _) | (with_reducible refine Kd.C_drewN ?_ _) | (with_reducible refine Kd.C_drew ?_)))
            (case side2 => exact a8.out)
            (case side3 => repeat (first | exact (Kd.C_below aK.out (be2 HB af ao)) | (with_reducible refine Kd.C_alloc ?_ _) | (with_reducible refine Kd.C_drewN ?_ _) | (with_reducible refine Kd.C_drew ?_)))
            (case side4 => exact a9.out)
            rintro e dS ⟨rfl, hb⟩; refine ⟨_, rfl, ?_⟩; replace aa := bb aa hb; replace ad := bb ad hb; replace HB := s2 HB af ao hb; (try clear hb); (try clear cU); (try clear hk); (try clear hi); refine hK.out _ _ (bs2 ad (bq3 aa)) (fun hHeld => ?_); clear hK K; refine nx ?_
            refine py HT_ 28 87 (bv 30 0x1fffffff) ?_; refine py HT_ 29 88 (bv 30 0x3fffffff) ?_; refine dh HT_ ?_
            try go_wp2
            go_roundg k3
            case measure => have := bm.out; have := bn.out; have := cu.out; omega
            case rel => exact ⟨(wrap64 (ab + 1)), rs, H', ⟨by have := bm.out; have := bn.out; have := cu.out; omega⟩, ⟨bk aa⟩, ⟨be2 HB af ao⟩⟩
           rw [if_neg b5] at H; have cp : (aX == ab) = false := beq_eq_false_iff_ne.mpr b5; have cs : (aX != ab) = true := bne_iff_ne.mpr b5; obtain rfl := Option.some.inj H; have aF : 0 ≤ (ab : Int) := od; have aG : ab < (ac.length : Int) := od; obtain ⟨ak, aR, al, an⟩ := at_T63 aK.out ab aF aG; cases aR; replace al := hc HB al; replace an := hc HB an; replace aF := eq_true aF; replace aG := eq_true aG
           try go_wp2_with (first | ((with_reducible refine gate_dst (N := 6) rfl ?_); (try (refine gate_guard (by rfl) ?_; dsimp only)); refine bx 6 #[.int .i64 0, .int .i64 0] 63 ?_; intro ae hg cM hbox hb; have ad := am hbox; have a3 := gs1 hg HB af; have ao := gs1 hg HB af; replace HB := s1 HB af hb; have aj := nl hg aa; have aq := ng hg aa; replace aa := bb aa hb; clear hb hbox hg; have dq := aq.out; have dr := aj.out; have cN := bz2 ad))
           generalize hV_ : ((cM.setCell ⟨ae, 0, none⟩ (.int .i64 ((rd_T63 ac ab).f0))).setCell ⟨ae, 1, none⟩ (.int .i64 ((rd_T63 ac ab).f1))) = w64; replace aa : Aside0 (w64.heap[ap]? = some (.cells #[.int .i64 ai, .slice aH ag.length aI, .slice (some ak) ac.length aJ] 26 (0, 0))) := vp1 hV_ aa aj; replace ad : Aside0 (w64.heap[ae]? = some (.cells #[.int .i64 ((rd_T63 ac ab).f0), .int .i64 ((rd_T63 ac ab).f1)] 63 (0, 0))) := vp hV_ ad; replace HB := vb2 hV_ HB af ao; clear hV_; replace aa := eB aa; replace ad := eB ad; replace HB := eL HB; refine start_ (n := 30) (S := fun w' => w'.cell? ⟨ae, 0, none⟩ = some (.int .i64 ((rd_T63 ac ab).f0)) ∧ w'.cell? ⟨ae, 1, none⟩ = some (.int .i64 ((rd_T63 ac ab).f1)) ∧ w'.cell? ⟨ap, 0, none⟩ = some (.int .i64 ai) ∧ w'.cell? ⟨ap, 1, none⟩ = some (.slice aH ag.length aI) ∧ w'.cell? ⟨ap, 2, none⟩ = some (.slice (some ak) ac.length aJ)) (ds := []) (bv 30 0x0) (by kernel_rfl) rfl rfl (bs2 ad (bq3 aa)) (fun hHeld => ?_); refine with_tabW impl_AgesOk.tab12 impl_AgesOk.bits12 (fun HT_ HW_ => ?_); generalize w64.drew = dT at aa ad HB hHeld ⊢; refine py HT_ 0 59 (bv 30 0x1) ?_; refine py HT_ 2 61 (bv 30 0x5) ?_; refine tk HT_ HW_ hHeld 1 60 (bv 30 0x7) ?_; refine tk HT_ HW_ hHeld 3 62 (bv 30 0xf) ?_; refine oh HT_ 4 (some 63) (bv 30 0x1f) fun K hK => ?_; refine gz Try.func62 #[.int .i64 ((rd_T63 ac ab).f1), .int .i64 0, .int .i64 ai] ?_
           with_reducible refine (impl_within.calls ((rd_T63 ac ab).f1) 0 ai true _ b3.out).mono ?_
           rintro e w' ⟨rfl, ⟨nd, rfl⟩⟩; refine ⟨_, rfl, ?_⟩; refine hK.out _ _ (bs2 ad (bq3 aa)) (fun hHeld => ?_); clear hK K; refine nx ?_
           refine py HT_ 5 64 (bv 30 0x3f) ?_; refine py HT_ 6 65 (bv 30 0x7f) ?_; refine py HT_ 7 66 (bv 30 0xff) ?_; refine py HT_ 8 67 (bv 30 0x1ff) ?_; refine py HT_ 9 68 (bv 30 0x3ff) ?_; refine pu HT_ 10 69 (bv 30 0x7ff) ?_; refine pu HT_ 11 70 (bv 30 0xfff) ?_; refine pu HT_ 12 71 (bv 30 0x1fff) ?_; refine pu HT_ 13 72 (bv 30 0x3fff) ?_; refine pu HT_ 14 73 (bv 30 0x7fff) ?_; refine pu HT_ 15 74 (bv 30 0xffff) ?_; refine pu HT_ 16 75 (bv 30 0x1ffff) ?_; refine pu HT_ 17 76 (bv 30 0x3ffff) ?_; refine pu HT_ 18 77 (bv 30 0x7ffff) ?_; refine pu HT_ 19 78 (bv 30 0xfffff) ?_; refine py HT_ 20 79 (bv 30 0x1fffff) ?_; refine py HT_ 21 80 (bv 30 0x3fffff) ?_; refine py HT_ 22 81 (bv 30 0x7fffff) ?_; refine py HT_ 24 83 (bv 30 0x17fffff) ?_; refine py HT_ 27 86 (bv 30 0x97fffff) ?_; refine tk HT_ HW_ hHeld 23 82 (bv 30 0x9ffffff) ?_; refine tk HT_ HW_ hHeld 25 84 (bv 30 0xbffffff) ?_; refine oh HT_ 26 (some 85) (bv 30 0xfffffff) fun K hK => ?_; refine gz Try.func33 #[.agg #[.int .i64 ai, .slice aH ag.length aI, .slice (some ak) ac.length aJ], .int .i64 ((rd_T63 ac ab).f0)] ?_
           with_reducible refine (impl_Ages_inLimbo.calls k3 ai _ _ ag _ _ ac ((rd_T63 ac ab).f0) aX _ ?side1 ?side2 ?side3 ?side4 dm.out).mono ?_
           (case side1 => repeat (first | exact (Kd.C_below aO.out (be2 HB af ao)) | (with_reducible refine Kd.C_alloc ?_ _) | (with_reducible refine Kd.C_drewN ?_ _) | (with_reducible refine Kd.C_drew ?_)))
           (case side2 => exact a8.out)
           (case side3 => repeat (first | exact (Kd.C_below aK.out (be2 HB af ao)) | (with_reducible refine Kd.C_alloc ?_ _) | (with_reducible refine Kd.C_drewN ?_ _) | (with_reducible refine Kd.C_drew ?_)))
           (case side4 => exact a9.out)
           rintro e dU ⟨rfl, hb⟩; refine ⟨_, rfl, ?_⟩; replace aa := bb aa hb; replace ad := bb ad hb; replace HB := s2 HB af ao hb; (try clear hb); (try clear cU); (try clear hk); (try clear hi); refine hK.out _ _ (bs2 ad (bq3 aa)) (fun hHeld => ?_); clear hK K; refine nx ?_
           refine py HT_ 28 87 (bv 30 0x1fffffff) ?_; refine py HT_ 29 88 (bv 30 0x3fffffff) ?_; refine dh HT_ ?_
           try go_wp2
           go_ret
           exact ⟨er, be2 HB af ao⟩
          replace cy := Bool.eq_false_iff.mpr cy; subst cy; rw [if_neg nf] at H; obtain rfl := Option.some.inj H; have aF : 0 ≤ (ab : Int) := od; have aG : ab < (ac.length : Int) := od; obtain ⟨ak, aR, al, an⟩ := at_T63 aK.out ab aF aG; cases aR; replace al := hc HB al; replace an := hc HB an; replace aF := eq_true aF; replace aG := eq_true aG
          try go_wp2_with (first | ((with_reducible refine gate_dst (N := 6) rfl ?_); (try (refine gate_guard (by rfl) ?_; dsimp only)); refine bx 6 #[.int .i64 0, .int .i64 0] 63 ?_; intro ae hg cO hbox hb; have ad := am hbox; have a3 := gs1 hg HB af; have ao := gs1 hg HB af; replace HB := s1 HB af hb; have aj := nl hg aa; have aq := ng hg aa; replace aa := bb aa hb; clear hb hbox hg; have dt := aq.out; have du := aj.out; have cP := bz2 ad))
          generalize hV_ : ((cO.setCell ⟨ae, 0, none⟩ (.int .i64 ((rd_T63 ac ab).f0))).setCell ⟨ae, 1, none⟩ (.int .i64 ((rd_T63 ac ab).f1))) = dF; replace aa : Aside0 (dF.heap[ap]? = some (.cells #[.int .i64 ai, .slice aH ag.length aI, .slice (some ak) ac.length aJ] 26 (0, 0))) := vp1 hV_ aa aj; replace ad : Aside0 (dF.heap[ae]? = some (.cells #[.int .i64 ((rd_T63 ac ab).f0), .int .i64 ((rd_T63 ac ab).f1)] 63 (0, 0))) := vp hV_ ad; replace HB := vb2 hV_ HB af ao; clear hV_; replace aa := eB aa; replace ad := eB ad; replace HB := eL HB; refine start_ (n := 30) (S := fun w' => w'.cell? ⟨ae, 0, none⟩ = some (.int .i64 ((rd_T63 ac ab).f0)) ∧ w'.cell? ⟨ae, 1, none⟩ = some (.int .i64 ((rd_T63 ac ab).f1)) ∧ w'.cell? ⟨ap, 0, none⟩ = some (.int .i64 ai) ∧ w'.cell? ⟨ap, 1, none⟩ = some (.slice aH ag.length aI) ∧ w'.cell? ⟨ap, 2, none⟩ = some (.slice (some ak) ac.length aJ)) (ds := []) (bv 30 0x0) (by kernel_rfl) rfl rfl (bs2 ad (bq3 aa)) (fun hHeld => ?_); refine with_tabW impl_AgesOk.tab12 impl_AgesOk.bits12 (fun HT_ HW_ => ?_); generalize dF.drew = dV at aa ad HB hHeld ⊢; refine py HT_ 0 59 (bv 30 0x1) ?_; refine py HT_ 2 61 (bv 30 0x5) ?_; refine tk HT_ HW_ hHeld 1 60 (bv 30 0x7) ?_; refine tk HT_ HW_ hHeld 3 62 (bv 30 0xf) ?_; refine oh HT_ 4 (some 63) (bv 30 0x1f) fun K hK => ?_; refine gz Try.func62 #[.int .i64 ((rd_T63 ac ab).f1), .int .i64 0, .int .i64 ai] ?_
          with_reducible refine (impl_within.calls ((rd_T63 ac ab).f1) 0 ai false _ b3.out).mono ?_
          rintro e w' ⟨rfl, ⟨nd, rfl⟩⟩; refine ⟨_, rfl, ?_⟩; refine hK.out _ _ (bs2 ad (bq3 aa)) (fun hHeld => ?_); clear hK K; refine nx ?_
          refine py HT_ 5 64 (bv 30 0x3f) ?_; refine py HT_ 6 65 (bv 30 0x7f) ?_; refine pu HT_ 7 66 (bv 30 0xff) ?_; refine pu HT_ 8 67 (bv 30 0x1ff) ?_; refine pu HT_ 9 68 (bv 30 0x3ff) ?_; refine pu HT_ 10 69 (bv 30 0x7ff) ?_; refine pu HT_ 11 70 (bv 30 0xfff) ?_; refine pu HT_ 12 71 (bv 30 0x1fff) ?_; refine pu HT_ 13 72 (bv 30 0x3fff) ?_; refine pu HT_ 14 73 (bv 30 0x7fff) ?_; refine pu HT_ 15 74 (bv 30 0xffff) ?_; refine pu HT_ 16 75 (bv 30 0x1ffff) ?_; refine pu HT_ 17 76 (bv 30 0x3ffff) ?_; refine pu HT_ 18 77 (bv 30 0x7ffff) ?_; refine pu HT_ 19 78 (bv 30 0xfffff) ?_; refine pu HT_ 20 79 (bv 30 0x1fffff) ?_; refine py HT_ 21 80 (bv 30 0x3fffff) ?_; refine py HT_ 22 81 (bv 30 0x7fffff) ?_; refine pu HT_ 23 82 (bv 30 0xffffff) ?_; refine pu HT_ 24 83 (bv 30 0x1ffffff) ?_; refine pu HT_ 25 84 (bv 30 0x3ffffff) ?_; refine pu HT_ 26 85 (bv 30 0x7ffffff) ?_; refine pu HT_ 27 86 (bv 30 0xfffffff) ?_; refine pu HT_ 28 87 (bv 30 0x1fffffff) ?_; refine py HT_ 29 88 (bv 30 0x3fffffff) ?_; refine dh HT_ ?_
          try go_wp2
          go_ret
          exact ⟨er, be2 HB af ao⟩
         rw [if_neg cx] at H; exact absurd H (by simp)
        rw [if_neg cw] at H; exact absurd H (by simp)
       rw [if_neg b7] at H; have cf : decide (ab < (ac.length : Int)) = false := decide_eq_false b7; clear b7; obtain rfl := Option.some.inj H
       go_wp2
       go_ret
       exact ⟨er, be1 HB af⟩

end Go.Proofs.Ytgkliacflbenfaa.QFnAges
