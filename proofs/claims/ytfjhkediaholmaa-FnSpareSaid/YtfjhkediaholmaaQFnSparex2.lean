-- made by a program of this session (myprint.py)
import Derived.Test.YtfjhkediaholmaaQFnSparex0
import Derived.Test.YtfjhkediaholmaaQFnSparex1
namespace Go.Proofs.Ytfjhkediaholmaa.QFnSpare
open Go.RowKit Go.Proofs.YtfjhkediaholmaaW.PrintWords Go.Proofs.YtfjhkediaholmaaW.PrintLast Go.Proofs.YtfjhkediaholmaaW.PrintMore
attribute [local go_sem] max2_int min2_int max_two min_two max_three min_three max_four min_four   -- for this text's walks alone
set_option linter.unusedVariables false
set_option linter.unusedSimpArgs false

/-! ### impl_ThreeOk: function 19 -/
mutual
def impl_ThreeOk.j0 : Nat → Bool → Int → Int → List (S68) → List (S68) → List Int → Option (Bool)
 | 0, _, _, _, _, _, _ => none
 | k + 1, cM, au, aG, av, al, ak => if cM = true then (some false) else (impl_ThreeOk.l0 k ak (ak.length : Int) 0 au aG av al ak)
def impl_ThreeOk.l0 : Nat → List Int → Int → Int → Int → Int → List (S68) → List (S68) → List Int → Option (Bool)
 | 0, _, _, _, _, _, _, _, _ => none
 | k + 1, b3, cp, a8, au, aG, av, al, ak => if a8 < cp then (if 0 ≤ a8 then (if a8 < (b3.length : Int) then ((impl_isNum.f (rd b3 a8)).bind fun bw => (if bw = true then (if a8 ≤ (ak.length : Int) then ((slices_Contains_int_int.f k (ak.take (a8 : Int).toNat) (rd b3 a8)).bind fun bz => (if bz = true then (some false) else (impl_ThreeOk.l0 k b3 cp (wrap64 (a8 + 1)) au aG av al ak))) else (none)) else (some false))) else (none)) else (none)) else ((impl_copyItems.f av).bind fun aH => (if aH.length + al.length < 3518437208883 then ((some (aH ++ al : List (S68))).bind fun aI => (if (aI.length : Int) ≤ au then ((impl_areItems.f k aI).bind fun aW => (some aW)) else (some false))) else (none)))
end
def impl_ThreeOk.f (k : Nat) (ad : Int) (af : Int) (ah : List (S68)) (ai : List (S68)) (ac : List Int) : Option (Bool) := (impl_within.f ad 1 60).bind fun aN => (if aN = true then ((impl_within.f af 1 ad).bind fun aQ => (if aQ = true then (impl_ThreeOk.j0 k (decide ((ac.length : Int) > (mx 1 (wrap64 (ad - af))))) ad af ah ai ac) else (impl_ThreeOk.j0 k true ad af ah ai ac))) else (impl_ThreeOk.j0 k true ad af ah ai ac))
theorem impl_ThreeOk.mono_l : ∀ k, (∀ y0 y1 y2 y3 y4 y5, LeO (impl_ThreeOk.j0 k y0 y1 y2 y3 y4 y5) (impl_ThreeOk.j0 (k + 1) y0 y1 y2 y3 y4 y5)) ∧ (∀ y0 y1 y2 y3 y4 y5 y6 y7, LeO (impl_ThreeOk.l0 k y0 y1 y2 y3 y4 y5 y6 y7) (impl_ThreeOk.l0 (k + 1) y0 y1 y2 y3 y4 y5 y6 y7))
 | 0 => ⟨fun _ _ _ _ _ _ r h => by simp [impl_ThreeOk.j0] at h, fun _ _ _ _ _ _ _ _ r h => by simp [impl_ThreeOk.l0] at h⟩
 | k + 1 => by
  obtain ⟨bA, bC⟩ := impl_ThreeOk.mono_l k; refine ⟨?_, ?_⟩
  ·intro y0 y1 y2 y3 y4 y5; unfold impl_ThreeOk.j0
   repeat' first | (with_reducible first | apply bA | apply bC | apply impl_areItems.mono | apply slices_Contains_int_int.mono | apply lr | apply ln | apply li | refine lb ?_ fun _ => ?_) | apply bA | apply bC | apply ln | apply li | refine lb ?_ fun _ => ?_
  intro y0 y1 y2 y3 y4 y5 y6 y7; unfold impl_ThreeOk.l0
  repeat' first | (with_reducible first | apply bA | apply bC | apply impl_areItems.mono | apply slices_Contains_int_int.mono | apply lr | apply ln | apply li | refine lb ?_ fun _ => ?_) | apply bA | apply bC | apply ln | apply li | refine lb ?_ fun _ => ?_
theorem impl_ThreeOk.mono : ∀ a0 a1 a2 a3 a4 k, LeO (impl_ThreeOk.f k a0 a1 a2 a3 a4) (impl_ThreeOk.f (k + 1) a0 a1 a2 a3 a4) := by
 intro a0 a1 a2 a3 a4 k; obtain ⟨bA, bC⟩ := impl_ThreeOk.mono_l k; unfold impl_ThreeOk.f
 repeat' first | (with_reducible first | apply bA | apply bC | apply impl_areItems.mono | apply slices_Contains_int_int.mono | apply lr | apply ln | apply li | refine lb ?_ fun _ => ?_) | apply bA | apply bC | apply ln | apply li | refine lb ?_ fun _ => ?_
theorem impl_Three_ghosts_at (B : Nat) (W : World) (a b j : Int) (h0 : W.cell? ⟨B, 0, none⟩ = some (.int .i64 a)) (h1 : W.cell? ⟨B, 1, none⟩ = some (.int .i64 b)) (hj : (if 1 < wrap64 (a - b) then wrap64 (a - b) else 1) = j) :
  Calls Try.prog 65 #[.pointer (some ⟨B, 0, none⟩)] W fun e w' => e = .returned (.int .i64 j) ∧ ∃ nd, w' = W.drewN nd := by
 have HJ := Aside0.mk hj; clear hj
 go_enter Try.func65, Try.ntmps65
 go_wp2
 repeat (go_quiet (fail); try go_wp2)
 all_goals
  go_ret
  refine ⟨?_, ?_⟩
  ·rw [← HJ.out]
   first | (rw [if_pos (by omega)]; rfl) | (rw [if_neg (by omega)]; rfl)
  first | exact ⟨_, rfl⟩ | exact ⟨0, rfl⟩ | exact ⟨1, rfl⟩
def impl_ThreeOk.T1 : Bool × List (List Nat × List Nat) := (true, [([], []), ([0], [0]), ([1], [1]), ([2], [2]), ([3, 2], [3]), ([4], [4]), ([5, 4], [4, 5]), ([4], [4]), ([7, 4], [4, 7]), ([6, 8, 4, 4], [4, 6, 8]), ([9, 4], [4, 9]), ([4, 10], [4, 10]), ([11, 9], [11]), ([12], [12]), ([13, 12], [12, 13]), ([14, 12], [12, 14]), ([12, 12], [12]), ([15, 16, 12], [12, 15, 16]), ([12, 17], [12, 17])])
def impl_ThreeOk.B1 : List Nat := [0, 1, 3, 7, 15, 31, 63, 31, 159, 511, 1023, 2047, 4095, 8191, 16383, 32767, 8191, 131071, 262143]
theorem impl_ThreeOk.tab1 : rtab .any (opsOf Try.f19 1) = impl_ThreeOk.T1 := by kernel_rfl
theorem impl_ThreeOk.bits1 : waitsOk impl_ThreeOk.T1.2 impl_ThreeOk.B1 = true := by kernel_rfl
set_option maxHeartbeats 8000000 in
set_option maxRecDepth 100000 in
theorem impl_ThreeOk.calls (k : Nat) (ad : Int) (af : Int) (ap : Option Addr) (aq : Nat) (ah : List (S68)) (aA : Option Addr) (aC : Nat) (ai : List (S68)) (aD : Option Addr) (ar : Nat) (ac : List Int) (r : Bool) (w : World) (a9 : Kd.C k68 w ap ah.length ah) (ba : ah.length ≤ aq) (bc : Kd.C k68 w aA ai.length ai) (bd : ai.length ≤ aC) (bf : Kd.C (Kd.int .i64) w aD ac.length ac) (bg : ac.length ≤ ar) (h : impl_ThreeOk.f k ad af ah ai ac = some r) :
  Calls Try.prog 19 #[.agg #[.int .i64 ad, .int .i64 af, .slice ap ah.length aq, .slice aA ai.length aC, .slice aD ac.length ar]] w fun e w' => e = .returned (.bool r) ∧ Below w.heap.size w w' := by
 have hu30 := Try.underlying30; have bh := Aside0.mk a9; have bi := Aside0.mk ba; clear a9 ba; have bj := Aside0.mk bc; have cs := Aside0.mk bd; clear bc bd; have aJ := Aside0.mk bf; have bm := Aside0.mk bg; clear bf bg; have HB := Aside0.mk (Below.refl w.heap.size w); have H : ((impl_within.f ad 1 60).bind fun aN => (if aN = true then ((impl_within.f af 1 ad).bind fun aQ => (if aQ = true then (impl_ThreeOk.j0 k (decide ((ac.length : Int) > (mx 1 (wrap64 (ad - af))))) ad af ah ai ac) else (impl_ThreeOk.j0 k true ad af ah ai ac))) else (impl_ThreeOk.j0 k true ad af ah ai ac))) = some r := h; clear h; obtain ⟨bF, aE⟩ : ∃ j_ : Int, (mx 1 (wrap64 (ad - af))) = j_ := ⟨_, rfl⟩; replace H : ((impl_within.f ad 1 60).bind fun aN => (if aN = true then ((impl_within.f af 1 ad).bind fun aQ => (if aQ = true then (impl_ThreeOk.j0 k (decide ((ac.length : Int) > (bF))) ad af ah ai ac) else (impl_ThreeOk.j0 k true ad af ah ai ac))) else (impl_ThreeOk.j0 k true ad af ah ai ac))) = some r := by first | (rw [aE] at H; exact H) | (simp only [aE] at H ⊢; exact H)
 (try (have ct : 1 ≤ bF := by (rw [← aE]; unfold mx; (repeat' split) <;> omega))); (try (have cu : 0 ≤ bF := by omega)); have bI : (if 1 < (wrap64 (ad - af)) then (wrap64 (ad - af)) else 1) = bF := aE; have ce := Aside0.mk H; clear H
 go_enter Try.func19, Try.ntmps19
 go_upto_region 1 with (first | ((with_reducible refine gate_dst (N := 1) rfl ?_); (try (refine gate_guard (by rfl) ?_; dsimp only)); refine bx 1 #[.int .i64 ad, .int .i64 af, .slice ap ah.length aq, .slice aA ai.length aC, .slice aD ac.length ar] 30 ?_; intro ae hg w4 hbox hb; have aa := am hbox; have cw := gs0 hg HB; have ag := gs0 hg HB; replace HB := s0 HB hb; clear hb hbox hg; have aX := bz5 aa))
 (try simp only [Act.put, List.setIfInBounds_toArray, List.set_cons_zero, List.set_cons_succ])
 go_cut [24] (fun cN wc => ∃ (kq : Nat) (aU : Bool), cN = .bool aU ∧ Aside0 (impl_ThreeOk.j0 kq aU ad af ah ai ac = some r) ∧ Aside0 (kq ≤ k) ∧ Aside0 (wc.heap[ae]? = some (.cells #[.int .i64 ad, .int .i64 af, (.slice ap ah.length aq), (.slice aA ai.length aC), (.slice aD ac.length ar)] 30 (0, 0))) ∧ Aside0 (Below w.heap.size w wc))
 case first =>
  have H := ce.out; clear ce; obtain ⟨aN, A6, H⟩ := ob H
  try dsimp only at H
  by_cases c7 : aN = true
  ·subst c7; rw [if_pos rfl] at H; obtain ⟨aQ, A8, H⟩ := ob H
   try dsimp only at H
   by_cases c9 : aQ = true
   ·subst c9; rw [if_pos rfl] at H; have H' := Aside0.mk H; clear H
    try go_wp2
    replace aa := eB aa; replace HB := eL HB; refine start_ (n := 19) (S := fun w' => w'.cell? ⟨ae, 0, none⟩ = some (.int .i64 ad) ∧ w'.cell? ⟨ae, 1, none⟩ = some (.int .i64 af) ∧ w'.cell? ⟨ae, 2, none⟩ = some (.slice ap ah.length aq) ∧ w'.cell? ⟨ae, 3, none⟩ = some (.slice aA ai.length aC) ∧ w'.cell? ⟨ae, 4, none⟩ = some (.slice aD ac.length ar)) (ds := []) (bv 19 0x0) (by kernel_rfl) rfl rfl (bq5 aa) (fun hHeld => ?_); refine with_tabW impl_ThreeOk.tab1 impl_ThreeOk.bits1 (fun HT_ HW_ => ?_); generalize w4.drew = cZ at aa HB hHeld ⊢; refine py HT_ 0 6 (bv 19 0x1) ?_; refine tk HT_ HW_ hHeld 1 7 (bv 19 0x3) ?_; refine oh HT_ 2 (some 8) (bv 19 0x7) fun K hK => ?_; refine gz Try.func64 #[.int .i64 ad, .int .i64 1, .int .i64 60] ?_
    with_reducible refine (impl_within.calls ad 1 60 true _ A6.out).mono ?_
    rintro e w' ⟨rfl, ⟨nd, rfl⟩⟩; refine ⟨_, rfl, ?_⟩; refine hK.out _ _ (bq5 aa) (fun hHeld => ?_); clear hK K; refine nx ?_
    refine py HT_ 3 9 (bv 19 0xf) ?_; refine py HT_ 4 10 (bv 19 0x1f) ?_; refine py HT_ 5 11 (bv 19 0x3f) ?_; refine py HT_ 7 13 (bv 19 0xbf) ?_; refine tk HT_ HW_ hHeld 6 12 (bv 19 0xff) ?_; refine tk HT_ HW_ hHeld 8 14 (bv 19 0x1ff) ?_; refine oh HT_ 9 (some 15) (bv 19 0x3ff) fun K hK => ?_; refine gz Try.func64 #[.int .i64 af, .int .i64 1, .int .i64 ad] ?_
    with_reducible refine (impl_within.calls af 1 ad true _ A8.out).mono ?_
    rintro e w' ⟨rfl, ⟨nd, rfl⟩⟩; refine ⟨_, rfl, ?_⟩; refine hK.out _ _ (bq5 aa) (fun hHeld => ?_); clear hK K; refine nx ?_
    refine py HT_ 10 16 (bv 19 0x7ff) ?_; refine py HT_ 11 17 (bv 19 0xfff) ?_; refine py HT_ 12 18 (bv 19 0x1fff) ?_; refine py HT_ 13 19 (bv 19 0x3fff) ?_; refine tk HT_ HW_ hHeld 14 20 (bv 19 0x7fff) ?_; refine py HT_ 15 21 (bv 19 0xffff) ?_; refine oh HT_ 16 (some 22) (bv 19 0x1ffff) fun K hK => ?_; refine gz Try.func65 #[.pointer (some ⟨ae, 0, none⟩)] ?_
    with_reducible refine (impl_Three_ghosts_at ae _ ad af bF ?gh0 ?gh1 bI).mono ?_
    case gh0 => exact bc0 aa
    case gh1 => exact bc1 aa
    rintro e w' ⟨rfl, ⟨nd, rfl⟩⟩; refine ⟨_, rfl, ?_⟩; refine hK.out _ _ (bq5 aa) (fun hHeld => ?_); clear hK K; refine nx ?_
    refine py HT_ 17 23 (bv 19 0x3ffff) ?_; refine py HT_ 18 24 (bv 19 0x7ffff) ?_; refine dh HT_ ?_
    try go_wp2
    go_meet
    case rel => exact ⟨_, (decide ((ac.length : Int) > (bF))), (by first | rfl | (simp; done) | (simp only [← aE] <;> (first | rfl | simp)) | (simp [*]; done)), H', ⟨by first | omega | exact Nat.le_refl _⟩, ⟨bk aa⟩, ⟨be1 HB ag⟩⟩
   replace c9 := Bool.eq_false_iff.mpr c9; subst c9; rw [if_neg nf] at H; have H' := Aside0.mk H; clear H
   try go_wp2
   replace aa := eB aa; replace HB := eL HB; refine start_ (n := 19) (S := fun w' => w'.cell? ⟨ae, 0, none⟩ = some (.int .i64 ad) ∧ w'.cell? ⟨ae, 1, none⟩ = some (.int .i64 af) ∧ w'.cell? ⟨ae, 2, none⟩ = some (.slice ap ah.length aq) ∧ w'.cell? ⟨ae, 3, none⟩ = some (.slice aA ai.length aC) ∧ w'.cell? ⟨ae, 4, none⟩ = some (.slice aD ac.length ar)) (ds := []) (bv 19 0x0) (by kernel_rfl) rfl rfl (bq5 aa) (fun hHeld => ?_); refine with_tabW impl_ThreeOk.tab1 impl_ThreeOk.bits1 (fun HT_ HW_ => ?_); generalize w4.drew = c0 at aa HB hHeld ⊢; refine py HT_ 0 6 (bv 19 0x1) ?_; refine tk HT_ HW_ hHeld 1 7 (bv 19 0x3) ?_; refine oh HT_ 2 (some 8) (bv 19 0x7) fun K hK => ?_; refine gz Try.func64 #[.int .i64 ad, .int .i64 1, .int .i64 60] ?_
   with_reducible refine (impl_within.calls ad 1 60 true _ A6.out).mono ?_
   rintro e w' ⟨rfl, ⟨nd, rfl⟩⟩; refine ⟨_, rfl, ?_⟩; refine hK.out _ _ (bq5 aa) (fun hHeld => ?_); clear hK K; refine nx ?_
   refine py HT_ 3 9 (bv 19 0xf) ?_; refine py HT_ 4 10 (bv 19 0x1f) ?_; refine py HT_ 5 11 (bv 19 0x3f) ?_; refine py HT_ 7 13 (bv 19 0xbf) ?_; refine tk HT_ HW_ hHeld 6 12 (bv 19 0xff) ?_; refine tk HT_ HW_ hHeld 8 14 (bv 19 0x1ff) ?_; refine oh HT_ 9 (some 15) (bv 19 0x3ff) fun K hK => ?_; refine gz Try.func64 #[.int .i64 af, .int .i64 1, .int .i64 ad] ?_
   with_reducible refine (impl_within.calls af 1 ad false _ A8.out).mono ?_
   rintro e w' ⟨rfl, ⟨nd, rfl⟩⟩; refine ⟨_, rfl, ?_⟩; refine hK.out _ _ (bq5 aa) (fun hHeld => ?_); clear hK K; refine nx ?_
   refine py HT_ 10 16 (bv 19 0x7ff) ?_; refine py HT_ 11 17 (bv 19 0xfff) ?_; refine py HT_ 12 18 (bv 19 0x1fff) ?_; refine pu HT_ 13 19 (bv 19 0x3fff) ?_; refine pu HT_ 14 20 (bv 19 0x7fff) ?_; refine pu HT_ 15 21 (bv 19 0xffff) ?_; refine pu HT_ 16 22 (bv 19 0x1ffff) ?_; refine pu HT_ 17 23 (bv 19 0x3ffff) ?_; refine py HT_ 18 24 (bv 19 0x7ffff) ?_; refine dh HT_ ?_
   try go_wp2
   go_meet
   case rel => exact ⟨_, (true), rs, H', ⟨by first | omega | exact Nat.le_refl _⟩, ⟨bk aa⟩, ⟨be1 HB ag⟩⟩
  replace c7 := Bool.eq_false_iff.mpr c7; subst c7; rw [if_neg nf] at H; have H' := Aside0.mk H; clear H
  try go_wp2
  replace aa := eB aa; replace HB := eL HB; refine start_ (n := 19) (S := fun w' => w'.cell? ⟨ae, 0, none⟩ = some (.int .i64 ad) ∧ w'.cell? ⟨ae, 1, none⟩ = some (.int .i64 af) ∧ w'.cell? ⟨ae, 2, none⟩ = some (.slice ap ah.length aq) ∧ w'.cell? ⟨ae, 3, none⟩ = some (.slice aA ai.length aC) ∧ w'.cell? ⟨ae, 4, none⟩ = some (.slice aD ac.length ar)) (ds := []) (bv 19 0x0) (by kernel_rfl) rfl rfl (bq5 aa) (fun hHeld => ?_); refine with_tabW impl_ThreeOk.tab1 impl_ThreeOk.bits1 (fun HT_ HW_ => ?_); generalize w4.drew = da at aa HB hHeld ⊢; refine py HT_ 0 6 (bv 19 0x1) ?_; refine tk HT_ HW_ hHeld 1 7 (bv 19 0x3) ?_; refine oh HT_ 2 (some 8) (bv 19 0x7) fun K hK => ?_; refine gz Try.func64 #[.int .i64 ad, .int .i64 1, .int .i64 60] ?_
  with_reducible refine (impl_within.calls ad 1 60 false _ A6.out).mono ?_
  rintro e w' ⟨rfl, ⟨nd, rfl⟩⟩; refine ⟨_, rfl, ?_⟩; refine hK.out _ _ (bq5 aa) (fun hHeld => ?_); clear hK K; refine nx ?_
  refine py HT_ 3 9 (bv 19 0xf) ?_; refine py HT_ 4 10 (bv 19 0x1f) ?_; refine pu HT_ 5 11 (bv 19 0x3f) ?_; refine pu HT_ 6 12 (bv 19 0x7f) ?_; refine pu HT_ 7 13 (bv 19 0xff) ?_; refine pu HT_ 8 14 (bv 19 0x1ff) ?_; refine pu HT_ 9 15 (bv 19 0x3ff) ?_; refine pu HT_ 10 16 (bv 19 0x7ff) ?_; refine py HT_ 11 17 (bv 19 0xfff) ?_; refine py HT_ 12 18 (bv 19 0x1fff) ?_; refine pu HT_ 13 19 (bv 19 0x3fff) ?_; refine pu HT_ 14 20 (bv 19 0x7fff) ?_; refine pu HT_ 15 21 (bv 19 0xffff) ?_; refine pu HT_ 16 22 (bv 19 0x1ffff) ?_; refine pu HT_ 17 23 (bv 19 0x3ffff) ?_; refine py HT_ 18 24 (bv 19 0x7ffff) ?_; refine dh HT_ ?_
  try go_wp2
  go_meet
  case rel => exact ⟨_, (true), rs, H', ⟨by first | omega | exact Nat.le_refl _⟩, ⟨bk aa⟩, ⟨be1 HB ag⟩⟩
 case rest =>
  clear ce
  try clear c1; try clear p2; try clear c6; try clear p6; try clear c7; try clear c9; try clear aX
  obtain ⟨kq, aU, rfl, HA, cz, aa, HB⟩ := hcut
  cases kq with
  | zero => exact absurd HA.out (by simp [impl_ThreeOk.j0])
  | succ cA =>
   have H := HA.out; clear HA; simp only [impl_ThreeOk.j0] at H
   by_cases bJ : aU = true
   ·subst bJ; rw [if_pos rfl] at H; obtain rfl := Option.some.inj H
    go_wp2
    go_ret
    exact ⟨by first | rfl | (simp [errW_none, errW_some] <;> rfl) | (simp only [← aE]; first | rfl | (simp [errW_none, errW_some] <;> rfl)) | (simp [*, errW_none, errW_some] <;> rfl), be1 HB ag⟩
   replace bJ := Bool.eq_false_iff.mpr bJ; subst bJ; rw [if_neg nf] at H; have H' := Aside0.mk H; clear H; have a7 := bz5 aa
   go_wp2
   go_loopg [28] cA (fun kq cO w' => ∃ (ab : Int), cO = .int .i64 ab ∧ Aside0 (impl_ThreeOk.l0 kq ac (ac.length : Int) ab ad af ah ai ac = some r) ∧ Aside0 (kq ≤ cA) ∧ Aside0 (w'.heap[ae]? = some (.cells #[.int .i64 ad, .int .i64 af, (.slice ap ah.length aq), (.slice aA ai.length aC), (.slice aD ac.length ar)] 30 (0, 0))) ∧ Aside0 (Below w.heap.size w w'))
   case atStart => exact ⟨(0), rs, H', ⟨Nat.le_refl _⟩, ⟨bk aa⟩, ⟨be1 HB ag⟩⟩
   case round =>
    clear H'
    try clear c1; try clear p2; try clear c6; try clear p6; try clear c7; try clear c9; try clear bJ; try clear a7; try clear aX; try clear p2; try clear p6
    obtain ⟨ab, rfl, HA, cC, aa, HB⟩ := hrel
    cases gk with
    | zero => exact absurd HA.out (by simp [impl_ThreeOk.l0])
    | succ k2 =>
     have H := HA.out; clear HA; simp only [impl_ThreeOk.l0] at H
     by_cases bG : ab < (ac.length : Int)
     ·rw [if_pos bG] at H; have bM : decide (ab < (ac.length : Int)) = true := decide_eq_true bG; clear bG
      by_cases b4 : 0 ≤ ab
      ·rw [if_pos b4] at H; have cD : decide (0 ≤ ab) = true := decide_eq_true b4; clear b4
       by_cases b5 : ab < (ac.length : Int)
       ·rw [if_pos b5] at H; have cE : decide (ab < (ac.length : Int)) = true := decide_eq_true b5; clear b5; obtain ⟨bw, cf, H⟩ := ob H
        try dsimp only at H
        by_cases b6 : bw = true
        ·subst b6; rw [if_pos rfl] at H; have cF := eq_true (od : 0 ≤ ab)
         by_cases bO : ab ≤ (ac.length : Int)
         ·rw [if_pos bO] at H; have cG := eq_true bO; have cI : decide (ab ≤ (ac.length : Int)) = true := decide_eq_true bO; clear bO; obtain ⟨bz, cK, H⟩ := ob H
          try dsimp only at H
          by_cases b7 : bz = true
          ·subst b7; rw [if_pos rfl] at H; obtain rfl := Option.some.inj H; have aw : 0 ≤ (ab : Int) := od; have ax : ab < (ac.length : Int) := od; obtain ⟨aV, aY, aj⟩ := Kd.at_int aJ.out ab aw ax; cases aY; replace aj := hc HB aj; replace aw := eq_true aw; replace ax := eq_true ax
           go_wp2_with (first | ((with_reducible refine gate_callee (f := 66) rfl ?_); refine gl 34 Try.func66 #[.int .i64 (rd ac ab)] ?_; (with_reducible refine (impl_isNum.calls (rd ac ab) true _ cf.out).mono ?_); rintro e w' ⟨rfl, ⟨nd, rfl⟩⟩; refine ⟨_, rfl, ?_⟩; have b8 := bz5 aa; obtain ⟨cP, bn, _, bo, _⟩ := info_parts info3; obtain ⟨cg, bR, bS⟩ := print_take_of (P := Try.prog) (Value.int .i64) 0 23 3 .i64 Try.underlying23 bn bo (some aV) ar ac ab (od) (od) bm.out; have aZ := Aside0.mk (Kd.C_of_reads (h1 := fun _ => rfl) (bR _ (Kd.reads_of_C aJ.out))); have a5 := Aside0.mk bS; clear bR bS bn bo) | (go_at_call 67; (try rw [show ab.toNat = (ac.take (ab : Int).toNat).length from by have ci : ab ≤ (ac.length : Int) := of_decide_eq_true (by assumption); simp only [List.length_take]; omega]); (with_reducible refine (slices_Contains_int_int.calls k2 _ _ (ac.take (ab : Int).toNat) (rd ac ab) true _ ?side1 ?side2 cK.out).mono ?_); (case side1 => repeat (first | exact (Kd.C_below aZ.out (be1 HB ag)) | (with_reducible refine Kd.C_alloc ?_ _) | (with_reducible refine Kd.C_drewN ?_ _) | (with_reducible refine Kd.C_drew ?_))); (case side2 => exact a5.out); rintro e w' ⟨rfl, ⟨nd, rfl⟩⟩))
           go_ret
           exact ⟨by first | rfl | (simp [errW_none, errW_some] <;> rfl) | (simp only [← aE]; first | rfl | (simp [errW_none, errW_some] <;> rfl)) | (simp [*, errW_none, errW_some] <;> rfl), be1 HB ag⟩
          replace b7 := Bool.eq_false_iff.mpr b7; subst b7; rw [if_neg nf] at H; have H' := Aside0.mk H; clear H; have aw : 0 ≤ (ab : Int) := od; have ax : ab < (ac.length : Int) := od; obtain ⟨aV, aY, aj⟩ := Kd.at_int aJ.out ab aw ax; cases aY; replace aj := hc HB aj; replace aw := eq_true aw; replace ax := eq_true ax
          go_wp2_with (first | ((with_reducible refine gate_callee (f := 66) rfl ?_); refine gl 34 Try.func66 #[.int .i64 (rd ac ab)] ?_; (with_reducible refine (impl_isNum.calls (rd ac ab) true _ cf.out).mono ?_); rintro e w' ⟨rfl, ⟨nd, rfl⟩⟩; refine ⟨_, rfl, ?_⟩; have b9 := bz5 aa; obtain ⟨cQ, bq, _, br, _⟩ := info_parts info3; obtain ⟨ck, bU, bW⟩ := print_take_of (P := Try.prog) (Value.int .i64) 0 23 3 .i64 Try.underlying23 bq br (some aV) ar ac ab (od) (od) bm.out; have aZ := Aside0.mk (Kd.C_of_reads (h1 := fun _ => rfl) (bU _ (Kd.reads_of_C aJ.out))); have a5 := Aside0.mk bW; clear bU bW bq br) | (go_at_call 67; (try rw [show ab.toNat = (ac.take (ab : Int).toNat).length from by have ci : ab ≤ (ac.length : Int) := of_decide_eq_true (by assumption); simp only [List.length_take]; omega]); (with_reducible refine (slices_Contains_int_int.calls k2 _ _ (ac.take (ab : Int).toNat) (rd ac ab) false _ ?side1 ?side2 cK.out).mono ?_); (case side1 => repeat (first | exact (Kd.C_below aZ.out (be1 HB ag)) | (with_reducible refine Kd.C_alloc ?_ _) | (with_reducible refine Kd.C_drewN ?_ _) | (with_reducible refine Kd.C_drew ?_))); (case side2 => exact a5.out); rintro e w' ⟨rfl, ⟨nd, rfl⟩⟩))
          go_roundg k2
          case measure => have := cz.out; have := cC.out; omega
          case rel => exact ⟨(wrap64 (ab + 1)), rs, H', ⟨by have := cz.out; have := cC.out; omega⟩, ⟨bk aa⟩, ⟨be1 HB ag⟩⟩
         rw [if_neg bO] at H; exact absurd H (by simp)
        replace b6 := Bool.eq_false_iff.mpr b6; subst b6; rw [if_neg nf] at H; obtain rfl := Option.some.inj H; have aw : 0 ≤ (ab : Int) := od; have ax : ab < (ac.length : Int) := od; obtain ⟨aV, aY, aj⟩ := Kd.at_int aJ.out ab aw ax; cases aY; replace aj := hc HB aj; replace aw := eq_true aw; replace ax := eq_true ax
        go_wp2_with (first | ((with_reducible refine gate_callee (f := 66) rfl ?_); refine gl 34 Try.func66 #[.int .i64 (rd ac ab)] ?_; (with_reducible refine (impl_isNum.calls (rd ac ab) false _ cf.out).mono ?_); rintro e w' ⟨rfl, ⟨nd, rfl⟩⟩; refine ⟨_, rfl, ?_⟩))
        go_ret
        exact ⟨by first | rfl | (simp [errW_none, errW_some] <;> rfl) | (simp only [← aE]; first | rfl | (simp [errW_none, errW_some] <;> rfl)) | (simp [*, errW_none, errW_some] <;> rfl), be1 HB ag⟩
       rw [if_neg b5] at H; exact absurd H (by simp)
      rw [if_neg b4] at H; exact absurd H (by simp)
     rw [if_neg bG] at H; have bM : decide (ab < (ac.length : Int)) = false := decide_eq_false bG; clear bG; obtain ⟨aH, cL, H⟩ := ob H
     try dsimp only at H
     by_cases ca : aH.length + ai.length < 3518437208883
     ·rw [if_pos ca] at H; have bs := Aside0.mk ca; clear ca; obtain ⟨aI, aK, H⟩ := oy H; have bu := Aside0.mk aK; clear aK
      by_cases bH : (aI.length : Int) ≤ ad
      ·rw [if_pos bH] at H; have b0 : decide ((aI.length : Int) ≤ ad) = true := decide_eq_true bH; clear bH; obtain ⟨aW, cS, H⟩ := ob H; obtain rfl := Option.some.inj H
       try go_wp2
       replace aa := eB aa; replace HB := eL HB; refine start_ (n := 7) (S := fun w' => w'.cell? ⟨ae, 0, none⟩ = some (.int .i64 ad) ∧ w'.cell? ⟨ae, 1, none⟩ = some (.int .i64 af) ∧ w'.cell? ⟨ae, 2, none⟩ = some (.slice ap ah.length aq) ∧ w'.cell? ⟨ae, 3, none⟩ = some (.slice aA ai.length aC) ∧ w'.cell? ⟨ae, 4, none⟩ = some (.slice aD ac.length ar)) (ds := []) (bv 7 0x0) (by kernel_rfl) rfl rfl (bq5 aa) (fun hHeld => ?_); generalize wr.drew = db at aa HB hHeld ⊢; refine pz 0 45 (bv 7 0x1) ?_
       refine pz 3 48 (bv 7 0x9) ?_
       refine tz hHeld 1 46 (bv 7 0xb) ?_
       refine tz hHeld 4 49 (bv 7 0x1b) ?_
       refine oz 2 (some 47) (bv 7 0x1f) fun K hK => ?_; refine gz Try.func68 #[.slice ap ah.length aq] ?_
       with_reducible refine (impl_copyItems.calls _ _ ah aH _ ?side1 ?side2 cL.out).mono ?_
       (case side1 => exact cb bh HB)
       (case side2 => exact bi.out)
       rintro e dc ⟨bD, rfl, b2, hb⟩; refine ⟨_, rfl, ?_⟩; have ay := rl1 b2 HB ag; replace aa := bb aa hb; replace HB := s1 HB ag hb; (try clear hb); (try clear cT); (try clear hk); (try clear hi); (try clear b2); refine hK.out _ _ (bq5 aa) (fun hHeld => ?_); clear hK K; refine nx ?_
       refine oz 5 (some 50) (bv 7 0x3f) fun K hK => ?_; refine Kd.R_append_rows_step k68 (w0 := w) w.heap.size (by rfl) (.tmp 47) (.tmp 49) 28 68 (.agg #[(.string ⟨#[]⟩), (.string ⟨#[]⟩), (.int .i64 0)]) 40 rfl Try.underlying28 info68 rfl (by decide) (by omega) bD aH ai _ _ _ (fun _ => True) (fun _ => False) rfl rfl ?aO ?aR (fun _ _ h => h) (fun _ h => h.elim) ?aF ?aB ?aS ?aL ?_
       (case aR => exact cb bj HB)
       (case aB => exact (be1 HB ag))
       (case aF => exact (fun _ _ => trivial))
       (case aO => exact (ro ay))
       (case aS => exact (below_size (be1 HB ag)))
       (case aL => have := bs.out; omega)
       intro cm dd ho hb hg hat; rw [← bu.out] at ho; replace aa := bgr aa hg (Kd.R_ne ay.out aa.out (by decide)); replace HB := Aside0.mk (hb); have az := Aside0.mk (ho); clear ay; clear ho hb hg hat; refine hK.out _ _ (bq5 aa) (fun hHeld => ?_); clear hK K; refine nx ?_
       refine pz 6 5 (bv 7 0x7f) ?_
       refine dz ?_; obtain ⟨cU, cW, cn⟩ := Kd.R_slice az.out; subst cn; have cc := bz5 aa
       try go_wp2_with (first | (go_at_call 69; (with_reducible refine (impl_areItems.calls k2 _ _ aI aW _ (cr az) ((Kd.R_reads' az.out).2.1) cS.out).mono ?_); rintro e de ⟨rfl, hb⟩; replace az := rb az hb; replace aa := bb aa hb; replace HB := s1 HB ag hb; (try clear hb)))
       go_ret
       exact ⟨by first | rfl | (simp [errW_none, errW_some] <;> rfl) | (simp only [← aE]; first | rfl | (simp [errW_none, errW_some] <;> rfl)) | (simp [*, errW_none, errW_some] <;> rfl), be1 HB ag⟩
      rw [if_neg bH] at H; have b0 : decide ((aI.length : Int) ≤ ad) = false := decide_eq_false bH; clear bH; obtain rfl := Option.some.inj H
      try go_wp2
      replace aa := eB aa; replace HB := eL HB; refine start_ (n := 7) (S := fun w' => w'.cell? ⟨ae, 0, none⟩ = some (.int .i64 ad) ∧ w'.cell? ⟨ae, 1, none⟩ = some (.int .i64 af) ∧ w'.cell? ⟨ae, 2, none⟩ = some (.slice ap ah.length aq) ∧ w'.cell? ⟨ae, 3, none⟩ = some (.slice aA ai.length aC) ∧ w'.cell? ⟨ae, 4, none⟩ = some (.slice aD ac.length ar)) (ds := []) (bv 7 0x0) (by kernel_rfl) rfl rfl (bq5 aa) (fun hHeld => ?_); generalize wr.drew = df at aa HB hHeld ⊢; refine pz 0 45 (bv 7 0x1) ?_
      refine pz 3 48 (bv 7 0x9) ?_
      refine tz hHeld 1 46 (bv 7 0xb) ?_
      refine tz hHeld 4 49 (bv 7 0x1b) ?_
      refine oz 2 (some 47) (bv 7 0x1f) fun K hK => ?_; refine gz Try.func68 #[.slice ap ah.length aq] ?_
      with_reducible refine (impl_copyItems.calls _ _ ah aH _ ?side1 ?side2 cL.out).mono ?_
      (case side1 => exact cb bh HB)
      (case side2 => exact bi.out)
      rintro e dg ⟨bD, rfl, b2, hb⟩; refine ⟨_, rfl, ?_⟩; have ay := rl1 b2 HB ag; replace aa := bb aa hb; replace HB := s1 HB ag hb; (try clear hb); (try clear cT); (try clear hk); (try clear hi); (try clear b2); refine hK.out _ _ (bq5 aa) (fun hHeld => ?_); clear hK K; refine nx ?_
      refine oz 5 (some 50) (bv 7 0x3f) fun K hK => ?_; refine Kd.R_append_rows_step k68 (w0 := w) w.heap.size (by rfl) (.tmp 47) (.tmp 49) 28 68 (.agg #[(.string ⟨#[]⟩), (.string ⟨#[]⟩), (.int .i64 0)]) 40 rfl Try.underlying28 info68 rfl (by decide) (by omega) bD aH ai _ _ _ (fun _ => True) (fun _ => False) rfl rfl ?aO ?aR (fun _ _ h => h) (fun _ h => h.elim) ?aF ?aB ?aS ?aL ?_
      (case aR => exact cb bj HB)
      (case aB => exact (be1 HB ag))
      (case aF => exact (fun _ _ => trivial))
      (case aO => exact (ro ay))
      (case aS => exact (below_size (be1 HB ag)))
      (case aL => have := bs.out; omega)
      intro cm di ho hb hg hat; rw [← bu.out] at ho; replace aa := bgr aa hg (Kd.R_ne ay.out aa.out (by decide)); replace HB := Aside0.mk (hb); have az := Aside0.mk (ho); clear ay; clear ho hb hg hat; refine hK.out _ _ (bq5 aa) (fun hHeld => ?_); clear hK K; refine nx ?_
      refine pz 6 5 (bv 7 0x7f) ?_
      refine dz ?_; obtain ⟨cX, cY, co⟩ := Kd.R_slice az.out; subst co; have cd := bz5 aa
      try go_wp2
      go_ret
      exact ⟨by first | rfl | (simp [errW_none, errW_some] <;> rfl) | (simp only [← aE]; first | rfl | (simp [errW_none, errW_some] <;> rfl)) | (simp [*, errW_none, errW_some] <;> rfl), be1 HB ag⟩
     rw [if_neg ca] at H; exact absurd H (by simp)

end Go.Proofs.Ytfjhkediaholmaa.QFnSpare
