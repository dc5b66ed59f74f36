-- made by a program of this session (myprint.py)
import Derived.Test.YtgkliacflbenfaaQFnAgesx0
import Derived.Test.YtgkliacflbenfaaQFnAgesx13
import Derived.Test.YtgkliacflbenfaaQFnAgesx14
namespace Go.Proofs.Ytgkliacflbenfaa.QFnAges
open Go.RowKit Go.Proofs.YtgkliacflbenfaaW.PrintWords Go.Proofs.YtgkliacflbenfaaW.PrintLast Go.Proofs.YtgkliacflbenfaaW.PrintMore
attribute [local go_sem] max2_int min2_int max_two min_two max_three min_three max_four min_four   -- for this text's walks alone
set_option linter.unusedVariables false
set_option linter.unusedSimpArgs false

/-! ### impl_rises: function 31 -/
def impl_rises.l0 : Nat → List Int → Int → Option (Bool)
 | 0, _, _ => none
 | k + 1, x0, x3 => if x3 < (x0.length : Int) then (if 0 ≤ (wrap64 (x3 - 1)) then (if (wrap64 (x3 - 1)) < (x0.length : Int) then (if 0 ≤ x3 then (if (rd x0 (wrap64 (x3 - 1))) ≥ (rd x0 x3) then (some false) else (impl_rises.l0 k x0 (wrap64 (x3 + 1)))) else (none)) else (none)) else (none)) else (some true)
def impl_rises.f (k : Nat) (l0 : List Int) : Option (Bool) := impl_rises.l0 k l0 1
theorem impl_rises.mono_l : ∀ k, (∀ y0 y1, LeO (impl_rises.l0 k y0 y1) (impl_rises.l0 (k + 1) y0 y1))
 | 0 => fun _ _ r h => by simp [impl_rises.l0] at h
 | k + 1 => by
  have ao := impl_rises.mono_l k
  ·intro y0 y1; unfold impl_rises.l0
   repeat' first | (with_reducible first | apply ao | apply lr | apply ln | apply li | refine lb ?_ fun _ => ?_) | apply ao | apply ln | apply li | refine lb ?_ fun _ => ?_
theorem impl_rises.mono : ∀ a0 k, LeO (impl_rises.f k a0) (impl_rises.f (k + 1) a0) := by
 intro a0 k; have ao := impl_rises.mono_l k; unfold impl_rises.f
 repeat' first | (with_reducible first | apply ao | apply lr | apply ln | apply li | refine lb ?_ fun _ => ?_) | apply ao | apply ln | apply li | refine lb ?_ fun _ => ?_
set_option maxHeartbeats 8000000 in
set_option maxRecDepth 100000 in
theorem impl_rises.calls (k : Nat) (A0 : Option Addr) (c0 : Nat) (l0 : List Int) (r : Bool) (w : World) (au : Kd.C (Kd.int .i64) w A0 l0.length l0) (av : l0.length ≤ c0) (h : impl_rises.f k l0 = some r) :
  Calls Try.prog 31 #[.slice A0 l0.length c0] w fun e w' => e = .returned (.bool r) ∧ Drawn0 w w' := by
 have ap := Aside0.mk au; have aB := Aside0.mk av; clear au av; have H : (impl_rises.l0 k l0 1) = some r := h; clear h; have H' := Aside0.mk H; clear H
 go_enter Try.func31, Try.ntmps31
 go_wp2
 repeat (go_quiet (fail); try go_wp2)
 go_loopg [3] k (fun kq v3 w' => ∃ (aa : Int), v3 = .int .i64 aa ∧ Aside0 (impl_rises.l0 kq l0 aa = some r) ∧ Aside0 (kq ≤ k) ∧ Drawn0 w w')
 case atStart => exact ⟨(1), rs, H', ⟨Nat.le_refl _⟩, by repeat (first | exact Drawn0.refl _ | apply Drawn0.step)⟩
 case round =>
  clear H'; obtain ⟨aa, rfl, HA, aw, ⟨m1, rfl⟩⟩ := hrel
  cases gk with
  | zero => exact absurd HA.out (by simp [impl_rises.l0])
  | succ k1 =>
   have H := HA.out; clear HA; simp only [impl_rises.l0] at H
   by_cases c2 : aa < (l0.length : Int)
   ·rw [if_pos c2] at H; have aq : decide (aa < (l0.length : Int)) = true := decide_eq_true c2; clear c2; obtain ⟨ab, ai⟩ : ∃ j_ : Int, (wrap64 (aa - 1)) = j_ := ⟨_, rfl⟩; replace H : (if 0 ≤ (ab) then (if (ab) < (l0.length : Int) then (if 0 ≤ aa then (if (rd l0 (ab)) ≥ (rd l0 aa) then (some false) else (impl_rises.l0 k1 l0 (wrap64 (aa + 1)))) else (none)) else (none)) else (none)) = some r := by first | (rw [ai] at H; exact H) | (simp only [ai] at H ⊢; exact H)
    have ax : (IntKind.i64.wrap (aa - 1)) = ab := (i64_w _).trans ai
    by_cases c4 : 0 ≤ (ab)
    ·rw [if_pos c4] at H; have ay : decide (0 ≤ (ab)) = true := decide_eq_true c4; clear c4
     by_cases c5 : (ab) < (l0.length : Int)
     ·rw [if_pos c5] at H; have az : decide ((ab) < (l0.length : Int)) = true := decide_eq_true c5; clear c5
      by_cases c6 : 0 ≤ aa
      ·rw [if_pos c6] at H; have aA : decide (0 ≤ aa) = true := decide_eq_true c6; clear c6
       by_cases c7 : (rd l0 (ab)) ≥ (rd l0 aa)
       ·rw [if_pos c7] at H; have ar : decide ((rd l0 aa) ≤ (rd l0 (ab))) = true := decide_eq_true c7; clear c7; obtain rfl := Option.some.inj H; have ac : 0 ≤ ((ab) : Int) := od; have ad : (ab) < (l0.length : Int) := od; obtain ⟨ag, al, aj⟩ := Kd.at_int ap.out (ab) ac ad; cases al; replace ac := eq_true ac; replace ad := eq_true ad; have ae : 0 ≤ (aa : Int) := od; have af : aa < (l0.length : Int) := od; obtain ⟨ah, an, ak⟩ := Kd.at_int ap.out aa ae af; obtain rfl : ag = ah := (by injection an); replace ae := eq_true ae; replace af := eq_true af
        go_wp2
        repeat (go_quiet (fail); try go_wp2)
        go_ret
        exact ⟨by first | rfl | (simp; done) | (simp only [← ai] <;> (first | rfl | simp)) | (simp [*]; done), by repeat (first | exact Drawn0.refl _ | apply Drawn0.step)⟩
       rw [if_neg c7] at H; have ar : decide ((rd l0 aa) ≤ (rd l0 (ab))) = false := decide_eq_false c7; clear c7; have H' := Aside0.mk H; clear H; have ac : 0 ≤ ((ab) : Int) := od; have ad : (ab) < (l0.length : Int) := od; obtain ⟨ag, al, aj⟩ := Kd.at_int ap.out (ab) ac ad; cases al; replace ac := eq_true ac; replace ad := eq_true ad; have ae : 0 ≤ (aa : Int) := od; have af : aa < (l0.length : Int) := od; obtain ⟨ah, an, ak⟩ := Kd.at_int ap.out aa ae af; obtain rfl : ag = ah := (by injection an); replace ae := eq_true ae; replace af := eq_true af
       go_wp2
       repeat (go_quiet (fail); try go_wp2)
       go_roundg k1
       case measure => have := aw.out; omega
       case rel => exact ⟨(wrap64 (aa + 1)), rs, H', ⟨by have := aw.out; omega⟩, by repeat (first | exact Drawn0.refl _ | apply Drawn0.step)⟩
      rw [if_neg c6] at H; exact absurd H (by simp)
     rw [if_neg c5] at H; exact absurd H (by simp)
    rw [if_neg c4] at H; exact absurd H (by simp)
   rw [if_neg c2] at H; have aq : decide (aa < (l0.length : Int)) = false := decide_eq_false c2; clear c2; obtain rfl := Option.some.inj H
   go_wp2
   repeat (go_quiet (fail); try go_wp2)
   go_ret
   exact ⟨by first | rfl | (simp; done) | (simp [*]; done), by repeat (first | exact Drawn0.refl _ | apply Drawn0.step)⟩

/-! ### impl_PoolOk: function 8 -/
mutual
def impl_PoolOk.l0 : Nat → List Int → List (S63) → Int → Int → List Int → Int → List Int → List (S63) → List Int → Option (Bool)
 | 0, _, _, _, _, _, _, _, _, _ => none
 | k + 1, x3, cz, cI, bS, ax, ap, aq, ar, au => if bS < cI then (if 0 ≤ bS then (if bS < (cz.length : Int) then (if x3.length < 17592186044416 then (impl_PoolOk.l0 k (x3 ++ [(rd_T63 cz bS).f0]) cz cI (wrap64 (bS + 1)) ax ap aq ar au) else (none)) else (none)) else (none)) else ((slices_Sort_int_int.f k x3).bind fun an => (impl_PoolOk.l1 k an an (x3.length : Int) 0 ax ap aq ar au))
def impl_PoolOk.l1 : Nat → List Int → List Int → Int → Int → List Int → Int → List Int → List (S63) → List Int → Option (Bool)
 | 0, _, _, _, _, _, _, _, _, _ => none
 | k + 1, x3, cA, cK, bQ, ax, ap, aq, ar, au => if bQ < cK then (if 0 ≤ bQ then (if bQ < (cA.length : Int) then (if (rd cA bQ) = bQ then (impl_PoolOk.l1 k x3 cA cK (wrap64 (bQ + 1)) ax ap aq ar au) else (some false)) else (none)) else (none)) else ((impl_AgesOk.f k ap aq ar).bind fun bG => (if bG = true then ((impl_rises.f k au).bind fun bH => (if bH = true then (some (decide ((x3.length : Int) ≤ 100))) else (some false))) else (some false)))
end
def impl_PoolOk.f (k : Nat) (ai : List Int) (aj : Int) (ah : List Int) (ab : List (S63)) (af : List Int) : Option (Bool) := (impl_copyInts.f ai).bind fun ay => (if ay.length + af.length < 17592186044416 then (impl_PoolOk.l0 k (ay ++ af) ab (ab.length : Int) 0 ai aj ah ab af) else (none))
theorem impl_PoolOk.mono_l : ∀ k, (∀ y0 y1 y2 y3 y4 y5 y6 y7 y8, LeO (impl_PoolOk.l0 k y0 y1 y2 y3 y4 y5 y6 y7 y8) (impl_PoolOk.l0 (k + 1) y0 y1 y2 y3 y4 y5 y6 y7 y8)) ∧ (∀ y0 y1 y2 y3 y4 y5 y6 y7 y8, LeO (impl_PoolOk.l1 k y0 y1 y2 y3 y4 y5 y6 y7 y8) (impl_PoolOk.l1 (k + 1) y0 y1 y2 y3 y4 y5 y6 y7 y8))
 | 0 => ⟨fun _ _ _ _ _ _ _ _ _ r h => by simp [impl_PoolOk.l0] at h, fun _ _ _ _ _ _ _ _ _ r h => by simp [impl_PoolOk.l1] at h⟩
 | k + 1 => by
  obtain ⟨bI, bJ⟩ := impl_PoolOk.mono_l k; refine ⟨?_, ?_⟩
  ·intro y0 y1 y2 y3 y4 y5 y6 y7 y8; unfold impl_PoolOk.l0
   repeat' first | (with_reducible first | apply bI | apply bJ | apply impl_AgesOk.mono | apply impl_rises.mono | apply slices_Sort_int_int.mono | apply lr | apply ln | apply li | refine lb ?_ fun _ => ?_) | apply bI | apply bJ | apply ln | apply li | refine lb ?_ fun _ => ?_
  intro y0 y1 y2 y3 y4 y5 y6 y7 y8; unfold impl_PoolOk.l1
  repeat' first | (with_reducible first | apply bI | apply bJ | apply impl_AgesOk.mono | apply impl_rises.mono | apply slices_Sort_int_int.mono | apply lr | apply ln | apply li | refine lb ?_ fun _ => ?_) | apply bI | apply bJ | apply ln | apply li | refine lb ?_ fun _ => ?_
theorem impl_PoolOk.mono : ∀ a0 a1 a2 a3 a4 k, LeO (impl_PoolOk.f k a0 a1 a2 a3 a4) (impl_PoolOk.f (k + 1) a0 a1 a2 a3 a4) := by
 intro a0 a1 a2 a3 a4 k; obtain ⟨bI, bJ⟩ := impl_PoolOk.mono_l k; unfold impl_PoolOk.f
 repeat' first | (with_reducible first | apply bI | apply bJ | apply impl_AgesOk.mono | apply impl_rises.mono | apply slices_Sort_int_int.mono | apply lr | apply ln | apply li | refine lb ?_ fun _ => ?_) | apply bI | apply bJ | apply ln | apply li | refine lb ?_ fun _ => ?_
set_option maxHeartbeats 8000000 in
set_option maxRecDepth 100000 in
theorem impl_PoolOk.calls (k : Nat) (aI : Option Addr) (aJ : Nat) (ai : List Int) (aj : Int) (az : Option Addr) (aA : Nat) (ah : List Int) (aE : Option Addr) (aC : Nat) (ab : List (S63)) (aU : Option Addr) (aV : Nat) (af : List Int) (r : Bool) (w : World) (bo : Kd.C (Kd.int .i64) w aI ai.length ai) (bq : ai.length ≤ aJ) (br : Kd.C (Kd.int .i64) w az ah.length ah) (bs : ah.length ≤ aA) (bu : Kd.C k63 w aE ab.length ab) (bw : ab.length ≤ aC) (bz : Kd.C (Kd.int .i64) w aU af.length af) (bA : af.length ≤ aV) (h : impl_PoolOk.f k ai aj ah ab af = some r) :
  Calls Try.prog 8 #[.agg #[.slice aI ai.length aJ, .int .i64 aj, .slice az ah.length aA, .slice aE ab.length aC, .slice aU af.length aV]] w fun e w' => e = .returned (.bool r) ∧ Below w.heap.size w w' := by
 have hu28 := Try.underlying28; have hu63 := Try.underlying63; have hu26 := Try.underlying26; have bU := Aside0.mk bo; have bW := Aside0.mk bq; clear bo bq; have a5 := Aside0.mk br; have a6 := Aside0.mk bs; clear br bs; have aY := Aside0.mk bu; have a7 := Aside0.mk bw; clear bu bw; have a8 := Aside0.mk bz; have bC := Aside0.mk bA; clear bz bA; have HB := Aside0.mk (Below.refl w.heap.size w); have H : ((impl_copyInts.f ai).bind fun ay => (if ay.length + af.length < 17592186044416 then (impl_PoolOk.l0 k (ay ++ af) ab (ab.length : Int) 0 ai aj ah ab af) else (none))) = some r := h; clear h; obtain ⟨ay, A2, H⟩ := ob H
 try dsimp only at H
 by_cases c3 : ay.length + af.length < 17592186044416
 ·rw [if_pos c3] at H; have cC := Aside0.mk c3; clear c3; obtain ⟨bZ, aK⟩ : ∃ y_ : List Int, y_ = (ay ++ af) := ⟨_, rfl⟩; rw [← aK] at H; have b0 := Aside0.mk aK; clear aK; have H' := Aside0.mk H; clear H
  go_enter Try.func8, Try.ntmps8
  try go_wp2_with (first | ((with_reducible refine gate_dst (N := 1) rfl ?_); (try (refine gate_guard (by rfl) ?_; dsimp only)); refine bx 1 #[.slice aI ai.length aJ, .int .i64 aj, .slice az ah.length aA, .slice aE ab.length aC, .slice aU af.length aV] 28 ?_; intro aw hg w4 hbox hb; have aa := am hbox; have cM := gs0 hg HB; have ae := gs0 hg HB; replace HB := s0 HB hb; clear hb hbox hg))
  replace aa := eB aa; replace HB := eL HB; refine start_ (n := 7) (S := fun w' => w'.cell? ⟨aw, 0, none⟩ = some (.slice aI ai.length aJ) ∧ w'.cell? ⟨aw, 1, none⟩ = some (.int .i64 aj) ∧ w'.cell? ⟨aw, 2, none⟩ = some (.slice az ah.length aA) ∧ w'.cell? ⟨aw, 3, none⟩ = some (.slice aE ab.length aC) ∧ w'.cell? ⟨aw, 4, none⟩ = some (.slice aU af.length aV)) (ds := []) (bv 7 0x0) (by kernel_rfl) rfl rfl (bq5 aa) (fun hHeld => ?_); generalize w4.drew = w5 at aa HB hHeld ⊢; refine pz 0 8 (bv 7 0x1) ?_
  refine pz 3 11 (bv 7 0x9) ?_
  refine tz hHeld 1 9 (bv 7 0xb) ?_
  refine tz hHeld 4 12 (bv 7 0x1b) ?_
  refine oz 2 (some 10) (bv 7 0x1f) fun K hK => ?_; refine gz Try.func28 #[.slice aI ai.length aJ] ?_
  with_reducible refine (impl_copyInts.calls _ _ ai ay _ ?side1 ?side2 A2.out).mono ?_
  (case side1 => exact cb bU HB)
  (case side2 => exact bW.out)
  rintro e w6 ⟨cD, rfl, cN, hb⟩; refine ⟨_, rfl, ?_⟩; have a9 := rl1 cN HB ae; replace aa := bb aa hb; replace HB := s1 HB ae hb; (try clear hb); (try clear dc); (try clear hk); (try clear hi); (try clear cN); refine hK.out _ _ (bq5 aa) (fun hHeld => ?_); clear hK K; refine nx ?_
  refine oz 5 (some 13) (bv 7 0x3f) fun K hK => ?_; refine Kd.R_append_rows_step (Kd.int .i64) (w0 := w) w.heap.size (by rfl) (.tmp 10) (.tmp 12) 23 3 (.int .i64 0) 8 rfl Try.underlying23 info3 rfl (by decide) (by omega) cD ay af _ _ _ (fun _ => True) (fun _ => False) rfl rfl ?aO ?aR (fun _ _ h => h) (fun _ h => h.elim) ?aF ?aB ?aS ?aL ?_
  (case aR => exact cb a8 HB)
  (case aB => exact (be1 HB ae))
  (case aF => exact (fun _ _ => trivial))
  (case aO => exact (ro a9))
  (case aS => exact (below_size (be1 HB ae)))
  (case aL => have := cC.out; omega)
  intro cY w7 ho hb hg hat; rw [← b0.out] at ho; replace aa := bgr aa hg (Kd.R_ne a9.out aa.out (by decide)); replace HB := Aside0.mk (hb); have b2 := Aside0.mk (ho); clear a9; clear ho hb hg hat; refine hK.out _ _ (bq5 aa) (fun hHeld => ?_); clear hK K; refine nx ?_
  refine pz 6 3 (bv 7 0x7f) ?_
  refine dz ?_; have ba := bz5 aa
  try go_wp2
  go_loopg [3, 18] k (fun kq v3 cZ w' => ∃ (ao : List Int) (ad : Int), cZ = .int .i64 ad ∧ Aside0 (impl_PoolOk.l0 kq ao ab (ab.length : Int) ad ai aj ah ab af = some r) ∧ Aside0 (kq ≤ k) ∧ Aside0 (Kd.R (Kd.int .i64) 3 w' w.heap.size (fun _ => True) v3 ao) ∧ Aside0 (w'.heap[aw]? = some (.cells #[(.slice aI ai.length aJ), .int .i64 aj, (.slice az ah.length aA), (.slice aE ab.length aC), (.slice aU af.length aV)] 28 (0, 0))) ∧ Aside0 (Below w.heap.size w w'))
  case atStart => exact ⟨(bZ), (0), rs, H', ⟨Nat.le_refl _⟩, ⟨ro b2⟩, ⟨bk aa⟩, ⟨be1 HB ae⟩⟩
  case round =>
   clear H'
   try clear c2; try clear p2; try clear c3; try clear c8; try clear ba
   obtain ⟨ao, ad, rfl, HA, cm, ag, aa, HB⟩ := hrel
   cases gk with
   | zero => exact absurd HA.out (by simp [impl_PoolOk.l0])
   | succ k1 =>
    have H := HA.out; clear HA; simp only [impl_PoolOk.l0] at H
    by_cases c9 : ad < (ab.length : Int)
    ·rw [if_pos c9] at H; have b3 : decide (ad < (ab.length : Int)) = true := decide_eq_true c9; clear c9
     by_cases c10 : 0 ≤ ad
     ·rw [if_pos c10] at H; have b4 : decide (0 ≤ ad) = true := decide_eq_true c10; clear c10
      by_cases b5 : ad < (ab.length : Int)
      ·rw [if_pos b5] at H; have b6 : decide (ad < (ab.length : Int)) = true := decide_eq_true b5; clear b5
       by_cases b7 : ao.length < 17592186044416
       ·rw [if_pos b7] at H; have b8 := Aside0.mk b7; clear b7; obtain ⟨b9, aN⟩ : ∃ y_ : List Int, y_ = (ao ++ [(rd_T63 ab ad).f0]) := ⟨_, rfl⟩; rw [← aN] at H; have ca := Aside0.mk aN; clear aN; have H' := Aside0.mk H; clear H; have bi : 0 ≤ (ad : Int) := od; have bj : ad < (ab.length : Int) := od; obtain ⟨cc, cE, aG, aH⟩ := at_T63 aY.out ad bi bj; cases cE; replace aG := hc HB aG; replace aH := hc HB aH; replace bi := eq_true bi; replace bj := eq_true bj
        go_wp2_with (first | ((with_reducible refine gate_dst (N := 5) rfl ?_); (try (refine gate_guard (by rfl) ?_; dsimp only)); refine bx 5 #[.int .i64 0, .int .i64 0] 63 ?_; intro bc hg dd hbox hb; replace ag := rb ag hb; have aQ := am hbox; have cO := gs1 hg HB ae; have bd := gs1 hg HB ae; replace HB := s1 HB ae hb; have aD := nl hg aa; have aZ := ng hg aa; replace aa := bb aa hb; clear hb hbox hg; have cP := aZ.out; have cQ := aD.out; have bm := bz2 aQ) | ((with_reducible refine gate_builtin (b := .append) (xs := #[.tmp 22, .tmp 25]) rfl ?_); (try (refine gate_guard (by rfl) ?_; dsimp only)); at_builtin; refine Kd.R_append (Kd.int .i64) (w0 := w) w.heap.size rfl (.tmp 22) (.tmp 25) 23 3 (.int .i64 0) 8 rfl Try.underlying23 info3 rfl (by decide) (by omega) u3 ao ((rd_T63 ab ad).f0) [.int .i64 ((rd_T63 ab ad).f0)] (fun _ => True) (fun _ => False) rfl (by first | (go_simp; done) | (go_simp; rfl)) ?aP (fun _ hk => hk.elim) ?aF ?aO ?aB ?aS ?aL ?_; (case aP => exact rfl); (case aB => exact (be2 HB ae bd)); (case aF => exact (fun _ _ => trivial)); (case aO => exact (by (with_reducible repeat (first | apply Kd.R_alloc | apply Kd.R_drewN | apply Kd.R_drew)); exact Kd.R_mono (Kd.R_far (p := ⟨bc, 1, none⟩) (Kd.R_far (p := ⟨bc, 0, none⟩) (Kd.R_types ag.out aQ.out (by decide)) (fun _ hk => hk.2) (.int .i64 ((rd_T63 ab ad).f0))) (fun _ hk => hk.2) (.int .i64 ((rd_T63 ab ad).f1))) (fun _ hk => trivial))); (case aS => exact (below_size (be2 HB ae bd))); (case aL => have := b8.out; omega); intro c0 de ho hb hg hat; rw [← ca.out] at ho; replace aa := Aside0.mk (blk_grown (g := aw) (o := .cells #[.slice aI ai.length aJ, .int .i64 aj, .slice az ah.length aA, .slice (some cc) ab.length aC, .slice aU af.length aV] 28 (0, 0)) (bf1 aa aD) hg (Kd.R_ne ag.out aa.out (by decide))); replace aQ := Aside0.mk (blk_grown (g := bc) (o := .cells #[.int .i64 ((rd_T63 ab ad).f0), .int .i64 ((rd_T63 ab ad).f1)] 63 (0, 0)) (bp aQ) hg (Kd.R_ne ag.out aQ.out (by decide))); replace HB := Aside0.mk (hb); have cd := Aside0.mk (ho); clear ag; clear ho hb hg hat))
        go_roundg k1
        case measure => have := cm.out; omega
        case rel => exact ⟨(b9), (wrap64 (ad + 1)), rs, H', ⟨by have := cm.out; omega⟩, ⟨ro cd⟩, ⟨bk aa⟩, ⟨be2 HB ae bd⟩⟩
       rw [if_neg b7] at H; exact absurd H (by simp)
      rw [if_neg b5] at H; exact absurd H (by simp)
     rw [if_neg c10] at H; exact absurd H (by simp)
    rw [if_neg c9] at H; have b3 : decide (ad < (ab.length : Int)) = false := decide_eq_false c9; clear c9; obtain ⟨an, da, H⟩ := ob H
    try dsimp only at H
    have H' := Aside0.mk H; clear H; obtain ⟨bf, bg, cF⟩ := Kd.R_slice ag.out; subst cF
    go_wp2_with (first | ((with_reducible refine gate_callee (f := 29) rfl ?_); refine gl 29 Try.func29 #[.slice bf ao.length bg] ?_; (with_reducible refine (slices_Sort_int_int.calls k1 (fun k_ => some k_ = (.slice bf ao.length bg : Value).ownBlock) (.slice bf ao.length bg) ao an w _ ?side1 ?side2 da.out).mono ?_); (case side1 => exact be1 HB ae); (case side2 => exact Kd.R_tight rfl ag.out); rintro e df ⟨rfl, cS, hb, hkp⟩; refine ⟨_, rfl, ?_⟩; replace aa := Aside0.mk (blk_kept (bk aa) hkp (fun hs_ => (fun e_ => (Kd.R_ne ag.out aa.out (by decide)) e_) hs_)); replace ag := Aside0.mk (Kd.R_reok rfl cS (fun k_ e_ => ag.out.1 k_ e_)); replace HB := Aside0.mk (hb); (try clear hb); (try clear hkp); (try clear cS)))
    go_loopg [32] k1 (fun kq db w' => ∃ (ac : Int), db = .int .i64 ac ∧ Aside0 (impl_PoolOk.l1 kq an an (ao.length : Int) ac ai aj ah ab af = some r) ∧ Aside0 (kq ≤ k1) ∧ Aside0 (Kd.R (Kd.int .i64) 3 w' w.heap.size (fun _ => True) (.slice bf ao.length bg) an) ∧ Aside0 (Kd.R (Kd.int .i64) 3 w' w.heap.size (fun _ => True) (.slice bf ao.length bg) an) ∧ Aside0 (w'.heap[aw]? = some (.cells #[(.slice aI ai.length aJ), .int .i64 aj, (.slice az ah.length aA), (.slice aE ab.length aC), (.slice aU af.length aV)] 28 (0, 0))) ∧ Aside0 (Below w.heap.size w w'))
    case atStart => exact ⟨(0), rs, H', ⟨Nat.le_refl _⟩, ⟨ro ag⟩, ⟨ro ag⟩, ⟨bk aa⟩, ⟨be1 HB ae⟩⟩
    case round =>
     clear H'
     try clear c1; try clear c2; try clear p2; try clear c3; try clear p6; try clear p7; try clear q7; try clear dg; try clear c8; try clear c9; try clear b3; try clear c10; try clear b4; try clear b5; try clear b6; try clear b7; try clear di; try clear bm; try clear ba; try clear aG; try clear aH; try clear p2; try clear bi; try clear bj
     obtain ⟨ac, rfl, HA, cT, ag, al, aa, HB⟩ := hrel; have av := (Kd.R_reads' ag.out).1; rw [av] at ag; (try simp only [av]); (try simp only [av] at aa); (try simp only [av] at al); have ak := (Kd.R_reads' al.out).1; rw [ak] at al; (try simp only [ak]); (try simp only [ak] at aa); (try simp only [ak] at ag)
     cases gk with
     | zero => exact absurd HA.out (by simp [impl_PoolOk.l1])
     | succ k2 =>
      have H := HA.out; clear HA; simp only [impl_PoolOk.l1] at H
      by_cases bR : ac < (ao.length : Int)
      ·rw [if_pos bR] at H; have bh : decide (ac < (ao.length : Int)) = true := decide_eq_true bR; clear bR
       by_cases cn : 0 ≤ ac
       ·rw [if_pos cn] at H; have cU : decide (0 ≤ ac) = true := decide_eq_true cn; clear cn
        by_cases co : ac < (an.length : Int)
        ·rw [if_pos co] at H; have cW : decide (ac < (an.length : Int)) = true := decide_eq_true co; clear co
         by_cases bN : (rd an ac) = ac
         ·rw [if_pos bN] at H; have cf : ((rd an ac) == ac) = true := beq_iff_eq.mpr bN; have cg : ((rd an ac) != ac) = false := bne_eq_false_iff_eq.mpr bN; clear bN; have H' := Aside0.mk H; clear H; have aW : 0 ≤ (ac : Int) := od; have aX : ac < (an.length : Int) := od; obtain ⟨ci, bO, bn⟩ := Kd.at_int (Kd.R_reads' al.out).2.2 ac aW aX; cases bO; replace aW := eq_true aW; replace aX := eq_true aX
          go_wp2
          (try simp only [← av]); (try simp only [← ak])
          go_roundg k2
          case measure => have := cm.out; have := cT.out; omega
          case rel => exact ⟨(wrap64 (ac + 1)), rs, H', ⟨by have := cm.out; have := cT.out; omega⟩, ⟨by (try simp only [av, ak]); (with_reducible repeat (first | apply Kd.R_alloc | apply Kd.R_drewN | apply Kd.R_drew)); exact ag.out⟩, ⟨by (try simp only [av, ak]); (with_reducible repeat (first | apply Kd.R_alloc | apply Kd.R_drewN | apply Kd.R_drew)); exact al.out⟩, ⟨by (try simp only [av, ak]); (with_reducible repeat (first | refine blk_drewN ?_ _ | refine blk_drew ?_ | refine blk_alloc ?_ _)); exact aa.out⟩, ⟨be1 HB ae⟩⟩
         rw [if_neg bN] at H; have cf : ((rd an ac) == ac) = false := beq_eq_false_iff_ne.mpr bN; have cg : ((rd an ac) != ac) = true := bne_iff_ne.mpr bN; obtain rfl := Option.some.inj H; have aW : 0 ≤ (ac : Int) := od; have aX : ac < (an.length : Int) := od; obtain ⟨ci, bO, bn⟩ := Kd.at_int (Kd.R_reads' al.out).2.2 ac aW aX; cases bO; replace aW := eq_true aW; replace aX := eq_true aX
         go_wp2
         go_ret
         exact ⟨er, be1 HB ae⟩
        rw [if_neg co] at H; exact absurd H (by simp)
       rw [if_neg cn] at H; exact absurd H (by simp)
      rw [if_neg bR] at H; have bh : decide (ac < (ao.length : Int)) = false := decide_eq_false bR; (try simp only [av] at bh); (try simp only [ak] at bh); clear bR; obtain ⟨bG, cG, H⟩ := ob H
      try dsimp only at H
      by_cases cp : bG = true
      ·subst cp; rw [if_pos rfl] at H; obtain ⟨bH, cX, H⟩ := ob H
       try dsimp only at H
       by_cases cs : bH = true
       ·subst cs; rw [if_pos rfl] at H; obtain rfl := Option.some.inj H; have ct := bz5 aa
        go_wp2_with (first | ((with_reducible refine gate_callee (f := 30) rfl ?_); refine gl 43 Try.func30 #[.agg #[.int .i64 aj, .slice az ah.length aA, .slice aE ab.length aC]] ?_; (with_reducible refine (impl_AgesOk.calls k2 aj _ _ ah _ _ ab true _ (cb a5 HB) a6.out (cb aY HB) a7.out cG.out).mono ?_); rintro e dj ⟨rfl, hb⟩; refine ⟨_, rfl, ?_⟩; replace ag := rb ag hb; replace al := rb al hb; replace aa := bb aa hb; replace HB := s1 HB ae hb; (try clear hb); have cu := bz5 aa) | (go_at_call 31; (with_reducible refine (impl_rises.calls k2 _ _ af true _ (cb a8 HB) bC.out cX.out).mono ?_); rintro e w' ⟨rfl, ⟨nd, rfl⟩⟩))
        go_ret
        exact ⟨er, be1 HB ae⟩
       replace cs := Bool.eq_false_iff.mpr cs; subst cs; rw [if_neg nf] at H; obtain rfl := Option.some.inj H; have cw := bz5 aa
       go_wp2_with (first | ((with_reducible refine gate_callee (f := 30) rfl ?_); refine gl 43 Try.func30 #[.agg #[.int .i64 aj, .slice az ah.length aA, .slice aE ab.length aC]] ?_; (with_reducible refine (impl_AgesOk.calls k2 aj _ _ ah _ _ ab true _ (cb a5 HB) a6.out (cb aY HB) a7.out cG.out).mono ?_); rintro e dl ⟨rfl, hb⟩; refine ⟨_, rfl, ?_⟩; replace ag := rb ag hb; replace al := rb al hb; replace aa := bb aa hb; replace HB := s1 HB ae hb; (try clear hb); have cx := bz5 aa) | (go_at_call 31; (with_reducible refine (impl_rises.calls k2 _ _ af false _ (cb a8 HB) bC.out cX.out).mono ?_); rintro e w' ⟨rfl, ⟨nd, rfl⟩⟩))
       go_ret
       exact ⟨er, be1 HB ae⟩
      replace cp := Bool.eq_false_iff.mpr cp; subst cp; rw [if_neg nf] at H; obtain rfl := Option.some.inj H; have cy := bz5 aa
      go_wp2_with (first | ((with_reducible refine gate_callee (f := 30) rfl ?_); refine gl 43 Try.func30 #[.agg #[.int .i64 aj, .slice az ah.length aA, .slice aE ab.length aC]] ?_; (with_reducible refine (impl_AgesOk.calls k2 aj _ _ ah _ _ ab false _ (cb a5 HB) a6.out (cb aY HB) a7.out cG.out).mono ?_); rintro e dm ⟨rfl, hb⟩; refine ⟨_, rfl, ?_⟩; replace ag := rb ag hb; replace al := rb al hb; replace aa := bb aa hb; replace HB := s1 HB ae hb; (try clear hb)))
      go_ret
      exact ⟨er, be1 HB ae⟩
 rw [if_neg c3] at H; exact absurd H (by simp)

/-! ### impl_copyAges: function 58 -/
def impl_copyAges.f (ak : Int) (ah : List Int) (af : List (S63)) : Option (Int × List Int × (List (S63))) := (some (([] : List (S63)) : List (S63))).bind fun ag => ((impl_copyInts.f ah).bind fun al => (if ag.length + af.length < 8796093022208 then (some (ak, al, (ag ++ af))) else (none)))
def impl_copyAges.T1 : Bool × List (List Nat × List Nat) := (true, [([], []), ([0], [0]), ([], []), ([2], [2]), ([3], [3]), ([], []), ([5], [5]), ([6, 4], [6]), ([1, 4, 7], [1, 4, 7]), ([8, 7, 0, 1, 2, 3, 4, 5, 6, 7, 8], [8])])
def impl_copyAges.B1 : List Nat := [0, 1, 0, 4, 12, 0, 32, 124, 255, 511]
theorem impl_copyAges.tab1 : rtab .any (opsOf Try.f58 1) = impl_copyAges.T1 := by kernel_rfl
theorem impl_copyAges.bits1 : waitsOk impl_copyAges.T1.2 impl_copyAges.B1 = true := by kernel_rfl
set_option maxHeartbeats 8000000 in
set_option maxRecDepth 100000 in
theorem impl_copyAges.calls (ak : Int) (ar : Option Addr) (au : Nat) (ah : List Int) (aw : Option Addr) (ax : Nat) (af : List (S63)) (r1 : Int) (r2 : List Int) (r3 : List (S63)) (w : World) (ay : Kd.C (Kd.int .i64) w ar ah.length ah) (az : ah.length ≤ au) (aA : Kd.C k63 w aw af.length af) (aC : af.length ≤ ax) (h : impl_copyAges.f ak ah af = some (r1, r2, r3)) :
  Calls Try.prog 58 #[.agg #[.int .i64 ak, .slice ar ah.length au, .slice aw af.length ax]] w fun e w' => ∃ bj bm : Value, e = .returned (.agg #[.int .i64 r1, bj, bm]) ∧ Kd.R (Kd.int .i64) 3 w' w.heap.size (fun _ => True) bj r2 ∧ Kd.R k63 63 w' w.heap.size (fun _ => True) bm r3 ∧ Below w.heap.size w w' := by
 have hu26 := Try.underlying26; have aK := Aside0.mk ay; have aN := Aside0.mk az; clear ay az; have aQ := Aside0.mk aA; have bn := Aside0.mk aC; clear aA aC; have HB := Aside0.mk (Below.refl w.heap.size w); have H : ((some (([] : List (S63)) : List (S63))).bind fun ag => ((impl_copyInts.f ah).bind fun al => (if ag.length + af.length < 8796093022208 then (some (ak, al, (ag ++ af))) else (none)))) = some (r1, r2, r3) := h; clear h; obtain ⟨ag, an, H⟩ := oy H; have aU := Aside0.mk an; clear an; obtain ⟨al, A2, H⟩ := ob H
 by_cases c3 : ag.length + af.length < 8796093022208
 ·rw [if_pos c3] at H; have a8 := Aside0.mk c3; clear c3; obtain ⟨aV, ao⟩ : ∃ y_ : List (S63), y_ = (ag ++ af) := ⟨_, rfl⟩; rw [← ao] at H; have aW := Aside0.mk ao; clear ao; simp only [Option.some.injEq, Prod.mk.injEq] at H; obtain ⟨rfl, rfl, rfl⟩ := H
  go_enter Try.func58, Try.ntmps58
  have ad := Aside0.mk (show Kd.R k63 63 w w.heap.size (fun _ => True) (.slice none 0 0) ag from by rw [aU.out]; exact Kd.R_nil _ _ _ _ _)
  try go_wp2_with (first | ((with_reducible refine gate_dst (N := 1) rfl ?_); refine bx 1 #[.int .i64 ak, .slice ar ah.length au, .slice aw af.length ax] 26 ?_; intro av hg w6 hbox hb; replace ad := rb ad hb; have ab := am hbox; have bq := gs0 hg HB; have aj := gs0 hg HB; replace HB := s0 HB hb; clear hb hbox hg) | ((with_reducible refine gate_dst (N := 2) rfl ?_); refine bx 2 #[.int .i64 0, .slice none 0 0, .slice none 0 0] 26 ?_; intro ae hg w7 hbox hb; replace ad := rb ad hb; have ac := am hbox; have br := gs1 hg HB aj; have ap := gs1 hg HB aj; replace HB := s1 HB aj hb; have aa := nl hg ab; have ai := ng hg ab; replace ab := bb ab hb; clear hb hbox hg))
  replace ad := eR ad; replace ab := eB ab; replace ac := eB ac; replace HB := eL HB; refine start_ (n := 10) (S := fun w' => w'.cell? ⟨av, 0, none⟩ = some (.int .i64 ak) ∧ w'.cell? ⟨av, 1, none⟩ = some (.slice ar ah.length au) ∧ w'.cell? ⟨av, 2, none⟩ = some (.slice aw af.length ax)) (ds := []) (bv 10 0x0) (by kernel_rfl) rfl rfl (bq3 ab) (fun hHeld => ?_); refine with_tabW impl_copyAges.tab1 impl_copyAges.bits1 (fun HT_ HW_ => ?_); generalize w7.drew = w8 at ad ab ac HB hHeld ⊢; refine py HT_ 0 3 (bv 10 0x1) ?_; refine py HT_ 2 5 (bv 10 0x5) ?_; refine py HT_ 5 8 (bv 10 0x25) ?_; refine tk HT_ HW_ hHeld 1 4 (bv 10 0x27) ?_; refine tk HT_ HW_ hHeld 3 6 (bv 10 0x2f) ?_; refine tk HT_ HW_ hHeld 6 9 (bv 10 0x6f) ?_; refine oh HT_ 4 (some 7) (bv 10 0x7f) fun K hK => ?_; refine gz Try.func28 #[.slice ar ah.length au] ?_
  with_reducible refine (impl_copyInts.calls _ _ ah al _ ?side1 ?side2 A2.out).mono ?_
  (case side1 => exact cb aK HB)
  (case side2 => exact aN.out)
  rintro e w9 ⟨bA, rfl, bs, hb⟩; refine ⟨_, rfl, ?_⟩; replace ad := rb ad hb; have aq := rl2 bs HB aj ap; replace ab := bb ab hb; replace ac := bb ac hb; replace HB := s2 HB aj ap hb; (try clear hb); (try clear bH); (try clear hk); (try clear hi); (try clear bs); refine hK.out _ _ (bq3 ab) (fun hHeld => ?_); clear hK K; refine nx ?_
  refine oh HT_ 7 (some 10) (bv 10 0xff) fun K hK => ?_; refine Kd.R_append_rows_step k63 (w0 := w) w.heap.size (by rfl) (.const (.slice none 0 0)) (.tmp 9) 24 63 (.agg #[(.int .i64 0), (.int .i64 0)]) 16 rfl Try.underlying24 info63 rfl (by decide) (by omega) (.slice none 0 0) ag af _ _ _ (fun _ => True) (fun _ => False) rfl rfl ?aO ?aR (fun _ _ h => h) (fun _ h => h.elim) ?aF ?aB ?aS ?aL ?_
  (case aR => exact cb aQ HB)
  (case aB => exact (be2 HB aj ap))
  (case aF => exact (fun _ _ => trivial))
  (case aO => exact (ro ad))
  (case aS => exact (below_size (be2 HB aj ap)))
  (case aL => have := a8.out; omega)
  intro bC a9 ho hb hg hat; rw [← aW.out] at ho; replace ab := bgr ab hg (Kd.R_ne ad.out ab.out (by decide)); replace ac := bgr ac hg (Kd.R_ne ad.out ac.out (by decide)); replace aq := Aside0.mk (Kd.R_over' (ro aq) (Kd.R_typed (ro ad)) (by decide) hg); replace HB := Aside0.mk (hb); have aI := Aside0.mk (ho); clear ad; clear ho hb hg hat; obtain ⟨ba, bc, aY⟩ := Kd.R_slice aI.out; (first | subst aY | (injection aY with aZ bd a0; have bf := aZ.symm; have bg := a0.symm; clear aZ bd a0; subst bf; subst bg)); obtain ⟨bh, bi, a1⟩ := Kd.R_slice aq.out; (first | subst a1 | (injection a1 with aZ bd a0; have bf := aZ.symm; have bg := a0.symm; clear aZ bd a0; subst bf; subst bg)); refine hK.out _ _ (bq3 ab) (fun hHeld => ?_); clear hK K; refine nx ?_
  refine py HT_ 8 11 (bv 10 0x1ff) ?_; refine oh HT_ 9 none (bv 10 0x3ff) fun K hK => ?_; have bD : a9.cell? ⟨ae, 0, none⟩ = some (.int .i64 0) := bc0 ac; have bu := blk_frozen ac.out 0; have a2 := aa.out; have a3 := ai.out; have bF : a9.cell? ⟨ae, 1, none⟩ = some (.slice none 0 0) := bc1 ac; have bw := blk_frozen ac.out 1; have a4 := aa.out; have a5 := ai.out; have bG : a9.cell? ⟨ae, 2, none⟩ = some (.slice none 0 0) := bc2 ac; have bz := blk_frozen ac.out 2; have a6 := aa.out; have a7 := ai.out; refine sk ?_
  refine hK.out _ _ ⟨(cq aa hHeld.1), (cq aa hHeld.2.1), (cq aa hHeld.2.2)⟩ (fun hHeld => ?_); clear hK K; refine dh HT_ ?_
  try go_wp2
  refine bodyPost_ret (results_cell_row rfl _ _ ae 26 #[.int .i64 ak, .slice bh al.length bi, .slice ba aV.length bc] (0, 0) _ rfl (bp ac) Try.underlying26 rfl (by kernel_rfl)) rfl ?_; exact ⟨_, _, er, (rfn aq ac), (rfn aI ac), be2 HB aj ap⟩
 rw [if_neg c3] at H; exact absurd H (by simp)

end Go.Proofs.Ytgkliacflbenfaa.QFnAges
