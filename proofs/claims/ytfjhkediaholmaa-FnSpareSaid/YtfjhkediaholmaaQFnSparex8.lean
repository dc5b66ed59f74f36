-- made by a program of this session (myprint.py)
import Derived.Test.YtfjhkediaholmaaQFnSparex0
import Derived.Test.YtfjhkediaholmaaQFnSparex7
namespace Go.Proofs.Ytfjhkediaholmaa.QFnSpare
open Go.RowKit Go.Proofs.YtfjhkediaholmaaW.PrintWords Go.Proofs.YtfjhkediaholmaaW.PrintLast Go.Proofs.YtfjhkediaholmaaW.PrintMore
attribute [local go_sem] max2_int min2_int max_two min_two max_three min_three max_four min_four   -- for this text's walks alone
set_option linter.unusedVariables false
set_option linter.unusedSimpArgs false

/-! ### spec_ThreeOk: function 17 -/
mutual
def spec_ThreeOk.j0 : Nat → Bool → Int → Int → List (S68) → List (S68) → List Int → Option (Bool)
 | 0, _, _, _, _, _, _ => none
 | k + 1, dS, ay, az, ar, au, ao => if dS = true then (some false) else ((some (([] : List (S68)) : List (S68))).bind fun a7 => (if a7.length + ar.length < 3518437208883 then ((some (a7 ++ ar : List (S68))).bind fun aU => (if aU.length + au.length < 3518437208883 then ((some (aU ++ au : List (S68))).bind fun ae => (spec_ThreeOk.l0 k ae ae (ae.length : Int) 0 ay az ar au ao)) else (none))) else (none)))
def spec_ThreeOk.l0 : Nat → List (S68) → List (S68) → Int → Int → Int → Int → List (S68) → List (S68) → List Int → Option (Bool)
 | 0, _, _, _, _, _, _, _, _, _ => none
 | k + 1, x3, cl, dr, bA, ay, az, ar, au, ao => if bA < dr then (if 0 ≤ bA then (if bA < (cl.length : Int) then ((spec_ItemOk.f k ((rd_T68 cl bA).f0) ((rd_T68 cl bA).f1) ((rd_T68 cl bA).f2)).bind fun cf => (if cf = true then ((spec_l10At.f k x3 ((rd_T68 cl bA).f0)).bind fun aY => (if aY = bA then (spec_ThreeOk.l0 k x3 cl dr (wrap64 (bA + 1)) ay az ar au ao) else (some false))) else (some false))) else (none)) else (none)) else (spec_ThreeOk.l1 k ao (ao.length : Int) 0 ay az ar au ao)
def spec_ThreeOk.l1 : Nat → List Int → Int → Int → Int → Int → List (S68) → List (S68) → List Int → Option (Bool)
 | 0, _, _, _, _, _, _, _, _ => none
 | k + 1, cX, dt, bO, ay, az, ar, au, ao => if bO < dt then (if 0 ≤ bO then (if bO < (cX.length : Int) then ((spec_l01Num.f (rd cX bO)).bind fun cg => (if cg = true then (if bO ≤ (ao.length : Int) then ((spec_l03Has.f k (ao.take (bO : Int).toNat) (rd cX bO)).bind fun ci => (if ci = true then (some false) else (spec_ThreeOk.l1 k cX dt (wrap64 (bO + 1)) ay az ar au ao))) else (none)) else (some false))) else (none)) else (none)) else (some true)
end
def spec_ThreeOk.f (k : Nat) (ag : Int) (ak : Int) (ai : List (S68)) (ah : List (S68)) (ac : List Int) : Option (Bool) := (spec_l01In.f ag 1 60).bind fun bg => (if bg = true then ((spec_l01In.f ak 1 ag).bind fun bh => (if bh = true then (if (wrap64 ((ai.length : Int) + (ah.length : Int))) > ag then (spec_ThreeOk.j0 k true ag ak ai ah ac) else ((spec_l10Ghosts.f ag ak ai ah ac).bind fun bf => (spec_ThreeOk.j0 k (decide ((ac.length : Int) > bf)) ag ak ai ah ac))) else (spec_ThreeOk.j0 k true ag ak ai ah ac))) else (spec_ThreeOk.j0 k true ag ak ai ah ac))
theorem spec_ThreeOk.mono_l : ∀ k, (∀ y0 y1 y2 y3 y4 y5, LeO (spec_ThreeOk.j0 k y0 y1 y2 y3 y4 y5) (spec_ThreeOk.j0 (k + 1) y0 y1 y2 y3 y4 y5)) ∧ (∀ y0 y1 y2 y3 y4 y5 y6 y7 y8, LeO (spec_ThreeOk.l0 k y0 y1 y2 y3 y4 y5 y6 y7 y8) (spec_ThreeOk.l0 (k + 1) y0 y1 y2 y3 y4 y5 y6 y7 y8)) ∧ (∀ y0 y1 y2 y3 y4 y5 y6 y7, LeO (spec_ThreeOk.l1 k y0 y1 y2 y3 y4 y5 y6 y7) (spec_ThreeOk.l1 (k + 1) y0 y1 y2 y3 y4 y5 y6 y7))
 | 0 => ⟨fun _ _ _ _ _ _ r h => by simp [spec_ThreeOk.j0] at h, fun _ _ _ _ _ _ _ _ _ r h => by simp [spec_ThreeOk.l0] at h, fun _ _ _ _ _ _ _ _ r h => by simp [spec_ThreeOk.l1] at h⟩
 | k + 1 => by
  obtain ⟨bC, bD, bF⟩ := spec_ThreeOk.mono_l k; refine ⟨?_, ?_, ?_⟩
  ·intro y0 y1 y2 y3 y4 y5; unfold spec_ThreeOk.j0
   repeat' first | (with_reducible first | apply bC | apply bD | apply bF | apply spec_ItemOk.mono | apply spec_l03Has.mono | apply spec_l10At.mono | apply lr | apply ln | apply li | refine lb ?_ fun _ => ?_) | apply bC | apply bD | apply bF | apply ln | apply li | refine lb ?_ fun _ => ?_
  ·intro y0 y1 y2 y3 y4 y5 y6 y7 y8; unfold spec_ThreeOk.l0
   repeat' first | (with_reducible first | apply bC | apply bD | apply bF | apply spec_ItemOk.mono | apply spec_l03Has.mono | apply spec_l10At.mono | apply lr | apply ln | apply li | refine lb ?_ fun _ => ?_) | apply bC | apply bD | apply bF | apply ln | apply li | refine lb ?_ fun _ => ?_
  intro y0 y1 y2 y3 y4 y5 y6 y7; unfold spec_ThreeOk.l1
  repeat' first | (with_reducible first | apply bC | apply bD | apply bF | apply spec_ItemOk.mono | apply spec_l03Has.mono | apply spec_l10At.mono | apply lr | apply ln | apply li | refine lb ?_ fun _ => ?_) | apply bC | apply bD | apply bF | apply ln | apply li | refine lb ?_ fun _ => ?_
theorem spec_ThreeOk.mono : ∀ a0 a1 a2 a3 a4 k, LeO (spec_ThreeOk.f k a0 a1 a2 a3 a4) (spec_ThreeOk.f (k + 1) a0 a1 a2 a3 a4) := by
 intro a0 a1 a2 a3 a4 k; obtain ⟨bC, bD, bF⟩ := spec_ThreeOk.mono_l k; unfold spec_ThreeOk.f
 repeat' first | (with_reducible first | apply bC | apply bD | apply bF | apply spec_ItemOk.mono | apply spec_l03Has.mono | apply spec_l10At.mono | apply lr | apply ln | apply li | refine lb ?_ fun _ => ?_) | apply bC | apply bD | apply bF | apply ln | apply li | refine lb ?_ fun _ => ?_
def spec_ThreeOk.T1 : Bool × List (List Nat × List Nat) := (true, [([], []), ([0], [0]), ([1], [1]), ([2], [2]), ([3, 2], [3]), ([4], [4]), ([5, 4], [4, 5]), ([4], [4]), ([7, 4], [4, 7]), ([6, 8, 4, 4], [4, 6, 8]), ([9, 4], [4, 9]), ([4, 10], [4, 10]), ([11, 9], [11]), ([12], [12]), ([13, 12], [12, 13]), ([14, 12], [12, 14]), ([12], [12]), ([16, 12], [12, 16]), ([17, 12], [12, 17]), ([15, 18, 12], [12, 15, 18]), ([12], [12]), ([20, 12], [12, 20]), ([19, 21, 12], [12, 19, 21]), ([12, 22], [12, 22]), ([23, 12], [23]), ([24], [24]), ([25, 24], [24, 25]), ([26, 24], [24, 26]), ([24], [24]), ([28, 24, 24], [24, 28]), ([27, 29, 24], [24, 27, 29]), ([24, 30], [24, 30])])
def spec_ThreeOk.B1 : List Nat := [0, 1, 3, 7, 15, 31, 63, 31, 159, 511, 1023, 2047, 4095, 8191, 16383, 32767, 8191, 73727, 204799, 524287, 8191, 1056767, 4194303, 8388607, 16777215, 33554431, 67108863, 134217727, 33554431, 301989887, 1073741823, 2147483647]
theorem spec_ThreeOk.tab1 : rtab .any (opsOf Try.f17 1) = spec_ThreeOk.T1 := by kernel_rfl
theorem spec_ThreeOk.bits1 : waitsOk spec_ThreeOk.T1.2 spec_ThreeOk.B1 = true := by kernel_rfl
def spec_ThreeOk.T3 : Bool × List (List Nat × List Nat) := (true, [([], []), ([], []), ([1], [1]), ([0, 2], [0, 2]), ([], []), ([4], [4]), ([3, 5, 3], [3, 5]), ([6, 6, 0, 1, 2, 3, 4, 5, 6], [6])])
def spec_ThreeOk.B3 : List Nat := [0, 0, 2, 7, 0, 16, 63, 127]
theorem spec_ThreeOk.tab3 : rtab .any (opsOf Try.f17 3) = spec_ThreeOk.T3 := by kernel_rfl
theorem spec_ThreeOk.bits3 : waitsOk spec_ThreeOk.T3.2 spec_ThreeOk.B3 = true := by kernel_rfl
set_option maxHeartbeats 8000000 in
set_option maxRecDepth 100000 in
theorem spec_ThreeOk.calls (k : Nat) (ag : Int) (ak : Int) (aG : Option Addr) (aH : Nat) (ai : List (S68)) (aI : Option Addr) (aJ : Nat) (ah : List (S68)) (aK : Option Addr) (aC : Nat) (ac : List Int) (r : Bool) (w : World) (bQ : Kd.C k68 w aG ai.length ai) (bR : ai.length ≤ aH) (bS : Kd.C k68 w aI ah.length ah) (bU : ah.length ≤ aJ) (bW : Kd.C (Kd.int .i64) w aK ac.length ac) (bZ : ac.length ≤ aC) (h : spec_ThreeOk.f k ag ak ai ah ac = some r) :
  Calls Try.prog 17 #[.agg #[.int .i64 ag, .int .i64 ak, .slice aG ai.length aH, .slice aI ah.length aJ, .slice aK ac.length aC]] w fun e w' => e = .returned (.bool r) ∧ Below w.heap.size w w' := by
 have hu30 := Try.underlying30; have hu68 := Try.underlying68; have b0 := Aside0.mk bQ; have cs := Aside0.mk bR; clear bQ bR; have b1 := Aside0.mk bS; have ct := Aside0.mk bU; clear bS bU; have aX := Aside0.mk bW; have bi := Aside0.mk bZ; clear bW bZ; have HB := Aside0.mk (Below.refl w.heap.size w); have H : ((spec_l01In.f ag 1 60).bind fun bg => (if bg = true then ((spec_l01In.f ak 1 ag).bind fun bh => (if bh = true then (if (wrap64 ((ai.length : Int) + (ah.length : Int))) > ag then (spec_ThreeOk.j0 k true ag ak ai ah ac) else ((spec_l10Ghosts.f ag ak ai ah ac).bind fun bf => (spec_ThreeOk.j0 k (decide ((ac.length : Int) > bf)) ag ak ai ah ac))) else (spec_ThreeOk.j0 k true ag ak ai ah ac))) else (spec_ThreeOk.j0 k true ag ak ai ah ac))) = some r := h; clear h; have df := Aside0.mk H; clear H
 go_enter Try.func17, Try.ntmps17
 go_upto_region 1 with (first | ((with_reducible refine gate_dst (N := 1) rfl ?_); (try (refine gate_guard (by rfl) ?_; dsimp only)); refine bx 1 #[.int .i64 ag, .int .i64 ak, .slice aG ai.length aH, .slice aI ah.length aJ, .slice aK ac.length aC] 30 ?_; intro aj hg w3 hbox hb; have aa := am hbox; have du := gs0 hg HB; have af := gs0 hg HB; replace HB := s0 HB hb; clear hb hbox hg))
 (try simp only [Act.put, List.setIfInBounds_toArray, List.set_cons_zero, List.set_cons_succ])
 go_cut [39] (fun dT wc => ∃ (kq : Nat) (bc : Bool), dT = .bool bc ∧ Aside0 (spec_ThreeOk.j0 kq bc ag ak ai ah ac = some r) ∧ Aside0 (kq ≤ k) ∧ Aside0 (wc.heap[aj]? = some (.cells #[.int .i64 ag, .int .i64 ak, (.slice aG ai.length aH), (.slice aI ah.length aJ), (.slice aK ac.length aC)] 30 (0, 0))) ∧ Aside0 (Below w.heap.size w wc))
 case first =>
  have H := df.out; clear df; obtain ⟨bg, A4, H⟩ := ob H
  try dsimp only at H
  by_cases c5 : bg = true
  ·subst c5; rw [if_pos rfl] at H; obtain ⟨bh, A6, H⟩ := ob H
   try dsimp only at H
   by_cases c7 : bh = true
   ·subst c7; rw [if_pos rfl] at H
    by_cases c8 : (wrap64 ((ai.length : Int) + (ah.length : Int))) > ag
    ·rw [if_pos c8] at H; have bj : decide (ag < (wrap64 ((ai.length : Int) + (ah.length : Int)))) = true := decide_eq_true c8; clear c8; (first | rw [bj] | (simp only [i64_w, i32_w]; rw [bj]) | skip); have H' := Aside0.mk H; clear H
     try go_wp2
     replace aa := eB aa; replace HB := eL HB; refine start_ (n := 32) (S := fun w' => w'.cell? ⟨aj, 0, none⟩ = some (.int .i64 ag) ∧ w'.cell? ⟨aj, 1, none⟩ = some (.int .i64 ak) ∧ w'.cell? ⟨aj, 2, none⟩ = some (.slice aG ai.length aH) ∧ w'.cell? ⟨aj, 3, none⟩ = some (.slice aI ah.length aJ) ∧ w'.cell? ⟨aj, 4, none⟩ = some (.slice aK ac.length aC)) (ds := []) (bv 32 0x0) (by kernel_rfl) rfl rfl (bq5 aa) (fun hHeld => ?_); refine with_tabW spec_ThreeOk.tab1 spec_ThreeOk.bits1 (fun HT_ HW_ => ?_); generalize w3.drew = w9 at aa HB hHeld ⊢; refine py HT_ 0 8 (bv 32 0x1) ?_; refine tk HT_ HW_ hHeld 1 9 (bv 32 0x3) ?_; refine oh HT_ 2 (some 10) (bv 32 0x7) fun K hK => ?_; refine gz Try.func56 #[.int .i64 ag, .int .i64 1, .int .i64 60] ?_
     with_reducible refine (spec_l01In.calls ag 1 60 true _ A4.out).mono ?_
     rintro e w' ⟨rfl, ⟨nd, rfl⟩⟩; refine ⟨_, rfl, ?_⟩; refine hK.out _ _ (bq5 aa) (fun hHeld => ?_); clear hK K; refine nx ?_
     refine py HT_ 3 11 (bv 32 0xf) ?_; refine py HT_ 4 12 (bv 32 0x1f) ?_; refine py HT_ 5 13 (bv 32 0x3f) ?_; refine py HT_ 7 15 (bv 32 0xbf) ?_; refine tk HT_ HW_ hHeld 6 14 (bv 32 0xff) ?_; refine tk HT_ HW_ hHeld 8 16 (bv 32 0x1ff) ?_; refine oh HT_ 9 (some 17) (bv 32 0x3ff) fun K hK => ?_; refine gz Try.func56 #[.int .i64 ak, .int .i64 1, .int .i64 ag] ?_
     with_reducible refine (spec_l01In.calls ak 1 ag true _ A6.out).mono ?_
     rintro e w' ⟨rfl, ⟨nd, rfl⟩⟩; refine ⟨_, rfl, ?_⟩; refine hK.out _ _ (bq5 aa) (fun hHeld => ?_); clear hK K; refine nx ?_
     refine py HT_ 10 18 (bv 32 0x7ff) ?_; refine py HT_ 11 19 (bv 32 0xfff) ?_; refine py HT_ 12 20 (bv 32 0x1fff) ?_; refine py HT_ 13 21 (bv 32 0x3fff) ?_; refine py HT_ 16 24 (bv 32 0x13fff) ?_; refine py HT_ 20 28 (bv 32 0x113fff) ?_; refine tk HT_ HW_ hHeld 14 22 (bv 32 0x117fff) ?_; refine py HT_ 15 23 (bv 32 0x11ffff) ?_; refine tk HT_ HW_ hHeld 17 25 (bv 32 0x13ffff) ?_; refine py HT_ 18 26 (bv 32 0x17ffff) ?_; refine py HT_ 19 27 (bv 32 0x1fffff) ?_; refine tk HT_ HW_ hHeld 21 29 (bv 32 0x3fffff) ?_; refine py HT_ 22 30 (bv 32 0x7fffff) ?_; refine py HT_ 23 31 (bv 32 0xffffff) ?_; refine py HT_ 24 32 (bv 32 0x1ffffff) ?_; refine pu HT_ 25 33 (bv 32 0x3ffffff) ?_; refine pu HT_ 26 34 (bv 32 0x7ffffff) ?_; refine pu HT_ 27 35 (bv 32 0xfffffff) ?_; refine pu HT_ 28 36 (bv 32 0x1fffffff) ?_; refine pu HT_ 29 37 (bv 32 0x3fffffff) ?_; refine pu HT_ 30 38 (bv 32 0x7fffffff) ?_; refine py HT_ 31 39 (bv 32 0xffffffff) ?_; refine dh HT_ ?_
     try go_wp2
     go_meet
     case rel => exact ⟨_, (true), rs, H', ⟨by first | omega | exact Nat.le_refl _⟩, ⟨bk aa⟩, ⟨be1 HB af⟩⟩
    rw [if_neg c8] at H; have bj : decide (ag < (wrap64 ((ai.length : Int) + (ah.length : Int)))) = false := decide_eq_false c8; clear c8; (first | rw [bj] | (simp only [i64_w, i32_w]; rw [bj]) | skip); obtain ⟨bf, dU, H⟩ := ob H
    try dsimp only at H
    have H' := Aside0.mk H; clear H
    try go_wp2
    replace aa := eB aa; replace HB := eL HB; refine start_ (n := 32) (S := fun w' => w'.cell? ⟨aj, 0, none⟩ = some (.int .i64 ag) ∧ w'.cell? ⟨aj, 1, none⟩ = some (.int .i64 ak) ∧ w'.cell? ⟨aj, 2, none⟩ = some (.slice aG ai.length aH) ∧ w'.cell? ⟨aj, 3, none⟩ = some (.slice aI ah.length aJ) ∧ w'.cell? ⟨aj, 4, none⟩ = some (.slice aK ac.length aC)) (ds := []) (bv 32 0x0) (by kernel_rfl) rfl rfl (bq5 aa) (fun hHeld => ?_); refine with_tabW spec_ThreeOk.tab1 spec_ThreeOk.bits1 (fun HT_ HW_ => ?_); generalize w3.drew = d8 at aa HB hHeld ⊢; refine py HT_ 0 8 (bv 32 0x1) ?_; refine tk HT_ HW_ hHeld 1 9 (bv 32 0x3) ?_; refine oh HT_ 2 (some 10) (bv 32 0x7) fun K hK => ?_; refine gz Try.func56 #[.int .i64 ag, .int .i64 1, .int .i64 60] ?_
    with_reducible refine (spec_l01In.calls ag 1 60 true _ A4.out).mono ?_
    rintro e w' ⟨rfl, ⟨nd, rfl⟩⟩; refine ⟨_, rfl, ?_⟩; refine hK.out _ _ (bq5 aa) (fun hHeld => ?_); clear hK K; refine nx ?_
    refine py HT_ 3 11 (bv 32 0xf) ?_; refine py HT_ 4 12 (bv 32 0x1f) ?_; refine py HT_ 5 13 (bv 32 0x3f) ?_; refine py HT_ 7 15 (bv 32 0xbf) ?_; refine tk HT_ HW_ hHeld 6 14 (bv 32 0xff) ?_; refine tk HT_ HW_ hHeld 8 16 (bv 32 0x1ff) ?_; refine oh HT_ 9 (some 17) (bv 32 0x3ff) fun K hK => ?_; refine gz Try.func56 #[.int .i64 ak, .int .i64 1, .int .i64 ag] ?_
    with_reducible refine (spec_l01In.calls ak 1 ag true _ A6.out).mono ?_
    rintro e w' ⟨rfl, ⟨nd, rfl⟩⟩; refine ⟨_, rfl, ?_⟩; refine hK.out _ _ (bq5 aa) (fun hHeld => ?_); clear hK K; refine nx ?_
    refine py HT_ 10 18 (bv 32 0x7ff) ?_; refine py HT_ 11 19 (bv 32 0xfff) ?_; refine py HT_ 12 20 (bv 32 0x1fff) ?_; refine py HT_ 13 21 (bv 32 0x3fff) ?_; refine py HT_ 16 24 (bv 32 0x13fff) ?_; refine py HT_ 20 28 (bv 32 0x113fff) ?_; refine tk HT_ HW_ hHeld 14 22 (bv 32 0x117fff) ?_; refine py HT_ 15 23 (bv 32 0x11ffff) ?_; refine tk HT_ HW_ hHeld 17 25 (bv 32 0x13ffff) ?_; refine py HT_ 18 26 (bv 32 0x17ffff) ?_; refine py HT_ 19 27 (bv 32 0x1fffff) ?_; refine tk HT_ HW_ hHeld 21 29 (bv 32 0x3fffff) ?_; refine py HT_ 22 30 (bv 32 0x7fffff) ?_; refine py HT_ 23 31 (bv 32 0xffffff) ?_; refine py HT_ 24 32 (bv 32 0x1ffffff) ?_; refine py HT_ 25 33 (bv 32 0x3ffffff) ?_; refine tk HT_ HW_ hHeld 26 34 (bv 32 0x7ffffff) ?_; refine py HT_ 27 35 (bv 32 0xfffffff) ?_; refine tk HT_ HW_ hHeld 28 36 (bv 32 0x1fffffff) ?_; refine oh HT_ 29 (some 37) (bv 32 0x3fffffff) fun K hK => ?_; refine gz Try.func57 #[.agg #[.int .i64 ag, .int .i64 ak, .slice aG ai.length aH, .slice aI ah.length aJ, .slice aK ac.length aC]] ?_
    with_reducible refine (spec_l10Ghosts.calls ag ak _ _ ai _ _ ah _ _ ac bf _ ?side1 ?side2 ?side3 ?side4 ?side5 ?side6 dU.out).mono ?_
    (case side1 => repeat (first | exact (Kd.C_below b0.out (be1 HB af)) | (with_reducible refine Kd.C_alloc ?_ _) | (with_reducible refine Kd.C_drewN ?_ _) | (with_reducible refine Kd.C_drew ?_)))
    (case side2 => exact cs.out)
    (case side3 => repeat (first | exact (Kd.C_below b1.out (be1 HB af)) | (with_reducible refine Kd.C_alloc ?_ _) | (with_reducible refine Kd.C_drewN ?_ _) | (with_reducible refine Kd.C_drew ?_)))
    (case side4 => exact ct.out)
    (case side5 => repeat (first | exact (Kd.C_below aX.out (be1 HB af)) | (with_reducible refine Kd.C_alloc ?_ _) | (with_reducible refine Kd.C_drewN ?_ _) | (with_reducible refine Kd.C_drew ?_)))
    (case side6 => exact bi.out)
    rintro e d9 ⟨rfl, hb⟩; refine ⟨_, rfl, ?_⟩; replace aa := bb aa hb; replace HB := s1 HB af hb; (try clear hb); (try clear ea); (try clear hk); (try clear hi); refine hK.out _ _ (bq5 aa) (fun hHeld => ?_); clear hK K; refine nx ?_
    refine py HT_ 30 38 (bv 32 0x7fffffff) ?_; refine py HT_ 31 39 (bv 32 0xffffffff) ?_; refine dh HT_ ?_
    try go_wp2
    go_meet
    case rel => exact ⟨_, (decide ((ac.length : Int) > bf)), rs, H', ⟨by first | omega | exact Nat.le_refl _⟩, ⟨bk aa⟩, ⟨be1 HB af⟩⟩
   replace c7 := Bool.eq_false_iff.mpr c7; subst c7; rw [if_neg nf] at H; have H' := Aside0.mk H; clear H
   try go_wp2
   replace aa := eB aa; replace HB := eL HB; refine start_ (n := 32) (S := fun w' => w'.cell? ⟨aj, 0, none⟩ = some (.int .i64 ag) ∧ w'.cell? ⟨aj, 1, none⟩ = some (.int .i64 ak) ∧ w'.cell? ⟨aj, 2, none⟩ = some (.slice aG ai.length aH) ∧ w'.cell? ⟨aj, 3, none⟩ = some (.slice aI ah.length aJ) ∧ w'.cell? ⟨aj, 4, none⟩ = some (.slice aK ac.length aC)) (ds := []) (bv 32 0x0) (by kernel_rfl) rfl rfl (bq5 aa) (fun hHeld => ?_); refine with_tabW spec_ThreeOk.tab1 spec_ThreeOk.bits1 (fun HT_ HW_ => ?_); generalize w3.drew = eb at aa HB hHeld ⊢; refine py HT_ 0 8 (bv 32 0x1) ?_; refine tk HT_ HW_ hHeld 1 9 (bv 32 0x3) ?_; refine oh HT_ 2 (some 10) (bv 32 0x7) fun K hK => ?_; refine gz Try.func56 #[.int .i64 ag, .int .i64 1, .int .i64 60] ?_
   with_reducible refine (spec_l01In.calls ag 1 60 true _ A4.out).mono ?_
   rintro e w' ⟨rfl, ⟨nd, rfl⟩⟩; refine ⟨_, rfl, ?_⟩; refine hK.out _ _ (bq5 aa) (fun hHeld => ?_); clear hK K; refine nx ?_
   refine py HT_ 3 11 (bv 32 0xf) ?_; refine py HT_ 4 12 (bv 32 0x1f) ?_; refine py HT_ 5 13 (bv 32 0x3f) ?_; refine py HT_ 7 15 (bv 32 0xbf) ?_; refine tk HT_ HW_ hHeld 6 14 (bv 32 0xff) ?_; refine tk HT_ HW_ hHeld 8 16 (bv 32 0x1ff) ?_; refine oh HT_ 9 (some 17) (bv 32 0x3ff) fun K hK => ?_; refine gz Try.func56 #[.int .i64 ak, .int .i64 1, .int .i64 ag] ?_
   with_reducible refine (spec_l01In.calls ak 1 ag false _ A6.out).mono ?_
   rintro e w' ⟨rfl, ⟨nd, rfl⟩⟩; refine ⟨_, rfl, ?_⟩; refine hK.out _ _ (bq5 aa) (fun hHeld => ?_); clear hK K; refine nx ?_
   refine py HT_ 10 18 (bv 32 0x7ff) ?_; refine py HT_ 11 19 (bv 32 0xfff) ?_; refine py HT_ 12 20 (bv 32 0x1fff) ?_; refine pu HT_ 13 21 (bv 32 0x3fff) ?_; refine pu HT_ 14 22 (bv 32 0x7fff) ?_; refine pu HT_ 15 23 (bv 32 0xffff) ?_; refine pu HT_ 16 24 (bv 32 0x1ffff) ?_; refine pu HT_ 17 25 (bv 32 0x3ffff) ?_; refine pu HT_ 18 26 (bv 32 0x7ffff) ?_; refine pu HT_ 19 27 (bv 32 0xfffff) ?_; refine pu HT_ 20 28 (bv 32 0x1fffff) ?_; refine pu HT_ 21 29 (bv 32 0x3fffff) ?_; refine pu HT_ 22 30 (bv 32 0x7fffff) ?_; refine py HT_ 23 31 (bv 32 0xffffff) ?_; refine py HT_ 24 32 (bv 32 0x1ffffff) ?_; refine pu HT_ 25 33 (bv 32 0x3ffffff) ?_; refine pu HT_ 26 34 (bv 32 0x7ffffff) ?_; refine pu HT_ 27 35 (bv 32 0xfffffff) ?_; refine pu HT_ 28 36 (bv 32 0x1fffffff) ?_; refine pu HT_ 29 37 (bv 32 0x3fffffff) ?_; refine pu HT_ 30 38 (bv 32 0x7fffffff) ?_; refine py HT_ 31 39 (bv 32 0xffffffff) ?_; refine dh HT_ ?_
   try go_wp2
   go_meet
   case rel => exact ⟨_, (true), rs, H', ⟨by first | omega | exact Nat.le_refl _⟩, ⟨bk aa⟩, ⟨be1 HB af⟩⟩
  replace c5 := Bool.eq_false_iff.mpr c5; subst c5; rw [if_neg nf] at H; have H' := Aside0.mk H; clear H
  try go_wp2
  replace aa := eB aa; replace HB := eL HB; refine start_ (n := 32) (S := fun w' => w'.cell? ⟨aj, 0, none⟩ = some (.int .i64 ag) ∧ w'.cell? ⟨aj, 1, none⟩ = some (.int .i64 ak) ∧ w'.cell? ⟨aj, 2, none⟩ = some (.slice aG ai.length aH) ∧ w'.cell? ⟨aj, 3, none⟩ = some (.slice aI ah.length aJ) ∧ w'.cell? ⟨aj, 4, none⟩ = some (.slice aK ac.length aC)) (ds := []) (bv 32 0x0) (by kernel_rfl) rfl rfl (bq5 aa) (fun hHeld => ?_); refine with_tabW spec_ThreeOk.tab1 spec_ThreeOk.bits1 (fun HT_ HW_ => ?_); generalize w3.drew = ec at aa HB hHeld ⊢; refine py HT_ 0 8 (bv 32 0x1) ?_; refine tk HT_ HW_ hHeld 1 9 (bv 32 0x3) ?_; refine oh HT_ 2 (some 10) (bv 32 0x7) fun K hK => ?_; refine gz Try.func56 #[.int .i64 ag, .int .i64 1, .int .i64 60] ?_
  with_reducible refine (spec_l01In.calls ag 1 60 false _ A4.out).mono ?_
  rintro e w' ⟨rfl, ⟨nd, rfl⟩⟩; refine ⟨_, rfl, ?_⟩; refine hK.out _ _ (bq5 aa) (fun hHeld => ?_); clear hK K; refine nx ?_
  refine py HT_ 3 11 (bv 32 0xf) ?_; refine py HT_ 4 12 (bv 32 0x1f) ?_; refine pu HT_ 5 13 (bv 32 0x3f) ?_; refine pu HT_ 6 14 (bv 32 0x7f) ?_; refine pu HT_ 7 15 (bv 32 0xff) ?_; refine pu HT_ 8 16 (bv 32 0x1ff) ?_; refine pu HT_ 9 17 (bv 32 0x3ff) ?_; refine pu HT_ 10 18 (bv 32 0x7ff) ?_; refine py HT_ 11 19 (bv 32 0xfff) ?_; refine py HT_ 12 20 (bv 32 0x1fff) ?_; refine pu HT_ 13 21 (bv 32 0x3fff) ?_; refine pu HT_ 14 22 (bv 32 0x7fff) ?_; refine pu HT_ 15 23 (bv 32 0xffff) ?_; refine pu HT_ 16 24 (bv 32 0x1ffff) ?_; refine pu HT_ 17 25 (bv 32 0x3ffff) ?_; refine pu HT_ 18 26 (bv 32 0x7ffff) ?_; refine pu HT_ 19 27 (bv 32 0xfffff) ?_; refine pu HT_ 20 28 (bv 32 0x1fffff) ?_; refine pu HT_ 21 29 (bv 32 0x3fffff) ?_; refine pu HT_ 22 30 (bv 32 0x7fffff) ?_; refine py HT_ 23 31 (bv 32 0xffffff) ?_; refine py HT_ 24 32 (bv 32 0x1ffffff) ?_; refine pu HT_ 25 33 (bv 32 0x3ffffff) ?_; refine pu HT_ 26 34 (bv 32 0x7ffffff) ?_; refine pu HT_ 27 35 (bv 32 0xfffffff) ?_; refine pu HT_ 28 36 (bv 32 0x1fffffff) ?_; refine pu HT_ 29 37 (bv 32 0x3fffffff) ?_; refine pu HT_ 30 38 (bv 32 0x7fffffff) ?_; refine py HT_ 31 39 (bv 32 0xffffffff) ?_; refine dh HT_ ?_
  try go_wp2
  go_meet
  case rel => exact ⟨_, (true), rs, H', ⟨by first | omega | exact Nat.le_refl _⟩, ⟨bk aa⟩, ⟨be1 HB af⟩⟩
 case rest =>
  clear df
  try clear p2; try clear c5; try clear c7
  obtain ⟨kq, bc, rfl, HA, cY, aa, HB⟩ := hcut
  cases kq with
  | zero => exact absurd HA.out (by simp [spec_ThreeOk.j0])
  | succ cw =>
   have H := HA.out; clear HA; simp only [spec_ThreeOk.j0] at H
   by_cases cm : bc = true
   ·subst cm; rw [if_pos rfl] at H; obtain rfl := Option.some.inj H
    go_wp2
    go_ret
    exact ⟨er, be1 HB af⟩
   replace cm := Bool.eq_false_iff.mpr cm; subst cm; rw [if_neg nf] at H; obtain ⟨a7, a8, H⟩ := oy H; have b2 := Aside0.mk a8; clear a8
   by_cases cn : a7.length + ai.length < 3518437208883
   ·rw [if_pos cn] at H; have cx := Aside0.mk cn; clear cn; obtain ⟨aU, a9, H⟩ := oy H; have cy := Aside0.mk a9; clear a9
    by_cases co : aU.length + ah.length < 3518437208883
    ·rw [if_pos co] at H; have cz := Aside0.mk co; clear co; obtain ⟨ae, ba, H⟩ := oy H; have cA := Aside0.mk ba; clear ba; have H' := Aside0.mk H; clear H
     try go_wp2
     replace aa := eB aa; replace HB := eL HB; refine start_ (n := 8) (S := fun w' => w'.cell? ⟨aj, 0, none⟩ = some (.int .i64 ag) ∧ w'.cell? ⟨aj, 1, none⟩ = some (.int .i64 ak) ∧ w'.cell? ⟨aj, 2, none⟩ = some (.slice aG ai.length aH) ∧ w'.cell? ⟨aj, 3, none⟩ = some (.slice aI ah.length aJ) ∧ w'.cell? ⟨aj, 4, none⟩ = some (.slice aK ac.length aC)) (ds := []) (bv 8 0x0) (by kernel_rfl) rfl rfl (bq5 aa) (fun hHeld => ?_); refine with_tabW spec_ThreeOk.tab3 spec_ThreeOk.bits3 (fun HT_ HW_ => ?_); generalize wc.drew = ed at aa HB hHeld ⊢; refine py HT_ 1 41 (bv 8 0x2) ?_; refine py HT_ 4 44 (bv 8 0x12) ?_; refine tk HT_ HW_ hHeld 2 42 (bv 8 0x16) ?_; refine tk HT_ HW_ hHeld 5 45 (bv 8 0x36) ?_; refine oh HT_ 0 (some 40) (bv 8 0x37) fun K hK => ?_; refine lt_ k68 68 40 ([] : List (S68)) [] (Reps.none _ _) ?_; intro dg ee bn hb; (first | rw [← b2.out] at bn | (simp only [Int.reduceToNat] at bn; rw [← b2.out] at bn)); have bo := rl1 bn HB af; replace aa := bb aa hb; replace HB := s1 HB af hb; clear hb bn; refine hK.out _ _ (bq5 aa) (fun hHeld => ?_); clear hK K; refine nx ?_
     refine oh HT_ 3 (some 43) (bv 8 0x3f) fun K hK => ?_; refine Kd.R_append_rows_step k68 (w0 := w) w.heap.size (by rfl) (.tmp 40) (.tmp 42) 28 68 (.agg #[(.string ⟨#[]⟩), (.string ⟨#[]⟩), (.int .i64 0)]) 40 rfl Try.underlying28 info68 rfl (by decide) (by omega) dg a7 ai _ _ _ (fun _ => True) (fun _ => False) rfl rfl ?aO ?aR (fun _ _ h => h) (fun _ h => h.elim) ?aF ?aB ?aS ?aL ?_
     (case aR => exact cb b0 HB)
     (case aB => exact (be1 HB af))
     (case aF => exact (fun _ _ => trivial))
     (case aO => exact (ro bo))
     (case aS => exact (below_size (be1 HB af)))
     (case aL => have := cx.out; omega)
     intro di ef ho hb hg hat; rw [← cy.out] at ho; replace aa := bgr aa hg (Kd.R_ne bo.out aa.out (by decide)); replace HB := Aside0.mk (hb); have bq := Aside0.mk (ho); clear bo; clear ho hb hg hat; refine hK.out _ _ (bq5 aa) (fun hHeld => ?_); clear hK K; refine nx ?_
     refine oh HT_ 6 (some 46) (bv 8 0x7f) fun K hK => ?_; refine Kd.R_append_rows_step k68 (w0 := w) w.heap.size (by rfl) (.tmp 43) (.tmp 45) 28 68 (.agg #[(.string ⟨#[]⟩), (.string ⟨#[]⟩), (.int .i64 0)]) 40 rfl Try.underlying28 info68 rfl (by decide) (by omega) di aU ah _ _ _ (fun _ => True) (fun _ => False) rfl rfl ?aO ?aR (fun _ _ h => h) (fun _ h => h.elim) ?aF ?aB ?aS ?aL ?_
     (case aR => exact cb b1 HB)
     (case aB => exact (be1 HB af))
     (case aF => exact (fun _ _ => trivial))
     (case aO => exact (ro bq))
     (case aS => exact (below_size (be1 HB af)))
     (case aL => have := cz.out; omega)
     intro dV eg ho hb hg hat; rw [← cA.out] at ho; replace aa := bgr aa hg (Kd.R_ne bq.out aa.out (by decide)); replace HB := Aside0.mk (hb); have br := Aside0.mk (ho); clear bq; clear ho hb hg hat; refine hK.out _ _ (bq5 aa) (fun hHeld => ?_); clear hK K; refine nx ?_
     refine py HT_ 7 3 (bv 8 0xff) ?_; refine dh HT_ ?_; obtain ⟨cC, cD, dj⟩ := Kd.R_slice br.out; subst dj
     try go_wp2
     go_loopg [49] cw (fun kq dW w' => ∃ (ab : Int), dW = .int .i64 ab ∧ Aside0 (spec_ThreeOk.l0 kq ae ae (ae.length : Int) ab ag ak ai ah ac = some r) ∧ Aside0 (kq ≤ cw) ∧ Aside0 (Kd.R k68 68 w' w.heap.size (fun _ => True) (.slice cC ae.length cD) ae) ∧ Aside0 (Kd.R k68 68 w' w.heap.size (fun _ => True) (.slice cC ae.length cD) ae) ∧ Aside0 (w'.heap[aj]? = some (.cells #[.int .i64 ag, .int .i64 ak, (.slice aG ai.length aH), (.slice aI ah.length aJ), (.slice aK ac.length aC)] 30 (0, 0))) ∧ Aside0 (Below w.heap.size w w'))
     case atStart => exact ⟨(0), rs, H', ⟨Nat.le_refl _⟩, ⟨ro br⟩, ⟨ro br⟩, ⟨bk aa⟩, ⟨be1 HB af⟩⟩
     case round =>
      clear H'
      try clear c1; try clear p2; try clear c5; try clear c7; try clear cm; try clear cn; try clear co; try clear p2
      obtain ⟨ab, rfl, HA, cZ, aw, al, aa, HB⟩ := hrel
      cases gk with
      | zero => exact absurd HA.out (by simp [spec_ThreeOk.l0])
      | succ k2 =>
       have H := HA.out; clear HA; simp only [spec_ThreeOk.l0] at H
       by_cases ck : ab < (ae.length : Int)
       ·rw [if_pos ck] at H; have b4 : decide (ab < (ae.length : Int)) = true := decide_eq_true ck; clear ck
        by_cases cE : 0 ≤ ab
        ·rw [if_pos cE] at H; have cF : decide (0 ≤ ab) = true := decide_eq_true cE; clear cE
         by_cases cG : ab < (ae.length : Int)
         ·rw [if_pos cG] at H; have cI : decide (ab < (ae.length : Int)) = true := decide_eq_true cG; clear cG; obtain ⟨cf, dl, H⟩ := ob H
          try dsimp only at H
          by_cases cL : cf = true
          ·subst cL; rw [if_pos rfl] at H; obtain ⟨aY, dx, H⟩ := ob H
           try dsimp only at H
           by_cases b5 : aY = ab
           ·rw [if_pos b5] at H; have b6 : (aY == ab) = true := beq_iff_eq.mpr b5; have b7 : (aY != ab) = false := bne_eq_false_iff_eq.mpr b5; clear b5; have H' := Aside0.mk H; clear H; have aN : 0 ≤ (ab : Int) := od; have aQ : ab < (ae.length : Int) := od; obtain ⟨b8, bs, aZ, a5, a6⟩ := at_T68 (Kd.R_reads' al.out).2.2 ab aN aQ; cases bs; replace aN := eq_true aN; replace aQ := eq_true aQ
            go_wp2_with (first | ((with_reducible refine gate_dst (N := 5) rfl ?_); (try (refine gate_guard (by rfl) ?_; dsimp only)); refine bx 5 #[.string (⟨#[]⟩ : ByteArray), .string (⟨#[]⟩ : ByteArray), .int .i64 0] 68 ?_; intro ap hg eh hbox hb; replace aw := Aside0.mk (Kd.R_below (Kd.R_elderB (ro aw) ap (Nat.le_of_eq hg.symm)) hb); replace al := Aside0.mk (Kd.R_below (Kd.R_elderB (ro al) ap (Nat.le_of_eq hg.symm)) hb); have aq := am hbox; have b9 := gs1 hg HB af; have aA := gs1 hg HB af; replace HB := s1 HB af hb; have an := nl hg aa; have ax := ng hg aa; replace aa := bb aa hb; clear hb hbox hg; have dy := ax.out; have dA := an.out; have bG := bz3 aq) | ((with_reducible refine gate_callee (f := 58) rfl ?_); refine gl 55 Try.func58 #[.agg #[.string ((rd_T68 ae ab).f0), .string ((rd_T68 ae ab).f1), .int .i64 ((rd_T68 ae ab).f2)]] ?_; (with_reducible refine (spec_ItemOk.calls k2 ((rd_T68 ae ab).f0) ((rd_T68 ae ab).f1) ((rd_T68 ae ab).f2) true _ dl.out).mono ?_); rintro e ei ⟨rfl, hb⟩; refine ⟨_, rfl, ?_⟩; replace aw := Aside0.mk (Kd.R_below (rgs ap aw) hb); replace al := Aside0.mk (Kd.R_below (rgs ap al) hb); replace aa := bbf aa an hb; replace aq := Aside0.mk (blk_below (g := ap) (o := .cells #[.string ((rd_T68 ae ab).f0), .string ((rd_T68 ae ab).f1), .int .i64 ((rd_T68 ae ab).f2)] 68 (0, 0)) (bp aq) hb); replace HB := s2 HB af aA hb; (try clear hb); have bH := bz3 aq) | (go_at_call 59; (with_reducible refine (spec_l10At.calls k2 _ _ ae ((rd_T68 ae ab).f0) aY _ (cr aw) ((Kd.R_reads' aw.out).2.1) dx.out).mono ?_); rintro e ej ⟨rfl, hb⟩; replace aw := rb aw hb; replace al := rb al hb; replace aa := bb aa hb; replace aq := bb aq hb; replace HB := s2 HB af aA hb; (try clear hb)))
            go_roundg k2
            case measure => have := cY.out; have := cZ.out; omega
            case rel => exact ⟨(wrap64 (ab + 1)), rs, H', ⟨by have := cY.out; have := cZ.out; omega⟩, ⟨(rom aw)⟩, ⟨(rom al)⟩, ⟨bk aa⟩, ⟨be2 HB af aA⟩⟩
           rw [if_neg b5] at H; have b6 : (aY == ab) = false := beq_eq_false_iff_ne.mpr b5; have b7 : (aY != ab) = true := bne_iff_ne.mpr b5; obtain rfl := Option.some.inj H; have aN : 0 ≤ (ab : Int) := od; have aQ : ab < (ae.length : Int) := od; obtain ⟨b8, bs, aZ, a5, a6⟩ := at_T68 (Kd.R_reads' al.out).2.2 ab aN aQ; cases bs; replace aN := eq_true aN; replace aQ := eq_true aQ
           go_wp2_with (first | ((with_reducible refine gate_dst (N := 5) rfl ?_); (try (refine gate_guard (by rfl) ?_; dsimp only)); refine bx 5 #[.string (⟨#[]⟩ : ByteArray), .string (⟨#[]⟩ : ByteArray), .int .i64 0] 68 ?_; intro ap hg ek hbox hb; replace aw := Aside0.mk (Kd.R_below (Kd.R_elderB (ro aw) ap (Nat.le_of_eq hg.symm)) hb); replace al := Aside0.mk (Kd.R_below (Kd.R_elderB (ro al) ap (Nat.le_of_eq hg.symm)) hb); have aq := am hbox; have b9 := gs1 hg HB af; have aA := gs1 hg HB af; replace HB := s1 HB af hb; have an := nl hg aa; have ax := ng hg aa; replace aa := bb aa hb; clear hb hbox hg; have dC := ax.out; have dD := an.out; have bI := bz3 aq) | ((with_reducible refine gate_callee (f := 58) rfl ?_); refine gl 55 Try.func58 #[.agg #[.string ((rd_T68 ae ab).f0), .string ((rd_T68 ae ab).f1), .int .i64 ((rd_T68 ae ab).f2)]] ?_; (with_reducible refine (spec_ItemOk.calls k2 ((rd_T68 ae ab).f0) ((rd_T68 ae ab).f1) ((rd_T68 ae ab).f2) true _ dl.out).mono ?_); rintro e el ⟨rfl, hb⟩; refine ⟨_, rfl, ?_⟩; replace aw := Aside0.mk (Kd.R_below (rgs ap aw) hb); replace al := Aside0.mk (Kd.R_below (rgs ap al) hb); replace aa := bbf aa an hb; replace aq := Aside0.mk (blk_below (g := ap) (o := .cells #[.string ((rd_T68 ae ab).f0), .string ((rd_T68 ae ab).f1), .int .i64 ((rd_T68 ae ab).f2)] 68 (0, 0)) (bp aq) hb); replace HB := s2 HB af aA hb; (try clear hb); have bJ := bz3 aq) | (go_at_call 59; (with_reducible refine (spec_l10At.calls k2 _ _ ae ((rd_T68 ae ab).f0) aY _ (cr aw) ((Kd.R_reads' aw.out).2.1) dx.out).mono ?_); rintro e em ⟨rfl, hb⟩; replace aw := rb aw hb; replace al := rb al hb; replace aa := bb aa hb; replace aq := bb aq hb; replace HB := s2 HB af aA hb; (try clear hb)))
           go_ret
           exact ⟨er, be2 HB af aA⟩
          replace cL := Bool.eq_false_iff.mpr cL; subst cL; rw [if_neg nf] at H; obtain rfl := Option.some.inj H; have aN : 0 ≤ (ab : Int) := od; have aQ : ab < (ae.length : Int) := od; obtain ⟨b8, bs, aZ, a5, a6⟩ := at_T68 (Kd.R_reads' al.out).2.2 ab aN aQ; cases bs; replace aN := eq_true aN; replace aQ := eq_true aQ
          go_wp2_with (first | ((with_reducible refine gate_dst (N := 5) rfl ?_); (try (refine gate_guard (by rfl) ?_; dsimp only)); refine bx 5 #[.string (⟨#[]⟩ : ByteArray), .string (⟨#[]⟩ : ByteArray), .int .i64 0] 68 ?_; intro ap hg en hbox hb; replace aw := Aside0.mk (Kd.R_below (Kd.R_elderB (ro aw) ap (Nat.le_of_eq hg.symm)) hb); replace al := Aside0.mk (Kd.R_below (Kd.R_elderB (ro al) ap (Nat.le_of_eq hg.symm)) hb); have aq := am hbox; have b9 := gs1 hg HB af; have aA := gs1 hg HB af; replace HB := s1 HB af hb; have an := nl hg aa; have ax := ng hg aa; replace aa := bb aa hb; clear hb hbox hg; have dE := ax.out; have dF := an.out; have bM := bz3 aq) | ((with_reducible refine gate_callee (f := 58) rfl ?_); refine gl 55 Try.func58 #[.agg #[.string ((rd_T68 ae ab).f0), .string ((rd_T68 ae ab).f1), .int .i64 ((rd_T68 ae ab).f2)]] ?_; (with_reducible refine (spec_ItemOk.calls k2 ((rd_T68 ae ab).f0) ((rd_T68 ae ab).f1) ((rd_T68 ae ab).f2) false _ dl.out).mono ?_); rintro e eo ⟨rfl, hb⟩; refine ⟨_, rfl, ?_⟩; replace aw := Aside0.mk (Kd.R_below (rgs ap aw) hb); replace al := Aside0.mk (Kd.R_below (rgs ap al) hb); replace aa := bbf aa an hb; replace aq := Aside0.mk (blk_below (g := ap) (o := .cells #[.string ((rd_T68 ae ab).f0), .string ((rd_T68 ae ab).f1), .int .i64 ((rd_T68 ae ab).f2)] 68 (0, 0)) (bp aq) hb); replace HB := s2 HB af aA hb; (try clear hb)))
          go_ret
          exact ⟨er, be2 HB af aA⟩
         rw [if_neg cG] at H; exact absurd H (by simp)
        rw [if_neg cE] at H; exact absurd H (by simp)
       rw [if_neg ck] at H; have b4 : decide (ab < (ae.length : Int)) = false := decide_eq_false ck; clear ck; have H' := Aside0.mk H; clear H; have bN := bz5 aa
       go_wp2
       go_loopg [69] k2 (fun kq dX w' => ∃ (ad : Int), dX = .int .i64 ad ∧ Aside0 (spec_ThreeOk.l1 kq ac (ac.length : Int) ad ag ak ai ah ac = some r) ∧ Aside0 (kq ≤ k2) ∧ Aside0 (w'.heap[aj]? = some (.cells #[.int .i64 ag, .int .i64 ak, (.slice aG ai.length aH), (.slice aI ah.length aJ), (.slice aK ac.length aC)] 30 (0, 0))) ∧ Aside0 (Below w.heap.size w w'))
       case atStart => exact ⟨(0), rs, H', ⟨Nat.le_refl _⟩, ⟨bk aa⟩, ⟨be1 HB af⟩⟩
       case round =>
        clear H'
        try clear c1; try clear c2; try clear p2; try clear c3; try clear c4; try clear p4; try clear q4; try clear ep; try clear c5; try clear p6; try clear c7; try clear cm; try clear cn; try clear co; try clear ck; try clear b4; try clear cE; try clear cF; try clear cG; try clear cI; try clear cL; try clear b5; try clear b6; try clear b7; try clear eq; try clear es; try clear et; try clear eu; try clear dY; try clear ew; try clear bG; try clear bH; try clear bI; try clear bJ; try clear bM; try clear bN; try clear aZ; try clear a5; try clear a6; try clear p2; try clear aN; try clear aQ
        obtain ⟨ad, rfl, HA, dG, aa, HB⟩ := hrel
        cases gk with
        | zero => exact absurd HA.out (by simp [spec_ThreeOk.l1])
        | succ k3 =>
         have H := HA.out; clear HA; simp only [spec_ThreeOk.l1] at H
         by_cases cp : ad < (ac.length : Int)
         ·rw [if_pos cp] at H; have cN : decide (ad < (ac.length : Int)) = true := decide_eq_true cp; clear cp
          by_cases c0 : 0 ≤ ad
          ·rw [if_pos c0] at H; have dI : decide (0 ≤ ad) = true := decide_eq_true c0; clear c0
           by_cases da : ad < (ac.length : Int)
           ·rw [if_pos da] at H; have dJ : decide (ad < (ac.length : Int)) = true := decide_eq_true da; clear da; obtain ⟨cg, dm, H⟩ := ob H
            try dsimp only at H
            by_cases db : cg = true
            ·subst db; rw [if_pos rfl] at H; have dL := eq_true (od : 0 ≤ ad)
             by_cases cP : ad ≤ (ac.length : Int)
             ·rw [if_pos cP] at H; have dM := eq_true cP; have dN : decide (ad ≤ (ac.length : Int)) = true := decide_eq_true cP; clear cP; obtain ⟨ci, dP, H⟩ := ob H
              try dsimp only at H
              by_cases dc : ci = true
              ·subst dc; rw [if_pos rfl] at H; obtain rfl := Option.some.inj H; have aV : 0 ≤ (ad : Int) := od; have aW : ad < (ac.length : Int) := od; obtain ⟨bd, bu, av⟩ := Kd.at_int aX.out ad aV aW; cases bu; replace av := hc HB av; replace aV := eq_true aV; replace aW := eq_true aW
               go_wp2_with (first | ((with_reducible refine gate_callee (f := 60) rfl ?_); refine gl 75 Try.func60 #[.int .i64 (rd ac ad)] ?_; (with_reducible refine (spec_l01Num.calls (rd ac ad) true _ dm.out).mono ?_); rintro e w' ⟨rfl, ⟨nd, rfl⟩⟩; refine ⟨_, rfl, ?_⟩; have dd := bz5 aa; obtain ⟨d6, ca, _, cc, _⟩ := info_parts info3; obtain ⟨dn, cS, cT⟩ := print_take_of (P := Try.prog) (Value.int .i64) 0 23 3 .i64 Try.underlying23 ca cc (some bd) aC ac ad (od) (od) bi.out; have bw := Aside0.mk (Kd.C_of_reads (h1 := fun _ => rfl) (cS _ (Kd.reads_of_C aX.out))); have bz := Aside0.mk cT; clear cS cT ca cc) | (go_at_call 61; (try rw [show ad.toNat = (ac.take (ad : Int).toNat).length from by have dp : ad ≤ (ac.length : Int) := of_decide_eq_true (by assumption); simp only [List.length_take]; omega]); (with_reducible refine (spec_l03Has.calls k3 _ _ (ac.take (ad : Int).toNat) (rd ac ad) true _ ?side1 ?side2 dP.out).mono ?_); (case side1 => repeat (first | exact (Kd.C_below bw.out (be1 HB af)) | (with_reducible refine Kd.C_alloc ?_ _) | (with_reducible refine Kd.C_drewN ?_ _) | (with_reducible refine Kd.C_drew ?_))); (case side2 => exact bz.out); rintro e w' ⟨rfl, ⟨nd, rfl⟩⟩))
               go_ret
               exact ⟨er, be1 HB af⟩
              replace dc := Bool.eq_false_iff.mpr dc; subst dc; rw [if_neg nf] at H; have H' := Aside0.mk H; clear H; have aV : 0 ≤ (ad : Int) := od; have aW : ad < (ac.length : Int) := od; obtain ⟨bd, bu, av⟩ := Kd.at_int aX.out ad aV aW; cases bu; replace av := hc HB av; replace aV := eq_true aV; replace aW := eq_true aW
              go_wp2_with (first | ((with_reducible refine gate_callee (f := 60) rfl ?_); refine gl 75 Try.func60 #[.int .i64 (rd ac ad)] ?_; (with_reducible refine (spec_l01Num.calls (rd ac ad) true _ dm.out).mono ?_); rintro e w' ⟨rfl, ⟨nd, rfl⟩⟩; refine ⟨_, rfl, ?_⟩; have de := bz5 aa; obtain ⟨d7, cd, _, ce, _⟩ := info_parts info3; obtain ⟨dq, cU, cW⟩ := print_take_of (P := Try.prog) (Value.int .i64) 0 23 3 .i64 Try.underlying23 cd ce (some bd) aC ac ad (od) (od) bi.out; have bw := Aside0.mk (Kd.C_of_reads (h1 := fun _ => rfl) (cU _ (Kd.reads_of_C aX.out))); have bz := Aside0.mk cW; clear cU cW cd ce) | (go_at_call 61; (try rw [show ad.toNat = (ac.take (ad : Int).toNat).length from by have dp : ad ≤ (ac.length : Int) := of_decide_eq_true (by assumption); simp only [List.length_take]; omega]); (with_reducible refine (spec_l03Has.calls k3 _ _ (ac.take (ad : Int).toNat) (rd ac ad) false _ ?side1 ?side2 dP.out).mono ?_); (case side1 => repeat (first | exact (Kd.C_below bw.out (be1 HB af)) | (with_reducible refine Kd.C_alloc ?_ _) | (with_reducible refine Kd.C_drewN ?_ _) | (with_reducible refine Kd.C_drew ?_))); (case side2 => exact bz.out); rintro e w' ⟨rfl, ⟨nd, rfl⟩⟩))
              go_roundg k3
              case measure => have := cY.out; have := cZ.out; have := dG.out; omega
              case rel => exact ⟨(wrap64 (ad + 1)), rs, H', ⟨by have := cY.out; have := cZ.out; have := dG.out; omega⟩, ⟨bk aa⟩, ⟨be1 HB af⟩⟩
             rw [if_neg cP] at H; exact absurd H (by simp)
            replace db := Bool.eq_false_iff.mpr db; subst db; rw [if_neg nf] at H; obtain rfl := Option.some.inj H; have aV : 0 ≤ (ad : Int) := od; have aW : ad < (ac.length : Int) := od; obtain ⟨bd, bu, av⟩ := Kd.at_int aX.out ad aV aW; cases bu; replace av := hc HB av; replace aV := eq_true aV; replace aW := eq_true aW
            go_wp2_with (first | ((with_reducible refine gate_callee (f := 60) rfl ?_); refine gl 75 Try.func60 #[.int .i64 (rd ac ad)] ?_; (with_reducible refine (spec_l01Num.calls (rd ac ad) false _ dm.out).mono ?_); rintro e w' ⟨rfl, ⟨nd, rfl⟩⟩; refine ⟨_, rfl, ?_⟩))
            go_ret
            exact ⟨er, be1 HB af⟩
           rw [if_neg da] at H; exact absurd H (by simp)
          rw [if_neg c0] at H; exact absurd H (by simp)
         rw [if_neg cp] at H; have cN : decide (ad < (ac.length : Int)) = false := decide_eq_false cp; clear cp; obtain rfl := Option.some.inj H
         go_wp2
         go_ret
         exact ⟨er, be1 HB af⟩
    rw [if_neg co] at H; exact absurd H (by simp)
   rw [if_neg cn] at H; exact absurd H (by simp)

end Go.Proofs.Ytfjhkediaholmaa.QFnSpare
