-- made by a program of this session (myprint.py)
import Derived.Test.YtfjhkediaholmaaQFnExactEvictx0
import Derived.Test.YtfjhkediaholmaaQFnExactEvictx5
namespace Go.Proofs.Ytfjhkediaholmaa.QFnExactEvict
open Go.RowKit Go.Proofs.YtfjhkediaholmaaW.PrintWords Go.Proofs.YtfjhkediaholmaaW.PrintLast Go.Proofs.YtfjhkediaholmaaW.PrintMore
attribute [local go_sem] max2_int min2_int max_two min_two max_three min_three max_four min_four   -- for this text's walks alone
set_option linter.unusedVariables false
set_option linter.unusedSimpArgs false

/-! ### spec_ThreeOk: function 17 -/
mutual
def spec_ThreeOk.j0 : Nat → Bool → Int → Int → List (S68) → List (S68) → List Int → Option (Bool)
 | 0, _, _, _, _, _, _ => none
 | k + 1, x39, x183000, x183001, x183002, x183003, x183004 => if x39 = true then (some false) else ((some (([] : List (S68)) : List (S68))).bind fun y186 => (if y186.length + x183002.length < 3518437208883 then ((some (y186 ++ x183002 : List (S68))).bind fun y189 => (if y189.length + x183003.length < 3518437208883 then ((some (y189 ++ x183003 : List (S68))).bind fun y192 => (spec_ThreeOk.l0 k y192 y192 (y192.length : Int) 0 x183000 x183001 x183002 x183003 x183004)) else (none))) else (none)))
def spec_ThreeOk.l0 : Nat → List (S68) → List (S68) → Int → Int → Int → Int → List (S68) → List (S68) → List Int → Option (Bool)
 | 0, _, _, _, _, _, _, _, _, _ => none
 | k + 1, x3, x47, x48, x49, x183000, x183001, x183002, x183003, x183004 => if x49 < x48 then (if 0 ≤ x49 then (if x49 < (x47.length : Int) then ((spec_ItemOk.f k ((rd_T68 x47 x49).f0) ((rd_T68 x47 x49).f1) ((rd_T68 x47 x49).f2)).bind fun t197 => (if t197 = true then ((spec_l10At.f k x3 ((rd_T68 x47 x49).f0)).bind fun t198 => (if t198 = x49 then (spec_ThreeOk.l0 k x3 x47 x48 (wrap64 (x49 + 1)) x183000 x183001 x183002 x183003 x183004) else (some false))) else (some false))) else (none)) else (none)) else (spec_ThreeOk.l1 k x183004 (x183004.length : Int) 0 x183000 x183001 x183002 x183003 x183004)
def spec_ThreeOk.l1 : Nat → List Int → Int → Int → Int → Int → List (S68) → List (S68) → List Int → Option (Bool)
 | 0, _, _, _, _, _, _, _, _ => none
 | k + 1, x67, x68, x69, x183000, x183001, x183002, x183003, x183004 => if x69 < x68 then (if 0 ≤ x69 then (if x69 < (x67.length : Int) then ((spec_l01Num.f (rd x67 x69)).bind fun t200 => (if t200 = true then (if x69 ≤ (x183004.length : Int) then ((spec_l03Has.f k (x183004.take (x69 : Int).toNat) (rd x67 x69)).bind fun t202 => (if t202 = true then (some false) else (spec_ThreeOk.l1 k x67 x68 (wrap64 (x69 + 1)) x183000 x183001 x183002 x183003 x183004))) else (none)) else (some false))) else (none)) else (none)) else (some true)
end
def spec_ThreeOk.f (k : Nat) (a0_0 : Int) (a0_1 : Int) (l0_2 : List (S68)) (l0_3 : List (S68)) (l0_4 : List Int) : Option (Bool) := (spec_l01In.f a0_0 1 60).bind fun t183 => (if t183 = true then ((spec_l01In.f a0_1 1 a0_0).bind fun t184 => (if t184 = true then (if (wrap64 ((l0_2.length : Int) + (l0_3.length : Int))) > a0_0 then (spec_ThreeOk.j0 k true a0_0 a0_1 l0_2 l0_3 l0_4) else ((spec_l10Ghosts.f a0_0 a0_1 l0_2 l0_3 l0_4).bind fun t185 => (spec_ThreeOk.j0 k (decide ((l0_4.length : Int) > t185)) a0_0 a0_1 l0_2 l0_3 l0_4))) else (spec_ThreeOk.j0 k true a0_0 a0_1 l0_2 l0_3 l0_4))) else (spec_ThreeOk.j0 k true a0_0 a0_1 l0_2 l0_3 l0_4))
theorem spec_ThreeOk.mono_l : ∀ k, (∀ y0 y1 y2 y3 y4 y5, LeO (spec_ThreeOk.j0 k y0 y1 y2 y3 y4 y5) (spec_ThreeOk.j0 (k + 1) y0 y1 y2 y3 y4 y5)) ∧ (∀ y0 y1 y2 y3 y4 y5 y6 y7 y8, LeO (spec_ThreeOk.l0 k y0 y1 y2 y3 y4 y5 y6 y7 y8) (spec_ThreeOk.l0 (k + 1) y0 y1 y2 y3 y4 y5 y6 y7 y8)) ∧ (∀ y0 y1 y2 y3 y4 y5 y6 y7, LeO (spec_ThreeOk.l1 k y0 y1 y2 y3 y4 y5 y6 y7) (spec_ThreeOk.l1 (k + 1) y0 y1 y2 y3 y4 y5 y6 y7))
 | 0 => ⟨fun _ _ _ _ _ _ r h => by simp [spec_ThreeOk.j0] at h, fun _ _ _ _ _ _ _ _ _ r h => by simp [spec_ThreeOk.l0] at h, fun _ _ _ _ _ _ _ _ r h => by simp [spec_ThreeOk.l1] at h⟩
 | k + 1 => by
  obtain ⟨ih0, ih1, ih2⟩ := spec_ThreeOk.mono_l k
  refine ⟨?_, ?_, ?_⟩
  ·intro y0 y1 y2 y3 y4 y5
   unfold spec_ThreeOk.j0
   repeat' first
   | (with_reducible exact ih0 _ _ _ _ _ _)
   | (with_reducible exact ih1 _ _ _ _ _ _ _ _ _)
   | (with_reducible exact ih2 _ _ _ _ _ _ _ _)
   | (with_reducible exact spec_ItemOk.mono _ _ _ _)
   | (with_reducible exact spec_l03Has.mono _ _ _)
   | (with_reducible exact spec_l10At.mono _ _ _)
   | (with_reducible exact LeO.refl _)
   | (with_reducible exact LeO.none _)
   | (with_reducible refine LeO.ite ?_ ?_)
   | (with_reducible refine LeO.bind ?_ (fun _ => ?_))
   | exact ih0 _ _ _ _ _ _
   | exact ih1 _ _ _ _ _ _ _ _ _
   | exact ih2 _ _ _ _ _ _ _ _
   | exact spec_ItemOk.mono _ _ _ _
   | exact spec_l03Has.mono _ _ _
   | exact spec_l10At.mono _ _ _
   | exact LeO.none _
   | refine LeO.ite ?_ ?_
   | refine LeO.bind ?_ (fun _ => ?_)
  ·intro y0 y1 y2 y3 y4 y5 y6 y7 y8
   unfold spec_ThreeOk.l0
   repeat' first
   | (with_reducible exact ih0 _ _ _ _ _ _)
   | (with_reducible exact ih1 _ _ _ _ _ _ _ _ _)
   | (with_reducible exact ih2 _ _ _ _ _ _ _ _)
   | (with_reducible exact spec_ItemOk.mono _ _ _ _)
   | (with_reducible exact spec_l03Has.mono _ _ _)
   | (with_reducible exact spec_l10At.mono _ _ _)
   | (with_reducible exact LeO.refl _)
   | (with_reducible exact LeO.none _)
   | (with_reducible refine LeO.ite ?_ ?_)
   | (with_reducible refine LeO.bind ?_ (fun _ => ?_))
   | exact ih0 _ _ _ _ _ _
   | exact ih1 _ _ _ _ _ _ _ _ _
   | exact ih2 _ _ _ _ _ _ _ _
   | exact spec_ItemOk.mono _ _ _ _
   | exact spec_l03Has.mono _ _ _
   | exact spec_l10At.mono _ _ _
   | exact LeO.none _
   | refine LeO.ite ?_ ?_
   | refine LeO.bind ?_ (fun _ => ?_)
  intro y0 y1 y2 y3 y4 y5 y6 y7
  unfold spec_ThreeOk.l1
  repeat' first
  | (with_reducible exact ih0 _ _ _ _ _ _)
  | (with_reducible exact ih1 _ _ _ _ _ _ _ _ _)
  | (with_reducible exact ih2 _ _ _ _ _ _ _ _)
  | (with_reducible exact spec_ItemOk.mono _ _ _ _)
  | (with_reducible exact spec_l03Has.mono _ _ _)
  | (with_reducible exact spec_l10At.mono _ _ _)
  | (with_reducible exact LeO.refl _)
  | (with_reducible exact LeO.none _)
  | (with_reducible refine LeO.ite ?_ ?_)
  | (with_reducible refine LeO.bind ?_ (fun _ => ?_))
  | exact ih0 _ _ _ _ _ _
  | exact ih1 _ _ _ _ _ _ _ _ _
  | exact ih2 _ _ _ _ _ _ _ _
  | exact spec_ItemOk.mono _ _ _ _
  | exact spec_l03Has.mono _ _ _
  | exact spec_l10At.mono _ _ _
  | exact LeO.none _
  | refine LeO.ite ?_ ?_
  | refine LeO.bind ?_ (fun _ => ?_)
theorem spec_ThreeOk.mono : ∀ a0 a1 a2 a3 a4 k, LeO (spec_ThreeOk.f k a0 a1 a2 a3 a4) (spec_ThreeOk.f (k + 1) a0 a1 a2 a3 a4) := by
 intro a0 a1 a2 a3 a4 k
 obtain ⟨ih0, ih1, ih2⟩ := spec_ThreeOk.mono_l k
 unfold spec_ThreeOk.f
 repeat' first
   | (with_reducible exact ih0 _ _ _ _ _ _)
   | (with_reducible exact ih1 _ _ _ _ _ _ _ _ _)
   | (with_reducible exact ih2 _ _ _ _ _ _ _ _)
   | (with_reducible exact spec_ItemOk.mono _ _ _ _)
   | (with_reducible exact spec_l03Has.mono _ _ _)
   | (with_reducible exact spec_l10At.mono _ _ _)
   | (with_reducible exact LeO.refl _)
   | (with_reducible exact LeO.none _)
   | (with_reducible refine LeO.ite ?_ ?_)
   | (with_reducible refine LeO.bind ?_ (fun _ => ?_))
   | exact ih0 _ _ _ _ _ _
   | exact ih1 _ _ _ _ _ _ _ _ _
   | exact ih2 _ _ _ _ _ _ _ _
   | exact spec_ItemOk.mono _ _ _ _
   | exact spec_l03Has.mono _ _ _
   | exact spec_l10At.mono _ _ _
   | exact LeO.none _
   | refine LeO.ite ?_ ?_
   | refine LeO.bind ?_ (fun _ => ?_)
def spec_ThreeOk.T1 : Bool × List (List Nat × List Nat) := (true, [([], []), ([0], [0]), ([1], [1]), ([2], [2]), ([3, 2], [3]), ([4], [4]), ([5, 4], [4, 5]), ([4], [4]), ([7, 4], [4, 7]), ([6, 8, 4, 4], [4, 6, 8]), ([9, 4], [4, 9]), ([4, 10], [4, 10]), ([11, 9], [11]), ([12], [12]), ([13, 12], [12, 13]), ([14, 12], [12, 14]), ([12], [12]), ([16, 12], [12, 16]), ([17, 12], [12, 17]), ([15, 18, 12], [12, 15, 18]), ([12], [12]), ([20, 12], [12, 20]), ([19, 21, 12], [12, 19, 21]), ([12, 22], [12, 22]), ([23, 12], [23]), ([24], [24]), ([25, 24], [24, 25]), ([26, 24], [24, 26]), ([24], [24]), ([28, 24, 24], [24, 28]), ([27, 29, 24], [24, 27, 29]), ([24, 30], [24, 30])])
def spec_ThreeOk.B1 : List Nat := [0, 1, 3, 7, 15, 31, 63, 31, 159, 511, 1023, 2047, 4095, 8191, 16383, 32767, 8191, 73727, 204799, 524287, 8191, 1056767, 4194303, 8388607, 16777215, 33554431, 67108863, 134217727, 33554431, 301989887, 1073741823, 2147483647]
theorem spec_ThreeOk.tab1 : rtab .any (opsOf Try.f17 1) = spec_ThreeOk.T1 := by kernel_rfl
theorem spec_ThreeOk.bits1 : waitsOk spec_ThreeOk.T1.2 spec_ThreeOk.B1 = true := by kernel_rfl
def spec_ThreeOk.T3 : Bool × List (List Nat × List Nat) := (true, [([], []), ([], []), ([1], [1]), ([0, 2], [0, 2]), ([], []), ([4], [4]), ([3, 5, 3], [3, 5]), ([6, 6, 0, 1, 2, 3, 4, 5, 6], [6])])
def spec_ThreeOk.B3 : List Nat := [0, 0, 2, 7, 0, 16, 63, 127]
theorem spec_ThreeOk.tab3 : rtab .any (opsOf Try.f17 3) = spec_ThreeOk.T3 := by kernel_rfl
theorem spec_ThreeOk.bits3 : waitsOk spec_ThreeOk.T3.2 spec_ThreeOk.B3 = true := by kernel_rfl
set_option maxHeartbeats 8000000 in
set_option maxRecDepth 100000 in
theorem spec_ThreeOk.calls (k : Nat) (a0_0 : Int) (a0_1 : Int) (A0_2 : Option Addr) (c0_2 : Nat) (l0_2 : List (S68)) (A0_3 : Option Addr) (c0_3 : Nat) (l0_3 : List (S68)) (A0_4 : Option Addr) (c0_4 : Nat) (l0_4 : List Int) (r : Bool) (w : World) (hr0_2 : Kd.C k68 w A0_2 l0_2.length l0_2) (hc0_2 : l0_2.length ≤ c0_2) (hr0_3 : Kd.C k68 w A0_3 l0_3.length l0_3) (hc0_3 : l0_3.length ≤ c0_3) (hr0_4 : Kd.C (Kd.int .i64) w A0_4 l0_4.length l0_4) (hc0_4 : l0_4.length ≤ c0_4) (h : spec_ThreeOk.f k a0_0 a0_1 l0_2 l0_3 l0_4 = some r) :
  Calls Try.prog 17 #[.agg #[.int .i64 a0_0, .int .i64 a0_1, .slice A0_2 l0_2.length c0_2, .slice A0_3 l0_3.length c0_3, .slice A0_4 l0_4.length c0_4]] w fun e w' => e = .returned (.bool r) ∧ Below w.heap.size w w' := by
 have hu30 := Try.underlying30
 have hu68 := Try.underlying68
 have HR0_2 := Aside0.mk hr0_2
 have HC0_2 := Aside0.mk hc0_2
 clear hr0_2 hc0_2
 have HR0_3 := Aside0.mk hr0_3
 have HC0_3 := Aside0.mk hc0_3
 clear hr0_3 hc0_3
 have HR0_4 := Aside0.mk hr0_4
 have HC0_4 := Aside0.mk hc0_4
 clear hr0_4 hc0_4
 have HB := Aside0.mk (Below.refl w.heap.size w)
 have H : ((spec_l01In.f a0_0 1 60).bind fun t183 => (if t183 = true then ((spec_l01In.f a0_1 1 a0_0).bind fun t184 => (if t184 = true then (if (wrap64 ((l0_2.length : Int) + (l0_3.length : Int))) > a0_0 then (spec_ThreeOk.j0 k true a0_0 a0_1 l0_2 l0_3 l0_4) else ((spec_l10Ghosts.f a0_0 a0_1 l0_2 l0_3 l0_4).bind fun t185 => (spec_ThreeOk.j0 k (decide ((l0_4.length : Int) > t185)) a0_0 a0_1 l0_2 l0_3 l0_4))) else (spec_ThreeOk.j0 k true a0_0 a0_1 l0_2 l0_3 l0_4))) else (spec_ThreeOk.j0 k true a0_0 a0_1 l0_2 l0_3 l0_4))) = some r := h
 clear h
 have HC2 := Aside0.mk H
 clear H
 go_enter Try.func17, Try.ntmps17
 go_upto_region 1 with (first | ((with_reducible refine gate_dst (N := 1) rfl ?_); (try (refine gate_guard (by rfl) ?_; dsimp only)); refine bx 1 #[.int .i64 a0_0, .int .i64 a0_1, .slice A0_2 l0_2.length c0_2, .slice A0_3 l0_3.length c0_3, .slice A0_4 l0_4.length c0_4] 30 ?_; intro gb182 hg w3 hbox hb; have BK182 := am hbox; have GW182 := gs0 hg HB; have GE182 := gs0 hg HB; replace HB := s0 HB hb; clear hb hbox hg))
 (try simp only [Act.put, List.setIfInBounds_toArray, List.set_cons_zero, List.set_cons_succ])
 go_cut [39] (fun v39 wc => ∃ (kq : Nat) (x39_1 : Bool), v39 = .bool x39_1 ∧ Aside0 (spec_ThreeOk.j0 kq x39_1 a0_0 a0_1 l0_2 l0_3 l0_4 = some r) ∧ Aside0 (kq ≤ k) ∧ Aside0 (wc.heap[gb182]? = some (.cells #[.int .i64 a0_0, .int .i64 a0_1, (.slice A0_2 l0_2.length c0_2), (.slice A0_3 l0_3.length c0_3), (.slice A0_4 l0_4.length c0_4)] 30 (0, 0))) ∧ Aside0 (Below w.heap.size w wc))
 case first =>
  have H := HC2.out
  clear HC2
  replace H := Option.bind_eq_some_iff.mp H
  obtain ⟨t183, A40, H⟩ := H
  try dsimp only at H
  have A4 := Aside0.mk A40
  clear A40
  by_cases c5 : t183 = true
  ·subst c5
   rw [if_pos rfl] at H
   replace H := Option.bind_eq_some_iff.mp H
   obtain ⟨t184, A60, H⟩ := H
   try dsimp only at H
   have A6 := Aside0.mk A60
   clear A60
   by_cases c7 : t184 = true
   ·subst c7
    rw [if_pos rfl] at H
    by_cases c8 : (wrap64 ((l0_2.length : Int) + (l0_3.length : Int))) > a0_0
    ·rw [if_pos c8] at H
     have c8b0 : decide (a0_0 < (wrap64 ((l0_2.length : Int) + (l0_3.length : Int)))) = true := decide_eq_true c8
     clear c8
     (first | rw [c8b0] | (simp only [i64_w, i32_w]; rw [c8b0]) | skip)
     have H' := Aside0.mk H
     clear H
     try go_wp2
     have n0_ := Aside0.mk (blk_drew BK182.out)
     have n1_ := Aside0.mk (below_drew1 HB.out)
     clear BK182
     clear HB
     have BK182 := n0_
     have HB := n1_
     clear n0_ n1_
     refine start_ (n := 32) (S := fun w' => w'.cell? ⟨gb182, 0, none⟩ = some (.int .i64 a0_0) ∧ w'.cell? ⟨gb182, 1, none⟩ = some (.int .i64 a0_1) ∧ w'.cell? ⟨gb182, 2, none⟩ = some (.slice A0_2 l0_2.length c0_2) ∧ w'.cell? ⟨gb182, 3, none⟩ = some (.slice A0_3 l0_3.length c0_3) ∧ w'.cell? ⟨gb182, 4, none⟩ = some (.slice A0_4 l0_4.length c0_4)) (ds := []) (bv 32 0x0) (by kernel_rfl) rfl rfl ⟨bc0 BK182, bc1 BK182, bc2 BK182, bc3 BK182, bc4 BK182⟩ (fun hHeld => ?_); refine with_tabW spec_ThreeOk.tab1 spec_ThreeOk.bits1 (fun HT_ HW_ => ?_)
     generalize w3.drew = w9 at BK182 HB hHeld ⊢
     refine py HT_ 0 8 (bv 32 0x1) ?_
     refine tk HT_ HW_ hHeld 1 9 (bv 32 0x3) ?_
     refine one_ (i := 2) (N := some 10) (bv 32 0x7) rfl rfl (one_of HT_.out (by kernel_rfl)) (by decide) (fun K hK => ?_)
     refine goes_ Try.func56 (by kernel_rfl) rfl #[.int .i64 a0_0, .int .i64 1, .int .i64 60] (by rfl) rfl rfl ml ?_
     with_reducible refine (spec_l01In.calls a0_0 1 60 true _ A4.out).mono ?_
     rintro e w' ⟨rfl, ⟨nd, rfl⟩⟩
     refine ⟨_, rfl, ?_⟩
     refine hK.out _ _ ⟨bc0 BK182, bc1 BK182, bc2 BK182, bc3 BK182, bc4 BK182⟩ (fun hHeld => ?_)
     clear hK K
     refine norm_ (a' := ?_) ?_ ?_
     rotate_left
     ·show Act.put _ (some 10) _ = _
      simp only [aP]
      rfl
     refine py HT_ 3 11 (bv 32 0xf) ?_
     refine py HT_ 4 12 (bv 32 0x1f) ?_
     refine py HT_ 5 13 (bv 32 0x3f) ?_
     refine py HT_ 7 15 (bv 32 0xbf) ?_
     refine tk HT_ HW_ hHeld 6 14 (bv 32 0xff) ?_
     refine tk HT_ HW_ hHeld 8 16 (bv 32 0x1ff) ?_
     refine one_ (i := 9) (N := some 17) (bv 32 0x3ff) rfl rfl (one_of HT_.out (by kernel_rfl)) (by decide) (fun K hK => ?_)
     refine goes_ Try.func56 (by kernel_rfl) rfl #[.int .i64 a0_1, .int .i64 1, .int .i64 a0_0] (by rfl) rfl rfl ml ?_
     with_reducible refine (spec_l01In.calls a0_1 1 a0_0 true _ A6.out).mono ?_
     rintro e w' ⟨rfl, ⟨nd, rfl⟩⟩
     refine ⟨_, rfl, ?_⟩
     refine hK.out _ _ ⟨bc0 BK182, bc1 BK182, bc2 BK182, bc3 BK182, bc4 BK182⟩ (fun hHeld => ?_)
     clear hK K
     refine norm_ (a' := ?_) ?_ ?_
     rotate_left
     ·show Act.put _ (some 17) _ = _
      simp only [aP]
      rfl
     refine py HT_ 10 18 (bv 32 0x7ff) ?_
     refine py HT_ 11 19 (bv 32 0xfff) ?_
     refine py HT_ 12 20 (bv 32 0x1fff) ?_
     refine py HT_ 13 21 (bv 32 0x3fff) ?_
     refine py HT_ 16 24 (bv 32 0x13fff) ?_
     refine py HT_ 20 28 (bv 32 0x113fff) ?_
     refine tk HT_ HW_ hHeld 14 22 (bv 32 0x117fff) ?_
     refine py HT_ 15 23 (bv 32 0x11ffff) ?_
     refine tk HT_ HW_ hHeld 17 25 (bv 32 0x13ffff) ?_
     refine py HT_ 18 26 (bv 32 0x17ffff) ?_
     refine py HT_ 19 27 (bv 32 0x1fffff) ?_
     refine tk HT_ HW_ hHeld 21 29 (bv 32 0x3fffff) ?_
     refine py HT_ 22 30 (bv 32 0x7fffff) ?_
     refine py HT_ 23 31 (bv 32 0xffffff) ?_
     refine py HT_ 24 32 (bv 32 0x1ffffff) ?_
     refine pu HT_ 25 33 (bv 32 0x3ffffff) ?_
     refine pu HT_ 26 34 (bv 32 0x7ffffff) ?_
     refine pu HT_ 27 35 (bv 32 0xfffffff) ?_
     refine pu HT_ 28 36 (bv 32 0x1fffffff) ?_
     refine pu HT_ 29 37 (bv 32 0x3fffffff) ?_
     refine pu HT_ 30 38 (bv 32 0x7fffffff) ?_
     refine py HT_ 31 39 (bv 32 0xffffffff) ?_
     refine done_ (done_of HT_.out (by kernel_rfl)) ?_
     try go_wp2
     go_meet
     case rel => exact ⟨_, (true), rs, H', ⟨by first | omega | exact Nat.le_refl _⟩, ⟨bk BK182⟩, ⟨be1 HB GE182⟩⟩
    rw [if_neg c8] at H
    have c8b0 : decide (a0_0 < (wrap64 ((l0_2.length : Int) + (l0_3.length : Int)))) = false := decide_eq_false c8
    clear c8
    (first | rw [c8b0] | (simp only [i64_w, i32_w]; rw [c8b0]) | skip)
    replace H := Option.bind_eq_some_iff.mp H
    obtain ⟨t185, A100, H⟩ := H
    try dsimp only at H
    have A10 := Aside0.mk A100
    clear A100
    have H' := Aside0.mk H
    clear H
    try go_wp2
    have n0_ := Aside0.mk (blk_drew BK182.out)
    have n1_ := Aside0.mk (below_drew1 HB.out)
    clear BK182
    clear HB
    have BK182 := n0_
    have HB := n1_
    clear n0_ n1_
    refine start_ (n := 32) (S := fun w' => w'.cell? ⟨gb182, 0, none⟩ = some (.int .i64 a0_0) ∧ w'.cell? ⟨gb182, 1, none⟩ = some (.int .i64 a0_1) ∧ w'.cell? ⟨gb182, 2, none⟩ = some (.slice A0_2 l0_2.length c0_2) ∧ w'.cell? ⟨gb182, 3, none⟩ = some (.slice A0_3 l0_3.length c0_3) ∧ w'.cell? ⟨gb182, 4, none⟩ = some (.slice A0_4 l0_4.length c0_4)) (ds := []) (bv 32 0x0) (by kernel_rfl) rfl rfl ⟨bc0 BK182, bc1 BK182, bc2 BK182, bc3 BK182, bc4 BK182⟩ (fun hHeld => ?_); refine with_tabW spec_ThreeOk.tab1 spec_ThreeOk.bits1 (fun HT_ HW_ => ?_)
    generalize w3.drew = w11 at BK182 HB hHeld ⊢
    refine py HT_ 0 8 (bv 32 0x1) ?_
    refine tk HT_ HW_ hHeld 1 9 (bv 32 0x3) ?_
    refine one_ (i := 2) (N := some 10) (bv 32 0x7) rfl rfl (one_of HT_.out (by kernel_rfl)) (by decide) (fun K hK => ?_)
    refine goes_ Try.func56 (by kernel_rfl) rfl #[.int .i64 a0_0, .int .i64 1, .int .i64 60] (by rfl) rfl rfl ml ?_
    with_reducible refine (spec_l01In.calls a0_0 1 60 true _ A4.out).mono ?_
    rintro e w' ⟨rfl, ⟨nd, rfl⟩⟩
    refine ⟨_, rfl, ?_⟩
    refine hK.out _ _ ⟨bc0 BK182, bc1 BK182, bc2 BK182, bc3 BK182, bc4 BK182⟩ (fun hHeld => ?_)
    clear hK K
    refine norm_ (a' := ?_) ?_ ?_
    rotate_left
    ·show Act.put _ (some 10) _ = _
     simp only [aP]
     rfl
    refine py HT_ 3 11 (bv 32 0xf) ?_
    refine py HT_ 4 12 (bv 32 0x1f) ?_
    refine py HT_ 5 13 (bv 32 0x3f) ?_
    refine py HT_ 7 15 (bv 32 0xbf) ?_
    refine tk HT_ HW_ hHeld 6 14 (bv 32 0xff) ?_
    refine tk HT_ HW_ hHeld 8 16 (bv 32 0x1ff) ?_
    refine one_ (i := 9) (N := some 17) (bv 32 0x3ff) rfl rfl (one_of HT_.out (by kernel_rfl)) (by decide) (fun K hK => ?_)
    refine goes_ Try.func56 (by kernel_rfl) rfl #[.int .i64 a0_1, .int .i64 1, .int .i64 a0_0] (by rfl) rfl rfl ml ?_
    with_reducible refine (spec_l01In.calls a0_1 1 a0_0 true _ A6.out).mono ?_
    rintro e w' ⟨rfl, ⟨nd, rfl⟩⟩
    refine ⟨_, rfl, ?_⟩
    refine hK.out _ _ ⟨bc0 BK182, bc1 BK182, bc2 BK182, bc3 BK182, bc4 BK182⟩ (fun hHeld => ?_)
    clear hK K
    refine norm_ (a' := ?_) ?_ ?_
    rotate_left
    ·show Act.put _ (some 17) _ = _
     simp only [aP]
     rfl
    refine py HT_ 10 18 (bv 32 0x7ff) ?_
    refine py HT_ 11 19 (bv 32 0xfff) ?_
    refine py HT_ 12 20 (bv 32 0x1fff) ?_
    refine py HT_ 13 21 (bv 32 0x3fff) ?_
    refine py HT_ 16 24 (bv 32 0x13fff) ?_
    refine py HT_ 20 28 (bv 32 0x113fff) ?_
    refine tk HT_ HW_ hHeld 14 22 (bv 32 0x117fff) ?_
    refine py HT_ 15 23 (bv 32 0x11ffff) ?_
    refine tk HT_ HW_ hHeld 17 25 (bv 32 0x13ffff) ?_
    refine py HT_ 18 26 (bv 32 0x17ffff) ?_
    refine py HT_ 19 27 (bv 32 0x1fffff) ?_
    refine tk HT_ HW_ hHeld 21 29 (bv 32 0x3fffff) ?_
    refine py HT_ 22 30 (bv 32 0x7fffff) ?_
    refine py HT_ 23 31 (bv 32 0xffffff) ?_
    refine py HT_ 24 32 (bv 32 0x1ffffff) ?_
    refine py HT_ 25 33 (bv 32 0x3ffffff) ?_
    refine tk HT_ HW_ hHeld 26 34 (bv 32 0x7ffffff) ?_
    refine py HT_ 27 35 (bv 32 0xfffffff) ?_
    refine tk HT_ HW_ hHeld 28 36 (bv 32 0x1fffffff) ?_
    refine one_ (i := 29) (N := some 37) (bv 32 0x3fffffff) rfl rfl (one_of HT_.out (by kernel_rfl)) (by decide) (fun K hK => ?_)
    refine goes_ Try.func57 (by kernel_rfl) rfl #[.agg #[.int .i64 a0_0, .int .i64 a0_1, .slice A0_2 l0_2.length c0_2, .slice A0_3 l0_3.length c0_3, .slice A0_4 l0_4.length c0_4]] (by rfl) rfl rfl ml ?_
    with_reducible refine (spec_l10Ghosts.calls a0_0 a0_1 _ _ l0_2 _ _ l0_3 _ _ l0_4 t185 _ ?side1 ?side2 ?side3 ?side4 ?side5 ?side6 A10.out).mono ?_
    (case side1 => repeat (first | exact (Kd.C_below HR0_2.out (be1 HB GE182)) | (with_reducible refine Kd.C_alloc ?_ _) | (with_reducible refine Kd.C_drewN ?_ _) | (with_reducible refine Kd.C_drew ?_)))
    (case side2 => exact HC0_2.out)
    (case side3 => repeat (first | exact (Kd.C_below HR0_3.out (be1 HB GE182)) | (with_reducible refine Kd.C_alloc ?_ _) | (with_reducible refine Kd.C_drewN ?_ _) | (with_reducible refine Kd.C_drew ?_)))
    (case side4 => exact HC0_3.out)
    (case side5 => repeat (first | exact (Kd.C_below HR0_4.out (be1 HB GE182)) | (with_reducible refine Kd.C_alloc ?_ _) | (with_reducible refine Kd.C_drewN ?_ _) | (with_reducible refine Kd.C_drew ?_)))
    (case side6 => exact HC0_4.out)
    rintro e w12 ⟨rfl, hb⟩
    refine ⟨_, rfl, ?_⟩
    have n0_ := bb BK182 hb
    have n1_ := Aside0.mk (below_step (be1 HB GE182) hb)
    clear BK182
    clear HB
    have BK182 := n0_
    have HB := n1_
    clear n0_ n1_
    (try clear hb)
    (try clear hb2)
    (try clear hk)
    (try clear hi)
    refine hK.out _ _ ⟨bc0 BK182, bc1 BK182, bc2 BK182, bc3 BK182, bc4 BK182⟩ (fun hHeld => ?_)
    clear hK K
    refine norm_ (a' := ?_) ?_ ?_
    rotate_left
    ·show Act.put _ (some 37) _ = _
     simp only [aP]
     rfl
    refine py HT_ 30 38 (bv 32 0x7fffffff) ?_
    refine py HT_ 31 39 (bv 32 0xffffffff) ?_
    refine done_ (done_of HT_.out (by kernel_rfl)) ?_
    try go_wp2
    go_meet
    case rel => exact ⟨_, (decide ((l0_4.length : Int) > t185)), rs, H', ⟨by first | omega | exact Nat.le_refl _⟩, ⟨bk BK182⟩, ⟨be1 HB GE182⟩⟩
   replace c7 := Bool.eq_false_iff.mpr c7
   subst c7
   rw [if_neg (show ¬ (false = true) by decide)] at H
   have H' := Aside0.mk H
   clear H
   try go_wp2
   have n0_ := Aside0.mk (blk_drew BK182.out)
   have n1_ := Aside0.mk (below_drew1 HB.out)
   clear BK182
   clear HB
   have BK182 := n0_
   have HB := n1_
   clear n0_ n1_
   refine start_ (n := 32) (S := fun w' => w'.cell? ⟨gb182, 0, none⟩ = some (.int .i64 a0_0) ∧ w'.cell? ⟨gb182, 1, none⟩ = some (.int .i64 a0_1) ∧ w'.cell? ⟨gb182, 2, none⟩ = some (.slice A0_2 l0_2.length c0_2) ∧ w'.cell? ⟨gb182, 3, none⟩ = some (.slice A0_3 l0_3.length c0_3) ∧ w'.cell? ⟨gb182, 4, none⟩ = some (.slice A0_4 l0_4.length c0_4)) (ds := []) (bv 32 0x0) (by kernel_rfl) rfl rfl ⟨bc0 BK182, bc1 BK182, bc2 BK182, bc3 BK182, bc4 BK182⟩ (fun hHeld => ?_); refine with_tabW spec_ThreeOk.tab1 spec_ThreeOk.bits1 (fun HT_ HW_ => ?_)
   generalize w3.drew = w13 at BK182 HB hHeld ⊢
   refine py HT_ 0 8 (bv 32 0x1) ?_
   refine tk HT_ HW_ hHeld 1 9 (bv 32 0x3) ?_
   refine one_ (i := 2) (N := some 10) (bv 32 0x7) rfl rfl (one_of HT_.out (by kernel_rfl)) (by decide) (fun K hK => ?_)
   refine goes_ Try.func56 (by kernel_rfl) rfl #[.int .i64 a0_0, .int .i64 1, .int .i64 60] (by rfl) rfl rfl ml ?_
   with_reducible refine (spec_l01In.calls a0_0 1 60 true _ A4.out).mono ?_
   rintro e w' ⟨rfl, ⟨nd, rfl⟩⟩
   refine ⟨_, rfl, ?_⟩
   refine hK.out _ _ ⟨bc0 BK182, bc1 BK182, bc2 BK182, bc3 BK182, bc4 BK182⟩ (fun hHeld => ?_)
   clear hK K
   refine norm_ (a' := ?_) ?_ ?_
   rotate_left
   ·show Act.put _ (some 10) _ = _
    simp only [aP]
    rfl
   refine py HT_ 3 11 (bv 32 0xf) ?_
   refine py HT_ 4 12 (bv 32 0x1f) ?_
   refine py HT_ 5 13 (bv 32 0x3f) ?_
   refine py HT_ 7 15 (bv 32 0xbf) ?_
   refine tk HT_ HW_ hHeld 6 14 (bv 32 0xff) ?_
   refine tk HT_ HW_ hHeld 8 16 (bv 32 0x1ff) ?_
   refine one_ (i := 9) (N := some 17) (bv 32 0x3ff) rfl rfl (one_of HT_.out (by kernel_rfl)) (by decide) (fun K hK => ?_)
   refine goes_ Try.func56 (by kernel_rfl) rfl #[.int .i64 a0_1, .int .i64 1, .int .i64 a0_0] (by rfl) rfl rfl ml ?_
   with_reducible refine (spec_l01In.calls a0_1 1 a0_0 false _ A6.out).mono ?_
   rintro e w' ⟨rfl, ⟨nd, rfl⟩⟩
   refine ⟨_, rfl, ?_⟩
   refine hK.out _ _ ⟨bc0 BK182, bc1 BK182, bc2 BK182, bc3 BK182, bc4 BK182⟩ (fun hHeld => ?_)
   clear hK K
   refine norm_ (a' := ?_) ?_ ?_
   rotate_left
   ·show Act.put _ (some 17) _ = _
    simp only [aP]
    rfl
   refine py HT_ 10 18 (bv 32 0x7ff) ?_
   refine py HT_ 11 19 (bv 32 0xfff) ?_
   refine py HT_ 12 20 (bv 32 0x1fff) ?_
   refine pu HT_ 13 21 (bv 32 0x3fff) ?_
   refine pu HT_ 14 22 (bv 32 0x7fff) ?_
   refine pu HT_ 15 23 (bv 32 0xffff) ?_
   refine pu HT_ 16 24 (bv 32 0x1ffff) ?_
   refine pu HT_ 17 25 (bv 32 0x3ffff) ?_
   refine pu HT_ 18 26 (bv 32 0x7ffff) ?_
   refine pu HT_ 19 27 (bv 32 0xfffff) ?_
   refine pu HT_ 20 28 (bv 32 0x1fffff) ?_
   refine pu HT_ 21 29 (bv 32 0x3fffff) ?_
   refine pu HT_ 22 30 (bv 32 0x7fffff) ?_
   refine py HT_ 23 31 (bv 32 0xffffff) ?_
   refine py HT_ 24 32 (bv 32 0x1ffffff) ?_
   refine pu HT_ 25 33 (bv 32 0x3ffffff) ?_
   refine pu HT_ 26 34 (bv 32 0x7ffffff) ?_
   refine pu HT_ 27 35 (bv 32 0xfffffff) ?_
   refine pu HT_ 28 36 (bv 32 0x1fffffff) ?_
   refine pu HT_ 29 37 (bv 32 0x3fffffff) ?_
   refine pu HT_ 30 38 (bv 32 0x7fffffff) ?_
   refine py HT_ 31 39 (bv 32 0xffffffff) ?_
   refine done_ (done_of HT_.out (by kernel_rfl)) ?_
   try go_wp2
   go_meet
   case rel => exact ⟨_, (true), rs, H', ⟨by first | omega | exact Nat.le_refl _⟩, ⟨bk BK182⟩, ⟨be1 HB GE182⟩⟩
  replace c5 := Bool.eq_false_iff.mpr c5
  subst c5
  rw [if_neg (show ¬ (false = true) by decide)] at H
  have H' := Aside0.mk H
  clear H
  try go_wp2
  have n0_ := Aside0.mk (blk_drew BK182.out)
  have n1_ := Aside0.mk (below_drew1 HB.out)
  clear BK182
  clear HB
  have BK182 := n0_
  have HB := n1_
  clear n0_ n1_
  refine start_ (n := 32) (S := fun w' => w'.cell? ⟨gb182, 0, none⟩ = some (.int .i64 a0_0) ∧ w'.cell? ⟨gb182, 1, none⟩ = some (.int .i64 a0_1) ∧ w'.cell? ⟨gb182, 2, none⟩ = some (.slice A0_2 l0_2.length c0_2) ∧ w'.cell? ⟨gb182, 3, none⟩ = some (.slice A0_3 l0_3.length c0_3) ∧ w'.cell? ⟨gb182, 4, none⟩ = some (.slice A0_4 l0_4.length c0_4)) (ds := []) (bv 32 0x0) (by kernel_rfl) rfl rfl ⟨bc0 BK182, bc1 BK182, bc2 BK182, bc3 BK182, bc4 BK182⟩ (fun hHeld => ?_); refine with_tabW spec_ThreeOk.tab1 spec_ThreeOk.bits1 (fun HT_ HW_ => ?_)
  generalize w3.drew = w14 at BK182 HB hHeld ⊢
  refine py HT_ 0 8 (bv 32 0x1) ?_
  refine tk HT_ HW_ hHeld 1 9 (bv 32 0x3) ?_
  refine one_ (i := 2) (N := some 10) (bv 32 0x7) rfl rfl (one_of HT_.out (by kernel_rfl)) (by decide) (fun K hK => ?_)
  refine goes_ Try.func56 (by kernel_rfl) rfl #[.int .i64 a0_0, .int .i64 1, .int .i64 60] (by rfl) rfl rfl ml ?_
  with_reducible refine (spec_l01In.calls a0_0 1 60 false _ A4.out).mono ?_
  rintro e w' ⟨rfl, ⟨nd, rfl⟩⟩
  refine ⟨_, rfl, ?_⟩
  refine hK.out _ _ ⟨bc0 BK182, bc1 BK182, bc2 BK182, bc3 BK182, bc4 BK182⟩ (fun hHeld => ?_)
  clear hK K
  refine norm_ (a' := ?_) ?_ ?_
  rotate_left
  ·show Act.put _ (some 10) _ = _
   simp only [aP]
   rfl
  refine py HT_ 3 11 (bv 32 0xf) ?_
  refine py HT_ 4 12 (bv 32 0x1f) ?_
  refine pu HT_ 5 13 (bv 32 0x3f) ?_
  refine pu HT_ 6 14 (bv 32 0x7f) ?_
  refine pu HT_ 7 15 (bv 32 0xff) ?_
  refine pu HT_ 8 16 (bv 32 0x1ff) ?_
  refine pu HT_ 9 17 (bv 32 0x3ff) ?_
  refine pu HT_ 10 18 (bv 32 0x7ff) ?_
  refine py HT_ 11 19 (bv 32 0xfff) ?_
  refine py HT_ 12 20 (bv 32 0x1fff) ?_
  refine pu HT_ 13 21 (bv 32 0x3fff) ?_
  refine pu HT_ 14 22 (bv 32 0x7fff) ?_
  refine pu HT_ 15 23 (bv 32 0xffff) ?_
  refine pu HT_ 16 24 (bv 32 0x1ffff) ?_
  refine pu HT_ 17 25 (bv 32 0x3ffff) ?_
  refine pu HT_ 18 26 (bv 32 0x7ffff) ?_
  refine pu HT_ 19 27 (bv 32 0xfffff) ?_
  refine pu HT_ 20 28 (bv 32 0x1fffff) ?_
  refine pu HT_ 21 29 (bv 32 0x3fffff) ?_
  refine pu HT_ 22 30 (bv 32 0x7fffff) ?_
  refine py HT_ 23 31 (bv 32 0xffffff) ?_
  refine py HT_ 24 32 (bv 32 0x1ffffff) ?_
  refine pu HT_ 25 33 (bv 32 0x3ffffff) ?_
  refine pu HT_ 26 34 (bv 32 0x7ffffff) ?_
  refine pu HT_ 27 35 (bv 32 0xfffffff) ?_
  refine pu HT_ 28 36 (bv 32 0x1fffffff) ?_
  refine pu HT_ 29 37 (bv 32 0x3fffffff) ?_
  refine pu HT_ 30 38 (bv 32 0x7fffffff) ?_
  refine py HT_ 31 39 (bv 32 0xffffffff) ?_
  refine done_ (done_of HT_.out (by kernel_rfl)) ?_
  try go_wp2
  go_meet
  case rel => exact ⟨_, (true), rs, H', ⟨by first | omega | exact Nat.le_refl _⟩, ⟨bk BK182⟩, ⟨be1 HB GE182⟩⟩
 case rest =>
  clear HC2
  try clear p2; try clear c5; try clear c7
  obtain ⟨kq, x39_1, rfl, HA, HJ1, BK182, HB⟩ := hcut
  cases kq with
  | zero => exact absurd HA.out (by simp [spec_ThreeOk.j0])
  | succ kj1 =>
   have H := HA.out
   clear HA
   simp only [spec_ThreeOk.j0] at H
   by_cases c15 : x39_1 = true
   ·subst c15
    rw [if_pos rfl] at H
    obtain rfl := Option.some.inj H
    go_wp2
    go_ret
    exact ⟨er, be1 HB GE182⟩
   replace c15 := Bool.eq_false_iff.mpr c15
   subst c15
   rw [if_neg (show ¬ (false = true) by decide)] at H
   obtain ⟨y186, hy186⟩ : ∃ y_ : List (S68), y_ = (([] : List (S68))) := ⟨_, rfl⟩
   replace H : (if y186.length + l0_2.length < 3518437208883 then ((some (y186 ++ l0_2 : List (S68))).bind fun y189 => (if y189.length + l0_3.length < 3518437208883 then ((some (y189 ++ l0_3 : List (S68))).bind fun y192 => (spec_ThreeOk.l0 kj1 y192 y192 (y192.length : Int) 0 a0_0 a0_1 l0_2 l0_3 l0_4)) else (none))) else (none)) = some r := by first | (rw [hy186]; with_reducible exact H) | (have H2_ := (Option.bind_some _ _).symm.trans H; rw [hy186]; with_reducible exact H2_) | (have H2_ := (Option.bind_some _ _).symm.trans H; with_reducible exact H2_) | with_reducible exact H | (rw [hy186]; exact H) | exact H
   have Ny186 := Aside0.mk hy186
   clear hy186
   by_cases c16 : y186.length + l0_2.length < 3518437208883
   ·rw [if_pos c16] at H
    have LMc16 := Aside0.mk c16
    clear c16
    obtain ⟨y189, hy189⟩ : ∃ y_ : List (S68), y_ = (y186 ++ l0_2) := ⟨_, rfl⟩
    replace H : (if y189.length + l0_3.length < 3518437208883 then ((some (y189 ++ l0_3 : List (S68))).bind fun y192 => (spec_ThreeOk.l0 kj1 y192 y192 (y192.length : Int) 0 a0_0 a0_1 l0_2 l0_3 l0_4)) else (none)) = some r := by first | (rw [hy189]; with_reducible exact H) | (have H2_ := (Option.bind_some _ _).symm.trans H; rw [hy189]; with_reducible exact H2_) | (have H2_ := (Option.bind_some _ _).symm.trans H; with_reducible exact H2_) | with_reducible exact H | (rw [hy189]; exact H) | exact H
    have Ny189 := Aside0.mk hy189
    clear hy189
    by_cases c17 : y189.length + l0_3.length < 3518437208883
    ·rw [if_pos c17] at H
     have LMc17 := Aside0.mk c17
     clear c17
     obtain ⟨y192, hy192⟩ : ∃ y_ : List (S68), y_ = (y189 ++ l0_3) := ⟨_, rfl⟩
     replace H : (spec_ThreeOk.l0 kj1 y192 y192 (y192.length : Int) 0 a0_0 a0_1 l0_2 l0_3 l0_4) = some r := by first | (rw [hy192]; with_reducible exact H) | (have H2_ := (Option.bind_some _ _).symm.trans H; rw [hy192]; with_reducible exact H2_) | (have H2_ := (Option.bind_some _ _).symm.trans H; with_reducible exact H2_) | with_reducible exact H | (rw [hy192]; exact H) | exact H
     have Ny192 := Aside0.mk hy192
     clear hy192
     have H' := Aside0.mk H
     clear H
     try go_wp2
     have n0_ := Aside0.mk (blk_drew BK182.out)
     have n1_ := Aside0.mk (below_drew1 HB.out)
     clear BK182
     clear HB
     have BK182 := n0_
     have HB := n1_
     clear n0_ n1_
     refine start_ (n := 8) (S := fun w' => w'.cell? ⟨gb182, 0, none⟩ = some (.int .i64 a0_0) ∧ w'.cell? ⟨gb182, 1, none⟩ = some (.int .i64 a0_1) ∧ w'.cell? ⟨gb182, 2, none⟩ = some (.slice A0_2 l0_2.length c0_2) ∧ w'.cell? ⟨gb182, 3, none⟩ = some (.slice A0_3 l0_3.length c0_3) ∧ w'.cell? ⟨gb182, 4, none⟩ = some (.slice A0_4 l0_4.length c0_4)) (ds := []) (bv 8 0x0) (by kernel_rfl) rfl rfl ⟨bc0 BK182, bc1 BK182, bc2 BK182, bc3 BK182, bc4 BK182⟩ (fun hHeld => ?_); refine with_tabW spec_ThreeOk.tab3 spec_ThreeOk.bits3 (fun HT_ HW_ => ?_)
     generalize wc.drew = w18 at BK182 HB hHeld ⊢
     refine py HT_ 1 41 (bv 8 0x2) ?_
     refine py HT_ 4 44 (bv 8 0x12) ?_
     refine tk HT_ HW_ hHeld 2 42 (bv 8 0x16) ?_
     refine tk HT_ HW_ hHeld 5 45 (bv 8 0x36) ?_
     refine one_ (i := 0) (N := some 40) (bv 8 0x37) rfl rfl (one_of HT_.out (by kernel_rfl)) (by decide) (fun K hK => ?_)
     refine Kd.R_lit_step k68 _ 68 ?hg (N := 40) ?hd (xs := ([] : List (S68))) (inner := []) (ok := fun _ => True) (okp := fun _ => True) ?hr ?hp (fun _ hk => hk) trivial (Below.refl _ _) (Nat.le_refl _) (by simp) ?_; (case hd => rfl); (case hg => rfl); (case hr => first | (go_simp; done) | (go_simp; rfl)); (case hp => exact (Reps.none _ _))
     intro v187 w19 ho20 hb hg_ hnew_
     clear hg_ hnew_
     (first | rw [← Ny186.out] at ho20 | (simp only [Int.reduceToNat] at ho20; rw [← Ny186.out] at ho20))
     have n0_ := Aside0.mk (Kd.R_lower ho20 (below_size (be1 HB GE182)))
     have n1_ := bb BK182 hb
     have n2_ := Aside0.mk (below_step (be1 HB GE182) hb)
     clear BK182
     clear HB
     have HO188 := n0_
     have BK182 := n1_
     have HB := n2_
     clear n0_ n1_ n2_
     clear hb ho20
     refine hK.out _ _ ⟨bc0 BK182, bc1 BK182, bc2 BK182, bc3 BK182, bc4 BK182⟩ (fun hHeld => ?_)
     clear hK K
     refine norm_ (a' := ?_) ?_ ?_
     rotate_left
     ·show Act.put _ (some 40) _ = _
      simp only [aP]
      rfl
     refine one_ (i := 3) (N := some 43) (bv 8 0x3f) rfl rfl (one_of HT_.out (by kernel_rfl)) (by decide) (fun K hK => ?_)
     refine Kd.R_append_rows_step k68 (w0 := w) w.heap.size (by rfl) (.tmp 40) (.tmp 42) 28 68 (.agg #[(.string ⟨#[]⟩), (.string ⟨#[]⟩), (.int .i64 0)]) 40 rfl Try.underlying28 info68 rfl (by decide) (by omega) v187 y186 l0_2 _ _ _ (fun _ => True) (fun _ => False) rfl rfl ?aO ?aR (fun _ _ h => h) (fun _ h => h.elim) ?aF ?aB ?aS ?aL ?_
     (case aR => repeat (first | exact (Kd.C_below HR0_2.out HB.out) | (with_reducible refine Kd.C_alloc ?_ _) | (with_reducible refine Kd.C_drewN ?_ _) | (with_reducible refine Kd.C_drew ?_)))
     (case aB => exact (be1 HB GE182))
     (case aF => exact (fun _ _ => trivial))
     (case aO => exact (ro HO188))
     (case aS => exact (below_size (be1 HB GE182)))
     (case aL => have := LMc16.out; omega)
     intro v190 w21 ho hb hg hat
     rw [← Ny189.out] at ho
     have n0_ := Aside0.mk (blk_grown (g := gb182) (o := .cells #[.int .i64 a0_0, .int .i64 a0_1, .slice A0_2 l0_2.length c0_2, .slice A0_3 l0_3.length c0_3, .slice A0_4 l0_4.length c0_4] 30 (0, 0)) (bk BK182) hg (Kd.R_ne HO188.out BK182.out (by decide)))
     have n1_ := Aside0.mk (hb)
     have n2_ := Aside0.mk (ho)
     clear BK182
     clear HB
     clear HO188
     have BK182 := n0_
     have HB := n1_
     have HO191 := n2_
     clear n0_ n1_ n2_
     clear ho hb hg hat
     refine hK.out _ _ ⟨bc0 BK182, bc1 BK182, bc2 BK182, bc3 BK182, bc4 BK182⟩ (fun hHeld => ?_)
     clear hK K
     refine norm_ (a' := ?_) ?_ ?_
     rotate_left
     ·show Act.put _ (some 43) _ = _
      simp only [aP]
      rfl
     refine one_ (i := 6) (N := some 46) (bv 8 0x7f) rfl rfl (one_of HT_.out (by kernel_rfl)) (by decide) (fun K hK => ?_)
     refine Kd.R_append_rows_step k68 (w0 := w) w.heap.size (by rfl) (.tmp 43) (.tmp 45) 28 68 (.agg #[(.string ⟨#[]⟩), (.string ⟨#[]⟩), (.int .i64 0)]) 40 rfl Try.underlying28 info68 rfl (by decide) (by omega) v190 y189 l0_3 _ _ _ (fun _ => True) (fun _ => False) rfl rfl ?aO ?aR (fun _ _ h => h) (fun _ h => h.elim) ?aF ?aB ?aS ?aL ?_
     (case aR => repeat (first | exact (Kd.C_below HR0_3.out HB.out) | (with_reducible refine Kd.C_alloc ?_ _) | (with_reducible refine Kd.C_drewN ?_ _) | (with_reducible refine Kd.C_drew ?_)))
     (case aB => exact (be1 HB GE182))
     (case aF => exact (fun _ _ => trivial))
     (case aO => exact (ro HO191))
     (case aS => exact (below_size (be1 HB GE182)))
     (case aL => have := LMc17.out; omega)
     intro v193 w22 ho hb hg hat
     rw [← Ny192.out] at ho
     have n0_ := Aside0.mk (blk_grown (g := gb182) (o := .cells #[.int .i64 a0_0, .int .i64 a0_1, .slice A0_2 l0_2.length c0_2, .slice A0_3 l0_3.length c0_3, .slice A0_4 l0_4.length c0_4] 30 (0, 0)) (bk BK182) hg (Kd.R_ne HO191.out BK182.out (by decide)))
     have n1_ := Aside0.mk (hb)
     have n2_ := Aside0.mk (ho)
     clear BK182
     clear HB
     clear HO191
     have BK182 := n0_
     have HB := n1_
     have HO194 := n2_
     clear n0_ n1_ n2_
     clear ho hb hg hat
     refine hK.out _ _ ⟨bc0 BK182, bc1 BK182, bc2 BK182, bc3 BK182, bc4 BK182⟩ (fun hHeld => ?_)
     clear hK K
     refine norm_ (a' := ?_) ?_ ?_
     rotate_left
     ·show Act.put _ (some 46) _ = _
      simp only [aP]
      rfl
     refine py HT_ 7 3 (bv 8 0xff) ?_
     refine done_ (done_of HT_.out (by kernel_rfl)) ?_
     obtain ⟨Ao23, co23, eo23⟩ := Kd.R_slice HO194.out
     subst eo23
     try go_wp2
     go_loopg [49] kj1 (fun kq v49 w' => ∃ (x49_2 : Int), v49 = .int .i64 x49_2 ∧ Aside0 (spec_ThreeOk.l0 kq y192 y192 (y192.length : Int) x49_2 a0_0 a0_1 l0_2 l0_3 l0_4 = some r) ∧ Aside0 (kq ≤ kj1) ∧ Aside0 (Kd.R k68 68 w' w.heap.size (fun _ => True) (.slice Ao23 y192.length co23) y192) ∧ Aside0 (Kd.R k68 68 w' w.heap.size (fun _ => True) (.slice Ao23 y192.length co23) y192) ∧ Aside0 (w'.heap[gb182]? = some (.cells #[.int .i64 a0_0, .int .i64 a0_1, (.slice A0_2 l0_2.length c0_2), (.slice A0_3 l0_3.length c0_3), (.slice A0_4 l0_4.length c0_4)] 30 (0, 0))) ∧ Aside0 (Below w.heap.size w w'))
     case atStart => exact ⟨(0), rs, H', ⟨Nat.le_refl _⟩, ⟨ro HO194⟩, ⟨ro HO194⟩, ⟨bk BK182⟩, ⟨be1 HB GE182⟩⟩
     case round =>
      clear H'
      try clear c1; try clear p2; try clear c5; try clear c7; try clear c15; try clear c16; try clear c17; try clear p2
      obtain ⟨x49_2, rfl, HA, HK2, HO_3, HO_47, BK182, HB⟩ := hrel
      cases gk with
      | zero => exact absurd HA.out (by simp [spec_ThreeOk.l0])
      | succ k2 =>
       have H := HA.out
       clear HA
       simp only [spec_ThreeOk.l0] at H
       by_cases c24 : x49_2 < (y192.length : Int)
       ·rw [if_pos c24] at H
        have c24b0 : decide (x49_2 < (y192.length : Int)) = true := decide_eq_true c24
        clear c24
        by_cases c25 : 0 ≤ x49_2
        ·rw [if_pos c25] at H
         have c25b0 : decide (0 ≤ x49_2) = true := decide_eq_true c25
         clear c25
         by_cases c26 : x49_2 < (y192.length : Int)
         ·rw [if_pos c26] at H
          have c26b0 : decide (x49_2 < (y192.length : Int)) = true := decide_eq_true c26
          clear c26
          replace H := Option.bind_eq_some_iff.mp H
          obtain ⟨t197, A270, H⟩ := H
          try dsimp only at H
          have A27 := Aside0.mk A270
          clear A270
          by_cases c28 : t197 = true
          ·subst c28
           rw [if_pos rfl] at H
           replace H := Option.bind_eq_some_iff.mp H
           obtain ⟨t198, A290, H⟩ := H
           try dsimp only at H
           have A29 := Aside0.mk A290
           clear A290
           by_cases c30 : t198 = x49_2
           ·rw [if_pos c30] at H
            have c30b0 : (t198 == x49_2) = true := beq_iff_eq.mpr c30
            have c30b1 : (t198 != x49_2) = false := bne_eq_false_iff_eq.mpr c30
            clear c30
            have H' := Aside0.mk H
            clear H
            have p195 : 0 ≤ (x49_2 : Int) := od
            have q195 : x49_2 < (y192.length : Int) := od
            obtain ⟨ad195, e195, hx195_0, hx195_1, hx195_2⟩ := at_T68 (Kd.R_reads' HO_47.out).2.2 x49_2 p195 q195
            cases e195
            replace p195 := eq_true p195
            replace q195 := eq_true q195
            go_wp2_with (first | ((with_reducible refine gate_dst (N := 5) rfl ?_); (try (refine gate_guard (by rfl) ?_; dsimp only)); refine bx 5 #[.string (⟨#[]⟩ : ByteArray), .string (⟨#[]⟩ : ByteArray), .int .i64 0] 68 ?_; intro gb196 hg w31 hbox hb; replace HO_3 := Aside0.mk (Kd.R_below (Kd.R_elderB (ro HO_3) gb196 (Nat.le_of_eq hg.symm)) hb); replace HO_47 := Aside0.mk (Kd.R_below (Kd.R_elderB (ro HO_47) gb196 (Nat.le_of_eq hg.symm)) hb); have BK196 := am hbox; have GW196 := gs1 hg HB GE182; have GE196 := gs1 hg HB GE182; replace HB := Aside0.mk (below_step (be1 HB GE182) hb); have NB182_196 := nl hg BK182; have NB196_182 := ng hg BK182; replace BK182 := bb BK182 hb; clear hb hbox hg; have hnb32 := NB196_182.out; have hnc32 := NB182_196.out; have hcz33_0 := bz3 BK196) | ((with_reducible refine gate_callee (f := 58) rfl ?_); refine gl 55 Try.func58 #[.agg #[.string ((rd_T68 y192 x49_2).f0), .string ((rd_T68 y192 x49_2).f1), .int .i64 ((rd_T68 y192 x49_2).f2)]] ?_; (with_reducible refine (spec_ItemOk.calls k2 ((rd_T68 y192 x49_2).f0) ((rd_T68 y192 x49_2).f1) ((rd_T68 y192 x49_2).f2) true _ A27.out).mono ?_); rintro e w34 ⟨rfl, hb⟩; refine ⟨_, rfl, ?_⟩; replace HO_3 := Aside0.mk (Kd.R_below (rgs gb196 HO_3) hb); replace HO_47 := Aside0.mk (Kd.R_below (rgs gb196 HO_47) hb); replace BK182 := Aside0.mk (blk_below (g := gb182) (o := .cells #[.int .i64 a0_0, .int .i64 a0_1, .slice A0_2 l0_2.length c0_2, .slice A0_3 l0_3.length c0_3, .slice A0_4 l0_4.length c0_4] 30 (0, 0)) (bf1 BK182 NB182_196) hb); replace BK196 := Aside0.mk (blk_below (g := gb196) (o := .cells #[.string ((rd_T68 y192 x49_2).f0), .string ((rd_T68 y192 x49_2).f1), .int .i64 ((rd_T68 y192 x49_2).f2)] 68 (0, 0)) (bp BK196) hb); replace HB := Aside0.mk (below_step (be2 HB GE182 GE196) hb); (try clear hb); have hcz35_0 := bz3 BK196) | (go_at_call 59; (with_reducible refine (spec_l10At.calls k2 _ _ y192 ((rd_T68 y192 x49_2).f0) t198 _ (cr HO_3) ((Kd.R_reads' HO_3.out).2.1) A29.out).mono ?_); rintro e w36 ⟨rfl, hb⟩; replace HO_3 := rb HO_3 hb; replace HO_47 := rb HO_47 hb; replace BK182 := bb BK182 hb; replace BK196 := bb BK196 hb; replace HB := Aside0.mk (below_step (be2 HB GE182 GE196) hb); (try clear hb)))
            go_roundg k2
            case measure => have := HJ1.out; have := HK2.out; omega
            case rel => exact ⟨(wrap64 (x49_2 + 1)), rs, H', ⟨by have := HJ1.out; have := HK2.out; omega⟩, ⟨by (with_reducible repeat (first | apply Kd.R_alloc | apply Kd.R_drewN | apply Kd.R_drew)); exact Kd.R_mono HO_3.out (fun _ hk => trivial)⟩, ⟨by (with_reducible repeat (first | apply Kd.R_alloc | apply Kd.R_drewN | apply Kd.R_drew)); exact Kd.R_mono HO_47.out (fun _ hk => trivial)⟩, ⟨bk BK182⟩, ⟨be2 HB GE182 GE196⟩⟩
           rw [if_neg c30] at H
           have c30b0 : (t198 == x49_2) = false := beq_eq_false_iff_ne.mpr c30
           have c30b1 : (t198 != x49_2) = true := bne_iff_ne.mpr c30
           obtain rfl := Option.some.inj H
           have p195 : 0 ≤ (x49_2 : Int) := od
           have q195 : x49_2 < (y192.length : Int) := od
           obtain ⟨ad195, e195, hx195_0, hx195_1, hx195_2⟩ := at_T68 (Kd.R_reads' HO_47.out).2.2 x49_2 p195 q195
           cases e195
           replace p195 := eq_true p195
           replace q195 := eq_true q195
           go_wp2_with (first | ((with_reducible refine gate_dst (N := 5) rfl ?_); (try (refine gate_guard (by rfl) ?_; dsimp only)); refine bx 5 #[.string (⟨#[]⟩ : ByteArray), .string (⟨#[]⟩ : ByteArray), .int .i64 0] 68 ?_; intro gb196 hg w37 hbox hb; replace HO_3 := Aside0.mk (Kd.R_below (Kd.R_elderB (ro HO_3) gb196 (Nat.le_of_eq hg.symm)) hb); replace HO_47 := Aside0.mk (Kd.R_below (Kd.R_elderB (ro HO_47) gb196 (Nat.le_of_eq hg.symm)) hb); have BK196 := am hbox; have GW196 := gs1 hg HB GE182; have GE196 := gs1 hg HB GE182; replace HB := Aside0.mk (below_step (be1 HB GE182) hb); have NB182_196 := nl hg BK182; have NB196_182 := ng hg BK182; replace BK182 := bb BK182 hb; clear hb hbox hg; have hnb38 := NB196_182.out; have hnc38 := NB182_196.out; have hcz39_0 := bz3 BK196) | ((with_reducible refine gate_callee (f := 58) rfl ?_); refine gl 55 Try.func58 #[.agg #[.string ((rd_T68 y192 x49_2).f0), .string ((rd_T68 y192 x49_2).f1), .int .i64 ((rd_T68 y192 x49_2).f2)]] ?_; (with_reducible refine (spec_ItemOk.calls k2 ((rd_T68 y192 x49_2).f0) ((rd_T68 y192 x49_2).f1) ((rd_T68 y192 x49_2).f2) true _ A27.out).mono ?_); rintro e w40 ⟨rfl, hb⟩; refine ⟨_, rfl, ?_⟩; replace HO_3 := Aside0.mk (Kd.R_below (rgs gb196 HO_3) hb); replace HO_47 := Aside0.mk (Kd.R_below (rgs gb196 HO_47) hb); replace BK182 := Aside0.mk (blk_below (g := gb182) (o := .cells #[.int .i64 a0_0, .int .i64 a0_1, .slice A0_2 l0_2.length c0_2, .slice A0_3 l0_3.length c0_3, .slice A0_4 l0_4.length c0_4] 30 (0, 0)) (bf1 BK182 NB182_196) hb); replace BK196 := Aside0.mk (blk_below (g := gb196) (o := .cells #[.string ((rd_T68 y192 x49_2).f0), .string ((rd_T68 y192 x49_2).f1), .int .i64 ((rd_T68 y192 x49_2).f2)] 68 (0, 0)) (bp BK196) hb); replace HB := Aside0.mk (below_step (be2 HB GE182 GE196) hb); (try clear hb); have hcz41_0 := bz3 BK196) | (go_at_call 59; (with_reducible refine (spec_l10At.calls k2 _ _ y192 ((rd_T68 y192 x49_2).f0) t198 _ (cr HO_3) ((Kd.R_reads' HO_3.out).2.1) A29.out).mono ?_); rintro e w42 ⟨rfl, hb⟩; replace HO_3 := rb HO_3 hb; replace HO_47 := rb HO_47 hb; replace BK182 := bb BK182 hb; replace BK196 := bb BK196 hb; replace HB := Aside0.mk (below_step (be2 HB GE182 GE196) hb); (try clear hb)))
           go_ret
           exact ⟨er, be2 HB GE182 GE196⟩
          replace c28 := Bool.eq_false_iff.mpr c28
          subst c28
          rw [if_neg (show ¬ (false = true) by decide)] at H
          obtain rfl := Option.some.inj H
          have p195 : 0 ≤ (x49_2 : Int) := od
          have q195 : x49_2 < (y192.length : Int) := od
          obtain ⟨ad195, e195, hx195_0, hx195_1, hx195_2⟩ := at_T68 (Kd.R_reads' HO_47.out).2.2 x49_2 p195 q195
          cases e195
          replace p195 := eq_true p195
          replace q195 := eq_true q195
          go_wp2_with (first | ((with_reducible refine gate_dst (N := 5) rfl ?_); (try (refine gate_guard (by rfl) ?_; dsimp only)); refine bx 5 #[.string (⟨#[]⟩ : ByteArray), .string (⟨#[]⟩ : ByteArray), .int .i64 0] 68 ?_; intro gb196 hg w43 hbox hb; replace HO_3 := Aside0.mk (Kd.R_below (Kd.R_elderB (ro HO_3) gb196 (Nat.le_of_eq hg.symm)) hb); replace HO_47 := Aside0.mk (Kd.R_below (Kd.R_elderB (ro HO_47) gb196 (Nat.le_of_eq hg.symm)) hb); have BK196 := am hbox; have GW196 := gs1 hg HB GE182; have GE196 := gs1 hg HB GE182; replace HB := Aside0.mk (below_step (be1 HB GE182) hb); have NB182_196 := nl hg BK182; have NB196_182 := ng hg BK182; replace BK182 := bb BK182 hb; clear hb hbox hg; have hnb44 := NB196_182.out; have hnc44 := NB182_196.out; have hcz45_0 := bz3 BK196) | ((with_reducible refine gate_callee (f := 58) rfl ?_); refine gl 55 Try.func58 #[.agg #[.string ((rd_T68 y192 x49_2).f0), .string ((rd_T68 y192 x49_2).f1), .int .i64 ((rd_T68 y192 x49_2).f2)]] ?_; (with_reducible refine (spec_ItemOk.calls k2 ((rd_T68 y192 x49_2).f0) ((rd_T68 y192 x49_2).f1) ((rd_T68 y192 x49_2).f2) false _ A27.out).mono ?_); rintro e w46 ⟨rfl, hb⟩; refine ⟨_, rfl, ?_⟩; replace HO_3 := Aside0.mk (Kd.R_below (rgs gb196 HO_3) hb); replace HO_47 := Aside0.mk (Kd.R_below (rgs gb196 HO_47) hb); replace BK182 := Aside0.mk (blk_below (g := gb182) (o := .cells #[.int .i64 a0_0, .int .i64 a0_1, .slice A0_2 l0_2.length c0_2, .slice A0_3 l0_3.length c0_3, .slice A0_4 l0_4.length c0_4] 30 (0, 0)) (bf1 BK182 NB182_196) hb); replace BK196 := Aside0.mk (blk_below (g := gb196) (o := .cells #[.string ((rd_T68 y192 x49_2).f0), .string ((rd_T68 y192 x49_2).f1), .int .i64 ((rd_T68 y192 x49_2).f2)] 68 (0, 0)) (bp BK196) hb); replace HB := Aside0.mk (below_step (be2 HB GE182 GE196) hb); (try clear hb)))
          go_ret
          exact ⟨er, be2 HB GE182 GE196⟩
         rw [if_neg c26] at H
         exact absurd H (by simp)
        rw [if_neg c25] at H
        exact absurd H (by simp)
       rw [if_neg c24] at H
       have c24b0 : decide (x49_2 < (y192.length : Int)) = false := decide_eq_false c24
       clear c24
       have H' := Aside0.mk H
       clear H
       have hcz47_0 := bz5 BK182
       go_wp2
       go_loopg [69] k2 (fun kq v69 w' => ∃ (x69_3 : Int), v69 = .int .i64 x69_3 ∧ Aside0 (spec_ThreeOk.l1 kq l0_4 (l0_4.length : Int) x69_3 a0_0 a0_1 l0_2 l0_3 l0_4 = some r) ∧ Aside0 (kq ≤ k2) ∧ Aside0 (w'.heap[gb182]? = some (.cells #[.int .i64 a0_0, .int .i64 a0_1, (.slice A0_2 l0_2.length c0_2), (.slice A0_3 l0_3.length c0_3), (.slice A0_4 l0_4.length c0_4)] 30 (0, 0))) ∧ Aside0 (Below w.heap.size w w'))
       case atStart => exact ⟨(0), rs, H', ⟨Nat.le_refl _⟩, ⟨bk BK182⟩, ⟨be1 HB GE182⟩⟩
       case round =>
        clear H'
        try clear c1; try clear p1; try clear q1; try clear hx1; try clear c2; try clear p2; try clear c3; try clear c4; try clear c5; try clear p6; try clear c7; try clear c15; try clear c16; try clear c17; try clear p19; try clear q19; try clear hx19; try clear c24; try clear c24b0; try clear c25; try clear c25b0; try clear c26; try clear c26b0; try clear c28; try clear c30; try clear c30b0; try clear c30b1; try clear c32; try clear c38; try clear c44; try clear hcz33_0; try clear hcz35_0; try clear hcz39_0; try clear hcz41_0; try clear hcz45_0; try clear hcz47_0; try clear hx195_0; try clear hx195_1; try clear hx195_2; try clear p195; try clear p2; try clear q195
        obtain ⟨x69_3, rfl, HA, HK3, BK182, HB⟩ := hrel
        cases gk with
        | zero => exact absurd HA.out (by simp [spec_ThreeOk.l1])
        | succ k3 =>
         have H := HA.out
         clear HA
         simp only [spec_ThreeOk.l1] at H
         by_cases c48 : x69_3 < (l0_4.length : Int)
         ·rw [if_pos c48] at H
          have c48b0 : decide (x69_3 < (l0_4.length : Int)) = true := decide_eq_true c48
          clear c48
          by_cases c49 : 0 ≤ x69_3
          ·rw [if_pos c49] at H
           have c49b0 : decide (0 ≤ x69_3) = true := decide_eq_true c49
           clear c49
           by_cases c50 : x69_3 < (l0_4.length : Int)
           ·rw [if_pos c50] at H
            have c50b0 : decide (x69_3 < (l0_4.length : Int)) = true := decide_eq_true c50
            clear c50
            replace H := Option.bind_eq_some_iff.mp H
            obtain ⟨t200, A510, H⟩ := H
            try dsimp only at H
            have A51 := Aside0.mk A510
            clear A510
            by_cases c52 : t200 = true
            ·subst c52
             rw [if_pos rfl] at H
             have c53b0 := eq_true (od : 0 ≤ x69_3)
             by_cases c54 : x69_3 ≤ (l0_4.length : Int)
             ·rw [if_pos c54] at H
              have c54b0 := eq_true c54
              have c54b1 : decide (x69_3 ≤ (l0_4.length : Int)) = true := decide_eq_true c54
              clear c54
              replace H := Option.bind_eq_some_iff.mp H
              obtain ⟨t202, A550, H⟩ := H
              try dsimp only at H
              have A55 := Aside0.mk A550
              clear A550
              by_cases c56 : t202 = true
              ·subst c56
               rw [if_pos rfl] at H
               obtain rfl := Option.some.inj H
               have p199 : 0 ≤ (x69_3 : Int) := od
               have q199 : x69_3 < (l0_4.length : Int) := od
               obtain ⟨ad199, e199, hx199_0⟩ := Kd.at_int HR0_4.out x69_3 p199 q199
               cases e199
               replace hx199_0 := hc HB hx199_0
               replace p199 := eq_true p199
               replace q199 := eq_true q199
               go_wp2_with (first | ((with_reducible refine gate_callee (f := 60) rfl ?_); refine gl 75 Try.func60 #[.int .i64 (rd l0_4 x69_3)] ?_; (with_reducible refine (spec_l01Num.calls (rd l0_4 x69_3) true _ A51.out).mono ?_); rintro e w' ⟨rfl, ⟨nd, rfl⟩⟩; refine ⟨_, rfl, ?_⟩; have hcz57_0 := bz5 BK182; obtain ⟨i058, hi058, _, hsz58, _⟩ := info_parts info3; obtain ⟨hcut58, hA58, hC58⟩ := print_take_of (P := Try.prog) (Value.int .i64) 0 23 3 .i64 Try.underlying23 hi058 hsz58 (some ad199) c0_4 l0_4 x69_3 (od) (od) HC0_4.out; have HR201 := Aside0.mk (Kd.C_of_reads (h1 := fun _ => rfl) (hA58 _ (Kd.reads_of_C HR0_4.out))); have HC201 := Aside0.mk hC58; clear hA58 hC58 hi058 hsz58) | (go_at_call 61; (try rw [show x69_3.toNat = (l0_4.take (x69_3 : Int).toNat).length from by have hq1_ : x69_3 ≤ (l0_4.length : Int) := of_decide_eq_true (by assumption); simp only [List.length_take]; omega]); (with_reducible refine (spec_l03Has.calls k3 _ _ (l0_4.take (x69_3 : Int).toNat) (rd l0_4 x69_3) true _ ?side1 ?side2 A55.out).mono ?_); (case side1 => repeat (first | exact (Kd.C_below HR201.out (be1 HB GE182)) | (with_reducible refine Kd.C_alloc ?_ _) | (with_reducible refine Kd.C_drewN ?_ _) | (with_reducible refine Kd.C_drew ?_))); (case side2 => exact HC201.out); rintro e w' ⟨rfl, ⟨nd, rfl⟩⟩))
               go_ret
               exact ⟨er, be1 HB GE182⟩
              replace c56 := Bool.eq_false_iff.mpr c56
              subst c56
              rw [if_neg (show ¬ (false = true) by decide)] at H
              have H' := Aside0.mk H
              clear H
              have p199 : 0 ≤ (x69_3 : Int) := od
              have q199 : x69_3 < (l0_4.length : Int) := od
              obtain ⟨ad199, e199, hx199_0⟩ := Kd.at_int HR0_4.out x69_3 p199 q199
              cases e199
              replace hx199_0 := hc HB hx199_0
              replace p199 := eq_true p199
              replace q199 := eq_true q199
              go_wp2_with (first | ((with_reducible refine gate_callee (f := 60) rfl ?_); refine gl 75 Try.func60 #[.int .i64 (rd l0_4 x69_3)] ?_; (with_reducible refine (spec_l01Num.calls (rd l0_4 x69_3) true _ A51.out).mono ?_); rintro e w' ⟨rfl, ⟨nd, rfl⟩⟩; refine ⟨_, rfl, ?_⟩; have hcz59_0 := bz5 BK182; obtain ⟨i060, hi060, _, hsz60, _⟩ := info_parts info3; obtain ⟨hcut60, hA60, hC60⟩ := print_take_of (P := Try.prog) (Value.int .i64) 0 23 3 .i64 Try.underlying23 hi060 hsz60 (some ad199) c0_4 l0_4 x69_3 (od) (od) HC0_4.out; have HR201 := Aside0.mk (Kd.C_of_reads (h1 := fun _ => rfl) (hA60 _ (Kd.reads_of_C HR0_4.out))); have HC201 := Aside0.mk hC60; clear hA60 hC60 hi060 hsz60) | (go_at_call 61; (try rw [show x69_3.toNat = (l0_4.take (x69_3 : Int).toNat).length from by have hq1_ : x69_3 ≤ (l0_4.length : Int) := of_decide_eq_true (by assumption); simp only [List.length_take]; omega]); (with_reducible refine (spec_l03Has.calls k3 _ _ (l0_4.take (x69_3 : Int).toNat) (rd l0_4 x69_3) false _ ?side1 ?side2 A55.out).mono ?_); (case side1 => repeat (first | exact (Kd.C_below HR201.out (be1 HB GE182)) | (with_reducible refine Kd.C_alloc ?_ _) | (with_reducible refine Kd.C_drewN ?_ _) | (with_reducible refine Kd.C_drew ?_))); (case side2 => exact HC201.out); rintro e w' ⟨rfl, ⟨nd, rfl⟩⟩))
              go_roundg k3
              case measure => have := HJ1.out; have := HK2.out; have := HK3.out; omega
              case rel => exact ⟨(wrap64 (x69_3 + 1)), rs, H', ⟨by have := HJ1.out; have := HK2.out; have := HK3.out; omega⟩, ⟨bk BK182⟩, ⟨be1 HB GE182⟩⟩
             rw [if_neg c54] at H
             exact absurd H (by simp)
            replace c52 := Bool.eq_false_iff.mpr c52
            subst c52
            rw [if_neg (show ¬ (false = true) by decide)] at H
            obtain rfl := Option.some.inj H
            have p199 : 0 ≤ (x69_3 : Int) := od
            have q199 : x69_3 < (l0_4.length : Int) := od
            obtain ⟨ad199, e199, hx199_0⟩ := Kd.at_int HR0_4.out x69_3 p199 q199
            cases e199
            replace hx199_0 := hc HB hx199_0
            replace p199 := eq_true p199
            replace q199 := eq_true q199
            go_wp2_with (first | ((with_reducible refine gate_callee (f := 60) rfl ?_); refine gl 75 Try.func60 #[.int .i64 (rd l0_4 x69_3)] ?_; (with_reducible refine (spec_l01Num.calls (rd l0_4 x69_3) false _ A51.out).mono ?_); rintro e w' ⟨rfl, ⟨nd, rfl⟩⟩; refine ⟨_, rfl, ?_⟩))
            go_ret
            exact ⟨er, be1 HB GE182⟩
           rw [if_neg c50] at H
           exact absurd H (by simp)
          rw [if_neg c49] at H
          exact absurd H (by simp)
         rw [if_neg c48] at H
         have c48b0 : decide (x69_3 < (l0_4.length : Int)) = false := decide_eq_false c48
         clear c48
         obtain rfl := Option.some.inj H
         go_wp2
         go_ret
         exact ⟨er, be1 HB GE182⟩
    rw [if_neg c17] at H
    exact absurd H (by simp)
   rw [if_neg c16] at H
   exact absurd H (by simp)

end Go.Proofs.Ytfjhkediaholmaa.QFnExactEvict
