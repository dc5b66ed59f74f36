-- made by a program of this session (myprint.py)
import Derived.Test.YtfjhkediaholmaaQFnSweepx0
import Derived.Test.YtfjhkediaholmaaQFnSweepx1
namespace Go.Proofs.Ytfjhkediaholmaa.QFnSweep
open Go.RowKit Go.Proofs.YtfjhkediaholmaaW.PrintWords Go.Proofs.YtfjhkediaholmaaW.PrintLast Go.Proofs.YtfjhkediaholmaaW.PrintMore
attribute [local go_sem] max2_int min2_int max_two min_two max_three min_three max_four min_four   -- for this text's walks alone
set_option linter.unusedVariables false
set_option linter.unusedSimpArgs false

/-! ### impl_ThreeOk: function 19 -/
mutual
def impl_ThreeOk.j0 : Nat → Bool → Int → Int → List (S68) → List (S68) → List Int → Option (Bool)
 | 0, _, _, _, _, _, _ => none
 | k + 1, x24, x123000, x123001, x123002, x123003, x123004 => if x24 = true then (some false) else (impl_ThreeOk.l0 k x123004 (x123004.length : Int) 0 x123000 x123001 x123002 x123003 x123004)
def impl_ThreeOk.l0 : Nat → List Int → Int → Int → Int → Int → List (S68) → List (S68) → List Int → Option (Bool)
 | 0, _, _, _, _, _, _, _, _ => none
 | k + 1, x26, x27, x28, x123000, x123001, x123002, x123003, x123004 => if x28 < x27 then (if 0 ≤ x28 then (if x28 < (x26.length : Int) then ((impl_isNum.f (rd x26 x28)).bind fun t133 => (if t133 = true then (if x28 ≤ (x123004.length : Int) then ((slices_Contains_int_int.f k (x123004.take (x28 : Int).toNat) (rd x26 x28)).bind fun t135 => (if t135 = true then (some false) else (impl_ThreeOk.l0 k x26 x27 (wrap64 (x28 + 1)) x123000 x123001 x123002 x123003 x123004))) else (none)) else (some false))) else (none)) else (none)) else ((impl_copyItems.f x123002).bind fun t125 => (if t125.length + x123003.length < 3518437208883 then ((some (t125 ++ x123003 : List (S68))).bind fun y128 => (if (y128.length : Int) ≤ x123000 then ((impl_areItems.f k y128).bind fun t131 => (some t131)) else (some false))) else (none)))
end
def impl_ThreeOk.f (k : Nat) (a0_0 : Int) (a0_1 : Int) (l0_2 : List (S68)) (l0_3 : List (S68)) (l0_4 : List Int) : Option (Bool) := (impl_within.f a0_0 1 60).bind fun t123 => (if t123 = true then ((impl_within.f a0_1 1 a0_0).bind fun t124 => (if t124 = true then (impl_ThreeOk.j0 k (decide ((l0_4.length : Int) > (mx 1 (wrap64 (a0_0 - a0_1))))) a0_0 a0_1 l0_2 l0_3 l0_4) else (impl_ThreeOk.j0 k true a0_0 a0_1 l0_2 l0_3 l0_4))) else (impl_ThreeOk.j0 k true a0_0 a0_1 l0_2 l0_3 l0_4))
theorem impl_ThreeOk.mono_l : ∀ k, (∀ y0 y1 y2 y3 y4 y5, LeO (impl_ThreeOk.j0 k y0 y1 y2 y3 y4 y5) (impl_ThreeOk.j0 (k + 1) y0 y1 y2 y3 y4 y5)) ∧ (∀ y0 y1 y2 y3 y4 y5 y6 y7, LeO (impl_ThreeOk.l0 k y0 y1 y2 y3 y4 y5 y6 y7) (impl_ThreeOk.l0 (k + 1) y0 y1 y2 y3 y4 y5 y6 y7))
 | 0 => ⟨fun _ _ _ _ _ _ r h => by simp [impl_ThreeOk.j0] at h, fun _ _ _ _ _ _ _ _ r h => by simp [impl_ThreeOk.l0] at h⟩
 | k + 1 => by
  obtain ⟨ih0, ih1⟩ := impl_ThreeOk.mono_l k
  refine ⟨?_, ?_⟩
  ·intro y0 y1 y2 y3 y4 y5
   unfold impl_ThreeOk.j0
   repeat' first
   | (with_reducible exact ih0 _ _ _ _ _ _)
   | (with_reducible exact ih1 _ _ _ _ _ _ _ _)
   | (with_reducible exact impl_areItems.mono _ _)
   | (with_reducible exact slices_Contains_int_int.mono _ _ _)
   | (with_reducible exact LeO.refl _)
   | (with_reducible exact LeO.none _)
   | (with_reducible refine LeO.ite ?_ ?_)
   | (with_reducible refine LeO.bind ?_ (fun _ => ?_))
   | exact ih0 _ _ _ _ _ _
   | exact ih1 _ _ _ _ _ _ _ _
   | exact impl_areItems.mono _ _
   | exact slices_Contains_int_int.mono _ _ _
   | exact LeO.none _
   | refine LeO.ite ?_ ?_
   | refine LeO.bind ?_ (fun _ => ?_)
  intro y0 y1 y2 y3 y4 y5 y6 y7
  unfold impl_ThreeOk.l0
  repeat' first
  | (with_reducible exact ih0 _ _ _ _ _ _)
  | (with_reducible exact ih1 _ _ _ _ _ _ _ _)
  | (with_reducible exact impl_areItems.mono _ _)
  | (with_reducible exact slices_Contains_int_int.mono _ _ _)
  | (with_reducible exact LeO.refl _)
  | (with_reducible exact LeO.none _)
  | (with_reducible refine LeO.ite ?_ ?_)
  | (with_reducible refine LeO.bind ?_ (fun _ => ?_))
  | exact ih0 _ _ _ _ _ _
  | exact ih1 _ _ _ _ _ _ _ _
  | exact impl_areItems.mono _ _
  | exact slices_Contains_int_int.mono _ _ _
  | exact LeO.none _
  | refine LeO.ite ?_ ?_
  | refine LeO.bind ?_ (fun _ => ?_)
theorem impl_ThreeOk.mono : ∀ a0 a1 a2 a3 a4 k, LeO (impl_ThreeOk.f k a0 a1 a2 a3 a4) (impl_ThreeOk.f (k + 1) a0 a1 a2 a3 a4) := by
 intro a0 a1 a2 a3 a4 k
 obtain ⟨ih0, ih1⟩ := impl_ThreeOk.mono_l k
 unfold impl_ThreeOk.f
 repeat' first
   | (with_reducible exact ih0 _ _ _ _ _ _)
   | (with_reducible exact ih1 _ _ _ _ _ _ _ _)
   | (with_reducible exact impl_areItems.mono _ _)
   | (with_reducible exact slices_Contains_int_int.mono _ _ _)
   | (with_reducible exact LeO.refl _)
   | (with_reducible exact LeO.none _)
   | (with_reducible refine LeO.ite ?_ ?_)
   | (with_reducible refine LeO.bind ?_ (fun _ => ?_))
   | exact ih0 _ _ _ _ _ _
   | exact ih1 _ _ _ _ _ _ _ _
   | exact impl_areItems.mono _ _
   | exact slices_Contains_int_int.mono _ _ _
   | exact LeO.none _
   | refine LeO.ite ?_ ?_
   | refine LeO.bind ?_ (fun _ => ?_)
theorem impl_Three_ghosts_at (B : Nat) (W : World) (a b j : Int) (h0 : W.cell? ⟨B, 0, none⟩ = some (.int .i64 a)) (h1 : W.cell? ⟨B, 1, none⟩ = some (.int .i64 b)) (hj : (if 1 < wrap64 (a - b) then wrap64 (a - b) else 1) = j) :
  Calls Try.prog 65 #[.pointer (some ⟨B, 0, none⟩)] W fun e w' => e = .returned (.int .i64 j) ∧ ∃ nd, w' = W.drewN nd := by
 have HJ := Aside0.mk hj
 clear hj
 go_enter Try.func65, Try.ntmps65
 go_wp2
 repeat (go_quiet (fail); try go_wp2)
 all_goals
  go_ret
  refine ⟨?_, ?_⟩
  ·rw [← HJ.out]
   first | (rw [if_pos (by omega)]; rfl) | (rw [if_neg (by omega)]; rfl)
  first | exact ⟨_, rfl⟩ | exact ⟨0, rfl⟩ | exact ⟨1, rfl⟩
def impl_ThreeOk.T1 : Bool × List (List Nat × List Nat) := (true, [([], []), ([0], [0]), ([1], [1]), ([2], [2]), ([3, 2], [3]), ([4], [4]), ([5, 4], [4, 5]), ([4], [4]), ([7, 4], [4, 7]), ([6, 8, 4, 4], [4, 6, 8]), ([9, 4], [4, 9]), ([4, 10], [4, 10]), ([11, 9], [11]), ([12], [12]), ([13, 12], [12, 13]), ([14, 12], [12, 14]), ([12, 12], [12]), ([15, 16, 12], [12, 15, 16]), ([12, 17], [12, 17])])
def impl_ThreeOk.B1 : List Nat := [0, 1, 3, 7, 15, 31, 63, 31, 159, 511, 1023, 2047, 4095, 8191, 16383, 32767, 8191, 131071, 262143]
theorem impl_ThreeOk.tab1 : rtab .any (opsOf Try.f19 1) = impl_ThreeOk.T1 := by kernel_rfl
theorem impl_ThreeOk.bits1 : waitsOk impl_ThreeOk.T1.2 impl_ThreeOk.B1 = true := by kernel_rfl
set_option maxHeartbeats 8000000 in
set_option maxRecDepth 100000 in
theorem impl_ThreeOk.calls (k : Nat) (a0_0 : Int) (a0_1 : Int) (A0_2 : Option Addr) (c0_2 : Nat) (l0_2 : List (S68)) (A0_3 : Option Addr) (c0_3 : Nat) (l0_3 : List (S68)) (A0_4 : Option Addr) (c0_4 : Nat) (l0_4 : List Int) (r : Bool) (w : World) (hr0_2 : Kd.C k68 w A0_2 l0_2.length l0_2) (hc0_2 : l0_2.length ≤ c0_2) (hr0_3 : Kd.C k68 w A0_3 l0_3.length l0_3) (hc0_3 : l0_3.length ≤ c0_3) (hr0_4 : Kd.C (Kd.int .i64) w A0_4 l0_4.length l0_4) (hc0_4 : l0_4.length ≤ c0_4) (h : impl_ThreeOk.f k a0_0 a0_1 l0_2 l0_3 l0_4 = some r) :
  Calls Try.prog 19 #[.agg #[.int .i64 a0_0, .int .i64 a0_1, .slice A0_2 l0_2.length c0_2, .slice A0_3 l0_3.length c0_3, .slice A0_4 l0_4.length c0_4]] w fun e w' => e = .returned (.bool r) ∧ Below w.heap.size w w' := by
 have hu30 := Try.underlying30
 have HR0_2 := Aside0.mk hr0_2
 have HC0_2 := Aside0.mk hc0_2
 clear hr0_2 hc0_2
 have HR0_3 := Aside0.mk hr0_3
 have HC0_3 := Aside0.mk hc0_3
 clear hr0_3 hc0_3
 have HR0_4 := Aside0.mk hr0_4
 have HC0_4 := Aside0.mk hc0_4
 clear hr0_4 hc0_4
 have HB := Aside0.mk (Below.refl w.heap.size w)
 have H : ((impl_within.f a0_0 1 60).bind fun t123 => (if t123 = true then ((impl_within.f a0_1 1 a0_0).bind fun t124 => (if t124 = true then (impl_ThreeOk.j0 k (decide ((l0_4.length : Int) > (mx 1 (wrap64 (a0_0 - a0_1))))) a0_0 a0_1 l0_2 l0_3 l0_4) else (impl_ThreeOk.j0 k true a0_0 a0_1 l0_2 l0_3 l0_4))) else (impl_ThreeOk.j0 k true a0_0 a0_1 l0_2 l0_3 l0_4))) = some r := h
 clear h
 obtain ⟨ji2, hji2⟩ : ∃ j_ : Int, (mx 1 (wrap64 (a0_0 - a0_1))) = j_ := ⟨_, rfl⟩
 replace H : ((impl_within.f a0_0 1 60).bind fun t123 => (if t123 = true then ((impl_within.f a0_1 1 a0_0).bind fun t124 => (if t124 = true then (impl_ThreeOk.j0 k (decide ((l0_4.length : Int) > (ji2))) a0_0 a0_1 l0_2 l0_3 l0_4) else (impl_ThreeOk.j0 k true a0_0 a0_1 l0_2 l0_3 l0_4))) else (impl_ThreeOk.j0 k true a0_0 a0_1 l0_2 l0_3 l0_4))) = some r := by first | (rw [hji2] at H; exact H) | (simp only [hji2] at H ⊢; exact H)
 (try (have hji2l : 1 ≤ ji2 := by (rw [← hji2]; unfold mx; (repeat' split) <;> omega)))
 (try (have hji2m : 0 ≤ ji2 := by omega))
 have hji2_ : (if 1 < (wrap64 (a0_0 - a0_1)) then (wrap64 (a0_0 - a0_1)) else 1) = ji2 := hji2
 have HC3 := Aside0.mk H
 clear H
 go_enter Try.func19, Try.ntmps19
 go_upto_region 1 with (first | ((with_reducible refine gate_dst (N := 1) rfl ?_); (try (refine gate_guard (by rfl) ?_; dsimp only)); refine bx 1 #[.int .i64 a0_0, .int .i64 a0_1, .slice A0_2 l0_2.length c0_2, .slice A0_3 l0_3.length c0_3, .slice A0_4 l0_4.length c0_4] 30 ?_; intro gb122 hg w4 hbox hb; have BK122 := am hbox; have GW122 := gs0 hg HB; have GE122 := gs0 hg HB; replace HB := s0 HB hb; clear hb hbox hg; have hcz5_0 := bz5 BK122))
 (try simp only [Act.put, List.setIfInBounds_toArray, List.set_cons_zero, List.set_cons_succ])
 go_cut [24] (fun v24 wc => ∃ (kq : Nat) (x24_2 : Bool), v24 = .bool x24_2 ∧ Aside0 (impl_ThreeOk.j0 kq x24_2 a0_0 a0_1 l0_2 l0_3 l0_4 = some r) ∧ Aside0 (kq ≤ k) ∧ Aside0 (wc.heap[gb122]? = some (.cells #[.int .i64 a0_0, .int .i64 a0_1, (.slice A0_2 l0_2.length c0_2), (.slice A0_3 l0_3.length c0_3), (.slice A0_4 l0_4.length c0_4)] 30 (0, 0))) ∧ Aside0 (Below w.heap.size w wc))
 case first =>
  have H := HC3.out
  clear HC3
  replace H := Option.bind_eq_some_iff.mp H
  obtain ⟨t123, A60, H⟩ := H
  try dsimp only at H
  have A6 := Aside0.mk A60
  clear A60
  by_cases c7 : t123 = true
  ·subst c7
   rw [if_pos rfl] at H
   replace H := Option.bind_eq_some_iff.mp H
   obtain ⟨t124, A80, H⟩ := H
   try dsimp only at H
   have A8 := Aside0.mk A80
   clear A80
   by_cases c9 : t124 = true
   ·subst c9
    rw [if_pos rfl] at H
    have H' := Aside0.mk H
    clear H
    try go_wp2
    have n0_ := Aside0.mk (blk_drew BK122.out)
    have n1_ := Aside0.mk (below_drew1 HB.out)
    clear BK122
    clear HB
    have BK122 := n0_
    have HB := n1_
    clear n0_ n1_
    refine start_ (n := 19) (S := fun w' => w'.cell? ⟨gb122, 0, none⟩ = some (.int .i64 a0_0) ∧ w'.cell? ⟨gb122, 1, none⟩ = some (.int .i64 a0_1) ∧ w'.cell? ⟨gb122, 2, none⟩ = some (.slice A0_2 l0_2.length c0_2) ∧ w'.cell? ⟨gb122, 3, none⟩ = some (.slice A0_3 l0_3.length c0_3) ∧ w'.cell? ⟨gb122, 4, none⟩ = some (.slice A0_4 l0_4.length c0_4)) (ds := []) (bv 19 0x0) (by kernel_rfl) rfl rfl ⟨bc0 BK122, bc1 BK122, bc2 BK122, bc3 BK122, bc4 BK122⟩ (fun hHeld => ?_); refine with_tabW impl_ThreeOk.tab1 impl_ThreeOk.bits1 (fun HT_ HW_ => ?_)
    generalize w4.drew = w10 at BK122 HB hHeld ⊢
    refine py HT_ 0 6 (bv 19 0x1) ?_
    refine tk HT_ HW_ hHeld 1 7 (bv 19 0x3) ?_
    refine one_ (i := 2) (N := some 8) (bv 19 0x7) rfl rfl (one_of HT_.out (by kernel_rfl)) (by decide) (fun K hK => ?_)
    refine goes_ Try.func64 (by kernel_rfl) rfl #[.int .i64 a0_0, .int .i64 1, .int .i64 60] (by rfl) rfl rfl ml ?_
    with_reducible refine (impl_within.calls a0_0 1 60 true _ A6.out).mono ?_
    rintro e w' ⟨rfl, ⟨nd, rfl⟩⟩
    refine ⟨_, rfl, ?_⟩
    refine hK.out _ _ ⟨bc0 BK122, bc1 BK122, bc2 BK122, bc3 BK122, bc4 BK122⟩ (fun hHeld => ?_)
    clear hK K
    refine norm_ (a' := ?_) ?_ ?_
    rotate_left
    ·show Act.put _ (some 8) _ = _
     simp only [aP]
     rfl
    refine py HT_ 3 9 (bv 19 0xf) ?_
    refine py HT_ 4 10 (bv 19 0x1f) ?_
    refine py HT_ 5 11 (bv 19 0x3f) ?_
    refine py HT_ 7 13 (bv 19 0xbf) ?_
    refine tk HT_ HW_ hHeld 6 12 (bv 19 0xff) ?_
    refine tk HT_ HW_ hHeld 8 14 (bv 19 0x1ff) ?_
    refine one_ (i := 9) (N := some 15) (bv 19 0x3ff) rfl rfl (one_of HT_.out (by kernel_rfl)) (by decide) (fun K hK => ?_)
    refine goes_ Try.func64 (by kernel_rfl) rfl #[.int .i64 a0_1, .int .i64 1, .int .i64 a0_0] (by rfl) rfl rfl ml ?_
    with_reducible refine (impl_within.calls a0_1 1 a0_0 true _ A8.out).mono ?_
    rintro e w' ⟨rfl, ⟨nd, rfl⟩⟩
    refine ⟨_, rfl, ?_⟩
    refine hK.out _ _ ⟨bc0 BK122, bc1 BK122, bc2 BK122, bc3 BK122, bc4 BK122⟩ (fun hHeld => ?_)
    clear hK K
    refine norm_ (a' := ?_) ?_ ?_
    rotate_left
    ·show Act.put _ (some 15) _ = _
     simp only [aP]
     rfl
    refine py HT_ 10 16 (bv 19 0x7ff) ?_
    refine py HT_ 11 17 (bv 19 0xfff) ?_
    refine py HT_ 12 18 (bv 19 0x1fff) ?_
    refine py HT_ 13 19 (bv 19 0x3fff) ?_
    refine tk HT_ HW_ hHeld 14 20 (bv 19 0x7fff) ?_
    refine py HT_ 15 21 (bv 19 0xffff) ?_
    refine one_ (i := 16) (N := some 22) (bv 19 0x1ffff) rfl rfl (one_of HT_.out (by kernel_rfl)) (by decide) (fun K hK => ?_)
    refine goes_ Try.func65 (by kernel_rfl) rfl #[.pointer (some ⟨gb122, 0, none⟩)] (by rfl) rfl rfl ml ?_
    with_reducible refine (impl_Three_ghosts_at gb122 _ a0_0 a0_1 ji2 ?gh0 ?gh1 hji2_).mono ?_
    case gh0 => exact bc0 BK122
    case gh1 => exact bc1 BK122
    rintro e w' ⟨rfl, ⟨nd, rfl⟩⟩
    refine ⟨_, rfl, ?_⟩
    refine hK.out _ _ ⟨bc0 BK122, bc1 BK122, bc2 BK122, bc3 BK122, bc4 BK122⟩ (fun hHeld => ?_)
    clear hK K
    refine norm_ (a' := ?_) ?_ ?_
    rotate_left
    ·show Act.put _ (some 22) _ = _
     simp only [aP]
     rfl
    refine py HT_ 17 23 (bv 19 0x3ffff) ?_
    refine py HT_ 18 24 (bv 19 0x7ffff) ?_
    refine done_ (done_of HT_.out (by kernel_rfl)) ?_
    try go_wp2
    go_meet
    case rel => exact ⟨_, (decide ((l0_4.length : Int) > (ji2))), (by first | rfl | (simp; done) | (simp only [← hji2] <;> (first | rfl | simp)) | (simp [*]; done)), H', ⟨by first | omega | exact Nat.le_refl _⟩, ⟨bk BK122⟩, ⟨be1 HB GE122⟩⟩
   replace c9 := Bool.eq_false_iff.mpr c9
   subst c9
   rw [if_neg (show ¬ (false = true) by decide)] at H
   have H' := Aside0.mk H
   clear H
   try go_wp2
   have n0_ := Aside0.mk (blk_drew BK122.out)
   have n1_ := Aside0.mk (below_drew1 HB.out)
   clear BK122
   clear HB
   have BK122 := n0_
   have HB := n1_
   clear n0_ n1_
   refine start_ (n := 19) (S := fun w' => w'.cell? ⟨gb122, 0, none⟩ = some (.int .i64 a0_0) ∧ w'.cell? ⟨gb122, 1, none⟩ = some (.int .i64 a0_1) ∧ w'.cell? ⟨gb122, 2, none⟩ = some (.slice A0_2 l0_2.length c0_2) ∧ w'.cell? ⟨gb122, 3, none⟩ = some (.slice A0_3 l0_3.length c0_3) ∧ w'.cell? ⟨gb122, 4, none⟩ = some (.slice A0_4 l0_4.length c0_4)) (ds := []) (bv 19 0x0) (by kernel_rfl) rfl rfl ⟨bc0 BK122, bc1 BK122, bc2 BK122, bc3 BK122, bc4 BK122⟩ (fun hHeld => ?_); refine with_tabW impl_ThreeOk.tab1 impl_ThreeOk.bits1 (fun HT_ HW_ => ?_)
   generalize w4.drew = w11 at BK122 HB hHeld ⊢
   refine py HT_ 0 6 (bv 19 0x1) ?_
   refine tk HT_ HW_ hHeld 1 7 (bv 19 0x3) ?_
   refine one_ (i := 2) (N := some 8) (bv 19 0x7) rfl rfl (one_of HT_.out (by kernel_rfl)) (by decide) (fun K hK => ?_)
   refine goes_ Try.func64 (by kernel_rfl) rfl #[.int .i64 a0_0, .int .i64 1, .int .i64 60] (by rfl) rfl rfl ml ?_
   with_reducible refine (impl_within.calls a0_0 1 60 true _ A6.out).mono ?_
   rintro e w' ⟨rfl, ⟨nd, rfl⟩⟩
   refine ⟨_, rfl, ?_⟩
   refine hK.out _ _ ⟨bc0 BK122, bc1 BK122, bc2 BK122, bc3 BK122, bc4 BK122⟩ (fun hHeld => ?_)
   clear hK K
   refine norm_ (a' := ?_) ?_ ?_
   rotate_left
   ·show Act.put _ (some 8) _ = _
    simp only [aP]
    rfl
   refine py HT_ 3 9 (bv 19 0xf) ?_
   refine py HT_ 4 10 (bv 19 0x1f) ?_
   refine py HT_ 5 11 (bv 19 0x3f) ?_
   refine py HT_ 7 13 (bv 19 0xbf) ?_
   refine tk HT_ HW_ hHeld 6 12 (bv 19 0xff) ?_
   refine tk HT_ HW_ hHeld 8 14 (bv 19 0x1ff) ?_
   refine one_ (i := 9) (N := some 15) (bv 19 0x3ff) rfl rfl (one_of HT_.out (by kernel_rfl)) (by decide) (fun K hK => ?_)
   refine goes_ Try.func64 (by kernel_rfl) rfl #[.int .i64 a0_1, .int .i64 1, .int .i64 a0_0] (by rfl) rfl rfl ml ?_
   with_reducible refine (impl_within.calls a0_1 1 a0_0 false _ A8.out).mono ?_
   rintro e w' ⟨rfl, ⟨nd, rfl⟩⟩
   refine ⟨_, rfl, ?_⟩
   refine hK.out _ _ ⟨bc0 BK122, bc1 BK122, bc2 BK122, bc3 BK122, bc4 BK122⟩ (fun hHeld => ?_)
   clear hK K
   refine norm_ (a' := ?_) ?_ ?_
   rotate_left
   ·show Act.put _ (some 15) _ = _
    simp only [aP]
    rfl
   refine py HT_ 10 16 (bv 19 0x7ff) ?_
   refine py HT_ 11 17 (bv 19 0xfff) ?_
   refine py HT_ 12 18 (bv 19 0x1fff) ?_
   refine pu HT_ 13 19 (bv 19 0x3fff) ?_
   refine pu HT_ 14 20 (bv 19 0x7fff) ?_
   refine pu HT_ 15 21 (bv 19 0xffff) ?_
   refine pu HT_ 16 22 (bv 19 0x1ffff) ?_
   refine pu HT_ 17 23 (bv 19 0x3ffff) ?_
   refine py HT_ 18 24 (bv 19 0x7ffff) ?_
   refine done_ (done_of HT_.out (by kernel_rfl)) ?_
   try go_wp2
   go_meet
   case rel => exact ⟨_, (true), rs, H', ⟨by first | omega | exact Nat.le_refl _⟩, ⟨bk BK122⟩, ⟨be1 HB GE122⟩⟩
  replace c7 := Bool.eq_false_iff.mpr c7
  subst c7
  rw [if_neg (show ¬ (false = true) by decide)] at H
  have H' := Aside0.mk H
  clear H
  try go_wp2
  have n0_ := Aside0.mk (blk_drew BK122.out)
  have n1_ := Aside0.mk (below_drew1 HB.out)
  clear BK122
  clear HB
  have BK122 := n0_
  have HB := n1_
  clear n0_ n1_
  refine start_ (n := 19) (S := fun w' => w'.cell? ⟨gb122, 0, none⟩ = some (.int .i64 a0_0) ∧ w'.cell? ⟨gb122, 1, none⟩ = some (.int .i64 a0_1) ∧ w'.cell? ⟨gb122, 2, none⟩ = some (.slice A0_2 l0_2.length c0_2) ∧ w'.cell? ⟨gb122, 3, none⟩ = some (.slice A0_3 l0_3.length c0_3) ∧ w'.cell? ⟨gb122, 4, none⟩ = some (.slice A0_4 l0_4.length c0_4)) (ds := []) (bv 19 0x0) (by kernel_rfl) rfl rfl ⟨bc0 BK122, bc1 BK122, bc2 BK122, bc3 BK122, bc4 BK122⟩ (fun hHeld => ?_); refine with_tabW impl_ThreeOk.tab1 impl_ThreeOk.bits1 (fun HT_ HW_ => ?_)
  generalize w4.drew = w12 at BK122 HB hHeld ⊢
  refine py HT_ 0 6 (bv 19 0x1) ?_
  refine tk HT_ HW_ hHeld 1 7 (bv 19 0x3) ?_
  refine one_ (i := 2) (N := some 8) (bv 19 0x7) rfl rfl (one_of HT_.out (by kernel_rfl)) (by decide) (fun K hK => ?_)
  refine goes_ Try.func64 (by kernel_rfl) rfl #[.int .i64 a0_0, .int .i64 1, .int .i64 60] (by rfl) rfl rfl ml ?_
  with_reducible refine (impl_within.calls a0_0 1 60 false _ A6.out).mono ?_
  rintro e w' ⟨rfl, ⟨nd, rfl⟩⟩
  refine ⟨_, rfl, ?_⟩
  refine hK.out _ _ ⟨bc0 BK122, bc1 BK122, bc2 BK122, bc3 BK122, bc4 BK122⟩ (fun hHeld => ?_)
  clear hK K
  refine norm_ (a' := ?_) ?_ ?_
  rotate_left
  ·show Act.put _ (some 8) _ = _
   simp only [aP]
   rfl
  refine py HT_ 3 9 (bv 19 0xf) ?_
  refine py HT_ 4 10 (bv 19 0x1f) ?_
  refine pu HT_ 5 11 (bv 19 0x3f) ?_
  refine pu HT_ 6 12 (bv 19 0x7f) ?_
  refine pu HT_ 7 13 (bv 19 0xff) ?_
  refine pu HT_ 8 14 (bv 19 0x1ff) ?_
  refine pu HT_ 9 15 (bv 19 0x3ff) ?_
  refine pu HT_ 10 16 (bv 19 0x7ff) ?_
  refine py HT_ 11 17 (bv 19 0xfff) ?_
  refine py HT_ 12 18 (bv 19 0x1fff) ?_
  refine pu HT_ 13 19 (bv 19 0x3fff) ?_
  refine pu HT_ 14 20 (bv 19 0x7fff) ?_
  refine pu HT_ 15 21 (bv 19 0xffff) ?_
  refine pu HT_ 16 22 (bv 19 0x1ffff) ?_
  refine pu HT_ 17 23 (bv 19 0x3ffff) ?_
  refine py HT_ 18 24 (bv 19 0x7ffff) ?_
  refine done_ (done_of HT_.out (by kernel_rfl)) ?_
  try go_wp2
  go_meet
  case rel => exact ⟨_, (true), rs, H', ⟨by first | omega | exact Nat.le_refl _⟩, ⟨bk BK122⟩, ⟨be1 HB GE122⟩⟩
 case rest =>
  clear HC3
  try clear c1; try clear p2; try clear c6; try clear p6; try clear c7; try clear c9; try clear hcz5_0
  obtain ⟨kq, x24_2, rfl, HA, HJ2, BK122, HB⟩ := hcut
  cases kq with
  | zero => exact absurd HA.out (by simp [impl_ThreeOk.j0])
  | succ kj2 =>
   have H := HA.out
   clear HA
   simp only [impl_ThreeOk.j0] at H
   by_cases c13 : x24_2 = true
   ·subst c13
    rw [if_pos rfl] at H
    obtain rfl := Option.some.inj H
    go_wp2
    go_ret
    exact ⟨by first | rfl | (simp [errW_none, errW_some] <;> rfl) | (simp only [← hji2]; first | rfl | (simp [errW_none, errW_some] <;> rfl)) | (simp [*, errW_none, errW_some] <;> rfl), be1 HB GE122⟩
   replace c13 := Bool.eq_false_iff.mpr c13
   subst c13
   rw [if_neg (show ¬ (false = true) by decide)] at H
   have H' := Aside0.mk H
   clear H
   have hcz14_0 := bz5 BK122
   go_wp2
   go_loopg [28] kj2 (fun kq v28 w' => ∃ (x28_2 : Int), v28 = .int .i64 x28_2 ∧ Aside0 (impl_ThreeOk.l0 kq l0_4 (l0_4.length : Int) x28_2 a0_0 a0_1 l0_2 l0_3 l0_4 = some r) ∧ Aside0 (kq ≤ kj2) ∧ Aside0 (w'.heap[gb122]? = some (.cells #[.int .i64 a0_0, .int .i64 a0_1, (.slice A0_2 l0_2.length c0_2), (.slice A0_3 l0_3.length c0_3), (.slice A0_4 l0_4.length c0_4)] 30 (0, 0))) ∧ Aside0 (Below w.heap.size w w'))
   case atStart => exact ⟨(0), rs, H', ⟨Nat.le_refl _⟩, ⟨bk BK122⟩, ⟨be1 HB GE122⟩⟩
   case round =>
    clear H'
    try clear c1; try clear p2; try clear c6; try clear p6; try clear c7; try clear c9; try clear c13; try clear hcz14_0; try clear hcz5_0; try clear p2; try clear p6
    obtain ⟨x28_2, rfl, HA, HK2, BK122, HB⟩ := hrel
    cases gk with
    | zero => exact absurd HA.out (by simp [impl_ThreeOk.l0])
    | succ k2 =>
     have H := HA.out
     clear HA
     simp only [impl_ThreeOk.l0] at H
     by_cases c15 : x28_2 < (l0_4.length : Int)
     ·rw [if_pos c15] at H
      have c15b0 : decide (x28_2 < (l0_4.length : Int)) = true := decide_eq_true c15
      clear c15
      by_cases c16 : 0 ≤ x28_2
      ·rw [if_pos c16] at H
       have c16b0 : decide (0 ≤ x28_2) = true := decide_eq_true c16
       clear c16
       by_cases c17 : x28_2 < (l0_4.length : Int)
       ·rw [if_pos c17] at H
        have c17b0 : decide (x28_2 < (l0_4.length : Int)) = true := decide_eq_true c17
        clear c17
        replace H := Option.bind_eq_some_iff.mp H
        obtain ⟨t133, A180, H⟩ := H
        try dsimp only at H
        have A18 := Aside0.mk A180
        clear A180
        by_cases c19 : t133 = true
        ·subst c19
         rw [if_pos rfl] at H
         have c20b0 := eq_true (od : 0 ≤ x28_2)
         by_cases c21 : x28_2 ≤ (l0_4.length : Int)
         ·rw [if_pos c21] at H
          have c21b0 := eq_true c21
          have c21b1 : decide (x28_2 ≤ (l0_4.length : Int)) = true := decide_eq_true c21
          clear c21
          replace H := Option.bind_eq_some_iff.mp H
          obtain ⟨t135, A220, H⟩ := H
          try dsimp only at H
          have A22 := Aside0.mk A220
          clear A220
          by_cases c23 : t135 = true
          ·subst c23
           rw [if_pos rfl] at H
           obtain rfl := Option.some.inj H
           have p132 : 0 ≤ (x28_2 : Int) := od
           have q132 : x28_2 < (l0_4.length : Int) := od
           obtain ⟨ad132, e132, hx132_0⟩ := Kd.at_int HR0_4.out x28_2 p132 q132
           cases e132
           replace hx132_0 := hc HB hx132_0
           replace p132 := eq_true p132
           replace q132 := eq_true q132
           go_wp2_with (first | ((with_reducible refine gate_callee (f := 66) rfl ?_); refine gl 34 Try.func66 #[.int .i64 (rd l0_4 x28_2)] ?_; (with_reducible refine (impl_isNum.calls (rd l0_4 x28_2) true _ A18.out).mono ?_); rintro e w' ⟨rfl, ⟨nd, rfl⟩⟩; refine ⟨_, rfl, ?_⟩; have hcz24_0 := bz5 BK122; obtain ⟨i025, hi025, _, hsz25, _⟩ := info_parts info3; obtain ⟨hcut25, hA25, hC25⟩ := print_take_of (P := Try.prog) (Value.int .i64) 0 23 3 .i64 Try.underlying23 hi025 hsz25 (some ad132) c0_4 l0_4 x28_2 (od) (od) HC0_4.out; have HR134 := Aside0.mk (Kd.C_of_reads (h1 := fun _ => rfl) (hA25 _ (Kd.reads_of_C HR0_4.out))); have HC134 := Aside0.mk hC25; clear hA25 hC25 hi025 hsz25) | (go_at_call 67; (try rw [show x28_2.toNat = (l0_4.take (x28_2 : Int).toNat).length from by have hq1_ : x28_2 ≤ (l0_4.length : Int) := of_decide_eq_true (by assumption); simp only [List.length_take]; omega]); (with_reducible refine (slices_Contains_int_int.calls k2 _ _ (l0_4.take (x28_2 : Int).toNat) (rd l0_4 x28_2) true _ ?side1 ?side2 A22.out).mono ?_); (case side1 => repeat (first | exact (Kd.C_below HR134.out (be1 HB GE122)) | (with_reducible refine Kd.C_alloc ?_ _) | (with_reducible refine Kd.C_drewN ?_ _) | (with_reducible refine Kd.C_drew ?_))); (case side2 => exact HC134.out); rintro e w' ⟨rfl, ⟨nd, rfl⟩⟩))
           go_ret
           exact ⟨by first | rfl | (simp [errW_none, errW_some] <;> rfl) | (simp only [← hji2]; first | rfl | (simp [errW_none, errW_some] <;> rfl)) | (simp [*, errW_none, errW_some] <;> rfl), be1 HB GE122⟩
          replace c23 := Bool.eq_false_iff.mpr c23
          subst c23
          rw [if_neg (show ¬ (false = true) by decide)] at H
          have H' := Aside0.mk H
          clear H
          have p132 : 0 ≤ (x28_2 : Int) := od
          have q132 : x28_2 < (l0_4.length : Int) := od
          obtain ⟨ad132, e132, hx132_0⟩ := Kd.at_int HR0_4.out x28_2 p132 q132
          cases e132
          replace hx132_0 := hc HB hx132_0
          replace p132 := eq_true p132
          replace q132 := eq_true q132
          go_wp2_with (first | ((with_reducible refine gate_callee (f := 66) rfl ?_); refine gl 34 Try.func66 #[.int .i64 (rd l0_4 x28_2)] ?_; (with_reducible refine (impl_isNum.calls (rd l0_4 x28_2) true _ A18.out).mono ?_); rintro e w' ⟨rfl, ⟨nd, rfl⟩⟩; refine ⟨_, rfl, ?_⟩; have hcz26_0 := bz5 BK122; obtain ⟨i027, hi027, _, hsz27, _⟩ := info_parts info3; obtain ⟨hcut27, hA27, hC27⟩ := print_take_of (P := Try.prog) (Value.int .i64) 0 23 3 .i64 Try.underlying23 hi027 hsz27 (some ad132) c0_4 l0_4 x28_2 (od) (od) HC0_4.out; have HR134 := Aside0.mk (Kd.C_of_reads (h1 := fun _ => rfl) (hA27 _ (Kd.reads_of_C HR0_4.out))); have HC134 := Aside0.mk hC27; clear hA27 hC27 hi027 hsz27) | (go_at_call 67; (try rw [show x28_2.toNat = (l0_4.take (x28_2 : Int).toNat).length from by have hq1_ : x28_2 ≤ (l0_4.length : Int) := of_decide_eq_true (by assumption); simp only [List.length_take]; omega]); (with_reducible refine (slices_Contains_int_int.calls k2 _ _ (l0_4.take (x28_2 : Int).toNat) (rd l0_4 x28_2) false _ ?side1 ?side2 A22.out).mono ?_); (case side1 => repeat (first | exact (Kd.C_below HR134.out (be1 HB GE122)) | (with_reducible refine Kd.C_alloc ?_ _) | (with_reducible refine Kd.C_drewN ?_ _) | (with_reducible refine Kd.C_drew ?_))); (case side2 => exact HC134.out); rintro e w' ⟨rfl, ⟨nd, rfl⟩⟩))
          go_roundg k2
          case measure => have := HJ2.out; have := HK2.out; omega
          case rel => exact ⟨(wrap64 (x28_2 + 1)), rs, H', ⟨by have := HJ2.out; have := HK2.out; omega⟩, ⟨bk BK122⟩, ⟨be1 HB GE122⟩⟩
         rw [if_neg c21] at H
         exact absurd H (by simp)
        replace c19 := Bool.eq_false_iff.mpr c19
        subst c19
        rw [if_neg (show ¬ (false = true) by decide)] at H
        obtain rfl := Option.some.inj H
        have p132 : 0 ≤ (x28_2 : Int) := od
        have q132 : x28_2 < (l0_4.length : Int) := od
        obtain ⟨ad132, e132, hx132_0⟩ := Kd.at_int HR0_4.out x28_2 p132 q132
        cases e132
        replace hx132_0 := hc HB hx132_0
        replace p132 := eq_true p132
        replace q132 := eq_true q132
        go_wp2_with (first | ((with_reducible refine gate_callee (f := 66) rfl ?_); refine gl 34 Try.func66 #[.int .i64 (rd l0_4 x28_2)] ?_; (with_reducible refine (impl_isNum.calls (rd l0_4 x28_2) false _ A18.out).mono ?_); rintro e w' ⟨rfl, ⟨nd, rfl⟩⟩; refine ⟨_, rfl, ?_⟩))
        go_ret
        exact ⟨by first | rfl | (simp [errW_none, errW_some] <;> rfl) | (simp only [← hji2]; first | rfl | (simp [errW_none, errW_some] <;> rfl)) | (simp [*, errW_none, errW_some] <;> rfl), be1 HB GE122⟩
       rw [if_neg c17] at H
       exact absurd H (by simp)
      rw [if_neg c16] at H
      exact absurd H (by simp)
     rw [if_neg c15] at H
     have c15b0 : decide (x28_2 < (l0_4.length : Int)) = false := decide_eq_false c15
     clear c15
     replace H := Option.bind_eq_some_iff.mp H
     obtain ⟨t125, A280, H⟩ := H
     try dsimp only at H
     have A28 := Aside0.mk A280
     clear A280
     by_cases c29 : t125.length + l0_3.length < 3518437208883
     ·rw [if_pos c29] at H
      have LMc29 := Aside0.mk c29
      clear c29
      obtain ⟨y128, hy128⟩ : ∃ y_ : List (S68), y_ = (t125 ++ l0_3) := ⟨_, rfl⟩
      replace H : (if (y128.length : Int) ≤ a0_0 then ((impl_areItems.f k2 y128).bind fun t131 => (some t131)) else (some false)) = some r := by first | (rw [hy128]; with_reducible exact H) | (have H2_ := (Option.bind_some _ _).symm.trans H; rw [hy128]; with_reducible exact H2_) | (have H2_ := (Option.bind_some _ _).symm.trans H; with_reducible exact H2_) | with_reducible exact H | (rw [hy128]; exact H) | exact H
      have Ny128 := Aside0.mk hy128
      clear hy128
      by_cases c30 : (y128.length : Int) ≤ a0_0
      ·rw [if_pos c30] at H
       have c30b0 : decide ((y128.length : Int) ≤ a0_0) = true := decide_eq_true c30
       clear c30
       replace H := Option.bind_eq_some_iff.mp H
       obtain ⟨t131, A310, H⟩ := H
       replace H : (some t131) = some r := H
       have A31 := Aside0.mk A310
       clear A310
       obtain rfl := Option.some.inj H
       try go_wp2
       have n0_ := Aside0.mk (blk_drew BK122.out)
       have n1_ := Aside0.mk (below_drew1 HB.out)
       clear BK122
       clear HB
       have BK122 := n0_
       have HB := n1_
       clear n0_ n1_
       refine start_ (n := 7) (S := fun w' => w'.cell? ⟨gb122, 0, none⟩ = some (.int .i64 a0_0) ∧ w'.cell? ⟨gb122, 1, none⟩ = some (.int .i64 a0_1) ∧ w'.cell? ⟨gb122, 2, none⟩ = some (.slice A0_2 l0_2.length c0_2) ∧ w'.cell? ⟨gb122, 3, none⟩ = some (.slice A0_3 l0_3.length c0_3) ∧ w'.cell? ⟨gb122, 4, none⟩ = some (.slice A0_4 l0_4.length c0_4)) (ds := []) (bv 7 0x0) (by kernel_rfl) rfl rfl ⟨bc0 BK122, bc1 BK122, bc2 BK122, bc3 BK122, bc4 BK122⟩ (fun hHeld => ?_)
       generalize wr.drew = w32 at BK122 HB hHeld ⊢
       refine pure_ (i := 0) (N := some 45) (v := ?_) (a' := ?_) (bv 7 0x1) rfl rfl (by kernel_rfl) (fun _ _ _ h => h) (Or.inl ⟨by rfl, ?_⟩) ?_ ?_
       rotate_left
       ·intro w'
        go_simp
        with_reducible rfl
       rotate_left
       ·simp only [aP]
        rfl
       refine pure_ (i := 3) (N := some 48) (v := ?_) (a' := ?_) (bv 7 0x9) rfl rfl (by kernel_rfl) (fun _ _ _ h => h) (Or.inl ⟨by rfl, ?_⟩) ?_ ?_
       rotate_left
       ·intro w'
        go_simp
        with_reducible rfl
       rotate_left
       ·simp only [aP]
        rfl
       refine take_ (i := 1) (N := some 46) (v := ?_) (a' := ?_) (bv 7 0xb) rfl rfl (by kernel_rfl) (fun _ _ _ h => h) (Or.inl ⟨by rfl, ?_⟩) hHeld ?_ ?_
       rotate_left
       ·rintro w' ⟨s0, s1, s2, s3, s4⟩
        go_simp
        with_reducible rfl
       rotate_left
       ·simp only [aP]
        rfl
       refine take_ (i := 4) (N := some 49) (v := ?_) (a' := ?_) (bv 7 0x1b) rfl rfl (by kernel_rfl) (fun _ _ _ h => h) (Or.inl ⟨by rfl, ?_⟩) hHeld ?_ ?_
       rotate_left
       ·rintro w' ⟨s0, s1, s2, s3, s4⟩
        go_simp
        with_reducible rfl
       rotate_left
       ·simp only [aP]
        rfl
       refine one_ (i := 2) (N := some 47) (bv 7 0x1f) rfl rfl (by kernel_rfl) (by decide) (fun K hK => ?_)
       refine goes_ Try.func68 (by kernel_rfl) rfl #[.slice A0_2 l0_2.length c0_2] (by rfl) rfl rfl ml ?_
       with_reducible refine (impl_copyItems.calls _ _ l0_2 t125 _ ?side1 ?side2 A28.out).mono ?_
       (case side1 => exact cb HR0_2 HB)
       (case side2 => exact HC0_2.out)
       rintro e w33 ⟨v126, rfl, ho0, hb⟩
       refine ⟨_, rfl, ?_⟩
       have n0_ := Aside0.mk (Kd.R_lower ho0 (below_size (be1 HB GE122)))
       have n1_ := bb BK122 hb
       have n2_ := Aside0.mk (below_step (be1 HB GE122) hb)
       clear BK122
       clear HB
       have HO127 := n0_
       have BK122 := n1_
       have HB := n2_
       clear n0_ n1_ n2_
       (try clear hb)
       (try clear hb2)
       (try clear hk)
       (try clear hi)
       (try clear ho0)
       refine hK.out _ _ ⟨bc0 BK122, bc1 BK122, bc2 BK122, bc3 BK122, bc4 BK122⟩ (fun hHeld => ?_)
       clear hK K
       refine norm_ (a' := ?_) ?_ ?_
       rotate_left
       ·show Act.put _ (some 47) _ = _
        simp only [aP]
        rfl
       refine one_ (i := 5) (N := some 50) (bv 7 0x3f) rfl rfl (by kernel_rfl) (by decide) (fun K hK => ?_)
       refine Kd.R_append_rows_step k68 (w0 := w) w.heap.size (by rfl) (.tmp 47) (.tmp 49) 28 68 (.agg #[(.string ⟨#[]⟩), (.string ⟨#[]⟩), (.int .i64 0)]) 40 rfl Try.underlying28 info68 rfl (by decide) (by omega) v126 t125 l0_3 _ _ _ (fun _ => True) (fun _ => False) rfl rfl ?aO ?aR (fun _ _ h => h) (fun _ h => h.elim) ?aF ?aB ?aS ?aL ?_
       (case aR => repeat (first | exact (Kd.C_below HR0_3.out HB.out) | (with_reducible refine Kd.C_alloc ?_ _) | (with_reducible refine Kd.C_drewN ?_ _) | (with_reducible refine Kd.C_drew ?_)))
       (case aB => exact (be1 HB GE122))
       (case aF => exact (fun _ _ => trivial))
       (case aO => exact (ro HO127))
       (case aS => exact (below_size (be1 HB GE122)))
       (case aL => have := LMc29.out; omega)
       intro v129 w34 ho hb hg hat
       rw [← Ny128.out] at ho
       have n0_ := Aside0.mk (blk_grown (g := gb122) (o := .cells #[.int .i64 a0_0, .int .i64 a0_1, .slice A0_2 l0_2.length c0_2, .slice A0_3 l0_3.length c0_3, .slice A0_4 l0_4.length c0_4] 30 (0, 0)) (bk BK122) hg (Kd.R_ne HO127.out BK122.out (by decide)))
       have n1_ := Aside0.mk (hb)
       have n2_ := Aside0.mk (ho)
       clear BK122
       clear HB
       clear HO127
       have BK122 := n0_
       have HB := n1_
       have HO130 := n2_
       clear n0_ n1_ n2_
       clear ho hb hg hat
       refine hK.out _ _ ⟨bc0 BK122, bc1 BK122, bc2 BK122, bc3 BK122, bc4 BK122⟩ (fun hHeld => ?_)
       clear hK K
       refine norm_ (a' := ?_) ?_ ?_
       rotate_left
       ·show Act.put _ (some 50) _ = _
        simp only [aP]
        rfl
       refine pure_ (i := 6) (N := some 5) (v := ?_) (a' := ?_) (bv 7 0x7f) rfl rfl (by kernel_rfl) (fun _ _ _ h => h) (Or.inl ⟨by rfl, ?_⟩) ?_ ?_
       rotate_left
       ·intro w'
        go_simp
        with_reducible rfl
       rotate_left
       ·simp only [aP]
        rfl
       refine done_ (by kernel_rfl) ?_
       obtain ⟨Ao35, co35, eo35⟩ := Kd.R_slice HO130.out
       subst eo35
       have hcz36_0 := bz5 BK122
       try go_wp2_with (first | (go_at_call 69; (with_reducible refine (impl_areItems.calls k2 _ _ y128 t131 _ (cr HO130) ((Kd.R_reads' HO130.out).2.1) A31.out).mono ?_); rintro e w37 ⟨rfl, hb⟩; replace HO130 := rb HO130 hb; replace BK122 := bb BK122 hb; replace HB := Aside0.mk (below_step (be1 HB GE122) hb); (try clear hb)))
       go_ret
       exact ⟨by first | rfl | (simp [errW_none, errW_some] <;> rfl) | (simp only [← hji2]; first | rfl | (simp [errW_none, errW_some] <;> rfl)) | (simp [*, errW_none, errW_some] <;> rfl), be1 HB GE122⟩
      rw [if_neg c30] at H
      have c30b0 : decide ((y128.length : Int) ≤ a0_0) = false := decide_eq_false c30
      clear c30
      obtain rfl := Option.some.inj H
      try go_wp2
      have n0_ := Aside0.mk (blk_drew BK122.out)
      have n1_ := Aside0.mk (below_drew1 HB.out)
      clear BK122
      clear HB
      have BK122 := n0_
      have HB := n1_
      clear n0_ n1_
      refine start_ (n := 7) (S := fun w' => w'.cell? ⟨gb122, 0, none⟩ = some (.int .i64 a0_0) ∧ w'.cell? ⟨gb122, 1, none⟩ = some (.int .i64 a0_1) ∧ w'.cell? ⟨gb122, 2, none⟩ = some (.slice A0_2 l0_2.length c0_2) ∧ w'.cell? ⟨gb122, 3, none⟩ = some (.slice A0_3 l0_3.length c0_3) ∧ w'.cell? ⟨gb122, 4, none⟩ = some (.slice A0_4 l0_4.length c0_4)) (ds := []) (bv 7 0x0) (by kernel_rfl) rfl rfl ⟨bc0 BK122, bc1 BK122, bc2 BK122, bc3 BK122, bc4 BK122⟩ (fun hHeld => ?_)
      generalize wr.drew = w38 at BK122 HB hHeld ⊢
      refine pure_ (i := 0) (N := some 45) (v := ?_) (a' := ?_) (bv 7 0x1) rfl rfl (by kernel_rfl) (fun _ _ _ h => h) (Or.inl ⟨by rfl, ?_⟩) ?_ ?_
      rotate_left
      ·intro w'
       go_simp
       with_reducible rfl
      rotate_left
      ·simp only [aP]
       rfl
      refine pure_ (i := 3) (N := some 48) (v := ?_) (a' := ?_) (bv 7 0x9) rfl rfl (by kernel_rfl) (fun _ _ _ h => h) (Or.inl ⟨by rfl, ?_⟩) ?_ ?_
      rotate_left
      ·intro w'
       go_simp
       with_reducible rfl
      rotate_left
      ·simp only [aP]
       rfl
      refine take_ (i := 1) (N := some 46) (v := ?_) (a' := ?_) (bv 7 0xb) rfl rfl (by kernel_rfl) (fun _ _ _ h => h) (Or.inl ⟨by rfl, ?_⟩) hHeld ?_ ?_
      rotate_left
      ·rintro w' ⟨s0, s1, s2, s3, s4⟩
       go_simp
       with_reducible rfl
      rotate_left
      ·simp only [aP]
       rfl
      refine take_ (i := 4) (N := some 49) (v := ?_) (a' := ?_) (bv 7 0x1b) rfl rfl (by kernel_rfl) (fun _ _ _ h => h) (Or.inl ⟨by rfl, ?_⟩) hHeld ?_ ?_
      rotate_left
      ·rintro w' ⟨s0, s1, s2, s3, s4⟩
       go_simp
       with_reducible rfl
      rotate_left
      ·simp only [aP]
       rfl
      refine one_ (i := 2) (N := some 47) (bv 7 0x1f) rfl rfl (by kernel_rfl) (by decide) (fun K hK => ?_)
      refine goes_ Try.func68 (by kernel_rfl) rfl #[.slice A0_2 l0_2.length c0_2] (by rfl) rfl rfl ml ?_
      with_reducible refine (impl_copyItems.calls _ _ l0_2 t125 _ ?side1 ?side2 A28.out).mono ?_
      (case side1 => exact cb HR0_2 HB)
      (case side2 => exact HC0_2.out)
      rintro e w39 ⟨v126, rfl, ho0, hb⟩
      refine ⟨_, rfl, ?_⟩
      have n0_ := Aside0.mk (Kd.R_lower ho0 (below_size (be1 HB GE122)))
      have n1_ := bb BK122 hb
      have n2_ := Aside0.mk (below_step (be1 HB GE122) hb)
      clear BK122
      clear HB
      have HO127 := n0_
      have BK122 := n1_
      have HB := n2_
      clear n0_ n1_ n2_
      (try clear hb)
      (try clear hb2)
      (try clear hk)
      (try clear hi)
      (try clear ho0)
      refine hK.out _ _ ⟨bc0 BK122, bc1 BK122, bc2 BK122, bc3 BK122, bc4 BK122⟩ (fun hHeld => ?_)
      clear hK K
      refine norm_ (a' := ?_) ?_ ?_
      rotate_left
      ·show Act.put _ (some 47) _ = _
       simp only [aP]
       rfl
      refine one_ (i := 5) (N := some 50) (bv 7 0x3f) rfl rfl (by kernel_rfl) (by decide) (fun K hK => ?_)
      refine Kd.R_append_rows_step k68 (w0 := w) w.heap.size (by rfl) (.tmp 47) (.tmp 49) 28 68 (.agg #[(.string ⟨#[]⟩), (.string ⟨#[]⟩), (.int .i64 0)]) 40 rfl Try.underlying28 info68 rfl (by decide) (by omega) v126 t125 l0_3 _ _ _ (fun _ => True) (fun _ => False) rfl rfl ?aO ?aR (fun _ _ h => h) (fun _ h => h.elim) ?aF ?aB ?aS ?aL ?_
      (case aR => repeat (first | exact (Kd.C_below HR0_3.out HB.out) | (with_reducible refine Kd.C_alloc ?_ _) | (with_reducible refine Kd.C_drewN ?_ _) | (with_reducible refine Kd.C_drew ?_)))
      (case aB => exact (be1 HB GE122))
      (case aF => exact (fun _ _ => trivial))
      (case aO => exact (ro HO127))
      (case aS => exact (below_size (be1 HB GE122)))
      (case aL => have := LMc29.out; omega)
      intro v129 w40 ho hb hg hat
      rw [← Ny128.out] at ho
      have n0_ := Aside0.mk (blk_grown (g := gb122) (o := .cells #[.int .i64 a0_0, .int .i64 a0_1, .slice A0_2 l0_2.length c0_2, .slice A0_3 l0_3.length c0_3, .slice A0_4 l0_4.length c0_4] 30 (0, 0)) (bk BK122) hg (Kd.R_ne HO127.out BK122.out (by decide)))
      have n1_ := Aside0.mk (hb)
      have n2_ := Aside0.mk (ho)
      clear BK122
      clear HB
      clear HO127
      have BK122 := n0_
      have HB := n1_
      have HO130 := n2_
      clear n0_ n1_ n2_
      clear ho hb hg hat
      refine hK.out _ _ ⟨bc0 BK122, bc1 BK122, bc2 BK122, bc3 BK122, bc4 BK122⟩ (fun hHeld => ?_)
      clear hK K
      refine norm_ (a' := ?_) ?_ ?_
      rotate_left
      ·show Act.put _ (some 50) _ = _
       simp only [aP]
       rfl
      refine pure_ (i := 6) (N := some 5) (v := ?_) (a' := ?_) (bv 7 0x7f) rfl rfl (by kernel_rfl) (fun _ _ _ h => h) (Or.inl ⟨by rfl, ?_⟩) ?_ ?_
      rotate_left
      ·intro w'
       go_simp
       with_reducible rfl
      rotate_left
      ·simp only [aP]
       rfl
      refine done_ (by kernel_rfl) ?_
      obtain ⟨Ao41, co41, eo41⟩ := Kd.R_slice HO130.out
      subst eo41
      have hcz42_0 := bz5 BK122
      try go_wp2
      go_ret
      exact ⟨by first | rfl | (simp [errW_none, errW_some] <;> rfl) | (simp only [← hji2]; first | rfl | (simp [errW_none, errW_some] <;> rfl)) | (simp [*, errW_none, errW_some] <;> rfl), be1 HB GE122⟩
     rw [if_neg c29] at H
     exact absurd H (by simp)

end Go.Proofs.Ytfjhkediaholmaa.QFnSweep
