-- made by a program of this session (myprint.py)
import Derived.Test.YtdgpidhlbpaolaaQFnExactAllocx0
import Derived.Test.YtdgpidhlbpaolaaQFnExactAllocx8
import Derived.Test.YtdgpidhlbpaolaaQFnExactAllocx9
namespace Go.Proofs.Ytdgpidhlbpaolaa.QFnExactAlloc
open Go.RowKit Go.Proofs.YtdgpidhlbpaolaaW.PrintWords Go.Proofs.YtdgpidhlbpaolaaW.PrintLast Go.Proofs.YtdgpidhlbpaolaaW.PrintMore
attribute [local go_sem] max2_int min2_int max_two min_two max_three min_three max_four min_four   -- for this text's walks alone
set_option linter.unusedVariables false
set_option linter.unusedSimpArgs false

/-! ### impl_rises: function 60 -/
def impl_rises.l0 : Nat → List Int → Int → Option (Bool)
 | 0, _, _ => none
 | k + 1, x0, x3 => if x3 < (x0.length : Int) then (if 0 ≤ (wrap64 (x3 - 1)) then (if (wrap64 (x3 - 1)) < (x0.length : Int) then (if 0 ≤ x3 then (if (rd x0 (wrap64 (x3 - 1))) ≥ (rd x0 x3) then (some false) else (impl_rises.l0 k x0 (wrap64 (x3 + 1)))) else (none)) else (none)) else (none)) else (some true)
def impl_rises.f (k : Nat) (l0 : List Int) : Option (Bool) := impl_rises.l0 k l0 1
theorem impl_rises.mono_l : ∀ k, (∀ y0 y1, LeO (impl_rises.l0 k y0 y1) (impl_rises.l0 (k + 1) y0 y1))
 | 0 => fun _ _ r h => by simp [impl_rises.l0] at h
 | k + 1 => by
  have ih0 := impl_rises.mono_l k
  ·intro y0 y1
   unfold impl_rises.l0
   repeat' first
   | (with_reducible exact ih0 _ _)
   | (with_reducible exact LeO.refl _)
   | (with_reducible exact LeO.none _)
   | (with_reducible refine LeO.ite ?_ ?_)
   | (with_reducible refine LeO.bind ?_ (fun _ => ?_))
   | exact ih0 _ _
   | exact LeO.none _
   | refine LeO.ite ?_ ?_
   | refine LeO.bind ?_ (fun _ => ?_)
theorem impl_rises.mono : ∀ a0 k, LeO (impl_rises.f k a0) (impl_rises.f (k + 1) a0) := by
 intro a0 k
 have ih0 := impl_rises.mono_l k
 unfold impl_rises.f
 repeat' first
   | (with_reducible exact ih0 _ _)
   | (with_reducible exact LeO.refl _)
   | (with_reducible exact LeO.none _)
   | (with_reducible refine LeO.ite ?_ ?_)
   | (with_reducible refine LeO.bind ?_ (fun _ => ?_))
   | exact ih0 _ _
   | exact LeO.none _
   | refine LeO.ite ?_ ?_
   | refine LeO.bind ?_ (fun _ => ?_)
set_option maxHeartbeats 8000000 in
set_option maxRecDepth 100000 in
theorem impl_rises.calls (k : Nat) (A0 : Option Addr) (c0 : Nat) (l0 : List Int) (r : Bool) (w : World) (hr0 : Kd.C (Kd.int .i64) w A0 l0.length l0) (hc0 : l0.length ≤ c0) (h : impl_rises.f k l0 = some r) :
  Calls Try.prog 60 #[.slice A0 l0.length c0] w fun e w' => e = .returned (.bool r) ∧ Drawn0 w w' := by
 have HR0 := Aside0.mk hr0
 have HC0 := Aside0.mk hc0
 clear hr0 hc0
 have H : (impl_rises.l0 k l0 1) = some r := h
 clear h
 have H' := Aside0.mk H
 clear H
 go_enter Try.func60, Try.ntmps60
 go_wp2
 repeat (go_quiet (fail); try go_wp2)
 go_loopg [3] k (fun kq v3 w' => ∃ (x3_1 : Int), v3 = .int .i64 x3_1 ∧ Aside0 (impl_rises.l0 kq l0 x3_1 = some r) ∧ Aside0 (kq ≤ k) ∧ Drawn0 w w')
 case atStart => exact ⟨(1), rs, H', ⟨Nat.le_refl _⟩, by repeat (first | exact Drawn0.refl _ | apply Drawn0.step)⟩
 case round =>
  clear H'
  obtain ⟨x3_1, rfl, HA, HK1, ⟨m1, rfl⟩⟩ := hrel
  cases gk with
  | zero => exact absurd HA.out (by simp [impl_rises.l0])
  | succ k1 =>
   have H := HA.out
   clear HA
   simp only [impl_rises.l0] at H
   by_cases c2 : x3_1 < (l0.length : Int)
   ·rw [if_pos c2] at H
    have c2b0 : decide (x3_1 < (l0.length : Int)) = true := decide_eq_true c2
    clear c2
    obtain ⟨ji3, hji3⟩ : ∃ j_ : Int, (wrap64 (x3_1 - 1)) = j_ := ⟨_, rfl⟩
    replace H : (if 0 ≤ (ji3) then (if (ji3) < (l0.length : Int) then (if 0 ≤ x3_1 then (if (rd l0 (ji3)) ≥ (rd l0 x3_1) then (some false) else (impl_rises.l0 k1 l0 (wrap64 (x3_1 + 1)))) else (none)) else (none)) else (none)) = some r := by first | (rw [hji3] at H; exact H) | (simp only [hji3] at H ⊢; exact H)
    have hji3w : (IntKind.i64.wrap (x3_1 - 1)) = ji3 := (i64_w _).trans hji3
    by_cases c4 : 0 ≤ (ji3)
    ·rw [if_pos c4] at H
     have c4b0 : decide (0 ≤ (ji3)) = true := decide_eq_true c4
     clear c4
     by_cases c5 : (ji3) < (l0.length : Int)
     ·rw [if_pos c5] at H
      have c5b0 : decide ((ji3) < (l0.length : Int)) = true := decide_eq_true c5
      clear c5
      by_cases c6 : 0 ≤ x3_1
      ·rw [if_pos c6] at H
       have c6b0 : decide (0 ≤ x3_1) = true := decide_eq_true c6
       clear c6
       by_cases c7 : (rd l0 (ji3)) ≥ (rd l0 x3_1)
       ·rw [if_pos c7] at H
        have c7b0 : decide ((rd l0 x3_1) ≤ (rd l0 (ji3))) = true := decide_eq_true c7
        clear c7
        obtain rfl := Option.some.inj H
        have p337 : 0 ≤ ((ji3) : Int) := od
        have q337 : (ji3) < (l0.length : Int) := od
        obtain ⟨ad337, e337, hx337_0⟩ := Kd.at_int HR0.out (ji3) p337 q337
        cases e337
        replace p337 := eq_true p337
        replace q337 := eq_true q337
        have p338 : 0 ≤ (x3_1 : Int) := od
        have q338 : x3_1 < (l0.length : Int) := od
        obtain ⟨ad338, e338, hx338_0⟩ := Kd.at_int HR0.out x3_1 p338 q338
        obtain rfl : ad337 = ad338 := (by injection e338)
        replace p338 := eq_true p338
        replace q338 := eq_true q338
        go_wp2
        repeat (go_quiet (fail); try go_wp2)
        go_ret
        exact ⟨by first | rfl | (simp; done) | (simp only [← hji3] <;> (first | rfl | simp)) | (simp [*]; done), by repeat (first | exact Drawn0.refl _ | apply Drawn0.step)⟩
       rw [if_neg c7] at H
       have c7b0 : decide ((rd l0 x3_1) ≤ (rd l0 (ji3))) = false := decide_eq_false c7
       clear c7
       have H' := Aside0.mk H
       clear H
       have p337 : 0 ≤ ((ji3) : Int) := od
       have q337 : (ji3) < (l0.length : Int) := od
       obtain ⟨ad337, e337, hx337_0⟩ := Kd.at_int HR0.out (ji3) p337 q337
       cases e337
       replace p337 := eq_true p337
       replace q337 := eq_true q337
       have p338 : 0 ≤ (x3_1 : Int) := od
       have q338 : x3_1 < (l0.length : Int) := od
       obtain ⟨ad338, e338, hx338_0⟩ := Kd.at_int HR0.out x3_1 p338 q338
       obtain rfl : ad337 = ad338 := (by injection e338)
       replace p338 := eq_true p338
       replace q338 := eq_true q338
       go_wp2
       repeat (go_quiet (fail); try go_wp2)
       go_roundg k1
       case measure => have := HK1.out; omega
       case rel => exact ⟨(wrap64 (x3_1 + 1)), rs, H', ⟨by have := HK1.out; omega⟩, by repeat (first | exact Drawn0.refl _ | apply Drawn0.step)⟩
      rw [if_neg c6] at H
      exact absurd H (by simp)
     rw [if_neg c5] at H
     exact absurd H (by simp)
    rw [if_neg c4] at H
    exact absurd H (by simp)
   rw [if_neg c2] at H
   have c2b0 : decide (x3_1 < (l0.length : Int)) = false := decide_eq_false c2
   clear c2
   obtain rfl := Option.some.inj H
   go_wp2
   repeat (go_quiet (fail); try go_wp2)
   go_ret
   exact ⟨by first | rfl | (simp; done) | (simp [*]; done), by repeat (first | exact Drawn0.refl _ | apply Drawn0.step)⟩

/-! ### impl_PoolOk: function 22 -/
mutual
def impl_PoolOk.l0 : Nat → List Int → List (S70) → Int → Int → List Int → Int → List Int → List (S70) → List Int → Option (Bool)
 | 0, _, _, _, _, _, _, _, _, _ => none
 | k + 1, x3, x16, x17, x18, x340000, x340001, x340002, x340003, x340004 => if x18 < x17 then (if 0 ≤ x18 then (if x18 < (x16.length : Int) then (if x3.length < 17592186044416 then (impl_PoolOk.l0 k (x3 ++ [(rd_T70 x16 x18).f0]) x16 x17 (wrap64 (x18 + 1)) x340000 x340001 x340002 x340003 x340004) else (none)) else (none)) else (none)) else ((slices_Sort_int_int.f k x3).bind fun t351 => (impl_PoolOk.l1 k t351 t351 (x3.length : Int) 0 x340000 x340001 x340002 x340003 x340004))
def impl_PoolOk.l1 : Nat → List Int → List Int → Int → Int → List Int → Int → List Int → List (S70) → List Int → Option (Bool)
 | 0, _, _, _, _, _, _, _, _, _ => none
 | k + 1, x3, x30, x31, x32, x340000, x340001, x340002, x340003, x340004 => if x32 < x31 then (if 0 ≤ x32 then (if x32 < (x30.length : Int) then (if (rd x30 x32) = x32 then (impl_PoolOk.l1 k x3 x30 x31 (wrap64 (x32 + 1)) x340000 x340001 x340002 x340003 x340004) else (some false)) else (none)) else (none)) else ((impl_AgesOk.f k x340001 x340002 x340003).bind fun t353 => (if t353 = true then ((impl_rises.f k x340004).bind fun t354 => (if t354 = true then (some (decide ((x3.length : Int) ≤ 100))) else (some false))) else (some false)))
end
def impl_PoolOk.f (k : Nat) (l0_0 : List Int) (a0_1 : Int) (l0_2 : List Int) (l0_3 : List (S70)) (l0_4 : List Int) : Option (Bool) := (impl_copyInts.f l0_0).bind fun t340 => (if t340.length + l0_4.length < 17592186044416 then (impl_PoolOk.l0 k (t340 ++ l0_4) l0_3 (l0_3.length : Int) 0 l0_0 a0_1 l0_2 l0_3 l0_4) else (none))
theorem impl_PoolOk.mono_l : ∀ k, (∀ y0 y1 y2 y3 y4 y5 y6 y7 y8, LeO (impl_PoolOk.l0 k y0 y1 y2 y3 y4 y5 y6 y7 y8) (impl_PoolOk.l0 (k + 1) y0 y1 y2 y3 y4 y5 y6 y7 y8)) ∧ (∀ y0 y1 y2 y3 y4 y5 y6 y7 y8, LeO (impl_PoolOk.l1 k y0 y1 y2 y3 y4 y5 y6 y7 y8) (impl_PoolOk.l1 (k + 1) y0 y1 y2 y3 y4 y5 y6 y7 y8))
 | 0 => ⟨fun _ _ _ _ _ _ _ _ _ r h => by simp [impl_PoolOk.l0] at h, fun _ _ _ _ _ _ _ _ _ r h => by simp [impl_PoolOk.l1] at h⟩
 | k + 1 => by
  obtain ⟨ih0, ih1⟩ := impl_PoolOk.mono_l k
  refine ⟨?_, ?_⟩
  ·intro y0 y1 y2 y3 y4 y5 y6 y7 y8
   unfold impl_PoolOk.l0
   repeat' first
   | (with_reducible exact ih0 _ _ _ _ _ _ _ _ _)
   | (with_reducible exact ih1 _ _ _ _ _ _ _ _ _)
   | (with_reducible exact impl_AgesOk.mono _ _ _ _)
   | (with_reducible exact impl_rises.mono _ _)
   | (with_reducible exact slices_Sort_int_int.mono _ _)
   | (with_reducible exact LeO.refl _)
   | (with_reducible exact LeO.none _)
   | (with_reducible refine LeO.ite ?_ ?_)
   | (with_reducible refine LeO.bind ?_ (fun _ => ?_))
   | exact ih0 _ _ _ _ _ _ _ _ _
   | exact ih1 _ _ _ _ _ _ _ _ _
   | exact impl_AgesOk.mono _ _ _ _
   | exact impl_rises.mono _ _
   | exact slices_Sort_int_int.mono _ _
   | exact LeO.none _
   | refine LeO.ite ?_ ?_
   | refine LeO.bind ?_ (fun _ => ?_)
  intro y0 y1 y2 y3 y4 y5 y6 y7 y8
  unfold impl_PoolOk.l1
  repeat' first
  | (with_reducible exact ih0 _ _ _ _ _ _ _ _ _)
  | (with_reducible exact ih1 _ _ _ _ _ _ _ _ _)
  | (with_reducible exact impl_AgesOk.mono _ _ _ _)
  | (with_reducible exact impl_rises.mono _ _)
  | (with_reducible exact slices_Sort_int_int.mono _ _)
  | (with_reducible exact LeO.refl _)
  | (with_reducible exact LeO.none _)
  | (with_reducible refine LeO.ite ?_ ?_)
  | (with_reducible refine LeO.bind ?_ (fun _ => ?_))
  | exact ih0 _ _ _ _ _ _ _ _ _
  | exact ih1 _ _ _ _ _ _ _ _ _
  | exact impl_AgesOk.mono _ _ _ _
  | exact impl_rises.mono _ _
  | exact slices_Sort_int_int.mono _ _
  | exact LeO.none _
  | refine LeO.ite ?_ ?_
  | refine LeO.bind ?_ (fun _ => ?_)
theorem impl_PoolOk.mono : ∀ a0 a1 a2 a3 a4 k, LeO (impl_PoolOk.f k a0 a1 a2 a3 a4) (impl_PoolOk.f (k + 1) a0 a1 a2 a3 a4) := by
 intro a0 a1 a2 a3 a4 k
 obtain ⟨ih0, ih1⟩ := impl_PoolOk.mono_l k
 unfold impl_PoolOk.f
 repeat' first
   | (with_reducible exact ih0 _ _ _ _ _ _ _ _ _)
   | (with_reducible exact ih1 _ _ _ _ _ _ _ _ _)
   | (with_reducible exact impl_AgesOk.mono _ _ _ _)
   | (with_reducible exact impl_rises.mono _ _)
   | (with_reducible exact slices_Sort_int_int.mono _ _)
   | (with_reducible exact LeO.refl _)
   | (with_reducible exact LeO.none _)
   | (with_reducible refine LeO.ite ?_ ?_)
   | (with_reducible refine LeO.bind ?_ (fun _ => ?_))
   | exact ih0 _ _ _ _ _ _ _ _ _
   | exact ih1 _ _ _ _ _ _ _ _ _
   | exact impl_AgesOk.mono _ _ _ _
   | exact impl_rises.mono _ _
   | exact slices_Sort_int_int.mono _ _
   | exact LeO.none _
   | refine LeO.ite ?_ ?_
   | refine LeO.bind ?_ (fun _ => ?_)
set_option maxHeartbeats 8000000 in
set_option maxRecDepth 100000 in
theorem impl_PoolOk.calls (k : Nat) (A0_0 : Option Addr) (c0_0 : Nat) (l0_0 : List Int) (a0_1 : Int) (A0_2 : Option Addr) (c0_2 : Nat) (l0_2 : List Int) (A0_3 : Option Addr) (c0_3 : Nat) (l0_3 : List (S70)) (A0_4 : Option Addr) (c0_4 : Nat) (l0_4 : List Int) (r : Bool) (w : World) (hr0_0 : Kd.C (Kd.int .i64) w A0_0 l0_0.length l0_0) (hc0_0 : l0_0.length ≤ c0_0) (hr0_2 : Kd.C (Kd.int .i64) w A0_2 l0_2.length l0_2) (hc0_2 : l0_2.length ≤ c0_2) (hr0_3 : Kd.C k70 w A0_3 l0_3.length l0_3) (hc0_3 : l0_3.length ≤ c0_3) (hr0_4 : Kd.C (Kd.int .i64) w A0_4 l0_4.length l0_4) (hc0_4 : l0_4.length ≤ c0_4) (h : impl_PoolOk.f k l0_0 a0_1 l0_2 l0_3 l0_4 = some r) :
  Calls Try.prog 22 #[.agg #[.slice A0_0 l0_0.length c0_0, .int .i64 a0_1, .slice A0_2 l0_2.length c0_2, .slice A0_3 l0_3.length c0_3, .slice A0_4 l0_4.length c0_4]] w fun e w' => e = .returned (.bool r) ∧ Below w.heap.size w w' := by
 have hu27 := Try.underlying27
 have hu70 := Try.underlying70
 have hu25 := Try.underlying25
 have HR0_0 := Aside0.mk hr0_0
 have HC0_0 := Aside0.mk hc0_0
 clear hr0_0 hc0_0
 have HR0_2 := Aside0.mk hr0_2
 have HC0_2 := Aside0.mk hc0_2
 clear hr0_2 hc0_2
 have HR0_3 := Aside0.mk hr0_3
 have HC0_3 := Aside0.mk hc0_3
 clear hr0_3 hc0_3
 have HR0_4 := Aside0.mk hr0_4
 have HC0_4 := Aside0.mk hc0_4
 clear hr0_4 hc0_4
 have HB := Aside0.mk (Below.refl w.heap.size w)
 have H : ((impl_copyInts.f l0_0).bind fun t340 => (if t340.length + l0_4.length < 17592186044416 then (impl_PoolOk.l0 k (t340 ++ l0_4) l0_3 (l0_3.length : Int) 0 l0_0 a0_1 l0_2 l0_3 l0_4) else (none))) = some r := h
 clear h
 replace H := Option.bind_eq_some_iff.mp H
 obtain ⟨t340, A20, H⟩ := H
 try dsimp only at H
 have A2 := Aside0.mk A20
 clear A20
 by_cases c3 : t340.length + l0_4.length < 17592186044416
 ·rw [if_pos c3] at H
  have LMc3 := Aside0.mk c3
  clear c3
  obtain ⟨y343, hy343⟩ : ∃ y_ : List Int, y_ = (t340 ++ l0_4) := ⟨_, rfl⟩
  replace H : (impl_PoolOk.l0 k y343 l0_3 (l0_3.length : Int) 0 l0_0 a0_1 l0_2 l0_3 l0_4) = some r := by first | (rw [hy343]; with_reducible exact H) | (have H2_ := (Option.bind_some _ _).symm.trans H; rw [hy343]; with_reducible exact H2_) | (have H2_ := (Option.bind_some _ _).symm.trans H; with_reducible exact H2_) | with_reducible exact H | (rw [hy343]; exact H) | exact H
  have Ny343 := Aside0.mk hy343
  clear hy343
  have H' := Aside0.mk H
  clear H
  go_enter Try.func22, Try.ntmps22
  try go_wp2_with (first | ((with_reducible refine gate_dst (N := 1) rfl ?_); (try (refine gate_guard (by rfl) ?_; dsimp only)); refine bx 1 #[.slice A0_0 l0_0.length c0_0, .int .i64 a0_1, .slice A0_2 l0_2.length c0_2, .slice A0_3 l0_3.length c0_3, .slice A0_4 l0_4.length c0_4] 27 ?_; intro gb339 hg w4 hbox hb; have BK339 := am hbox; have GW339 := gs0 hg HB; have GE339 := gs0 hg HB; replace HB := s0 HB hb; clear hb hbox hg))
  have n0_ := Aside0.mk (blk_drew BK339.out)
  have n1_ := Aside0.mk (below_drew1 HB.out)
  clear BK339
  clear HB
  have BK339 := n0_
  have HB := n1_
  clear n0_ n1_
  refine start_ (n := 7) (S := fun w' => w'.cell? ⟨gb339, 0, none⟩ = some (.slice A0_0 l0_0.length c0_0) ∧ w'.cell? ⟨gb339, 1, none⟩ = some (.int .i64 a0_1) ∧ w'.cell? ⟨gb339, 2, none⟩ = some (.slice A0_2 l0_2.length c0_2) ∧ w'.cell? ⟨gb339, 3, none⟩ = some (.slice A0_3 l0_3.length c0_3) ∧ w'.cell? ⟨gb339, 4, none⟩ = some (.slice A0_4 l0_4.length c0_4)) (ds := []) (bv 7 0x0) (by kernel_rfl) rfl rfl ⟨bc0 BK339, bc1 BK339, bc2 BK339, bc3 BK339, bc4 BK339⟩ (fun hHeld => ?_)
  generalize w4.drew = w5 at BK339 HB hHeld ⊢
  refine pure_ (i := 0) (N := some 8) (v := ?_) (a' := ?_) (bv 7 0x1) rfl rfl (by kernel_rfl) (fun _ _ _ h => h) (Or.inl ⟨by rfl, ?_⟩) ?_ ?_
  rotate_left
  ·intro w'
   go_simp
   with_reducible rfl
  rotate_left
  ·simp only [aP]
   rfl
  refine pure_ (i := 3) (N := some 11) (v := ?_) (a' := ?_) (bv 7 0x9) rfl rfl (by kernel_rfl) (fun _ _ _ h => h) (Or.inl ⟨by rfl, ?_⟩) ?_ ?_
  rotate_left
  ·intro w'
   go_simp
   with_reducible rfl
  rotate_left
  ·simp only [aP]
   rfl
  refine take_ (i := 1) (N := some 9) (v := ?_) (a' := ?_) (bv 7 0xb) rfl rfl (by kernel_rfl) (fun _ _ _ h => h) (Or.inl ⟨by rfl, ?_⟩) hHeld ?_ ?_
  rotate_left
  ·rintro w' ⟨s0, s1, s2, s3, s4⟩
   go_simp
   with_reducible rfl
  rotate_left
  ·simp only [aP]
   rfl
  refine take_ (i := 4) (N := some 12) (v := ?_) (a' := ?_) (bv 7 0x1b) rfl rfl (by kernel_rfl) (fun _ _ _ h => h) (Or.inl ⟨by rfl, ?_⟩) hHeld ?_ ?_
  rotate_left
  ·rintro w' ⟨s0, s1, s2, s3, s4⟩
   go_simp
   with_reducible rfl
  rotate_left
  ·simp only [aP]
   rfl
  refine one_ (i := 2) (N := some 10) (bv 7 0x1f) rfl rfl (by kernel_rfl) (by decide) (fun K hK => ?_)
  refine goes_ Try.func57 (by kernel_rfl) rfl #[.slice A0_0 l0_0.length c0_0] (by rfl) rfl rfl ml ?_
  with_reducible refine (impl_copyInts.calls _ _ l0_0 t340 _ ?side1 ?side2 A2.out).mono ?_
  (case side1 => exact cb HR0_0 HB)
  (case side2 => exact HC0_0.out)
  rintro e w6 ⟨v341, rfl, ho0, hb⟩
  refine ⟨_, rfl, ?_⟩
  have n0_ := Aside0.mk (Kd.R_lower ho0 (below_size (be1 HB GE339)))
  have n1_ := bb BK339 hb
  have n2_ := Aside0.mk (below_step (be1 HB GE339) hb)
  clear BK339
  clear HB
  have HO342 := n0_
  have BK339 := n1_
  have HB := n2_
  clear n0_ n1_ n2_
  (try clear hb)
  (try clear hb2)
  (try clear hk)
  (try clear hi)
  (try clear ho0)
  refine hK.out _ _ ⟨bc0 BK339, bc1 BK339, bc2 BK339, bc3 BK339, bc4 BK339⟩ (fun hHeld => ?_)
  clear hK K
  refine norm_ (a' := ?_) ?_ ?_
  rotate_left
  ·show Act.put _ (some 10) _ = _
   simp only [aP]
   rfl
  refine one_ (i := 5) (N := some 13) (bv 7 0x3f) rfl rfl (by kernel_rfl) (by decide) (fun K hK => ?_)
  refine Kd.R_append_rows_step (Kd.int .i64) (w0 := w) w.heap.size (by rfl) (.tmp 10) (.tmp 12) 22 3 (.int .i64 0) 8 rfl Try.underlying22 info3 rfl (by decide) (by omega) v341 t340 l0_4 _ _ _ (fun _ => True) (fun _ => False) rfl rfl ?aO ?aR (fun _ _ h => h) (fun _ h => h.elim) ?aF ?aB ?aS ?aL ?_
  (case aR => repeat (first | exact (Kd.C_below HR0_4.out HB.out) | (with_reducible refine Kd.C_alloc ?_ _) | (with_reducible refine Kd.C_drewN ?_ _) | (with_reducible refine Kd.C_drew ?_)))
  (case aB => exact (be1 HB GE339))
  (case aF => exact (fun _ _ => trivial))
  (case aO => exact (ro HO342))
  (case aS => exact (below_size (be1 HB GE339)))
  (case aL => have := LMc3.out; omega)
  intro v344 w7 ho hb hg hat
  rw [← Ny343.out] at ho
  have n0_ := Aside0.mk (blk_grown (g := gb339) (o := .cells #[.slice A0_0 l0_0.length c0_0, .int .i64 a0_1, .slice A0_2 l0_2.length c0_2, .slice A0_3 l0_3.length c0_3, .slice A0_4 l0_4.length c0_4] 27 (0, 0)) (bk BK339) hg (Kd.R_ne HO342.out BK339.out (by decide)))
  have n1_ := Aside0.mk (hb)
  have n2_ := Aside0.mk (ho)
  clear BK339
  clear HB
  clear HO342
  have BK339 := n0_
  have HB := n1_
  have HO345 := n2_
  clear n0_ n1_ n2_
  clear ho hb hg hat
  refine hK.out _ _ ⟨bc0 BK339, bc1 BK339, bc2 BK339, bc3 BK339, bc4 BK339⟩ (fun hHeld => ?_)
  clear hK K
  refine norm_ (a' := ?_) ?_ ?_
  rotate_left
  ·show Act.put _ (some 13) _ = _
   simp only [aP]
   rfl
  refine pure_ (i := 6) (N := some 3) (v := ?_) (a' := ?_) (bv 7 0x7f) rfl rfl (by kernel_rfl) (fun _ _ _ h => h) (Or.inl ⟨by rfl, ?_⟩) ?_ ?_
  rotate_left
  ·intro w'
   go_simp
   with_reducible rfl
  rotate_left
  ·simp only [aP]
   rfl
  refine done_ (by kernel_rfl) ?_
  have hcz8_0 := bz5 BK339
  try go_wp2
  go_loopg [3, 18] k (fun kq v3 v18 w' => ∃ (x3_1 : List Int) (x18_1 : Int), v18 = .int .i64 x18_1 ∧ Aside0 (impl_PoolOk.l0 kq x3_1 l0_3 (l0_3.length : Int) x18_1 l0_0 a0_1 l0_2 l0_3 l0_4 = some r) ∧ Aside0 (kq ≤ k) ∧ Aside0 (Kd.R (Kd.int .i64) 3 w' w.heap.size (fun _ => True) v3 x3_1) ∧ Aside0 (w'.heap[gb339]? = some (.cells #[(.slice A0_0 l0_0.length c0_0), .int .i64 a0_1, (.slice A0_2 l0_2.length c0_2), (.slice A0_3 l0_3.length c0_3), (.slice A0_4 l0_4.length c0_4)] 27 (0, 0))) ∧ Aside0 (Below w.heap.size w w'))
  case atStart => exact ⟨(y343), (0), rs, H', ⟨Nat.le_refl _⟩, ⟨ro HO345⟩, ⟨bk BK339⟩, ⟨be1 HB GE339⟩⟩
  case round =>
   clear H'
   try clear c2; try clear p2; try clear c3; try clear c5; try clear hcz8_0
   obtain ⟨x3_1, x18_1, rfl, HA, HK1, HO_3, BK339, HB⟩ := hrel
   cases gk with
   | zero => exact absurd HA.out (by simp [impl_PoolOk.l0])
   | succ k1 =>
    have H := HA.out
    clear HA
    simp only [impl_PoolOk.l0] at H
    by_cases c9 : x18_1 < (l0_3.length : Int)
    ·rw [if_pos c9] at H
     have c9b0 : decide (x18_1 < (l0_3.length : Int)) = true := decide_eq_true c9
     clear c9
     by_cases c10 : 0 ≤ x18_1
     ·rw [if_pos c10] at H
      have c10b0 : decide (0 ≤ x18_1) = true := decide_eq_true c10
      clear c10
      by_cases c11 : x18_1 < (l0_3.length : Int)
      ·rw [if_pos c11] at H
       have c11b0 : decide (x18_1 < (l0_3.length : Int)) = true := decide_eq_true c11
       clear c11
       by_cases c12 : x3_1.length < 17592186044416
       ·rw [if_pos c12] at H
        have LMc12 := Aside0.mk c12
        clear c12
        obtain ⟨y348, hy348⟩ : ∃ y_ : List Int, y_ = (x3_1 ++ [(rd_T70 l0_3 x18_1).f0]) := ⟨_, rfl⟩
        replace H : (impl_PoolOk.l0 k1 y348 l0_3 (l0_3.length : Int) (wrap64 (x18_1 + 1)) l0_0 a0_1 l0_2 l0_3 l0_4) = some r := by first | (rw [hy348]; with_reducible exact H) | (have H2_ := (Option.bind_some _ _).symm.trans H; rw [hy348]; with_reducible exact H2_) | (have H2_ := (Option.bind_some _ _).symm.trans H; with_reducible exact H2_) | with_reducible exact H | (rw [hy348]; exact H) | exact H
        have Ny348 := Aside0.mk hy348
        clear hy348
        have H' := Aside0.mk H
        clear H
        have p346 : 0 ≤ (x18_1 : Int) := od
        have q346 : x18_1 < (l0_3.length : Int) := od
        obtain ⟨ad346, e346, hx346_0, hx346_1⟩ := at_T70 HR0_3.out x18_1 p346 q346
        cases e346
        replace hx346_0 := hc HB hx346_0
        replace hx346_1 := hc HB hx346_1
        replace p346 := eq_true p346
        replace q346 := eq_true q346
        go_wp2_with (first | ((with_reducible refine gate_dst (N := 5) rfl ?_); (try (refine gate_guard (by rfl) ?_; dsimp only)); refine bx 5 #[.int .i64 0, .int .i64 0] 70 ?_; intro gb347 hg w13 hbox hb; replace HO_3 := rb HO_3 hb; have BK347 := am hbox; have GW347 := gs1 hg HB GE339; have GE347 := gs1 hg HB GE339; replace HB := Aside0.mk (below_step (be1 HB GE339) hb); have NB339_347 := Aside0.mk ((by rw [hg]; exact Nat.ne_of_lt (bl BK339) : gb339 ≠ gb347)); have NB347_339 := Aside0.mk ((by rw [hg]; exact Nat.ne_of_gt (bl BK339) : gb347 ≠ gb339)); replace BK339 := bb BK339 hb; clear hb hbox hg; have hnb14 := NB347_339.out; have hnc14 := NB339_347.out; have hcz15_0 := bz2 BK347) | ((with_reducible refine gate_builtin (b := .append) (xs := #[.tmp 22, .tmp 25]) rfl ?_); (try (refine gate_guard (by rfl) ?_; dsimp only)); at_builtin; refine Kd.R_append (Kd.int .i64) (w0 := w) w.heap.size rfl (.tmp 22) (.tmp 25) 22 3 (.int .i64 0) 8 rfl Try.underlying22 info3 rfl (by decide) (by omega) u3 x3_1 ((rd_T70 l0_3 x18_1).f0) [.int .i64 ((rd_T70 l0_3 x18_1).f0)] (fun _ => True) (fun _ => False) rfl (by first | (go_simp; done) | (go_simp; rfl)) ?aP (fun _ hk => hk.elim) ?aF ?aO ?aB ?aS ?aL ?_; (case aP => exact rfl); (case aB => exact (be2 HB GE339 GE347)); (case aF => exact (fun _ _ => trivial)); (case aO => exact (by (with_reducible repeat (first | apply Kd.R_alloc | apply Kd.R_drewN | apply Kd.R_drew)); exact Kd.R_mono (Kd.R_far (p := ⟨gb347, 1, none⟩) (Kd.R_far (p := ⟨gb347, 0, none⟩) (Kd.R_types HO_3.out BK347.out (by decide)) (fun _ hk => hk.2) (.int .i64 ((rd_T70 l0_3 x18_1).f0))) (fun _ hk => hk.2) (.int .i64 ((rd_T70 l0_3 x18_1).f1))) (fun _ hk => trivial))); (case aS => exact (below_size (be2 HB GE339 GE347))); (case aL => have := LMc12.out; omega); intro v349 w16 ho hb hg hat; rw [← Ny348.out] at ho; replace BK339 := Aside0.mk (blk_grown (g := gb339) (o := .cells #[.slice A0_0 l0_0.length c0_0, .int .i64 a0_1, .slice A0_2 l0_2.length c0_2, .slice (some ad346) l0_3.length c0_3, .slice A0_4 l0_4.length c0_4] 27 (0, 0)) (bf1 BK339 NB339_347) hg (Kd.R_ne HO_3.out BK339.out (by decide))); replace BK347 := Aside0.mk (blk_grown (g := gb347) (o := .cells #[.int .i64 ((rd_T70 l0_3 x18_1).f0), .int .i64 ((rd_T70 l0_3 x18_1).f1)] 70 (0, 0)) (by (with_reducible repeat (first | refine blk_drewN ?_ _ | refine blk_drew ?_ | refine blk_alloc ?_ _)); refine blk_put (cs := #[.int .i64 ((rd_T70 l0_3 x18_1).f0), .int .i64 0]) ?_ 1 _ rfl; (with_reducible repeat (first | refine blk_drewN ?_ _ | refine blk_drew ?_ | refine blk_alloc ?_ _)); refine blk_put (cs := #[.int .i64 0, .int .i64 0]) ?_ 0 _ rfl; (with_reducible repeat (first | refine blk_drewN ?_ _ | refine blk_drew ?_ | refine blk_alloc ?_ _)); exact BK347.out) hg (Kd.R_ne HO_3.out BK347.out (by decide))); replace HB := Aside0.mk (hb); have HO350 := Aside0.mk (ho); clear HO_3; clear ho hb hg hat))
        go_roundg k1
        case measure => have := HK1.out; omega
        case rel => exact ⟨(y348), (wrap64 (x18_1 + 1)), rs, H', ⟨by have := HK1.out; omega⟩, ⟨ro HO350⟩, ⟨bk BK339⟩, ⟨be2 HB GE339 GE347⟩⟩
       rw [if_neg c12] at H
       exact absurd H (by simp)
      rw [if_neg c11] at H
      exact absurd H (by simp)
     rw [if_neg c10] at H
     exact absurd H (by simp)
    rw [if_neg c9] at H
    have c9b0 : decide (x18_1 < (l0_3.length : Int)) = false := decide_eq_false c9
    clear c9
    replace H := Option.bind_eq_some_iff.mp H
    obtain ⟨t351, A170, H⟩ := H
    try dsimp only at H
    have A17 := Aside0.mk A170
    clear A170
    have H' := Aside0.mk H
    clear H
    obtain ⟨Ao18, co18, eo18⟩ := Kd.R_slice HO_3.out
    subst eo18
    go_wp2_with (first | ((with_reducible refine gate_callee (f := 58) rfl ?_); refine gl 29 Try.func58 #[.slice Ao18 x3_1.length co18] ?_; (with_reducible refine (slices_Sort_int_int.calls k1 (fun k_ => some k_ = (.slice Ao18 x3_1.length co18 : Value).ownBlock) (.slice Ao18 x3_1.length co18) x3_1 t351 w _ ?side1 ?side2 A17.out).mono ?_); (case side1 => repeat (first | (with_reducible first | exact HB.out | apply below_alloc | apply pw_below_drewN | apply below_drew1 | refine below_set ?_ GE339.out) | exact HB.out)); (case side2 => exact Kd.R_tight rfl HO_3.out); rintro e w19 ⟨rfl, hy0, hb, hkp⟩; refine ⟨_, rfl, ?_⟩; replace BK339 := Aside0.mk (blk_kept (bk BK339) hkp (fun hs_ => (fun e_ => (Kd.R_ne HO_3.out BK339.out (by decide)) e_) hs_)); replace HO_3 := Aside0.mk (Kd.R_reok rfl hy0 (fun k_ e_ => HO_3.out.1 k_ e_)); replace HB := Aside0.mk (hb); (try clear hb); (try clear hkp); (try clear hy0)))
    go_loopg [32] k1 (fun kq v32 w' => ∃ (x32_2 : Int), v32 = .int .i64 x32_2 ∧ Aside0 (impl_PoolOk.l1 kq t351 t351 (x3_1.length : Int) x32_2 l0_0 a0_1 l0_2 l0_3 l0_4 = some r) ∧ Aside0 (kq ≤ k1) ∧ Aside0 (Kd.R (Kd.int .i64) 3 w' w.heap.size (fun _ => True) (.slice Ao18 x3_1.length co18) t351) ∧ Aside0 (Kd.R (Kd.int .i64) 3 w' w.heap.size (fun _ => True) (.slice Ao18 x3_1.length co18) t351) ∧ Aside0 (w'.heap[gb339]? = some (.cells #[(.slice A0_0 l0_0.length c0_0), .int .i64 a0_1, (.slice A0_2 l0_2.length c0_2), (.slice A0_3 l0_3.length c0_3), (.slice A0_4 l0_4.length c0_4)] 27 (0, 0))) ∧ Aside0 (Below w.heap.size w w'))
    case atStart => exact ⟨(0), rs, H', ⟨Nat.le_refl _⟩, ⟨ro HO_3⟩, ⟨ro HO_3⟩, ⟨bk BK339⟩, ⟨be1 HB GE339⟩⟩
    case round =>
     clear H'
     try clear c1; try clear c2; try clear p2; try clear c3; try clear p3; try clear q3; try clear hx3; try clear c5; try clear p6; try clear c9; try clear c9b0; try clear c10; try clear c10b0; try clear c11; try clear c11b0; try clear c12; try clear c14; try clear hcz15_0; try clear hcz8_0; try clear hx346_0; try clear hx346_1; try clear p2; try clear p346; try clear q346
     obtain ⟨x32_2, rfl, HA, HK2, HO_3, HO_30, BK339, HB⟩ := hrel
     have hl3_2 := (Kd.R_reads' HO_3.out).1
     rw [hl3_2] at HO_3
     (try simp only [hl3_2])
     (try simp only [hl3_2] at BK339)
     (try simp only [hl3_2] at HO_30)
     have hl30_2 := (Kd.R_reads' HO_30.out).1
     rw [hl30_2] at HO_30
     (try simp only [hl30_2])
     (try simp only [hl30_2] at BK339)
     (try simp only [hl30_2] at HO_3)
     cases gk with
     | zero => exact absurd HA.out (by simp [impl_PoolOk.l1])
     | succ k2 =>
      have H := HA.out
      clear HA
      simp only [impl_PoolOk.l1] at H
      by_cases c20 : x32_2 < (x3_1.length : Int)
      ·rw [if_pos c20] at H
       have c20b0 : decide (x32_2 < (x3_1.length : Int)) = true := decide_eq_true c20
       clear c20
       by_cases c21 : 0 ≤ x32_2
       ·rw [if_pos c21] at H
        have c21b0 : decide (0 ≤ x32_2) = true := decide_eq_true c21
        clear c21
        by_cases c22 : x32_2 < (t351.length : Int)
        ·rw [if_pos c22] at H
         have c22b0 : decide (x32_2 < (t351.length : Int)) = true := decide_eq_true c22
         clear c22
         by_cases c23 : (rd t351 x32_2) = x32_2
         ·rw [if_pos c23] at H
          have c23b0 : ((rd t351 x32_2) == x32_2) = true := beq_iff_eq.mpr c23
          have c23b1 : ((rd t351 x32_2) != x32_2) = false := bne_eq_false_iff_eq.mpr c23
          clear c23
          have H' := Aside0.mk H
          clear H
          have p352 : 0 ≤ (x32_2 : Int) := od
          have q352 : x32_2 < (t351.length : Int) := od
          obtain ⟨ad352, e352, hx352_0⟩ := Kd.at_int (Kd.R_reads' HO_30.out).2.2 x32_2 p352 q352
          cases e352
          replace p352 := eq_true p352
          replace q352 := eq_true q352
          go_wp2
          (try simp only [← hl3_2]); (try simp only [← hl30_2])
          go_roundg k2
          case measure => have := HK1.out; have := HK2.out; omega
          case rel => exact ⟨(wrap64 (x32_2 + 1)), rs, H', ⟨by have := HK1.out; have := HK2.out; omega⟩, ⟨by (try simp only [hl3_2, hl30_2]); (with_reducible repeat (first | apply Kd.R_alloc | apply Kd.R_drewN | apply Kd.R_drew)); exact HO_3.out⟩, ⟨by (try simp only [hl3_2, hl30_2]); (with_reducible repeat (first | apply Kd.R_alloc | apply Kd.R_drewN | apply Kd.R_drew)); exact HO_30.out⟩, ⟨by (try simp only [hl3_2, hl30_2]); (with_reducible repeat (first | refine blk_drewN ?_ _ | refine blk_drew ?_ | refine blk_alloc ?_ _)); exact BK339.out⟩, ⟨be1 HB GE339⟩⟩
         rw [if_neg c23] at H
         have c23b0 : ((rd t351 x32_2) == x32_2) = false := beq_eq_false_iff_ne.mpr c23
         have c23b1 : ((rd t351 x32_2) != x32_2) = true := bne_iff_ne.mpr c23
         obtain rfl := Option.some.inj H
         have p352 : 0 ≤ (x32_2 : Int) := od
         have q352 : x32_2 < (t351.length : Int) := od
         obtain ⟨ad352, e352, hx352_0⟩ := Kd.at_int (Kd.R_reads' HO_30.out).2.2 x32_2 p352 q352
         cases e352
         replace p352 := eq_true p352
         replace q352 := eq_true q352
         go_wp2
         go_ret
         exact ⟨er, be1 HB GE339⟩
        rw [if_neg c22] at H
        exact absurd H (by simp)
       rw [if_neg c21] at H
       exact absurd H (by simp)
      rw [if_neg c20] at H
      have c20b0 : decide (x32_2 < (x3_1.length : Int)) = false := decide_eq_false c20
      (try simp only [hl3_2] at c20b0); (try simp only [hl30_2] at c20b0)
      clear c20
      replace H := Option.bind_eq_some_iff.mp H
      obtain ⟨t353, A240, H⟩ := H
      try dsimp only at H
      have A24 := Aside0.mk A240
      clear A240
      by_cases c25 : t353 = true
      ·subst c25
       rw [if_pos rfl] at H
       replace H := Option.bind_eq_some_iff.mp H
       obtain ⟨t354, A260, H⟩ := H
       try dsimp only at H
       have A26 := Aside0.mk A260
       clear A260
       by_cases c27 : t354 = true
       ·subst c27
        rw [if_pos rfl] at H
        obtain rfl := Option.some.inj H
        have hcz28_0 := bz5 BK339
        go_wp2_with (first | ((with_reducible refine gate_callee (f := 59) rfl ?_); refine gl 43 Try.func59 #[.agg #[.int .i64 a0_1, .slice A0_2 l0_2.length c0_2, .slice A0_3 l0_3.length c0_3]] ?_; (with_reducible refine (impl_AgesOk.calls k2 a0_1 _ _ l0_2 _ _ l0_3 true _ (cb HR0_2 HB) HC0_2.out (cb HR0_3 HB) HC0_3.out A24.out).mono ?_); rintro e w29 ⟨rfl, hb⟩; refine ⟨_, rfl, ?_⟩; replace HO_3 := rb HO_3 hb; replace HO_30 := rb HO_30 hb; replace BK339 := bb BK339 hb; replace HB := Aside0.mk (below_step (be1 HB GE339) hb); (try clear hb); have hcz30_0 := bz5 BK339) | (go_at_call 60; (with_reducible refine (impl_rises.calls k2 _ _ l0_4 true _ (cb HR0_4 HB) HC0_4.out A26.out).mono ?_); rintro e w' ⟨rfl, ⟨nd, rfl⟩⟩))
        go_ret
        exact ⟨er, be1 HB GE339⟩
       replace c27 := Bool.eq_false_iff.mpr c27
       subst c27
       rw [if_neg (show ¬ (false = true) by decide)] at H
       obtain rfl := Option.some.inj H
       have hcz31_0 := bz5 BK339
       go_wp2_with (first | ((with_reducible refine gate_callee (f := 59) rfl ?_); refine gl 43 Try.func59 #[.agg #[.int .i64 a0_1, .slice A0_2 l0_2.length c0_2, .slice A0_3 l0_3.length c0_3]] ?_; (with_reducible refine (impl_AgesOk.calls k2 a0_1 _ _ l0_2 _ _ l0_3 true _ (cb HR0_2 HB) HC0_2.out (cb HR0_3 HB) HC0_3.out A24.out).mono ?_); rintro e w32 ⟨rfl, hb⟩; refine ⟨_, rfl, ?_⟩; replace HO_3 := rb HO_3 hb; replace HO_30 := rb HO_30 hb; replace BK339 := bb BK339 hb; replace HB := Aside0.mk (below_step (be1 HB GE339) hb); (try clear hb); have hcz33_0 := bz5 BK339) | (go_at_call 60; (with_reducible refine (impl_rises.calls k2 _ _ l0_4 false _ (cb HR0_4 HB) HC0_4.out A26.out).mono ?_); rintro e w' ⟨rfl, ⟨nd, rfl⟩⟩))
       go_ret
       exact ⟨er, be1 HB GE339⟩
      replace c25 := Bool.eq_false_iff.mpr c25
      subst c25
      rw [if_neg (show ¬ (false = true) by decide)] at H
      obtain rfl := Option.some.inj H
      have hcz34_0 := bz5 BK339
      go_wp2_with (first | ((with_reducible refine gate_callee (f := 59) rfl ?_); refine gl 43 Try.func59 #[.agg #[.int .i64 a0_1, .slice A0_2 l0_2.length c0_2, .slice A0_3 l0_3.length c0_3]] ?_; (with_reducible refine (impl_AgesOk.calls k2 a0_1 _ _ l0_2 _ _ l0_3 false _ (cb HR0_2 HB) HC0_2.out (cb HR0_3 HB) HC0_3.out A24.out).mono ?_); rintro e w35 ⟨rfl, hb⟩; refine ⟨_, rfl, ?_⟩; replace HO_3 := rb HO_3 hb; replace HO_30 := rb HO_30 hb; replace BK339 := bb BK339 hb; replace HB := Aside0.mk (below_step (be1 HB GE339) hb); (try clear hb)))
      go_ret
      exact ⟨er, be1 HB GE339⟩
 rw [if_neg c3] at H
 exact absurd H (by simp)

/-! ### impl_copyAges: function 96 -/
def impl_copyAges.f (a0_0 : Int) (l0_1 : List Int) (l0_2 : List (S70)) : Option (Int × List Int × (List (S70))) := (some (([] : List (S70)) : List (S70))).bind fun y355 => ((impl_copyInts.f l0_1).bind fun t360 => (if y355.length + l0_2.length < 8796093022208 then (some (a0_0, t360, (y355 ++ l0_2))) else (none)))
def impl_copyAges.T1 : Bool × List (List Nat × List Nat) := (true, [([], []), ([0], [0]), ([], []), ([2], [2]), ([3], [3]), ([], []), ([5], [5]), ([6, 4], [6]), ([1, 4, 7], [1, 4, 7]), ([8, 7, 0, 1, 2, 3, 4, 5, 6, 7, 8], [8])])
def impl_copyAges.B1 : List Nat := [0, 1, 0, 4, 12, 0, 32, 124, 255, 511]
theorem impl_copyAges.tab1 : rtab .any (opsOf Try.f96 1) = impl_copyAges.T1 := by kernel_rfl
theorem impl_copyAges.bits1 : waitsOk impl_copyAges.T1.2 impl_copyAges.B1 = true := by kernel_rfl
set_option maxHeartbeats 8000000 in
set_option maxRecDepth 100000 in
theorem impl_copyAges.calls (a0_0 : Int) (A0_1 : Option Addr) (c0_1 : Nat) (l0_1 : List Int) (A0_2 : Option Addr) (c0_2 : Nat) (l0_2 : List (S70)) (r1 : Int) (r2 : List Int) (r3 : List (S70)) (w : World) (hr0_1 : Kd.C (Kd.int .i64) w A0_1 l0_1.length l0_1) (hc0_1 : l0_1.length ≤ c0_1) (hr0_2 : Kd.C k70 w A0_2 l0_2.length l0_2) (hc0_2 : l0_2.length ≤ c0_2) (h : impl_copyAges.f a0_0 l0_1 l0_2 = some (r1, r2, r3)) :
  Calls Try.prog 96 #[.agg #[.int .i64 a0_0, .slice A0_1 l0_1.length c0_1, .slice A0_2 l0_2.length c0_2]] w fun e w' => ∃ v1_ v2_ : Value, e = .returned (.agg #[.int .i64 r1, v1_, v2_]) ∧ Kd.R (Kd.int .i64) 3 w' w.heap.size (fun _ => True) v1_ r2 ∧ Kd.R k70 70 w' w.heap.size (fun _ => True) v2_ r3 ∧ Below w.heap.size w w' := by
 have hu25 := Try.underlying25
 have HR0_1 := Aside0.mk hr0_1
 have HC0_1 := Aside0.mk hc0_1
 clear hr0_1 hc0_1
 have HR0_2 := Aside0.mk hr0_2
 have HC0_2 := Aside0.mk hc0_2
 clear hr0_2 hc0_2
 have HB := Aside0.mk (Below.refl w.heap.size w)
 have H : ((some (([] : List (S70)) : List (S70))).bind fun y355 => ((impl_copyInts.f l0_1).bind fun t360 => (if y355.length + l0_2.length < 8796093022208 then (some (a0_0, t360, (y355 ++ l0_2))) else (none)))) = some (r1, r2, r3) := h
 clear h
 obtain ⟨y355, hy355⟩ : ∃ y_ : List (S70), y_ = (([] : List (S70))) := ⟨_, rfl⟩
 replace H : ((impl_copyInts.f l0_1).bind fun t360 => (if y355.length + l0_2.length < 8796093022208 then (some (a0_0, t360, (y355 ++ l0_2))) else (none))) = some (r1, r2, r3) := by first | (rw [hy355]; with_reducible exact H) | (have H2_ := (Option.bind_some _ _).symm.trans H; rw [hy355]; with_reducible exact H2_) | (have H2_ := (Option.bind_some _ _).symm.trans H; with_reducible exact H2_) | with_reducible exact H | (rw [hy355]; exact H) | exact H
 have Ny355 := Aside0.mk hy355
 clear hy355
 replace H := Option.bind_eq_some_iff.mp H
 obtain ⟨t360, A20, H⟩ := H
 replace H : (if y355.length + l0_2.length < 8796093022208 then (some (a0_0, t360, (y355 ++ l0_2))) else (none)) = some (r1, r2, r3) := H
 have A2 := Aside0.mk A20
 clear A20
 by_cases c3 : y355.length + l0_2.length < 8796093022208
 ·rw [if_pos c3] at H
  have LMc3 := Aside0.mk c3
  clear c3
  obtain ⟨y363, hy363⟩ : ∃ y_ : List (S70), y_ = (y355 ++ l0_2) := ⟨_, rfl⟩
  replace H : (some (a0_0, t360, y363)) = some (r1, r2, r3) := by first | (rw [hy363]; with_reducible exact H) | (have H2_ := (Option.bind_some _ _).symm.trans H; rw [hy363]; with_reducible exact H2_) | (have H2_ := (Option.bind_some _ _).symm.trans H; with_reducible exact H2_) | with_reducible exact H | (rw [hy363]; exact H) | exact H
  have Ny363 := Aside0.mk hy363
  clear hy363
  simp only [Option.some.injEq, Prod.mk.injEq] at H
  obtain ⟨rfl, rfl, rfl⟩ := H
  go_enter Try.func96, Try.ntmps96
  have HO357 := Aside0.mk (show Kd.R k70 70 w w.heap.size (fun _ => True) (.slice none 0 0) y355 from by rw [Ny355.out]; exact Kd.R_nil _ _ _ _ _)
  try go_wp2_with (first | ((with_reducible refine gate_dst (N := 1) rfl ?_); refine bx 1 #[.int .i64 a0_0, .slice A0_1 l0_1.length c0_1, .slice A0_2 l0_2.length c0_2] 25 ?_; intro gb358 hg w6 hbox hb; replace HO357 := rb HO357 hb; have BK358 := am hbox; have GW358 := gs0 hg HB; have GE358 := gs0 hg HB; replace HB := s0 HB hb; clear hb hbox hg) | ((with_reducible refine gate_dst (N := 2) rfl ?_); refine bx 2 #[.int .i64 0, .slice none 0 0, .slice none 0 0] 25 ?_; intro gb359 hg w7 hbox hb; replace HO357 := rb HO357 hb; have BK359 := am hbox; have GW359 := gs1 hg HB GE358; have GE359 := gs1 hg HB GE358; replace HB := Aside0.mk (below_step (be1 HB GE358) hb); have NB358_359 := Aside0.mk ((by rw [hg]; exact Nat.ne_of_lt (bl BK358) : gb358 ≠ gb359)); have NB359_358 := Aside0.mk ((by rw [hg]; exact Nat.ne_of_gt (bl BK358) : gb359 ≠ gb358)); replace BK358 := bb BK358 hb; clear hb hbox hg))
  have n0_ := Aside0.mk (Kd.R_drew HO357.out)
  have n1_ := Aside0.mk (blk_drew BK358.out)
  have n2_ := Aside0.mk (blk_drew BK359.out)
  have n3_ := Aside0.mk (below_drew1 HB.out)
  clear HO357
  clear BK358
  clear BK359
  clear HB
  have HO357 := n0_
  have BK358 := n1_
  have BK359 := n2_
  have HB := n3_
  clear n0_ n1_ n2_ n3_
  refine start_ (n := 10) (S := fun w' => w'.cell? ⟨gb358, 0, none⟩ = some (.int .i64 a0_0) ∧ w'.cell? ⟨gb358, 1, none⟩ = some (.slice A0_1 l0_1.length c0_1) ∧ w'.cell? ⟨gb358, 2, none⟩ = some (.slice A0_2 l0_2.length c0_2)) (ds := []) (bv 10 0x0) (by kernel_rfl) rfl rfl ⟨bc0 BK358, bc1 BK358, bc2 BK358⟩ (fun hHeld => ?_); refine with_tabW impl_copyAges.tab1 impl_copyAges.bits1 (fun HT_ HW_ => ?_)
  generalize w7.drew = w8 at HO357 BK358 BK359 HB hHeld ⊢
  refine py HT_ 0 3 (bv 10 0x1) ?_
  refine py HT_ 2 5 (bv 10 0x5) ?_
  refine py HT_ 5 8 (bv 10 0x25) ?_
  refine tk HT_ HW_ hHeld 1 4 (bv 10 0x27) ?_
  refine tk HT_ HW_ hHeld 3 6 (bv 10 0x2f) ?_
  refine tk HT_ HW_ hHeld 6 9 (bv 10 0x6f) ?_
  refine one_ (i := 4) (N := some 7) (bv 10 0x7f) rfl rfl (one_of HT_.out (by kernel_rfl)) (by decide) (fun K hK => ?_)
  refine goes_ Try.func57 (by kernel_rfl) rfl #[.slice A0_1 l0_1.length c0_1] (by rfl) rfl rfl ml ?_
  with_reducible refine (impl_copyInts.calls _ _ l0_1 t360 _ ?side1 ?side2 A2.out).mono ?_
  (case side1 => exact cb HR0_1 HB)
  (case side2 => exact HC0_1.out)
  rintro e w9 ⟨v361, rfl, ho0, hb⟩
  refine ⟨_, rfl, ?_⟩
  have n0_ := rb HO357 hb
  have n1_ := Aside0.mk (Kd.R_lower ho0 (below_size (be2 HB GE358 GE359)))
  have n2_ := bb BK358 hb
  have n3_ := bb BK359 hb
  have n4_ := Aside0.mk (below_step (be2 HB GE358 GE359) hb)
  clear HO357
  clear BK358
  clear BK359
  clear HB
  have HO357 := n0_
  have HO362 := n1_
  have BK358 := n2_
  have BK359 := n3_
  have HB := n4_
  clear n0_ n1_ n2_ n3_ n4_
  (try clear hb)
  (try clear hb2)
  (try clear hk)
  (try clear hi)
  (try clear ho0)
  refine hK.out _ _ ⟨bc0 BK358, bc1 BK358, bc2 BK358⟩ (fun hHeld => ?_)
  clear hK K
  refine norm_ (a' := ?_) ?_ ?_
  rotate_left
  ·show Act.put _ (some 7) _ = _
   simp only [aP]
   rfl
  refine one_ (i := 7) (N := some 10) (bv 10 0xff) rfl rfl (one_of HT_.out (by kernel_rfl)) (by decide) (fun K hK => ?_)
  refine Kd.R_append_rows_step k70 (w0 := w) w.heap.size (by rfl) (.const (.slice none 0 0)) (.tmp 9) 23 70 (.agg #[(.int .i64 0), (.int .i64 0)]) 16 rfl Try.underlying23 info70 rfl (by decide) (by omega) (.slice none 0 0) y355 l0_2 _ _ _ (fun _ => True) (fun _ => False) rfl rfl ?aO ?aR (fun _ _ h => h) (fun _ h => h.elim) ?aF ?aB ?aS ?aL ?_
  (case aR => repeat (first | exact (Kd.C_below HR0_2.out HB.out) | (with_reducible refine Kd.C_alloc ?_ _) | (with_reducible refine Kd.C_drewN ?_ _) | (with_reducible refine Kd.C_drew ?_)))
  (case aB => exact (be2 HB GE358 GE359))
  (case aF => exact (fun _ _ => trivial))
  (case aO => exact (ro HO357))
  (case aS => exact (below_size (be2 HB GE358 GE359)))
  (case aL => have := LMc3.out; omega)
  intro v364 w10 ho hb hg hat
  rw [← Ny363.out] at ho
  have n0_ := Aside0.mk (blk_grown (g := gb358) (o := .cells #[.int .i64 a0_0, .slice A0_1 l0_1.length c0_1, .slice A0_2 l0_2.length c0_2] 25 (0, 0)) (bk BK358) hg (Kd.R_ne HO357.out BK358.out (by decide)))
  have n1_ := Aside0.mk (blk_grown (g := gb359) (o := .cells #[.int .i64 0, .slice none 0 0, .slice none 0 0] 25 (0, 0)) (bk BK359) hg (Kd.R_ne HO357.out BK359.out (by decide)))
  have n2_ := Aside0.mk (Kd.R_over' (ro HO362) (Kd.R_typed (ro HO357)) (by decide) hg)
  have n3_ := Aside0.mk (hb)
  have n4_ := Aside0.mk (ho)
  clear BK358
  clear BK359
  clear HO362
  clear HB
  clear HO357
  have BK358 := n0_
  have BK359 := n1_
  have HO362 := n2_
  have HB := n3_
  have HO365 := n4_
  clear n0_ n1_ n2_ n3_ n4_
  clear ho hb hg hat
  obtain ⟨Ao11, co11, eo11⟩ := Kd.R_slice HO365.out
  (first | subst eo11 | (injection eo11 with f1_ f2_ f3_; have f4_ := f1_.symm; have f5_ := f3_.symm; clear f1_ f2_ f3_; subst f4_; subst f5_))
  obtain ⟨Ao12, co12, eo12⟩ := Kd.R_slice HO362.out
  (first | subst eo12 | (injection eo12 with f1_ f2_ f3_; have f4_ := f1_.symm; have f5_ := f3_.symm; clear f1_ f2_ f3_; subst f4_; subst f5_))
  refine hK.out _ _ ⟨bc0 BK358, bc1 BK358, bc2 BK358⟩ (fun hHeld => ?_)
  clear hK K
  refine norm_ (a' := ?_) ?_ ?_
  rotate_left
  ·show Act.put _ (some 10) _ = _
   simp only [aP]
   rfl
  refine py HT_ 8 11 (bv 10 0x1ff) ?_
  refine one_ (i := 9) (N := none) (bv 10 0x3ff) rfl rfl (one_of HT_.out (by kernel_rfl)) (by decide) (fun K hK => ?_)
  have hs13 : w10.cell? ⟨gb359, 0, none⟩ = some (.int .i64 0) := bc0 BK359
  have hfs13 := blk_frozen BK359.out 0
  have hns13_0 := NB358_359.out
  have hms13_0 := NB359_358.out
  have hs14 : w10.cell? ⟨gb359, 1, none⟩ = some (.slice none 0 0) := bc1 BK359
  have hfs14 := blk_frozen BK359.out 1
  have hns14_0 := NB358_359.out
  have hms14_0 := NB359_358.out
  have hs15 : w10.cell? ⟨gb359, 2, none⟩ = some (.slice none 0 0) := bc2 BK359
  have hfs15 := blk_frozen BK359.out 2
  have hns15_0 := NB358_359.out
  have hms15_0 := NB359_358.out
  refine skip_ (w1 := ?_) (by rfl) rfl ?_ ?_
  rotate_left
  ·go_simp
   rfl
  refine hK.out _ _ ⟨((cell_far (p := ⟨gb359, _, none⟩) NB358_359.out _).trans (((cell_far (p := ⟨gb359, _, none⟩) NB358_359.out _).trans (((cell_far (p := ⟨gb359, _, none⟩) NB358_359.out _).trans (hHeld.1)))))), ((cell_far (p := ⟨gb359, _, none⟩) NB358_359.out _).trans (((cell_far (p := ⟨gb359, _, none⟩) NB358_359.out _).trans (((cell_far (p := ⟨gb359, _, none⟩) NB358_359.out _).trans (hHeld.2.1)))))), ((cell_far (p := ⟨gb359, _, none⟩) NB358_359.out _).trans (((cell_far (p := ⟨gb359, _, none⟩) NB358_359.out _).trans (((cell_far (p := ⟨gb359, _, none⟩) NB358_359.out _).trans (hHeld.2.2))))))⟩ (fun hHeld => ?_)
  clear hK K
  refine done_ (done_of HT_.out (by kernel_rfl)) ?_
  try go_wp2
  refine bodyPost_ret (results_cell_row rfl _ _ gb359 25 #[.int .i64 a0_0, .slice Ao12 t360.length co12, .slice Ao11 y363.length co11] (0, 0) _ rfl (by (with_reducible repeat (first | refine blk_drewN ?_ _ | refine blk_drew ?_ | refine blk_alloc ?_ _)); refine blk_put (cs := #[.int .i64 a0_0, .slice Ao12 t360.length co12, .slice none 0 0]) ?_ 2 _ rfl; (with_reducible repeat (first | refine blk_drewN ?_ _ | refine blk_drew ?_ | refine blk_alloc ?_ _)); refine blk_put (cs := #[.int .i64 a0_0, .slice none 0 0, .slice none 0 0]) ?_ 1 _ rfl; (with_reducible repeat (first | refine blk_drewN ?_ _ | refine blk_drew ?_ | refine blk_alloc ?_ _)); refine blk_put (cs := #[.int .i64 0, .slice none 0 0, .slice none 0 0]) ?_ 0 _ rfl; (with_reducible repeat (first | refine blk_drewN ?_ _ | refine blk_drew ?_ | refine blk_alloc ?_ _)); exact BK359.out) Try.underlying25 rfl (by kernel_rfl)) rfl ?_
  exact ⟨_, _, er, by (with_reducible repeat (first | apply Kd.R_alloc | apply Kd.R_drewN | apply Kd.R_drew)); exact Kd.R_mono (Kd.R_far (p := ⟨gb359, 2, none⟩) (Kd.R_far (p := ⟨gb359, 1, none⟩) (Kd.R_far (p := ⟨gb359, 0, none⟩) (Kd.R_types HO362.out BK359.out (by decide)) (fun _ hk => hk.2) (.int .i64 a0_0)) (fun _ hk => hk.2) (.slice Ao12 t360.length co12)) (fun _ hk => hk.2) (.slice Ao11 y363.length co11)) (fun _ hk => trivial), by (with_reducible repeat (first | apply Kd.R_alloc | apply Kd.R_drewN | apply Kd.R_drew)); exact Kd.R_mono (Kd.R_far (p := ⟨gb359, 2, none⟩) (Kd.R_far (p := ⟨gb359, 1, none⟩) (Kd.R_far (p := ⟨gb359, 0, none⟩) (Kd.R_types HO365.out BK359.out (by decide)) (fun _ hk => hk.2) (.int .i64 a0_0)) (fun _ hk => hk.2) (.slice Ao12 t360.length co12)) (fun _ hk => hk.2) (.slice Ao11 y363.length co11)) (fun _ hk => trivial), be2 HB GE358 GE359⟩
 rw [if_neg c3] at H
 exact absurd H (by simp)

end Go.Proofs.Ytdgpidhlbpaolaa.QFnExactAlloc
