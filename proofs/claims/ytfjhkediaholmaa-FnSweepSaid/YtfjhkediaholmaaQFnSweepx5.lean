-- made by a program of this session (myprint.py)
import Derived.Test.YtfjhkediaholmaaQFnSweepx0
import Derived.Test.YtfjhkediaholmaaQFnSweepx1
import Derived.Test.YtfjhkediaholmaaQFnSweepx3
import Derived.Test.YtfjhkediaholmaaQFnSweepx4
namespace Go.Proofs.Ytfjhkediaholmaa.QFnSweep
open Go.RowKit Go.Proofs.YtfjhkediaholmaaW.PrintWords Go.Proofs.YtfjhkediaholmaaW.PrintLast Go.Proofs.YtfjhkediaholmaaW.PrintMore
attribute [local go_sem] max2_int min2_int max_two min_two max_three min_three max_four min_four   -- for this text's walks alone
set_option linter.unusedVariables false
set_option linter.unusedSimpArgs false

/-! ### impl_Three_evictSmall: function 94 -/
def impl_Three_evictSmall.l0 : Nat → Int → Int → List (S68) → List (S68) → List Int → Option (ByteArray × Bool × Int × Int × (List (S68)) × (List (S68)) × List Int)
 | 0, _, _, _, _, _ => none
 | k + 1, x200000, x200001, x200002, x200003, x200004 => if (x200002.length : Int) > 0 then (if 0 < (x200002.length : Int) then (if 1 ≤ (x200002.length : Int) then ((some (x200002.drop (1 : Int).toNat : List (S68))).bind fun y202 => (if ((rd_T68 x200002 0).f2) > 1 then ((some (([(⟨(rd_T68 x200002 0).f0, (rd_T68 x200002 0).f1, 0⟩ : S68)] : List (S68)) : List (S68))).bind fun y205 => (if x200003.length + y205.length < 3518437208883 then (impl_Three_evictSmall.l0 k x200000 x200001 y202 (x200003 ++ y205) x200004) else (none))) else ((impl_Hash.f k ((rd_T68 x200002 0).f0)).bind fun t211 => ((slices_DeleteFunc_int_int.f x200004 t211).bind fun t213 => ((some (([t211] : List Int) : List Int)).bind fun y216 => (if t213.length + y216.length < 17592186044416 then ((some (t213 ++ y216 : List Int)).bind fun y219 => ((impl_Three_ghosts.f x200000 x200001 y202 x200003 y219).bind fun t222 => (if (y219.length : Int) > t222 then (if 1 ≤ (y219.length : Int) then (some ((rd_T68 x200002 0).f0, true, x200000, x200001, y202, x200003, (y219.drop (1 : Int).toNat))) else (none)) else (some ((rd_T68 x200002 0).f0, true, x200000, x200001, y202, x200003, y219))))) else (none))))))) else (none)) else (none)) else (some ((⟨#[]⟩ : ByteArray), false, x200000, x200001, x200002, x200003, x200004))
def impl_Three_evictSmall.f (k : Nat) (a0_0 : Int) (a0_1 : Int) (l0_2 : List (S68)) (l0_3 : List (S68)) (l0_4 : List Int) : Option (ByteArray × Bool × Int × Int × (List (S68)) × (List (S68)) × List Int) := impl_Three_evictSmall.l0 k a0_0 a0_1 l0_2 l0_3 l0_4
theorem impl_Three_evictSmall.mono_l : ∀ k, (∀ y0 y1 y2 y3 y4, LeO (impl_Three_evictSmall.l0 k y0 y1 y2 y3 y4) (impl_Three_evictSmall.l0 (k + 1) y0 y1 y2 y3 y4))
 | 0 => fun _ _ _ _ _ r h => by simp [impl_Three_evictSmall.l0] at h
 | k + 1 => by
  have ih0 := impl_Three_evictSmall.mono_l k
  ·intro y0 y1 y2 y3 y4
   unfold impl_Three_evictSmall.l0
   repeat' first
   | (with_reducible exact ih0 _ _ _ _ _)
   | (with_reducible exact impl_Hash.mono _ _)
   | (with_reducible exact LeO.refl _)
   | (with_reducible exact LeO.none _)
   | (with_reducible refine LeO.ite ?_ ?_)
   | (with_reducible refine LeO.bind ?_ (fun _ => ?_))
   | exact ih0 _ _ _ _ _
   | exact impl_Hash.mono _ _
   | exact LeO.none _
   | refine LeO.ite ?_ ?_
   | refine LeO.bind ?_ (fun _ => ?_)
theorem impl_Three_evictSmall.mono : ∀ a0 a1 a2 a3 a4 k, LeO (impl_Three_evictSmall.f k a0 a1 a2 a3 a4) (impl_Three_evictSmall.f (k + 1) a0 a1 a2 a3 a4) := by
 intro a0 a1 a2 a3 a4 k
 have ih0 := impl_Three_evictSmall.mono_l k
 unfold impl_Three_evictSmall.f
 repeat' first
   | (with_reducible exact ih0 _ _ _ _ _)
   | (with_reducible exact impl_Hash.mono _ _)
   | (with_reducible exact LeO.refl _)
   | (with_reducible exact LeO.none _)
   | (with_reducible refine LeO.ite ?_ ?_)
   | (with_reducible refine LeO.bind ?_ (fun _ => ?_))
   | exact ih0 _ _ _ _ _
   | exact impl_Hash.mono _ _
   | exact LeO.none _
   | refine LeO.ite ?_ ?_
   | refine LeO.bind ?_ (fun _ => ?_)
def impl_Three_evictSmall.T6 : Bool × List (List Nat × List Nat) := (true, [([], []), ([], []), ([1], [1]), ([2], [2]), ([3], [3]), ([], []), ([5], [5]), ([4, 6], [4, 6]), ([0, 0, 1, 2, 3, 4, 5, 6, 7], [0]), ([8, 0, 1, 2, 3, 4, 5, 6, 7], [8]), ([9, 7, 7, 0, 1, 2, 3, 4, 5, 6, 7], [7, 9])])
def impl_Three_evictSmall.B6 : List Nat := [0, 0, 2, 6, 14, 0, 32, 126, 255, 511, 1023]
theorem impl_Three_evictSmall.tab6 : rtab .any (opsOf Try.f94 6) = impl_Three_evictSmall.T6 := by kernel_rfl
theorem impl_Three_evictSmall.bits6 : waitsOk impl_Three_evictSmall.T6.2 impl_Three_evictSmall.B6 = true := by kernel_rfl
def impl_Three_evictSmall.T8 : Bool × List (List Nat × List Nat) := (true, [([], []), ([], []), ([1], [1]), ([2], [2]), ([3], [3]), ([], []), ([4, 5], [4, 5]), ([], []), ([7], [7]), ([6, 8, 6], [6, 8]), ([0, 0, 1, 2, 3, 4, 5, 6, 7, 8, 9], [0]), ([10, 0, 1, 2, 3, 4, 5, 6, 7, 8, 9], [10]), ([11, 9, 9, 0, 1, 2, 3, 4, 5, 6, 7, 8, 9], [9, 11])])
def impl_Three_evictSmall.B8 : List Nat := [0, 0, 2, 6, 14, 0, 62, 0, 128, 510, 1023, 2047, 4095]
theorem impl_Three_evictSmall.tab8 : rtab .any (opsOf Try.f94 8) = impl_Three_evictSmall.T8 := by kernel_rfl
theorem impl_Three_evictSmall.bits8 : waitsOk impl_Three_evictSmall.T8.2 impl_Three_evictSmall.B8 = true := by kernel_rfl
def impl_Three_evictSmall.T9 : Bool × List (List Nat × List Nat) := (true, [([], []), ([0], [0]), ([1], [1]), ([2], [2]), ([3], [3]), ([], []), ([5], [5]), ([4, 6], [4, 6])])
def impl_Three_evictSmall.B9 : List Nat := [0, 1, 3, 7, 15, 0, 32, 127]
theorem impl_Three_evictSmall.tab9 : rtab .any (opsOf Try.f94 9) = impl_Three_evictSmall.T9 := by kernel_rfl
theorem impl_Three_evictSmall.bits9 : waitsOk impl_Three_evictSmall.T9.2 impl_Three_evictSmall.B9 = true := by kernel_rfl
set_option maxHeartbeats 8000000 in
set_option maxRecDepth 100000 in
theorem impl_Three_evictSmall.calls (k : Nat) (a0_0 : Int) (a0_1 : Int) (P0_2_ : Nat → Prop) (u9000_ : Value) (l0_2 : List (S68)) (P0_3_ : Nat → Prop) (u9001_ : Value) (l0_3 : List (S68)) (P0_4_ : Nat → Prop) (u9002_ : Value) (l0_4 : List Int) (gb199 : Nat) (r1 : ByteArray) (r2 : Bool) (r3 : Int) (r4 : Int) (r5 : List (S68)) (r6 : List (S68)) (r7 : List Int) (w0 w : World) (hP : w.heap[gb199]? = some (.cells #[.int .i64 a0_0, .int .i64 a0_1, u9000_, u9001_, u9002_] 30 (0, 0))) (hW : w0.heap.size ≤ gb199) (hB : Below w0.heap.size w0 w) (ho0_2 : Kd.R k68 68 w w0.heap.size P0_2_ u9000_ l0_2) (hp0_2_0_3 : ∀ k_, P0_2_ k_ → ¬ P0_3_ k_) (ho0_3 : Kd.R k68 68 w w0.heap.size P0_3_ u9001_ l0_3) (hp0_3_0_2 : ∀ k_, P0_3_ k_ → ¬ P0_2_ k_) (ho0_4 : Kd.R (Kd.int .i64) 3 w w0.heap.size P0_4_ u9002_ l0_4) (h : impl_Three_evictSmall.f k a0_0 a0_1 l0_2 l0_3 l0_4 = some (r1, r2, r3, r4, r5, r6, r7)) :
  Calls Try.prog 94 #[.pointer (some ⟨gb199, 0, none⟩)] w fun e w' => ∃ v4_ v5_ v6_ : Value, e = .returned (.tuple #[.string r1, .bool r2]) ∧ w'.heap[gb199]? = some (.cells #[.int .i64 r3, .int .i64 r4, v4_, v5_, v6_] 30 (0, 0)) ∧ Kd.Q k68 68 w' w0.heap.size (fun k_ => ((P0_2_ k_ ∨ P0_3_ k_ ∨ P0_4_ k_) ∨ w.heap.size ≤ k_) ∧ some k_ ≠ (v5_ : Value).ownBlock) v4_ r5 ∧ Kd.R k68 68 w' w0.heap.size (fun k_ => ((P0_2_ k_ ∨ P0_3_ k_ ∨ P0_4_ k_) ∨ w.heap.size ≤ k_) ∧ some k_ ≠ (v4_ : Value).ownBlock) v5_ r6 ∧ Kd.Q (Kd.int .i64) 3 w' w0.heap.size (fun k_ => ((P0_2_ k_ ∨ P0_3_ k_ ∨ P0_4_ k_) ∨ w.heap.size ≤ k_)) v6_ r7 ∧ Below w0.heap.size w0 w' ∧ Kept w w' (fun k_ => (P0_2_ k_ ∨ P0_3_ k_ ∨ P0_4_ k_) ∨ k_ = gb199) := by
 have hu30 := Try.underlying30
 have hu68 := Try.underlying68
 have HO0_2 := Aside0.mk (show Kd.R k68 68 w w0.heap.size (fun k_ => ((P0_2_ k_ ∨ P0_3_ k_ ∨ P0_4_ k_) ∨ w.heap.size ≤ k_) ∧ some k_ ≠ (u9001_ : Value).ownBlock) u9000_ l0_2 from Kd.R_mono ho0_2 (fun k_ hk => ⟨(.inl (.inl hk)), fun e_ => hp0_2_0_3 k_ hk (ho0_3.1 k_ e_.symm)⟩))
 have HO0_3 := Aside0.mk (show Kd.R k68 68 w w0.heap.size (fun k_ => ((P0_2_ k_ ∨ P0_3_ k_ ∨ P0_4_ k_) ∨ w.heap.size ≤ k_) ∧ some k_ ≠ (u9000_ : Value).ownBlock) u9001_ l0_3 from Kd.R_mono ho0_3 (fun k_ hk => ⟨(.inl (.inr (.inl hk))), fun e_ => hp0_3_0_2 k_ hk (ho0_2.1 k_ e_.symm)⟩))
 have HO0_4 := Aside0.mk (show Kd.R (Kd.int .i64) 3 w w0.heap.size (fun k_ => ((P0_2_ k_ ∨ P0_3_ k_ ∨ P0_4_ k_) ∨ w.heap.size ≤ k_)) u9002_ l0_4 from Kd.R_mono ho0_4 (fun k_ hk => (.inl (.inr (.inr hk)))))
 have HK := Aside0.mk (Kept.refl w (fun k_ => (P0_2_ k_ ∨ P0_3_ k_ ∨ P0_4_ k_) ∨ k_ = gb199))
 have HW0 := Aside0.mk hB.size
 have HB := Aside0.mk hB
 clear hB
 have BK199 := Aside0.mk hP
 have GE199 := Aside0.mk hW
 clear hP hW
 have H : (impl_Three_evictSmall.l0 k a0_0 a0_1 l0_2 l0_3 l0_4) = some (r1, r2, r3, r4, r5, r6, r7) := h
 clear h
 have H' := Aside0.mk H
 clear H
 obtain ⟨Ao2, co2, eo2⟩ := Kd.R_slice HO0_2.out
 subst eo2
 obtain ⟨Ao3, co3, eo3⟩ := Kd.R_slice HO0_3.out
 subst eo3
 obtain ⟨Ao4, co4, eo4⟩ := Kd.R_slice HO0_4.out
 subst eo4
 go_enter Try.func94, Try.ntmps94
 go_wp2
 go_loopg [] k (fun kq w' => ∃ (x200002_1 : List (S68)) (x200003_1 : List (S68)) (x200004_1 : List Int) (u200002 : Value) (u200003 : Value) (u200004 : Value), Aside0 (impl_Three_evictSmall.l0 kq a0_0 a0_1 x200002_1 x200003_1 x200004_1 = some (r1, r2, r3, r4, r5, r6, r7)) ∧ Aside0 (kq ≤ k) ∧ Aside0 (Kd.Q k68 68 w' w0.heap.size (fun k_ => ((P0_2_ k_ ∨ P0_3_ k_ ∨ P0_4_ k_) ∨ w.heap.size ≤ k_) ∧ some k_ ≠ (u200003 : Value).ownBlock) u200002 x200002_1) ∧ Aside0 (Kd.R k68 68 w' w0.heap.size (fun k_ => ((P0_2_ k_ ∨ P0_3_ k_ ∨ P0_4_ k_) ∨ w.heap.size ≤ k_) ∧ some k_ ≠ (u200002 : Value).ownBlock) u200003 x200003_1) ∧ Aside0 (Kd.R (Kd.int .i64) 3 w' w0.heap.size (fun k_ => ((P0_2_ k_ ∨ P0_3_ k_ ∨ P0_4_ k_) ∨ w.heap.size ≤ k_)) u200004 x200004_1) ∧ Aside0 (w'.heap[gb199]? = some (.cells #[.int .i64 a0_0, .int .i64 a0_1, u200002, u200003, u200004] 30 (0, 0))) ∧ Aside0 (Kept w w' (fun k_ => (P0_2_ k_ ∨ P0_3_ k_ ∨ P0_4_ k_) ∨ k_ = gb199)) ∧ Aside0 (Below w0.heap.size w0 w'))
 case atStart => exact ⟨(l0_2), (l0_3), (l0_4), (.slice Ao2 l0_2.length co2), (.slice Ao3 l0_3.length co3), (.slice Ao4 l0_4.length co4), H', ⟨Nat.le_refl _⟩, ⟨Kd.Q_of_R (ro HO0_2)⟩, ⟨ro HO0_3⟩, ⟨ro HO0_4⟩, ⟨bk BK199⟩, ⟨(kr HK)⟩, ⟨be1 HB GE199⟩⟩
 case round =>
  clear H'
  try clear p2
  obtain ⟨x200002_1, x200003_1, x200004_1, u200002, u200003, u200004, HA, HK1, HO_200002, HO_200003, HO_200004, BK199, HK, HB⟩ := hrel
  cases gk with
  | zero => exact absurd HA.out (by simp [impl_Three_evictSmall.l0])
  | succ k1 =>
   have H := HA.out
   clear HA
   simp only [impl_Three_evictSmall.l0] at H
   by_cases c6 : (x200002_1.length : Int) > 0
   ·rw [if_pos c6] at H
    have c6b0 : decide (0 < (x200002_1.length : Int)) = true := decide_eq_true c6
    have c6b1 : decide (0 < x200002_1.length) = true := decide_eq_true (by omega)
    clear c6
    by_cases c7 : 0 < (x200002_1.length : Int)
    ·rw [if_pos c7] at H
     have c7b0 : decide (0 < (x200002_1.length : Int)) = true := decide_eq_true c7
     have c7b1 : decide (0 < x200002_1.length) = true := decide_eq_true (by omega)
     clear c7
     by_cases c8 : 1 ≤ (x200002_1.length : Int)
     ·rw [if_pos c8] at H
      have c8b0 := eq_true c8
      have c8b1 : decide (1 ≤ (x200002_1.length : Int)) = true := decide_eq_true c8
      clear c8
      obtain ⟨y202, hy202⟩ : ∃ y_ : List (S68), y_ = (x200002_1.drop (1 : Int).toNat) := ⟨_, rfl⟩
      replace H : (if ((rd_T68 x200002_1 0).f2) > 1 then ((some (([(⟨(rd_T68 x200002_1 0).f0, (rd_T68 x200002_1 0).f1, 0⟩ : S68)] : List (S68)) : List (S68))).bind fun y205 => (if x200003_1.length + y205.length < 3518437208883 then (impl_Three_evictSmall.l0 k1 a0_0 a0_1 y202 (x200003_1 ++ y205) x200004_1) else (none))) else ((impl_Hash.f k1 ((rd_T68 x200002_1 0).f0)).bind fun t211 => ((slices_DeleteFunc_int_int.f x200004_1 t211).bind fun t213 => ((some (([t211] : List Int) : List Int)).bind fun y216 => (if t213.length + y216.length < 17592186044416 then ((some (t213 ++ y216 : List Int)).bind fun y219 => ((impl_Three_ghosts.f a0_0 a0_1 y202 x200003_1 y219).bind fun t222 => (if (y219.length : Int) > t222 then (if 1 ≤ (y219.length : Int) then (some ((rd_T68 x200002_1 0).f0, true, a0_0, a0_1, y202, x200003_1, (y219.drop (1 : Int).toNat))) else (none)) else (some ((rd_T68 x200002_1 0).f0, true, a0_0, a0_1, y202, x200003_1, y219))))) else (none)))))) = some (r1, r2, r3, r4, r5, r6, r7) := by first | (rw [hy202]; with_reducible exact H) | (have H2_ := (Option.bind_some _ _).symm.trans H; rw [hy202]; with_reducible exact H2_) | (have H2_ := (Option.bind_some _ _).symm.trans H; with_reducible exact H2_) | with_reducible exact H | (rw [hy202]; exact H) | exact H
      have Ny202 := Aside0.mk hy202
      clear hy202
      by_cases c9 : ((rd_T68 x200002_1 0).f2) > 1
      ·rw [if_pos c9] at H
       have c9b0 : decide (1 < ((rd_T68 x200002_1 0).f2)) = true := decide_eq_true c9
       clear c9
       obtain ⟨y205, hy205⟩ : ∃ y_ : List (S68), y_ = (([(⟨(rd_T68 x200002_1 0).f0, (rd_T68 x200002_1 0).f1, 0⟩ : S68)] : List (S68))) := ⟨_, rfl⟩
       replace H : (if x200003_1.length + y205.length < 3518437208883 then (impl_Three_evictSmall.l0 k1 a0_0 a0_1 y202 (x200003_1 ++ y205) x200004_1) else (none)) = some (r1, r2, r3, r4, r5, r6, r7) := by first | (rw [hy205]; with_reducible exact H) | (have H2_ := (Option.bind_some _ _).symm.trans H; rw [hy205]; with_reducible exact H2_) | (have H2_ := (Option.bind_some _ _).symm.trans H; with_reducible exact H2_) | with_reducible exact H | (rw [hy205]; exact H) | exact H
       have Ny205 := Aside0.mk hy205
       clear hy205
       by_cases c10 : x200003_1.length + y205.length < 3518437208883
       ·rw [if_pos c10] at H
        have LMc10 := Aside0.mk c10
        clear c10
        obtain ⟨y208, hy208⟩ : ∃ y_ : List (S68), y_ = (x200003_1 ++ y205) := ⟨_, rfl⟩
        replace H : (impl_Three_evictSmall.l0 k1 a0_0 a0_1 y202 y208 x200004_1) = some (r1, r2, r3, r4, r5, r6, r7) := by first | (rw [hy208]; with_reducible exact H) | (have H2_ := (Option.bind_some _ _).symm.trans H; rw [hy208]; with_reducible exact H2_) | (have H2_ := (Option.bind_some _ _).symm.trans H; with_reducible exact H2_) | with_reducible exact H | (rw [hy208]; exact H) | exact H
        have Ny208 := Aside0.mk hy208
        clear hy208
        have H' := Aside0.mk H
        clear H
        have hcz11_0 := bz5 BK199
        obtain ⟨Ao12, co12, eo12, _⟩ := Kd.Q_slice HO_200002.out
        subst eo12
        have p200 : 0 ≤ (0 : Int) := (by omega)
        have q200 : 0 < (x200002_1.length : Int) := od
        obtain ⟨ad200, e200, hx200_0, hx200_1, hx200_2⟩ := at_T68 (Kd.Q_reads' HO_200002.out).2.2 0 p200 q200
        cases e200
        have qi200 : (0 < x200002_1.length) = True := eq_true (by omega)
        (try rw [show ((0 : Int)).toNat = 0 from rfl] at hx200_0)
        (try rw [show 0 * 3 = 0 from rfl] at hx200_0)
        (try rw [Addr.add_zero'] at hx200_0)
        (try rw [show ((0 : Int)).toNat = 0 from rfl] at hx200_1)
        (try rw [show 0 * 3 = 0 from rfl] at hx200_1)
        (try rw [Addr.add_zero'] at hx200_1)
        (try rw [show ((0 : Int)).toNat = 0 from rfl] at hx200_2)
        (try rw [show 0 * 3 = 0 from rfl] at hx200_2)
        (try rw [Addr.add_zero'] at hx200_2)
        replace p200 := eq_true p200
        replace q200 := eq_true q200
        try go_wp2_with (first | ((with_reducible refine gate_dst (N := 4) rfl ?_); refine bx 4 #[.string (⟨#[]⟩ : ByteArray), .string (⟨#[]⟩ : ByteArray), .int .i64 0] 68 ?_; intro gb201 hg w13 hbox hb; replace HO_200002 := Aside0.mk (Kd.Q_below (Kd.Q_elderB (qo HO_200002) gb201 (Nat.le_of_eq hg.symm)) hb); replace HO_200003 := Aside0.mk (Kd.R_below (Kd.R_elderB (ro HO_200003) gb201 (Nat.le_of_eq hg.symm)) hb); replace HO_200004 := rb HO_200004 hb; have BK201 := am hbox; have GW201 := Aside0.mk ((by rw [hg]; exact (by first | exact HK.out.1 | exact (show Kept w _ (fun k_ => (P0_2_ k_ ∨ P0_3_ k_ ∨ P0_4_ k_) ∨ k_ = gb199) from (kr HK)).1) : w.heap.size ≤ gb201)); replace HK := Aside0.mk (Kept.below (w := w) (S := (fun k_ => (P0_2_ k_ ∨ P0_3_ k_ ∨ P0_4_ k_) ∨ k_ = gb199)) (kr HK) hb); have GE201 := Aside0.mk ((by rw [hg]; exact (below_size (be1 HB GE199)) : w0.heap.size ≤ gb201)); replace HB := Aside0.mk (below_step (be1 HB GE199) hb); have NB199_201 := nl hg BK199; have NB201_199 := ng hg BK199; replace BK199 := bb BK199 hb; clear hb hbox hg; have hnb14 := NB201_199.out; have hnc14 := NB199_201.out; have hcz15_0 := bz3 BK201) | ((with_reducible refine gate_store (t := 68) (p := 4) rfl ?_); refine store_event (t := 68) (p := 4) (v := ?vo_w16) (w1 := (((w13.setCell ⟨gb201, 0, none⟩ (.string ((rd_T68 x200002_1 0).f0))).setCell ⟨gb201, 1, none⟩ (.string ((rd_T68 x200002_1 0).f1))).setCell ⟨gb201, 2, none⟩ (.int .i64 ((rd_T68 x200002_1 0).f2)))) ?hg ?ho ?hn ?hr ?_; (case ho => rfl); (case hg => rfl); (case hn => rfl); (case hr => first | (go_simp; done) | (go_simp; rfl)); intro w16 hw; have n0_ : Aside0 (Kd.Q k68 68 w16 w0.heap.size (fun k_ => ((P0_2_ k_ ∨ P0_3_ k_ ∨ P0_4_ k_) ∨ w.heap.size ≤ k_) ∧ some k_ ≠ (u200003 : Value).ownBlock ∧ k_ ≠ gb201) (.slice (some ad200) x200002_1.length co12) x200002_1) := ⟨(by rw [hw]; exact (qg gb201 HO_200002))⟩; have n1_ : Aside0 (Kd.R k68 68 w16 w0.heap.size (fun k_ => ((P0_2_ k_ ∨ P0_3_ k_ ∨ P0_4_ k_) ∨ w.heap.size ≤ k_) ∧ some k_ ≠ (.slice (some ad200) x200002_1.length co12 : Value).ownBlock ∧ k_ ≠ gb201) u200003 x200003_1) := ⟨(by rw [hw]; exact (rg gb201 HO_200003))⟩; have n2_ : Aside0 (Kd.R (Kd.int .i64) 3 w16 w0.heap.size (fun k_ => ((P0_2_ k_ ∨ P0_3_ k_ ∨ P0_4_ k_) ∨ w.heap.size ≤ k_)) u200004 x200004_1) := ⟨(by rw [hw]; exact (rf HO_200004 BK201))⟩; have n3_ : Aside0 (w16.heap[gb199]? = some (.cells #[.int .i64 a0_0, .int .i64 a0_1, .slice (some ad200) x200002_1.length co12, u200003, u200004] 30 (0, 0))) := ⟨(by rw [hw]; exact (bf1 BK199 NB199_201))⟩; have n4_ : Aside0 (w16.heap[gb201]? = some (.cells #[.string ((rd_T68 x200002_1 0).f0), .string ((rd_T68 x200002_1 0).f1), .int .i64 ((rd_T68 x200002_1 0).f2)] 68 (0, 0))) := ⟨(by rw [hw]; exact (bp BK201))⟩; have n5_ : Aside0 (Kept w w16 (fun k_ => (P0_2_ k_ ∨ P0_3_ k_ ∨ P0_4_ k_) ∨ k_ = gb199)) := ⟨(by rw [hw]; exact (kr1 HK GW201))⟩; have n6_ : Aside0 (Below w0.heap.size w0 w16) := ⟨(by rw [hw]; exact (be2 HB GE199 GE201))⟩; clear hw; clear HO_200002; clear HO_200003; clear HO_200004; clear BK199; clear BK201; clear HK; clear HB; have HO_200002 := n0_; have HO_200003 := n1_; have HO_200004 := n2_; have BK199 := n3_; have BK201 := n4_; have HK := n5_; have HB := n6_; clear n0_ n1_ n2_ n3_ n4_ n5_ n6_; have hcz17_0 := bz5 BK199; have q18 : (1 : Int) ≤ ((x200002_1.length : Int) : Int) := od; obtain ⟨i018, hi018, _, hsz18, _⟩ := info_parts info68; have hcut18 := cut_from (P := Try.prog) 28 68 .i64 Try.underlying28 hi018 3 hsz18 (some ad200) x200002_1.length co12 1 (by omega) q18; have hr18 := Kd.Q_drop (k := (1 : Int).toNat) HO_200002.out (by omega); obtain ⟨A18, hA18⟩ : ∃ A1, A1 = (if co12 = (1 : Int).toNat then (some ad200) else ((some ad200) : Option Addr).map (·.add ((1 : Int).toNat * 3))) := ⟨_, rfl⟩; obtain ⟨c18, hc18⟩ : ∃ c1, c1 = co12 - (1 : Int).toNat := ⟨_, rfl⟩; have hy18 : y202.length = x200002_1.length - (1 : Int).toNat := (by rw [Ny202.out, List.length_drop]); rw [← Ny202.out] at hr18; rw [← hy18, ← hA18, ← hc18] at hcut18; replace hr18 : Kd.Q k68 68 w16 w0.heap.size (fun k_ => ((P0_2_ k_ ∨ P0_3_ k_ ∨ P0_4_ k_) ∨ w.heap.size ≤ k_) ∧ some k_ ≠ (u200003 : Value).ownBlock ∧ k_ ≠ gb201) (.slice A18 y202.length c18) y202 := (by rw [hA18, hc18, hy18]; exact hr18); have HE18 : Aside0 ((Value.slice A18 y202.length c18).ownBlock = (.slice (some ad200) x200002_1.length co12 : Value).ownBlock) := ⟨by rw [hA18]; split <;> (cases ((some ad200) : Option Addr) <;> rfl)⟩; clear hy18 hi018 hsz18 HO_200002 hA18 hc18; have HO204 := Aside0.mk hr18; clear hr18; replace q18 := eq_true q18; have n_ := Aside0.mk (Kd.R_mono (ok' := fun k_ => ((((P0_2_ k_ ∨ P0_3_ k_ ∨ P0_4_ k_) ∨ w.heap.size ≤ k_)) ∧ (nb k_ A18 y202.length c18 ∧ k_ ≠ gb201))) HO_200003.out (fun k_ hk => ⟨hk.1, ⟨(fun e_ => hk.2.1 (e_.trans HE18.out)), hk.2.2⟩⟩)); clear HO_200003; have HO_200003 := n_; clear n_; have hcz19_0 := bz3 BK201))
        have n0_ : Aside0 (Kd.Q k68 68 ((w16.setCell ⟨gb199, 2, none⟩ (.slice A18 y202.length c18)).setCell ⟨gb201, 2, none⟩ (.int .i64 0)) w0.heap.size (fun k_ => ((P0_2_ k_ ∨ P0_3_ k_ ∨ P0_4_ k_) ∨ w.heap.size ≤ k_) ∧ some k_ ≠ (u200003 : Value).ownBlock ∧ k_ ≠ gb201) (.slice A18 y202.length c18) y202) := ⟨by (with_reducible repeat (first | apply Kd.Q_alloc | apply Kd.Q_drewN | apply Kd.Q_drew)); exact Kd.Q_mono (Kd.Q_far (p := ⟨gb201, 2, none⟩) (Kd.Q_far (p := ⟨gb199, 2, none⟩) (Kd.Q_mono (Kd.Q_types HO204.out BK199.out (by decide)) (fun k_ hk => (⟨hk, hk.1.2.2⟩ : _ ∧ k_ ≠ gb201))) (fun _ hk => hk.1.2) (.slice A18 y202.length c18)) (fun _ hk => hk.2) (.int .i64 0)) (fun _ hk => ⟨hk.1.1.1, ⟨hk.1.1.2.1, hk.1.1.2.2⟩⟩)⟩
        have n1_ : Aside0 (Kd.R k68 68 ((w16.setCell ⟨gb199, 2, none⟩ (.slice A18 y202.length c18)).setCell ⟨gb201, 2, none⟩ (.int .i64 0)) w0.heap.size (fun k_ => ((P0_2_ k_ ∨ P0_3_ k_ ∨ P0_4_ k_) ∨ w.heap.size ≤ k_) ∧ nb k_ A18 y202.length c18 ∧ k_ ≠ gb201) u200003 x200003_1) := ⟨by (with_reducible repeat (first | apply Kd.R_alloc | apply Kd.R_drewN | apply Kd.R_drew)); exact Kd.R_mono (Kd.R_far (p := ⟨gb201, 2, none⟩) (Kd.R_far (p := ⟨gb199, 2, none⟩) (Kd.R_mono (Kd.R_types HO_200003.out BK199.out (by decide)) (fun k_ hk => (⟨hk, hk.1.2.2⟩ : _ ∧ k_ ≠ gb201))) (fun _ hk => hk.1.2) (.slice A18 y202.length c18)) (fun _ hk => hk.2) (.int .i64 0)) (fun _ hk => ⟨hk.1.1.1, ⟨hk.1.1.2.1, hk.1.1.2.2⟩⟩)⟩
        have n2_ : Aside0 (Kd.R (Kd.int .i64) 3 ((w16.setCell ⟨gb199, 2, none⟩ (.slice A18 y202.length c18)).setCell ⟨gb201, 2, none⟩ (.int .i64 0)) w0.heap.size (fun k_ => ((P0_2_ k_ ∨ P0_3_ k_ ∨ P0_4_ k_) ∨ w.heap.size ≤ k_)) u200004 x200004_1) := ⟨by (with_reducible repeat (first | apply Kd.R_alloc | apply Kd.R_drewN | apply Kd.R_drew)); exact Kd.R_mono (Kd.R_far (p := ⟨gb201, 2, none⟩) (Kd.R_far (p := ⟨gb199, 2, none⟩) (Kd.R_types (Kd.R_types HO_200004.out BK199.out (by decide)) BK201.out (by decide)) (fun _ hk => hk.1.2) (.slice A18 y202.length c18)) (fun _ hk => hk.2) (.int .i64 0)) (fun _ hk => hk.1.1)⟩
        have n3_ : Aside0 (((w16.setCell ⟨gb199, 2, none⟩ (.slice A18 y202.length c18)).setCell ⟨gb201, 2, none⟩ (.int .i64 0)).heap[gb199]? = some (.cells #[.int .i64 a0_0, .int .i64 a0_1, .slice A18 y202.length c18, u200003, u200004] 30 (0, 0))) := ⟨(bp1 BK199 NB199_201)⟩
        have n4_ : Aside0 (((w16.setCell ⟨gb199, 2, none⟩ (.slice A18 y202.length c18)).setCell ⟨gb201, 2, none⟩ (.int .i64 0)).heap[gb201]? = some (.cells #[.string ((rd_T68 x200002_1 0).f0), .string ((rd_T68 x200002_1 0).f1), .int .i64 0] 68 (0, 0))) := ⟨(bp1 BK201 NB201_199)⟩
        have n5_ : Aside0 (Kept w ((w16.setCell ⟨gb199, 2, none⟩ (.slice A18 y202.length c18)).setCell ⟨gb201, 2, none⟩ (.int .i64 0)) (fun k_ => (P0_2_ k_ ∨ P0_3_ k_ ∨ P0_4_ k_) ∨ k_ = gb199)) := ⟨(kr1 HK GW201)⟩
        have n6_ : Aside0 (Below w0.heap.size w0 ((w16.setCell ⟨gb199, 2, none⟩ (.slice A18 y202.length c18)).setCell ⟨gb201, 2, none⟩ (.int .i64 0))) := ⟨be2 HB GE199 GE201⟩
        (try clear HO204)
        (try clear HO_200003)
        (try clear HO_200004)
        (try clear BK199)
        (try clear BK201)
        (try clear HK)
        (try clear HB)
        generalize ((w16.setCell ⟨gb199, 2, none⟩ (.slice A18 y202.length c18)).setCell ⟨gb201, 2, none⟩ (.int .i64 0)) = w20 at n0_ n1_ n2_ n3_ n4_ n5_ n6_ ⊢
        have HO204 := n0_
        have HO_200003 := n1_
        have HO_200004 := n2_
        have BK199 := n3_
        have BK201 := n4_
        have HK := n5_
        have HB := n6_
        clear n0_ n1_ n2_ n3_ n4_ n5_ n6_
        have n0_ := Aside0.mk (Kd.Q_drew HO204.out)
        have n1_ := Aside0.mk (Kd.R_drew HO_200003.out)
        have n2_ := Aside0.mk (Kd.R_drew HO_200004.out)
        have n3_ := Aside0.mk (blk_drew BK199.out)
        have n4_ := Aside0.mk (blk_drew BK201.out)
        have n5_ := Aside0.mk (Kept.drew HK.out)
        have n6_ := Aside0.mk (below_drew1 HB.out)
        clear HO204
        clear HO_200003
        clear HO_200004
        clear BK199
        clear BK201
        clear HK
        clear HB
        have HO204 := n0_
        have HO_200003 := n1_
        have HO_200004 := n2_
        have BK199 := n3_
        have BK201 := n4_
        have HK := n5_
        have HB := n6_
        clear n0_ n1_ n2_ n3_ n4_ n5_ n6_
        refine start_ (n := 11) (S := fun w' => w'.cell? ⟨gb199, 0, none⟩ = some (.int .i64 a0_0) ∧ w'.cell? ⟨gb199, 1, none⟩ = some (.int .i64 a0_1) ∧ w'.cell? ⟨gb199, 2, none⟩ = some (.slice A18 y202.length c18) ∧ w'.cell? ⟨gb199, 3, none⟩ = some (u200003) ∧ w'.cell? ⟨gb199, 4, none⟩ = some (u200004) ∧ w'.cell? ⟨gb201, 0, none⟩ = some (.string ((rd_T68 x200002_1 0).f0)) ∧ w'.cell? ⟨gb201, 1, none⟩ = some (.string ((rd_T68 x200002_1 0).f1)) ∧ w'.cell? ⟨gb201, 2, none⟩ = some (.int .i64 0)) (ds := [10]) (bv 11 0x0) (by kernel_rfl) rfl rfl ⟨bc0 BK199, bc1 BK199, bc2 BK199, bc3 BK199, bc4 BK199, bc0 BK201, bc1 BK201, bc2 BK201⟩ (fun hHeld => ?_); refine with_tabW impl_Three_evictSmall.tab6 impl_Three_evictSmall.bits6 (fun HT_ HW_ => ?_)
        generalize w20.drew = w21 at HO204 HO_200003 HO_200004 BK199 BK201 HK HB hHeld ⊢
        refine py HT_ 0 30 (bv 11 0x1) ?_
        refine py HT_ 1 31 (bv 11 0x3) ?_
        refine py HT_ 2 32 (bv 11 0x7) ?_
        refine py HT_ 3 33 (bv 11 0xf) ?_
        refine tk HT_ HW_ hHeld 4 34 (bv 11 0x1f) ?_
        refine tk HT_ HW_ hHeld 5 35 (bv 11 0x3f) ?_
        refine one_ (i := 6) (N := some 36) (bv 11 0x7f) rfl rfl (one_of HT_.out (by kernel_rfl)) (by decide) (fun K hK => ?_)
        refine Kd.R_lit_step k68 _ 68 ?hg (N := 36) ?hd (xs := ([(⟨(rd_T68 x200002_1 0).f0, (rd_T68 x200002_1 0).f1, 0⟩ : S68)] : List (S68))) (inner := [.string ((rd_T68 x200002_1 0).f0), .string ((rd_T68 x200002_1 0).f1), .int .i64 0]) (ok := fun _ => True) (okp := fun _ => True) ?hr ?hp (fun _ hk => hk) trivial (Below.refl _ _) (Nat.le_refl _) (by simp) ?_; (case hd => rfl); (case hg => rfl); (case hr => first | (go_simp; done) | (go_simp; rfl)); (case hp => exact (Reps.c3 (show Kd.M k68 _ _ _ (⟨(rd_T68 x200002_1 0).f0, (rd_T68 x200002_1 0).f1, 0⟩ : S68) [.string ((rd_T68 x200002_1 0).f0), .string ((rd_T68 x200002_1 0).f1), .int .i64 0] from (k68_mkM _ _ _ (⟨(rd_T68 x200002_1 0).f0, (rd_T68 x200002_1 0).f1, 0⟩ : S68) )) (Reps.none _ _)))
        intro v206 w22 ho23 hb hg_ hnew_
        clear hg_ hnew_
        (first | rw [← Ny205.out] at ho23 | (simp only [Int.reduceToNat] at ho23; rw [← Ny205.out] at ho23))
        have n0_ := Aside0.mk (Kd.Q_elder' (qo HO204) (Kd.R_base ho23) hb)
        have n1_ := Aside0.mk (Kd.R_elder' (ro HO_200003) (Kd.R_base ho23) hb)
        have n2_ := rb HO_200004 hb
        have n3_ := Aside0.mk (Kd.R_lower (Kd.R_newB (nw (Kd.R_new' (Kd.R_newM (M := fun k_ => ((P0_2_ k_ ∨ P0_3_ k_ ∨ P0_4_ k_) ∨ w.heap.size ≤ k_)) ho23 (by first | exact HK.out.1 | exact (show Kept w _ (fun k_ => (P0_2_ k_ ∨ P0_3_ k_ ∨ P0_4_ k_) ∨ k_ = gb199) from (kr1 HK GW201)).1) (fun k_ h_ => .inr h_)) (Kd.Q_lt (qo HO204))) HO_200003) (g := gb201) (o := .cells #[.string ((rd_T68 x200002_1 0).f0), .string ((rd_T68 x200002_1 0).f1), .int .i64 0] 68 (0, 0)) (bk BK201)) (below_size (be2 HB GE199 GE201)))
        have n4_ := bb BK199 hb
        have n5_ := bb BK201 hb
        have n6_ := Aside0.mk (Kept.below (w := w) (S := (fun k_ => (P0_2_ k_ ∨ P0_3_ k_ ∨ P0_4_ k_) ∨ k_ = gb199)) (kr1 HK GW201) hb)
        have n7_ := Aside0.mk (below_step (be2 HB GE199 GE201) hb)
        clear HO204
        clear HO_200003
        clear HO_200004
        clear BK199
        clear BK201
        clear HK
        clear HB
        have HO204 := n0_
        have HO_200003 := n1_
        have HO_200004 := n2_
        have HO207 := n3_
        have BK199 := n4_
        have BK201 := n5_
        have HK := n6_
        have HB := n7_
        clear n0_ n1_ n2_ n3_ n4_ n5_ n6_ n7_
        clear hb ho23
        obtain ⟨Ao25, co25, eo25⟩ := Kd.R_slice HO207.out
        (first | subst eo25 | (injection eo25 with f1_ f2_ f3_; have f4_ := f1_.symm; have f5_ := f3_.symm; clear f1_ f2_ f3_; subst f4_; subst f5_))
        refine hK.out _ _ ⟨bc0 BK199, bc1 BK199, bc2 BK199, bc3 BK199, bc4 BK199, bc0 BK201, bc1 BK201, bc2 BK201⟩ (fun hHeld => ?_)
        clear hK K
        refine norm_ (a' := ?_) ?_ ?_
        rotate_left
        ·show Act.put _ (some 36) _ = _
         simp only [aP]
         rfl
        refine one_ (i := 7) (N := some 37) (bv 11 0xff) rfl rfl (one_of HT_.out (by kernel_rfl)) (by decide) (fun K hK => ?_)
        refine Kd.R_append_rows_step k68 (w0 := w0) w0.heap.size (by rfl) (.tmp 34) (.tmp 36) 28 68 (.agg #[(.string ⟨#[]⟩), (.string ⟨#[]⟩), (.int .i64 0)]) 40 rfl Try.underlying28 info68 rfl (by decide) (by omega) u200003 x200003_1 y205 _ _ _ (fun k_ => ((P0_2_ k_ ∨ P0_3_ k_ ∨ P0_4_ k_) ∨ w.heap.size ≤ k_) ∧ nb k_ A18 y202.length c18 ∧ nb k_ Ao25 y205.length co25 ∧ k_ ≠ gb201) (fun _ => False) rfl rfl ?aO ?aR (fun _ _ h => h) (fun _ h => h.elim) ?aF ?aB ?aS ?aL ?_
        (case aR => repeat (first | exact (Kd.R_reads' HO207.out).2.2 | (with_reducible refine Kd.C_alloc ?_ _) | (with_reducible refine Kd.C_drewN ?_ _) | (with_reducible refine Kd.C_drew ?_)))
        (case aB => exact (be2 HB GE199 GE201))
        (case aF => exact (fun k_ hk => ⟨(.inr (Nat.le_trans (by first | exact HK.out.1 | exact (show Kept w _ (fun k_ => (P0_2_ k_ ∨ P0_3_ k_ ∨ P0_4_ k_) ∨ k_ = gb199) from (kr1 HK GW201)).1) hk)), Kd.fresh' (Kd.Q_lt (qo HO204)) k_ hk, Kd.fresh' (Kd.R_lt (ro HO207)) k_ hk, Kd.freshB (g := gb201) (o := .cells #[.string ((rd_T68 x200002_1 0).f0), .string ((rd_T68 x200002_1 0).f1), .int .i64 0] 68 (0, 0)) (bk BK201) k_ hk⟩))
        (case aO => exact (by (with_reducible repeat (first | apply Kd.R_alloc | apply Kd.R_drewN | apply Kd.R_drew)); exact rm HO_200003))
        (case aS => exact (below_size (be2 HB GE199 GE201)))
        (case aL => have := LMc10.out; omega)
        intro v209 w24 ho hb hg hat
        rw [← Ny208.out] at ho
        have n0_ := Aside0.mk (Kd.Q_after (ok := (fun k_ => ((P0_2_ k_ ∨ P0_3_ k_ ∨ P0_4_ k_) ∨ w.heap.size ≤ k_) ∧ nb k_ Ao25 y205.length co25 ∧ k_ ≠ gb201)) (by (with_reducible repeat (first | apply Kd.Q_alloc | apply Kd.Q_drewN | apply Kd.Q_drew)); exact Kd.Q_mono HO204.out (fun _ hk => ⟨⟨hk.1.1, ⟨hk.2, hk.1.2.2⟩⟩, hk.1.2.1⟩)) hg hat)
        have n1_ := Aside0.mk (Kd.R_over' (ro HO_200004) (Kd.R_typed (ro HO_200003)) (by decide) hg)
        have n2_ := Aside0.mk (blk_grown (g := gb199) (o := .cells #[.int .i64 a0_0, .int .i64 a0_1, .slice A18 y202.length c18, u200003, u200004] 30 (0, 0)) (bk BK199) hg (Kd.R_ne HO_200003.out BK199.out (by decide)))
        have n3_ := Aside0.mk (blk_grown (g := gb201) (o := .cells #[.string ((rd_T68 x200002_1 0).f0), .string ((rd_T68 x200002_1 0).f1), .int .i64 0] 68 (0, 0)) (bk BK201) hg (Kd.R_away HO_200003.out (fun _ hk => hk.1.2.2)))
        have n4_ := Aside0.mk (Kd.R_after (ok := (fun k_ => ((P0_2_ k_ ∨ P0_3_ k_ ∨ P0_4_ k_) ∨ w.heap.size ≤ k_) ∧ nb k_ A18 y202.length c18 ∧ k_ ≠ gb201)) (by (with_reducible repeat (first | apply Kd.R_alloc | apply Kd.R_drewN | apply Kd.R_drew)); exact rm HO207) hg hat)
        have n5_ := Aside0.mk (hb)
        have n6_ := Aside0.mk (Kept.of_grown (S := (fun k_ => (P0_2_ k_ ∨ P0_3_ k_ ∨ P0_4_ k_) ∨ k_ = gb199)) hg (kr1 HK GW201) (fun k_ e_ => Or.imp_left Or.inl ((HO_200003.out.1 k_ e_).1.1)))
        have n7_ := Aside0.mk (ho)
        clear HO204
        clear HO_200004
        clear BK199
        clear BK201
        clear HO207
        clear HB
        clear HK
        clear HO_200003
        have HO204 := n0_
        have HO_200004 := n1_
        have BK199 := n2_
        have BK201 := n3_
        have HO207 := n4_
        have HB := n5_
        have HK := n6_
        have HO210 := n7_
        clear n0_ n1_ n2_ n3_ n4_ n5_ n6_ n7_
        clear ho hb hg hat
        obtain ⟨Ao26, co26, eo26⟩ := Kd.R_slice HO210.out
        (first | subst eo26 | (injection eo26 with f1_ f2_ f3_; have f4_ := f1_.symm; have f5_ := f3_.symm; clear f1_ f2_ f3_; subst f4_; subst f5_))
        refine hK.out _ _ ⟨bc0 BK199, bc1 BK199, bc2 BK199, bc3 BK199, bc4 BK199, bc0 BK201, bc1 BK201, bc2 BK201⟩ (fun hHeld => ?_)
        clear hK K
        refine norm_ (a' := ?_) ?_ ?_
        rotate_left
        ·show Act.put _ (some 37) _ = _
         simp only [aP]
         rfl
        refine py HT_ 8 38 (bv 11 0x1ff) ?_
        refine py HT_ 9 39 (bv 11 0x3ff) ?_
        refine last_ (i := 10) (N := none) (bv 11 0x7ff) rfl rfl (one_of HT_.out (by kernel_rfl)) (by decide) (fun K hK => ?_)
        have hs27 : w24.cell? ⟨gb199, 3, none⟩ = some (u200003) := bc3 BK199
        have hfs27 := blk_frozen BK199.out 3
        have hns27_1 := NB201_199.out
        have hms27_1 := NB199_201.out
        refine skip_ (w1 := ?_) (by rfl) rfl ?_ ?_
        rotate_left
        ·go_simp
         rfl
        refine hK.out _ _ ?_
        clear hK K
        refine done_ (done_of HT_.out (by kernel_rfl)) ?_
        try go_wp2
        go_roundg k1
        case measure => have := HK1.out; omega
        case rel => exact ⟨(y202), (y208), (x200004_1), (.slice A18 y202.length c18), (.slice Ao26 y208.length co26), (u200004), H', ⟨by have := HK1.out; omega⟩, ⟨(qfn HO204 BK199)⟩, ⟨(rfn HO210 BK199)⟩, ⟨(rf HO_200004 BK199)⟩, ⟨(bp BK199)⟩, ⟨(kr1 HK GW201)⟩, ⟨be2 HB GE199 GE201⟩⟩
       rw [if_neg c10] at H
       exact absurd H (by simp)
      rw [if_neg c9] at H
      have c9b0 : decide (1 < ((rd_T68 x200002_1 0).f2)) = false := decide_eq_false c9
      clear c9
      replace H := Option.bind_eq_some_iff.mp H
      obtain ⟨t211, A280, H⟩ := H
      replace H : ((slices_DeleteFunc_int_int.f x200004_1 t211).bind fun t213 => ((some (([t211] : List Int) : List Int)).bind fun y216 => (if t213.length + y216.length < 17592186044416 then ((some (t213 ++ y216 : List Int)).bind fun y219 => ((impl_Three_ghosts.f a0_0 a0_1 y202 x200003_1 y219).bind fun t222 => (if (y219.length : Int) > t222 then (if 1 ≤ (y219.length : Int) then (some ((rd_T68 x200002_1 0).f0, true, a0_0, a0_1, y202, x200003_1, (y219.drop (1 : Int).toNat))) else (none)) else (some ((rd_T68 x200002_1 0).f0, true, a0_0, a0_1, y202, x200003_1, y219))))) else (none)))) = some (r1, r2, r3, r4, r5, r6, r7) := H
      have A28 := Aside0.mk A280
      clear A280
      replace H := Option.bind_eq_some_iff.mp H
      obtain ⟨t213, A290, H⟩ := H
      replace H : ((some (([t211] : List Int) : List Int)).bind fun y216 => (if t213.length + y216.length < 17592186044416 then ((some (t213 ++ y216 : List Int)).bind fun y219 => ((impl_Three_ghosts.f a0_0 a0_1 y202 x200003_1 y219).bind fun t222 => (if (y219.length : Int) > t222 then (if 1 ≤ (y219.length : Int) then (some ((rd_T68 x200002_1 0).f0, true, a0_0, a0_1, y202, x200003_1, (y219.drop (1 : Int).toNat))) else (none)) else (some ((rd_T68 x200002_1 0).f0, true, a0_0, a0_1, y202, x200003_1, y219))))) else (none))) = some (r1, r2, r3, r4, r5, r6, r7) := H
      have A29 := Aside0.mk A290
      clear A290
      obtain ⟨y216, hy216⟩ : ∃ y_ : List Int, y_ = (([t211] : List Int)) := ⟨_, rfl⟩
      replace H : (if t213.length + y216.length < 17592186044416 then ((some (t213 ++ y216 : List Int)).bind fun y219 => ((impl_Three_ghosts.f a0_0 a0_1 y202 x200003_1 y219).bind fun t222 => (if (y219.length : Int) > t222 then (if 1 ≤ (y219.length : Int) then (some ((rd_T68 x200002_1 0).f0, true, a0_0, a0_1, y202, x200003_1, (y219.drop (1 : Int).toNat))) else (none)) else (some ((rd_T68 x200002_1 0).f0, true, a0_0, a0_1, y202, x200003_1, y219))))) else (none)) = some (r1, r2, r3, r4, r5, r6, r7) := by first | (rw [hy216]; with_reducible exact H) | (have H2_ := (Option.bind_some _ _).symm.trans H; rw [hy216]; with_reducible exact H2_) | (have H2_ := (Option.bind_some _ _).symm.trans H; with_reducible exact H2_) | with_reducible exact H | (rw [hy216]; exact H) | exact H
      have Ny216 := Aside0.mk hy216
      clear hy216
      by_cases c30 : t213.length + y216.length < 17592186044416
      ·rw [if_pos c30] at H
       have LMc30 := Aside0.mk c30
       clear c30
       obtain ⟨y219, hy219⟩ : ∃ y_ : List Int, y_ = (t213 ++ y216) := ⟨_, rfl⟩
       replace H : ((impl_Three_ghosts.f a0_0 a0_1 y202 x200003_1 y219).bind fun t222 => (if (y219.length : Int) > t222 then (if 1 ≤ (y219.length : Int) then (some ((rd_T68 x200002_1 0).f0, true, a0_0, a0_1, y202, x200003_1, (y219.drop (1 : Int).toNat))) else (none)) else (some ((rd_T68 x200002_1 0).f0, true, a0_0, a0_1, y202, x200003_1, y219)))) = some (r1, r2, r3, r4, r5, r6, r7) := by first | (rw [hy219]; with_reducible exact H) | (have H2_ := (Option.bind_some _ _).symm.trans H; rw [hy219]; with_reducible exact H2_) | (have H2_ := (Option.bind_some _ _).symm.trans H; with_reducible exact H2_) | with_reducible exact H | (rw [hy219]; exact H) | exact H
       have Ny219 := Aside0.mk hy219
       clear hy219
       replace H := Option.bind_eq_some_iff.mp H
       obtain ⟨t222, A310, H⟩ := H
       replace H : (if (y219.length : Int) > t222 then (if 1 ≤ (y219.length : Int) then (some ((rd_T68 x200002_1 0).f0, true, a0_0, a0_1, y202, x200003_1, (y219.drop (1 : Int).toNat))) else (none)) else (some ((rd_T68 x200002_1 0).f0, true, a0_0, a0_1, y202, x200003_1, y219))) = some (r1, r2, r3, r4, r5, r6, r7) := H
       have A31 := Aside0.mk A310
       clear A310
       by_cases c32 : (y219.length : Int) > t222
       ·rw [if_pos c32] at H
        have c32b0 : decide (t222 < (y219.length : Int)) = true := decide_eq_true c32
        clear c32
        by_cases c33 : 1 ≤ (y219.length : Int)
        ·rw [if_pos c33] at H
         have c33b0 := eq_true c33
         have c33b1 : decide (1 ≤ (y219.length : Int)) = true := decide_eq_true c33
         clear c33
         obtain ⟨y223, hy223⟩ : ∃ y_ : List Int, y_ = (y219.drop (1 : Int).toNat) := ⟨_, rfl⟩
         replace H : (some ((rd_T68 x200002_1 0).f0, true, a0_0, a0_1, y202, x200003_1, y223)) = some (r1, r2, r3, r4, r5, r6, r7) := by first | (rw [hy223]; with_reducible exact H) | (have H2_ := (Option.bind_some _ _).symm.trans H; rw [hy223]; with_reducible exact H2_) | (have H2_ := (Option.bind_some _ _).symm.trans H; with_reducible exact H2_) | with_reducible exact H | (rw [hy223]; exact H) | exact H
         have Ny223 := Aside0.mk hy223
         clear hy223
         simp only [Option.some.injEq, Prod.mk.injEq] at H
         obtain ⟨rfl, rfl, rfl, rfl, rfl, rfl, rfl⟩ := H
         have hcz34_0 := bz5 BK199
         obtain ⟨Ao35, co35, eo35, _⟩ := Kd.Q_slice HO_200002.out
         subst eo35
         have p200 : 0 ≤ (0 : Int) := (by omega)
         have q200 : 0 < (x200002_1.length : Int) := od
         obtain ⟨ad200, e200, hx200_0, hx200_1, hx200_2⟩ := at_T68 (Kd.Q_reads' HO_200002.out).2.2 0 p200 q200
         cases e200
         have qi200 : (0 < x200002_1.length) = True := eq_true (by omega)
         (try rw [show ((0 : Int)).toNat = 0 from rfl] at hx200_0)
         (try rw [show 0 * 3 = 0 from rfl] at hx200_0)
         (try rw [Addr.add_zero'] at hx200_0)
         (try rw [show ((0 : Int)).toNat = 0 from rfl] at hx200_1)
         (try rw [show 0 * 3 = 0 from rfl] at hx200_1)
         (try rw [Addr.add_zero'] at hx200_1)
         (try rw [show ((0 : Int)).toNat = 0 from rfl] at hx200_2)
         (try rw [show 0 * 3 = 0 from rfl] at hx200_2)
         (try rw [Addr.add_zero'] at hx200_2)
         replace p200 := eq_true p200
         replace q200 := eq_true q200
         try go_wp2_with (first | ((with_reducible refine gate_dst (N := 4) rfl ?_); refine bx 4 #[.string (⟨#[]⟩ : ByteArray), .string (⟨#[]⟩ : ByteArray), .int .i64 0] 68 ?_; intro gb201 hg w36 hbox hb; replace HO_200002 := Aside0.mk (Kd.Q_below (Kd.Q_elderB (qo HO_200002) gb201 (Nat.le_of_eq hg.symm)) hb); replace HO_200003 := Aside0.mk (Kd.R_below (Kd.R_elderB (ro HO_200003) gb201 (Nat.le_of_eq hg.symm)) hb); replace HO_200004 := rb HO_200004 hb; have BK201 := am hbox; have GW201 := Aside0.mk ((by rw [hg]; exact (by first | exact HK.out.1 | exact (show Kept w _ (fun k_ => (P0_2_ k_ ∨ P0_3_ k_ ∨ P0_4_ k_) ∨ k_ = gb199) from (kr HK)).1) : w.heap.size ≤ gb201)); replace HK := Aside0.mk (Kept.below (w := w) (S := (fun k_ => (P0_2_ k_ ∨ P0_3_ k_ ∨ P0_4_ k_) ∨ k_ = gb199)) (kr HK) hb); have GE201 := Aside0.mk ((by rw [hg]; exact (below_size (be1 HB GE199)) : w0.heap.size ≤ gb201)); replace HB := Aside0.mk (below_step (be1 HB GE199) hb); have NB199_201 := nl hg BK199; have NB201_199 := ng hg BK199; replace BK199 := bb BK199 hb; clear hb hbox hg; have hnb37 := NB201_199.out; have hnc37 := NB199_201.out; have hcz38_0 := bz3 BK201) | ((with_reducible refine gate_store (t := 68) (p := 4) rfl ?_); refine store_event (t := 68) (p := 4) (v := ?vo_w39) (w1 := (((w36.setCell ⟨gb201, 0, none⟩ (.string ((rd_T68 x200002_1 0).f0))).setCell ⟨gb201, 1, none⟩ (.string ((rd_T68 x200002_1 0).f1))).setCell ⟨gb201, 2, none⟩ (.int .i64 ((rd_T68 x200002_1 0).f2)))) ?hg ?ho ?hn ?hr ?_; (case ho => rfl); (case hg => rfl); (case hn => rfl); (case hr => first | (go_simp; done) | (go_simp; rfl)); intro w39 hw; have n0_ : Aside0 (Kd.Q k68 68 w39 w0.heap.size (fun k_ => ((P0_2_ k_ ∨ P0_3_ k_ ∨ P0_4_ k_) ∨ w.heap.size ≤ k_) ∧ some k_ ≠ (u200003 : Value).ownBlock ∧ k_ ≠ gb201) (.slice (some ad200) x200002_1.length co35) x200002_1) := ⟨(by rw [hw]; exact (qg gb201 HO_200002))⟩; have n1_ : Aside0 (Kd.R k68 68 w39 w0.heap.size (fun k_ => ((P0_2_ k_ ∨ P0_3_ k_ ∨ P0_4_ k_) ∨ w.heap.size ≤ k_) ∧ some k_ ≠ (.slice (some ad200) x200002_1.length co35 : Value).ownBlock ∧ k_ ≠ gb201) u200003 x200003_1) := ⟨(by rw [hw]; exact (rg gb201 HO_200003))⟩; have n2_ : Aside0 (Kd.R (Kd.int .i64) 3 w39 w0.heap.size (fun k_ => ((P0_2_ k_ ∨ P0_3_ k_ ∨ P0_4_ k_) ∨ w.heap.size ≤ k_)) u200004 x200004_1) := ⟨(by rw [hw]; exact (rf HO_200004 BK201))⟩; have n3_ : Aside0 (w39.heap[gb199]? = some (.cells #[.int .i64 a0_0, .int .i64 a0_1, .slice (some ad200) x200002_1.length co35, u200003, u200004] 30 (0, 0))) := ⟨(by rw [hw]; exact (bf1 BK199 NB199_201))⟩; have n4_ : Aside0 (w39.heap[gb201]? = some (.cells #[.string ((rd_T68 x200002_1 0).f0), .string ((rd_T68 x200002_1 0).f1), .int .i64 ((rd_T68 x200002_1 0).f2)] 68 (0, 0))) := ⟨(by rw [hw]; exact (bp BK201))⟩; have n5_ : Aside0 (Kept w w39 (fun k_ => (P0_2_ k_ ∨ P0_3_ k_ ∨ P0_4_ k_) ∨ k_ = gb199)) := ⟨(by rw [hw]; exact (kr1 HK GW201))⟩; have n6_ : Aside0 (Below w0.heap.size w0 w39) := ⟨(by rw [hw]; exact (be2 HB GE199 GE201))⟩; clear hw; clear HO_200002; clear HO_200003; clear HO_200004; clear BK199; clear BK201; clear HK; clear HB; have HO_200002 := n0_; have HO_200003 := n1_; have HO_200004 := n2_; have BK199 := n3_; have BK201 := n4_; have HK := n5_; have HB := n6_; clear n0_ n1_ n2_ n3_ n4_ n5_ n6_; have hcz40_0 := bz5 BK199; have q41 : (1 : Int) ≤ ((x200002_1.length : Int) : Int) := od; obtain ⟨i041, hi041, _, hsz41, _⟩ := info_parts info68; have hcut41 := cut_from (P := Try.prog) 28 68 .i64 Try.underlying28 hi041 3 hsz41 (some ad200) x200002_1.length co35 1 (by omega) q41; have hr41 := Kd.Q_drop (k := (1 : Int).toNat) HO_200002.out (by omega); obtain ⟨A41, hA41⟩ : ∃ A1, A1 = (if co35 = (1 : Int).toNat then (some ad200) else ((some ad200) : Option Addr).map (·.add ((1 : Int).toNat * 3))) := ⟨_, rfl⟩; obtain ⟨c41, hc41⟩ : ∃ c1, c1 = co35 - (1 : Int).toNat := ⟨_, rfl⟩; have hy41 : y202.length = x200002_1.length - (1 : Int).toNat := (by rw [Ny202.out, List.length_drop]); rw [← Ny202.out] at hr41; rw [← hy41, ← hA41, ← hc41] at hcut41; replace hr41 : Kd.Q k68 68 w39 w0.heap.size (fun k_ => ((P0_2_ k_ ∨ P0_3_ k_ ∨ P0_4_ k_) ∨ w.heap.size ≤ k_) ∧ some k_ ≠ (u200003 : Value).ownBlock ∧ k_ ≠ gb201) (.slice A41 y202.length c41) y202 := (by rw [hA41, hc41, hy41]; exact hr41); have HE41 : Aside0 ((Value.slice A41 y202.length c41).ownBlock = (.slice (some ad200) x200002_1.length co35 : Value).ownBlock) := ⟨by rw [hA41]; split <;> (cases ((some ad200) : Option Addr) <;> rfl)⟩; clear hy41 hi041 hsz41 HO_200002 hA41 hc41; have HO204 := Aside0.mk hr41; clear hr41; replace q41 := eq_true q41; have n_ := Aside0.mk (Kd.R_mono (ok' := fun k_ => ((((P0_2_ k_ ∨ P0_3_ k_ ∨ P0_4_ k_) ∨ w.heap.size ≤ k_)) ∧ (nb k_ A41 y202.length c41 ∧ k_ ≠ gb201))) HO_200003.out (fun k_ hk => ⟨hk.1, ⟨(fun e_ => hk.2.1 (e_.trans HE41.out)), hk.2.2⟩⟩)); clear HO_200003; have HO_200003 := n_; clear n_; have hcz42_0 := bz3 BK201) | ((with_reducible refine gate_callee (f := 51) rfl ?_); refine gl 42 Try.func51 #[.string ((rd_T68 x200002_1 0).f0)] ?_; (with_reducible refine (impl_Hash.calls k1 ((rd_T68 x200002_1 0).f0) t211 _ A28.out).mono ?_); rintro e w' ⟨rfl, ⟨nd, rfl⟩⟩; refine ⟨_, rfl, ?_⟩) | ((with_reducible refine gate_dst (N := 5) rfl ?_); refine bx 5 #[.int .i64 0] 3 ?_; intro gb212 hg w43 hbox hb; replace HO204 := Aside0.mk (Kd.Q_below (qf HO204 BK199) hb); replace HO_200003 := Aside0.mk (Kd.R_below (rf HO_200003 BK199) hb); replace HO_200004 := Aside0.mk (Kd.R_below (Kd.R_elderB (rf HO_200004 BK199) gb212 (Nat.le_of_eq hg.symm)) hb); have BK212 := am hbox; have GW212 := Aside0.mk ((by rw [hg]; exact (show Kept w _ (fun k_ => (P0_2_ k_ ∨ P0_3_ k_ ∨ P0_4_ k_) ∨ k_ = gb199) from (kr1 HK GW201)).1 : w.heap.size ≤ gb212)); replace HK := Aside0.mk (Kept.below (w := w) (S := (fun k_ => (P0_2_ k_ ∨ P0_3_ k_ ∨ P0_4_ k_) ∨ k_ = gb199)) (kr1 HK GW201) hb); have GE212 := Aside0.mk ((by rw [hg]; exact (below_size (be2 HB GE199 GE201)) : w0.heap.size ≤ gb212)); replace HB := Aside0.mk (below_step (be2 HB GE199 GE201) hb); have NB199_212 := Aside0.mk ((by rw [hg]; exact Nat.ne_of_lt (blk_lt (g := gb199) (o := .cells #[.int .i64 a0_0, .int .i64 a0_1, .slice A41 y202.length c41, u200003, u200004] 30 (0, 0)) (bp BK199)) : gb199 ≠ gb212)); have NB212_199 := Aside0.mk ((by rw [hg]; exact Nat.ne_of_gt (blk_lt (g := gb199) (o := .cells #[.int .i64 a0_0, .int .i64 a0_1, .slice A41 y202.length c41, u200003, u200004] 30 (0, 0)) (bp BK199)) : gb212 ≠ gb199)); replace BK199 := Aside0.mk (blk_below (g := gb199) (o := .cells #[.int .i64 a0_0, .int .i64 a0_1, .slice A41 y202.length c41, u200003, u200004] 30 (0, 0)) (bp BK199) hb); have NB201_212 := Aside0.mk ((by rw [hg]; exact Nat.ne_of_lt (blk_lt (g := gb201) (o := .cells #[.string ((rd_T68 x200002_1 0).f0), .string ((rd_T68 x200002_1 0).f1), .int .i64 ((rd_T68 x200002_1 0).f2)] 68 (0, 0)) (bf1 BK201 NB201_199)) : gb201 ≠ gb212)); have NB212_201 := Aside0.mk ((by rw [hg]; exact Nat.ne_of_gt (blk_lt (g := gb201) (o := .cells #[.string ((rd_T68 x200002_1 0).f0), .string ((rd_T68 x200002_1 0).f1), .int .i64 ((rd_T68 x200002_1 0).f2)] 68 (0, 0)) (bf1 BK201 NB201_199)) : gb212 ≠ gb201)); replace BK201 := Aside0.mk (blk_below (g := gb201) (o := .cells #[.string ((rd_T68 x200002_1 0).f0), .string ((rd_T68 x200002_1 0).f1), .int .i64 ((rd_T68 x200002_1 0).f2)] 68 (0, 0)) (bf1 BK201 NB201_199) hb); clear hb hbox hg; have hnb44 := NB212_199.out; have hnc44 := NB199_212.out; have hnb45 := NB212_201.out; have hnc45 := NB201_212.out; have hcz46_0 := bz1 BK212; obtain ⟨Ao47, co47, eo47⟩ := Kd.R_slice HO_200004.out; subst eo47))
         have n0_ : Aside0 (Kd.Q k68 68 (w43.setCell ⟨gb212, 0, none⟩ (.int .i64 t211)) w0.heap.size (fun k_ => ((P0_2_ k_ ∨ P0_3_ k_ ∨ P0_4_ k_) ∨ w.heap.size ≤ k_) ∧ some k_ ≠ (u200003 : Value).ownBlock ∧ k_ ≠ gb201) (.slice A41 y202.length c41) y202) := ⟨(qf HO204 BK212)⟩
         have n1_ : Aside0 (Kd.R k68 68 (w43.setCell ⟨gb212, 0, none⟩ (.int .i64 t211)) w0.heap.size (fun k_ => ((P0_2_ k_ ∨ P0_3_ k_ ∨ P0_4_ k_) ∨ w.heap.size ≤ k_) ∧ nb k_ A41 y202.length c41 ∧ k_ ≠ gb201) u200003 x200003_1) := ⟨(rf HO_200003 BK212)⟩
         have n2_ : Aside0 (Kd.R (Kd.int .i64) 3 (w43.setCell ⟨gb212, 0, none⟩ (.int .i64 t211)) w0.heap.size (fun k_ => ((P0_2_ k_ ∨ P0_3_ k_ ∨ P0_4_ k_) ∨ w.heap.size ≤ k_) ∧ k_ ≠ gb212) (.slice Ao47 x200004_1.length co47) x200004_1) := ⟨(rgs gb212 HO_200004)⟩
         have n3_ : Aside0 ((w43.setCell ⟨gb212, 0, none⟩ (.int .i64 t211)).heap[gb199]? = some (.cells #[.int .i64 a0_0, .int .i64 a0_1, .slice A41 y202.length c41, u200003, .slice Ao47 x200004_1.length co47] 30 (0, 0))) := ⟨(bp1 BK199 NB199_212)⟩
         have n4_ : Aside0 ((w43.setCell ⟨gb212, 0, none⟩ (.int .i64 t211)).heap[gb201]? = some (.cells #[.string ((rd_T68 x200002_1 0).f0), .string ((rd_T68 x200002_1 0).f1), .int .i64 ((rd_T68 x200002_1 0).f2)] 68 (0, 0))) := ⟨(bp1 BK201 NB201_212)⟩
         have n5_ : Aside0 ((w43.setCell ⟨gb212, 0, none⟩ (.int .i64 t211)).heap[gb212]? = some (.cells #[.int .i64 t211] 3 (0, 0))) := ⟨(bp BK212)⟩
         have n6_ : Aside0 (Kept w (w43.setCell ⟨gb212, 0, none⟩ (.int .i64 t211)) (fun k_ => (P0_2_ k_ ∨ P0_3_ k_ ∨ P0_4_ k_) ∨ k_ = gb199)) := ⟨(kr2 HK GW201 GW212)⟩
         have n7_ : Aside0 (Below w0.heap.size w0 (w43.setCell ⟨gb212, 0, none⟩ (.int .i64 t211))) := ⟨be3 HB GE199 GE201 GE212⟩
         (try clear HO204)
         (try clear HO_200003)
         (try clear HO_200004)
         (try clear BK199)
         (try clear BK201)
         (try clear BK212)
         (try clear HK)
         (try clear HB)
         generalize (w43.setCell ⟨gb212, 0, none⟩ (.int .i64 t211)) = w48 at n0_ n1_ n2_ n3_ n4_ n5_ n6_ n7_ ⊢
         have HO204 := n0_
         have HO_200003 := n1_
         have HO_200004 := n2_
         have BK199 := n3_
         have BK201 := n4_
         have BK212 := n5_
         have HK := n6_
         have HB := n7_
         clear n0_ n1_ n2_ n3_ n4_ n5_ n6_ n7_
         have n0_ := Aside0.mk (Kd.Q_drew HO204.out)
         have n1_ := Aside0.mk (Kd.R_drew HO_200003.out)
         have n2_ := Aside0.mk (Kd.R_drew HO_200004.out)
         have n3_ := Aside0.mk (blk_drew BK199.out)
         have n4_ := Aside0.mk (blk_drew BK201.out)
         have n5_ := Aside0.mk (blk_drew BK212.out)
         have n6_ := Aside0.mk (Kept.drew HK.out)
         have n7_ := Aside0.mk (below_drew1 HB.out)
         clear HO204
         clear HO_200003
         clear HO_200004
         clear BK199
         clear BK201
         clear BK212
         clear HK
         clear HB
         have HO204 := n0_
         have HO_200003 := n1_
         have HO_200004 := n2_
         have BK199 := n3_
         have BK201 := n4_
         have BK212 := n5_
         have HK := n6_
         have HB := n7_
         clear n0_ n1_ n2_ n3_ n4_ n5_ n6_ n7_
         refine start_ (n := 13) (S := fun w' => w'.cell? ⟨gb199, 0, none⟩ = some (.int .i64 a0_0) ∧ w'.cell? ⟨gb199, 1, none⟩ = some (.int .i64 a0_1) ∧ w'.cell? ⟨gb199, 2, none⟩ = some (.slice A41 y202.length c41) ∧ w'.cell? ⟨gb199, 3, none⟩ = some (u200003) ∧ w'.cell? ⟨gb199, 4, none⟩ = some (.slice Ao47 x200004_1.length co47) ∧ w'.cell? ⟨gb212, 0, none⟩ = some (.int .i64 t211)) (ds := [12]) (bv 13 0x0) (by kernel_rfl) rfl rfl ⟨bc0 BK199, bc1 BK199, bc2 BK199, bc3 BK199, bc4 BK199, bc0 BK212⟩ (fun hHeld => ?_); refine with_tabW impl_Three_evictSmall.tab8 impl_Three_evictSmall.bits8 (fun HT_ HW_ => ?_)
         generalize w48.drew = w49 at HO204 HO_200003 HO_200004 BK199 BK201 BK212 HK HB hHeld ⊢
         refine py HT_ 0 43 (bv 13 0x1) ?_
         refine py HT_ 1 44 (bv 13 0x3) ?_
         refine py HT_ 2 45 (bv 13 0x7) ?_
         refine py HT_ 3 46 (bv 13 0xf) ?_
         refine tk HT_ HW_ hHeld 4 47 (bv 13 0x1f) ?_
         refine py HT_ 5 48 (bv 13 0x3f) ?_
         refine tk HT_ HW_ hHeld 7 50 (bv 13 0xbf) ?_
         refine join_ (σ := Value × Value) 4 (bv 13 0x1ff) (fun s_ => [(49, s_.1), (51, s_.2)]) (fun s_ w' => (w'.cell? ⟨gb199, 0, none⟩ = some (.int .i64 a0_0) ∧ w'.cell? ⟨gb199, 1, none⟩ = some (.int .i64 a0_1) ∧ w'.cell? ⟨gb199, 2, none⟩ = some (.slice A41 y202.length c41) ∧ w'.cell? ⟨gb199, 3, none⟩ = some (u200003) ∧ w'.cell? ⟨gb199, 4, none⟩ = some (.slice Ao47 x200004_1.length co47) ∧ w'.cell? ⟨gb212, 0, none⟩ = some (.int .i64 t211)) ∧ (Kd.Q k68 68 w' w0.heap.size (fun k_ => ((P0_2_ k_ ∨ P0_3_ k_ ∨ P0_4_ k_) ∨ w.heap.size ≤ k_) ∧ some k_ ≠ (u200003 : Value).ownBlock ∧ k_ ≠ gb201) (.slice A41 y202.length c41) y202) ∧ (Kd.R (Kd.int .i64) 3 w' w0.heap.size (fun k_ => ((P0_2_ k_ ∨ P0_3_ k_ ∨ P0_4_ k_) ∨ w.heap.size ≤ k_) ∧ some k_ ≠ (s_.2 : Value).ownBlock ∧ k_ ≠ gb212) s_.1 t213) ∧ (Kd.R (Kd.int .i64) 3 w' w0.heap.size (fun k_ => ((P0_2_ k_ ∨ P0_3_ k_ ∨ P0_4_ k_) ∨ w.heap.size ≤ k_) ∧ some k_ ≠ (s_.1 : Value).ownBlock ∧ k_ ≠ gb212) s_.2 y216) ∧ (Kd.R k68 68 w' w0.heap.size (fun k_ => ((P0_2_ k_ ∨ P0_3_ k_ ∨ P0_4_ k_) ∨ w.heap.size ≤ k_) ∧ nb k_ A41 y202.length c41 ∧ k_ ≠ gb201) u200003 x200003_1) ∧ (w'.heap[gb199]? = some (.cells #[.int .i64 a0_0, .int .i64 a0_1, .slice A41 y202.length c41, u200003, .slice Ao47 x200004_1.length co47] 30 (0, 0))) ∧ (w'.heap[gb201]? = some (.cells #[.string ((rd_T68 x200002_1 0).f0), .string ((rd_T68 x200002_1 0).f1), .int .i64 ((rd_T68 x200002_1 0).f2)] 68 (0, 0))) ∧ (w'.heap[gb212]? = some (.cells #[.int .i64 t211] 3 (0, 0))) ∧ (Kept w w' (fun k_ => (P0_2_ k_ ∨ P0_3_ k_ ∨ P0_4_ k_) ∨ k_ = gb199)) ∧ (Below w0.heap.size w0 w')) ?_ ?_
         rotate_left
         ·intro hCont
          refine two_ (i := 6) (j := 8) (Ni := some 49) (Nj := some 51) (bv 13 0xff) (bv 13 0x1bf) rfl rfl rfl rfl (two_of HT_.out (by kernel_rfl)) (by decide) (by decide) (fun K hK => ?_) (fun K hK => ?_)
          ·skip
           refine goes_ Try.func98 (by kernel_rfl) rfl #[.slice Ao47 x200004_1.length co47, .func (.func 118) #[] #[.pointer (some ⟨gb212, 0, none⟩)]] (by rfl) rfl rfl ml ?_
           with_reducible refine (slices_DeleteFunc_int_int.calls (fun k_ => some k_ = (.slice Ao47 x200004_1.length co47 : Value).ownBlock) (.slice Ao47 x200004_1.length co47) x200004_1 t211 gb212 t213 w0 _ ?sideP ?sideN ?side1 ?side2 A29.out).mono ?_
           (case sideP => exact bk BK212)
           (case sideN => exact fun k_ hk_ e_ => (Kd.R_away (g := gb212) HO_200004.out (fun _ hk => hk.2)) (by rw [hk_, e_]))
           (case side1 => repeat (first | (with_reducible first | exact HB.out | apply below_alloc | apply pw_below_drewN | apply below_drew1 | refine below_set ?_ GE199.out | refine below_set ?_ GE201.out | refine below_set ?_ GE212.out) | exact HB.out))
           (case side2 => exact Kd.R_tight rfl HO_200004.out)
           rintro e w50 ⟨v214, rfl, ho0, hb, hkp⟩
           refine ⟨_, rfl, ?_⟩
           have n0_ := Aside0.mk (Kd.Q_mono (ok' := fun k_ => ((P0_2_ k_ ∨ P0_3_ k_ ∨ P0_4_ k_) ∨ w.heap.size ≤ k_) ∧ some k_ ≠ (u200003 : Value).ownBlock ∧ k_ ≠ gb201) (Kd.Q_keptB ((Kd.Q_apart' HO204.out (Kd.R_typed HO_200004.out) (by decide))) hkp ch) cj)
           have n1_ := Aside0.mk (Kd.R_mono (ok' := fun k_ => ((P0_2_ k_ ∨ P0_3_ k_ ∨ P0_4_ k_) ∨ w.heap.size ≤ k_) ∧ nb k_ A41 y202.length c41 ∧ k_ ≠ gb201) (Kd.R_keptB ((Kd.R_apart' HO_200003.out (Kd.R_typed HO_200004.out) (by decide))) hkp ch) cj)
           have n2_ := Aside0.mk (blk_kept (bk BK199) hkp (fun hs_ => (fun e_ => (Kd.R_ne HO_200004.out BK199.out (by decide)) e_) hs_))
           have n3_ := Aside0.mk (blk_kept (bk BK201) hkp (fun hs_ => (fun e_ => (Kd.R_ne HO_200004.out BK201.out (by decide)) e_) hs_))
           have n4_ := Aside0.mk (blk_kept (bk BK212) hkp (fun hs_ => (fun e_ => (Kd.R_away HO_200004.out (fun _ hk => hk.2)) e_) hs_))
           have n5_ := Aside0.mk (Kd.R_mono (ok' := fun k_ => ((P0_2_ k_ ∨ P0_3_ k_ ∨ P0_4_ k_) ∨ w.heap.size ≤ k_) ∧ k_ ≠ gb212) ho0 (fun k_ hk_ => ⟨Or.elim hk_ (fun hs_ => (HO_200004.out.1 k_ (hs_).symm).1) (fun hn_ => (.inr (Nat.le_trans (by first | exact HK.out.1 | exact (show Kept w _ (fun k_ => (P0_2_ k_ ∨ P0_3_ k_ ∨ P0_4_ k_) ∨ k_ = gb199) from (kr2 HK GW201 GW212)).1) hn_))), Or.elim hk_ (fun hs_ => fun e_ => (Kd.R_away HO_200004.out (fun _ hk => hk.2)) (by rw [← e_]; exact hs_)) (fun hn_ => (Kd.freshB (g := gb212) (o := .cells #[.int .i64 t211] 3 (0, 0)) (bk BK212) k_ hn_))⟩))
           have n6_ := Aside0.mk (Kept.then_ (S := (fun k_ => (P0_2_ k_ ∨ P0_3_ k_ ∨ P0_4_ k_) ∨ k_ = gb199)) (kr2 HK GW201 GW212) hkp (fun k_ hs_ => Or.imp_left Or.inl ((fun e_ => (HO_200004.out.1 k_ e_.symm).1) hs_)))
           have n7_ := Aside0.mk (hb)
           clear HO204
           clear HO_200003
           clear BK199
           clear BK201
           clear BK212
           clear HK
           clear HB
           clear HO_200004
           have HO204 := n0_
           have HO_200003 := n1_
           have BK199 := n2_
           have BK201 := n3_
           have BK212 := n4_
           have HO215 := n5_
           have HK := n6_
           have HB := n7_
           clear n0_ n1_ n2_ n3_ n4_ n5_ n6_ n7_
           (try clear hb)
           (try clear hkp)
           (try clear ho0)
           refine hK.out _ _ ⟨bc0 BK199, bc1 BK199, bc2 BK199, bc3 BK199, bc4 BK199, bc0 BK212⟩ (fun hHeld => ?_)
           clear hK K
           refine norm_ (a' := ?_) ?_ ?_
           rotate_left
           ·show Act.put _ (some 49) _ = _
            simp only [aP]
            rfl
           refine one_ (i := 8) (N := some 51) (bv 13 0x1ff) rfl rfl (one_of HT_.out (by kernel_rfl)) (by decide) (fun K hK => ?_)
           refine Kd.R_lit_step (Kd.int .i64) _ 3 ?hg (N := 51) ?hd (xs := ([t211] : List Int)) (inner := [.int .i64 t211]) (ok := fun _ => True) (okp := fun _ => True) ?hr ?hp (fun _ hk => hk) trivial (Below.refl _ _) (Nat.le_refl _) (by simp) ?_; (case hd => rfl); (case hg => rfl); (case hr => first | (go_simp; done) | (go_simp; rfl)); (case hp => exact (Reps.one (show Kd.M (Kd.int .i64) _ _ _ t211 [.int .i64 t211] from rfl) (Reps.none _ _)))
           intro v217 w51 ho52 hb hg_ hnew_
           clear hg_ hnew_
           (first | rw [← Ny216.out] at ho52 | (simp only [Int.reduceToNat] at ho52; rw [← Ny216.out] at ho52))
           have n0_ := Aside0.mk (Kd.Q_below (qo HO204) hb)
           have n1_ := rb HO_200003 hb
           have n2_ := Aside0.mk (Kd.R_elder' (ro HO215) (Kd.R_base ho52) hb)
           have n3_ := Aside0.mk (Kd.R_lower (Kd.R_newB (nw (Kd.R_newM (M := fun k_ => ((P0_2_ k_ ∨ P0_3_ k_ ∨ P0_4_ k_) ∨ w.heap.size ≤ k_)) ho52 (by first | exact HK.out.1 | exact (show Kept w _ (fun k_ => (P0_2_ k_ ∨ P0_3_ k_ ∨ P0_4_ k_) ∨ k_ = gb199) from (kr2 HK GW201 GW212)).1) (fun k_ h_ => .inr h_)) HO215) (g := gb212) (o := .cells #[.int .i64 t211] 3 (0, 0)) (bk BK212)) (below_size (be3 HB GE199 GE201 GE212)))
           have n4_ := bb BK199 hb
           have n5_ := bb BK201 hb
           have n6_ := bb BK212 hb
           have n7_ := Aside0.mk (Kept.below (w := w) (S := (fun k_ => (P0_2_ k_ ∨ P0_3_ k_ ∨ P0_4_ k_) ∨ k_ = gb199)) (kr2 HK GW201 GW212) hb)
           have n8_ := Aside0.mk (below_step (be3 HB GE199 GE201 GE212) hb)
           clear HO204
           clear HO_200003
           clear HO215
           clear BK199
           clear BK201
           clear BK212
           clear HK
           clear HB
           have HO204 := n0_
           have HO_200003 := n1_
           have HO215 := n2_
           have HO218 := n3_
           have BK199 := n4_
           have BK201 := n5_
           have BK212 := n6_
           have HK := n7_
           have HB := n8_
           clear n0_ n1_ n2_ n3_ n4_ n5_ n6_ n7_ n8_
           clear hb ho52
           refine hK.out _ _ ⟨bc0 BK199, bc1 BK199, bc2 BK199, bc3 BK199, bc4 BK199, bc0 BK212⟩ (fun hHeld => ?_)
           clear hK K
           refine norm_ (a' := ?_) ?_ ?_
           rotate_left
           ·show Act.put _ (some 51) _ = _
            simp only [aP]
            rfl
           exact norm_ (by simp only [putAll, Act.put, List.setIfInBounds_toArray, List.set_cons_zero, List.set_cons_succ]) (hCont (v214, v217) _ ⟨hHeld, (qo HO204), (by (with_reducible repeat (first | apply Kd.R_alloc | apply Kd.R_drewN | apply Kd.R_drew)); exact rm HO215), (by (with_reducible repeat (first | apply Kd.R_alloc | apply Kd.R_drewN | apply Kd.R_drew)); exact rm HO218), (ro HO_200003), (bk BK199), (bk BK201), (bk BK212), (kr2 HK GW201 GW212), (be3 HB GE199 GE201 GE212)⟩)
          skip
          refine Kd.R_lit_step (Kd.int .i64) _ 3 ?hg (N := 51) ?hd (xs := ([t211] : List Int)) (inner := [.int .i64 t211]) (ok := fun _ => True) (okp := fun _ => True) ?hr ?hp (fun _ hk => hk) trivial (Below.refl _ _) (Nat.le_refl _) (by simp) ?_; (case hd => rfl); (case hg => rfl); (case hr => first | (go_simp; done) | (go_simp; rfl)); (case hp => exact (Reps.one (show Kd.M (Kd.int .i64) _ _ _ t211 [.int .i64 t211] from rfl) (Reps.none _ _)))
          intro v217 w50 ho51 hb hg_ hnew_
          clear hg_ hnew_
          (first | rw [← Ny216.out] at ho51 | (simp only [Int.reduceToNat] at ho51; rw [← Ny216.out] at ho51))
          have n0_ := Aside0.mk (Kd.Q_below (qo HO204) hb)
          have n1_ := rb HO_200003 hb
          have n2_ := Aside0.mk (Kd.R_elder' (ro HO_200004) (Kd.R_base ho51) hb)
          have n3_ := Aside0.mk (Kd.R_lower (Kd.R_newB (nw (Kd.R_newM (M := fun k_ => ((P0_2_ k_ ∨ P0_3_ k_ ∨ P0_4_ k_) ∨ w.heap.size ≤ k_)) ho51 (by first | exact HK.out.1 | exact (show Kept w _ (fun k_ => (P0_2_ k_ ∨ P0_3_ k_ ∨ P0_4_ k_) ∨ k_ = gb199) from (kr2 HK GW201 GW212)).1) (fun k_ h_ => .inr h_)) HO_200004) (g := gb212) (o := .cells #[.int .i64 t211] 3 (0, 0)) (bk BK212)) (below_size (be3 HB GE199 GE201 GE212)))
          have n4_ := bb BK199 hb
          have n5_ := bb BK201 hb
          have n6_ := bb BK212 hb
          have n7_ := Aside0.mk (Kept.below (w := w) (S := (fun k_ => (P0_2_ k_ ∨ P0_3_ k_ ∨ P0_4_ k_) ∨ k_ = gb199)) (kr2 HK GW201 GW212) hb)
          have n8_ := Aside0.mk (below_step (be3 HB GE199 GE201 GE212) hb)
          clear HO204
          clear HO_200003
          clear HO_200004
          clear BK199
          clear BK201
          clear BK212
          clear HK
          clear HB
          have HO204 := n0_
          have HO_200003 := n1_
          have HO_200004 := n2_
          have HO218 := n3_
          have BK199 := n4_
          have BK201 := n5_
          have BK212 := n6_
          have HK := n7_
          have HB := n8_
          clear n0_ n1_ n2_ n3_ n4_ n5_ n6_ n7_ n8_
          clear hb ho51
          refine hK.out _ _ ⟨bc0 BK199, bc1 BK199, bc2 BK199, bc3 BK199, bc4 BK199, bc0 BK212⟩ (fun hHeld => ?_)
          clear hK K
          refine norm_ (a' := ?_) ?_ ?_
          rotate_left
          ·show Act.put _ (some 51) _ = _
           simp only [aP]
           rfl
          refine one_ (i := 6) (N := some 49) (bv 13 0x1ff) rfl rfl (one_of HT_.out (by kernel_rfl)) (by decide) (fun K hK => ?_)
          refine goes_ Try.func98 (by kernel_rfl) rfl #[.slice Ao47 x200004_1.length co47, .func (.func 118) #[] #[.pointer (some ⟨gb212, 0, none⟩)]] (by rfl) rfl rfl ml ?_
          with_reducible refine (slices_DeleteFunc_int_int.calls (fun k_ => some k_ = (.slice Ao47 x200004_1.length co47 : Value).ownBlock) (.slice Ao47 x200004_1.length co47) x200004_1 t211 gb212 t213 w0 _ ?sideP ?sideN ?side1 ?side2 A29.out).mono ?_
          (case sideP => exact bk BK212)
          (case sideN => exact fun k_ hk_ e_ => (Kd.R_away (g := gb212) HO_200004.out (fun _ hk => hk.1.2)) (by rw [hk_, e_]))
          (case side1 => repeat (first | (with_reducible first | exact HB.out | apply below_alloc | apply pw_below_drewN | apply below_drew1 | refine below_set ?_ GE199.out | refine below_set ?_ GE201.out | refine below_set ?_ GE212.out) | exact HB.out))
          (case side2 => exact Kd.R_tight rfl HO_200004.out)
          rintro e w52 ⟨v214, rfl, ho0, hb, hkp⟩
          refine ⟨_, rfl, ?_⟩
          have n0_ := Aside0.mk (Kd.Q_mono (ok' := fun k_ => ((P0_2_ k_ ∨ P0_3_ k_ ∨ P0_4_ k_) ∨ w.heap.size ≤ k_) ∧ some k_ ≠ (u200003 : Value).ownBlock ∧ k_ ≠ gb201) (Kd.Q_keptB ((Kd.Q_apart' HO204.out (Kd.R_typed HO_200004.out) (by decide))) hkp ch) cj)
          have n1_ := Aside0.mk (Kd.R_mono (ok' := fun k_ => ((P0_2_ k_ ∨ P0_3_ k_ ∨ P0_4_ k_) ∨ w.heap.size ≤ k_) ∧ nb k_ A41 y202.length c41 ∧ k_ ≠ gb201) (Kd.R_keptB ((Kd.R_apart' HO_200003.out (Kd.R_typed HO_200004.out) (by decide))) hkp ch) cj)
          have n2_ := Aside0.mk (blk_kept (bk BK199) hkp (fun hs_ => (fun e_ => (Kd.R_ne HO_200004.out BK199.out (by decide)) e_) hs_))
          have n3_ := Aside0.mk (blk_kept (bk BK201) hkp (fun hs_ => (fun e_ => (Kd.R_ne HO_200004.out BK201.out (by decide)) e_) hs_))
          have n4_ := Aside0.mk (blk_kept (bk BK212) hkp (fun hs_ => (fun e_ => (Kd.R_away HO_200004.out (fun _ hk => hk.1.2)) e_) hs_))
          have n5_ := Aside0.mk (Kd.R_mono (ok' := fun k_ => ((P0_2_ k_ ∨ P0_3_ k_ ∨ P0_4_ k_) ∨ w.heap.size ≤ k_) ∧ k_ ≠ gb212 ∧ some k_ ≠ (v214 : Value).ownBlock) (Kd.R_keptB (HO218.out) hkp ch) (fun k_ hk_ => ⟨hk_.1.1.1.1, hk_.1.2, fun e_ => Or.elim (ho0.1 k_ e_.symm) (fun hs_ => hk_.2.1 hs_) (fun hn_ => Nat.not_le.2 hk_.2.2 hn_)⟩))
          have n6_ := Aside0.mk (Kd.R_mono (ok' := fun k_ => ((P0_2_ k_ ∨ P0_3_ k_ ∨ P0_4_ k_) ∨ w.heap.size ≤ k_) ∧ some k_ ≠ (v217 : Value).ownBlock ∧ k_ ≠ gb212) ho0 (fun k_ hk_ => ⟨Or.elim hk_ (fun hs_ => (HO_200004.out.1 k_ (hs_).symm).1.1) (fun hn_ => (.inr (Nat.le_trans (by first | exact HK.out.1 | exact (show Kept w _ (fun k_ => (P0_2_ k_ ∨ P0_3_ k_ ∨ P0_4_ k_) ∨ k_ = gb199) from (kr2 HK GW201 GW212)).1) hn_))), Or.elim hk_ (fun hs_ => fun e_ => (((HO218.out).1 k_ e_.symm).1.2) hs_) (fun hn_ => (Kd.fresh' (Kd.R_lt (ro HO218)) k_ hn_)), Or.elim hk_ (fun hs_ => fun e_ => (Kd.R_away HO_200004.out (fun _ hk => hk.1.2)) (by rw [← e_]; exact hs_)) (fun hn_ => (Kd.freshB (g := gb212) (o := .cells #[.int .i64 t211] 3 (0, 0)) (bk BK212) k_ hn_))⟩))
          have n7_ := Aside0.mk (Kept.then_ (S := (fun k_ => (P0_2_ k_ ∨ P0_3_ k_ ∨ P0_4_ k_) ∨ k_ = gb199)) (kr2 HK GW201 GW212) hkp (fun k_ hs_ => Or.imp_left Or.inl ((fun e_ => (HO_200004.out.1 k_ e_.symm).1.1) hs_)))
          have n8_ := Aside0.mk (hb)
          clear HO204
          clear HO_200003
          clear BK199
          clear BK201
          clear BK212
          clear HO218
          clear HK
          clear HB
          clear HO_200004
          have HO204 := n0_
          have HO_200003 := n1_
          have BK199 := n2_
          have BK201 := n3_
          have BK212 := n4_
          have HO218 := n5_
          have HO215 := n6_
          have HK := n7_
          have HB := n8_
          clear n0_ n1_ n2_ n3_ n4_ n5_ n6_ n7_ n8_
          (try clear hb)
          (try clear hkp)
          (try clear ho0)
          refine hK.out _ _ ⟨bc0 BK199, bc1 BK199, bc2 BK199, bc3 BK199, bc4 BK199, bc0 BK212⟩ (fun hHeld => ?_)
          clear hK K
          refine norm_ (a' := ?_) ?_ ?_
          rotate_left
          ·show Act.put _ (some 49) _ = _
           simp only [aP]
           rfl
          exact norm_ (by simp only [putAll, Act.put, List.setIfInBounds_toArray, List.set_cons_zero, List.set_cons_succ]) (hCont (v214, v217) _ ⟨hHeld, (qo HO204), (ro HO215), (by (with_reducible repeat (first | apply Kd.R_alloc | apply Kd.R_drewN | apply Kd.R_drew)); exact rm HO218), (ro HO_200003), (bk BK199), (bk BK201), (bk BK212), (kr2 HK GW201 GW212), (be3 HB GE199 GE201 GE212)⟩)
         rintro ⟨v214, v217⟩ w53 ⟨hS_, h0_, h1_, h2_, h3_, h4_, h5_, h6_, h7_, h8_⟩
         have n0_ : Aside0 (Kd.Q k68 68 w53 w0.heap.size (fun k_ => ((P0_2_ k_ ∨ P0_3_ k_ ∨ P0_4_ k_) ∨ w.heap.size ≤ k_) ∧ some k_ ≠ (u200003 : Value).ownBlock ∧ k_ ≠ gb201) (.slice A41 y202.length c41) y202) := ⟨h0_⟩
         have n1_ : Aside0 (Kd.R (Kd.int .i64) 3 w53 w0.heap.size (fun k_ => ((P0_2_ k_ ∨ P0_3_ k_ ∨ P0_4_ k_) ∨ w.heap.size ≤ k_) ∧ some k_ ≠ (v217 : Value).ownBlock ∧ k_ ≠ gb212) v214 t213) := ⟨h1_⟩
         have n2_ : Aside0 (Kd.R (Kd.int .i64) 3 w53 w0.heap.size (fun k_ => ((P0_2_ k_ ∨ P0_3_ k_ ∨ P0_4_ k_) ∨ w.heap.size ≤ k_) ∧ some k_ ≠ (v214 : Value).ownBlock ∧ k_ ≠ gb212) v217 y216) := ⟨h2_⟩
         have n3_ : Aside0 (Kd.R k68 68 w53 w0.heap.size (fun k_ => ((P0_2_ k_ ∨ P0_3_ k_ ∨ P0_4_ k_) ∨ w.heap.size ≤ k_) ∧ nb k_ A41 y202.length c41 ∧ k_ ≠ gb201) u200003 x200003_1) := ⟨h3_⟩
         have n4_ : Aside0 (w53.heap[gb199]? = some (.cells #[.int .i64 a0_0, .int .i64 a0_1, .slice A41 y202.length c41, u200003, .slice Ao47 x200004_1.length co47] 30 (0, 0))) := ⟨h4_⟩
         have n5_ : Aside0 (w53.heap[gb201]? = some (.cells #[.string ((rd_T68 x200002_1 0).f0), .string ((rd_T68 x200002_1 0).f1), .int .i64 ((rd_T68 x200002_1 0).f2)] 68 (0, 0))) := ⟨h5_⟩
         have n6_ : Aside0 (w53.heap[gb212]? = some (.cells #[.int .i64 t211] 3 (0, 0))) := ⟨h6_⟩
         have n7_ : Aside0 (Kept w w53 (fun k_ => (P0_2_ k_ ∨ P0_3_ k_ ∨ P0_4_ k_) ∨ k_ = gb199)) := ⟨h7_⟩
         have n8_ : Aside0 (Below w0.heap.size w0 w53) := ⟨h8_⟩
         clear HO204
         clear HO_200003
         clear HO_200004
         clear BK199
         clear BK201
         clear BK212
         clear HK
         clear HB
         clear h0_ h1_ h2_ h3_ h4_ h5_ h6_ h7_ h8_
         have HO204 := n0_
         have HO215 := n1_
         have HO218 := n2_
         have HO_200003 := n3_
         have BK199 := n4_
         have BK201 := n5_
         have BK212 := n6_
         have HK := n7_
         have HB := n8_
         clear n0_ n1_ n2_ n3_ n4_ n5_ n6_ n7_ n8_
         have hHeld : w53.cell? ⟨gb199, 0, none⟩ = some (.int .i64 a0_0) ∧ w53.cell? ⟨gb199, 1, none⟩ = some (.int .i64 a0_1) ∧ w53.cell? ⟨gb199, 2, none⟩ = some (.slice A41 y202.length c41) ∧ w53.cell? ⟨gb199, 3, none⟩ = some (u200003) ∧ w53.cell? ⟨gb199, 4, none⟩ = some (.slice Ao47 x200004_1.length co47) ∧ w53.cell? ⟨gb212, 0, none⟩ = some (.int .i64 t211) := hS_
         obtain ⟨Ao55, co55, eo55⟩ := Kd.R_slice HO218.out
         (first | subst eo55 | (injection eo55 with f1_ f2_ f3_; have f4_ := f1_.symm; have f5_ := f3_.symm; clear f1_ f2_ f3_; subst f4_; subst f5_))
         refine norm_ (a' := ?_) ?_ ?_
         rotate_left
         ·simp only [putAll, Act.put, List.setIfInBounds_toArray, List.set_cons_zero, List.set_cons_succ]
          rfl
         refine one_ (i := 9) (N := some 52) (bv 13 0x3ff) rfl rfl (one_of HT_.out (by kernel_rfl)) (by decide) (fun K hK => ?_)
         refine Kd.R_append_rows_step (Kd.int .i64) (w0 := w0) w0.heap.size (by rfl) (.tmp 49) (.tmp 51) 23 3 (.int .i64 0) 8 rfl Try.underlying23 info3 rfl (by decide) (by omega) v214 t213 y216 _ _ _ (fun k_ => ((P0_2_ k_ ∨ P0_3_ k_ ∨ P0_4_ k_) ∨ w.heap.size ≤ k_) ∧ nb k_ Ao55 y216.length co55 ∧ k_ ≠ gb212) (fun _ => False) rfl rfl ?aO ?aR (fun _ _ h => h) (fun _ h => h.elim) ?aF ?aB ?aS ?aL ?_
         (case aR => repeat (first | exact (Kd.R_reads' HO218.out).2.2 | (with_reducible refine Kd.C_alloc ?_ _) | (with_reducible refine Kd.C_drewN ?_ _) | (with_reducible refine Kd.C_drew ?_)))
         (case aB => exact (be3 HB GE199 GE201 GE212))
         (case aF => exact (fun k_ hk => ⟨(.inr (Nat.le_trans (by first | exact HK.out.1 | exact (show Kept w _ (fun k_ => (P0_2_ k_ ∨ P0_3_ k_ ∨ P0_4_ k_) ∨ k_ = gb199) from (kr2 HK GW201 GW212)).1) hk)), Kd.fresh' (Kd.R_lt (ro HO218)) k_ hk, Kd.freshB (g := gb212) (o := .cells #[.int .i64 t211] 3 (0, 0)) (bk BK212) k_ hk⟩))
         (case aO => exact (ro HO215))
         (case aS => exact (below_size (be3 HB GE199 GE201 GE212)))
         (case aL => have := LMc30.out; omega)
         intro v220 w54 ho hb hg hat
         rw [← Ny219.out] at ho
         have n0_ := Aside0.mk (Kd.Q_over' (qo HO204) (Kd.R_typed (ro HO215)) (by decide) hg)
         have n1_ := Aside0.mk (Kd.R_over' (ro HO_200003) (Kd.R_typed (ro HO215)) (by decide) hg)
         have n2_ := Aside0.mk (blk_grown (g := gb199) (o := .cells #[.int .i64 a0_0, .int .i64 a0_1, .slice A41 y202.length c41, u200003, .slice Ao47 x200004_1.length co47] 30 (0, 0)) (bk BK199) hg (Kd.R_ne HO215.out BK199.out (by decide)))
         have n3_ := Aside0.mk (blk_grown (g := gb201) (o := .cells #[.string ((rd_T68 x200002_1 0).f0), .string ((rd_T68 x200002_1 0).f1), .int .i64 ((rd_T68 x200002_1 0).f2)] 68 (0, 0)) (bk BK201) hg (Kd.R_ne HO215.out BK201.out (by decide)))
         have n4_ := Aside0.mk (blk_grown (g := gb212) (o := .cells #[.int .i64 t211] 3 (0, 0)) (bk BK212) hg (Kd.R_away HO215.out (fun _ hk => hk.2.2)))
         have n5_ := Aside0.mk (Kd.R_after (ok := (fun k_ => ((P0_2_ k_ ∨ P0_3_ k_ ∨ P0_4_ k_) ∨ w.heap.size ≤ k_) ∧ k_ ≠ gb212)) (by (with_reducible repeat (first | apply Kd.R_alloc | apply Kd.R_drewN | apply Kd.R_drew)); exact rm HO218) hg hat)
         have n6_ := Aside0.mk (hb)
         have n7_ := Aside0.mk (Kept.of_grown (S := (fun k_ => (P0_2_ k_ ∨ P0_3_ k_ ∨ P0_4_ k_) ∨ k_ = gb199)) hg (kr2 HK GW201 GW212) (fun k_ e_ => Or.imp_left Or.inl ((HO215.out.1 k_ e_).1)))
         have n8_ := Aside0.mk (ho)
         clear HO204
         clear HO_200003
         clear BK199
         clear BK201
         clear BK212
         clear HO218
         clear HB
         clear HK
         clear HO215
         have HO204 := n0_
         have HO_200003 := n1_
         have BK199 := n2_
         have BK201 := n3_
         have BK212 := n4_
         have HO218 := n5_
         have HB := n6_
         have HK := n7_
         have HO221 := n8_
         clear n0_ n1_ n2_ n3_ n4_ n5_ n6_ n7_ n8_
         clear ho hb hg hat
         obtain ⟨Ao56, co56, eo56⟩ := Kd.R_slice HO221.out
         (first | subst eo56 | (injection eo56 with f1_ f2_ f3_; have f4_ := f1_.symm; have f5_ := f3_.symm; clear f1_ f2_ f3_; subst f4_; subst f5_))
         refine hK.out _ _ ⟨bc0 BK199, bc1 BK199, bc2 BK199, bc3 BK199, bc4 BK199, bc0 BK212⟩ (fun hHeld => ?_)
         clear hK K
         refine norm_ (a' := ?_) ?_ ?_
         rotate_left
         ·show Act.put _ (some 52) _ = _
          simp only [aP]
          rfl
         refine py HT_ 10 53 (bv 13 0x7ff) ?_
         refine py HT_ 11 54 (bv 13 0xfff) ?_
         refine last_ (i := 12) (N := none) (bv 13 0x1fff) rfl rfl (one_of HT_.out (by kernel_rfl)) (by decide) (fun K hK => ?_)
         have hs57 : w54.cell? ⟨gb199, 4, none⟩ = some (.slice Ao47 x200004_1.length co47) := bc4 BK199
         have hfs57 := blk_frozen BK199.out 4
         have hns57_1 := NB201_199.out
         have hns57_2 := NB212_199.out
         have hms57_1 := NB199_201.out
         have hms57_2 := NB199_212.out
         refine skip_ (w1 := ?_) (by rfl) rfl ?_ ?_
         rotate_left
         ·go_simp
          rfl
         refine hK.out _ _ ?_
         clear hK K
         refine done_ (done_of HT_.out (by kernel_rfl)) ?_
         try go_wp2
         have n0_ : Aside0 (Kd.Q k68 68 (w54.setCell ⟨gb199, 4, none⟩ (.slice Ao56 y219.length co56)) w0.heap.size (fun k_ => ((P0_2_ k_ ∨ P0_3_ k_ ∨ P0_4_ k_) ∨ w.heap.size ≤ k_) ∧ some k_ ≠ (u200003 : Value).ownBlock ∧ k_ ≠ gb201) (.slice A41 y202.length c41) y202) := ⟨(qf HO204 BK199)⟩
         have n1_ : Aside0 (Kd.R k68 68 (w54.setCell ⟨gb199, 4, none⟩ (.slice Ao56 y219.length co56)) w0.heap.size (fun k_ => ((P0_2_ k_ ∨ P0_3_ k_ ∨ P0_4_ k_) ∨ w.heap.size ≤ k_) ∧ nb k_ A41 y202.length c41 ∧ k_ ≠ gb201) u200003 x200003_1) := ⟨(rf HO_200003 BK199)⟩
         have n2_ : Aside0 (Kd.R (Kd.int .i64) 3 (w54.setCell ⟨gb199, 4, none⟩ (.slice Ao56 y219.length co56)) w0.heap.size (fun k_ => ((P0_2_ k_ ∨ P0_3_ k_ ∨ P0_4_ k_) ∨ w.heap.size ≤ k_) ∧ nb k_ Ao56 y219.length co56 ∧ k_ ≠ gb212) (.slice Ao55 y216.length co55) y216) := ⟨(rfn HO218 BK199)⟩
         have n3_ : Aside0 (Kd.R (Kd.int .i64) 3 (w54.setCell ⟨gb199, 4, none⟩ (.slice Ao56 y219.length co56)) w0.heap.size (fun k_ => ((P0_2_ k_ ∨ P0_3_ k_ ∨ P0_4_ k_) ∨ w.heap.size ≤ k_) ∧ nb k_ Ao55 y216.length co55 ∧ k_ ≠ gb212) (.slice Ao56 y219.length co56) y219) := ⟨(rf HO221 BK199)⟩
         have n4_ : Aside0 ((w54.setCell ⟨gb199, 4, none⟩ (.slice Ao56 y219.length co56)).heap[gb199]? = some (.cells #[.int .i64 a0_0, .int .i64 a0_1, .slice A41 y202.length c41, u200003, .slice Ao56 y219.length co56] 30 (0, 0))) := ⟨(bp BK199)⟩
         have n5_ : Aside0 ((w54.setCell ⟨gb199, 4, none⟩ (.slice Ao56 y219.length co56)).heap[gb201]? = some (.cells #[.string ((rd_T68 x200002_1 0).f0), .string ((rd_T68 x200002_1 0).f1), .int .i64 ((rd_T68 x200002_1 0).f2)] 68 (0, 0))) := ⟨(bp1 BK201 NB201_199)⟩
         have n6_ : Aside0 ((w54.setCell ⟨gb199, 4, none⟩ (.slice Ao56 y219.length co56)).heap[gb212]? = some (.cells #[.int .i64 t211] 3 (0, 0))) := ⟨(bp1 BK212 NB212_199)⟩
         have n7_ : Aside0 (Kept w (w54.setCell ⟨gb199, 4, none⟩ (.slice Ao56 y219.length co56)) (fun k_ => (P0_2_ k_ ∨ P0_3_ k_ ∨ P0_4_ k_) ∨ k_ = gb199)) := ⟨(kr2 HK GW201 GW212)⟩
         have n8_ : Aside0 (Below w0.heap.size w0 (w54.setCell ⟨gb199, 4, none⟩ (.slice Ao56 y219.length co56))) := ⟨be3 HB GE199 GE201 GE212⟩
         (try clear HO204)
         (try clear HO_200003)
         (try clear HO218)
         (try clear HO221)
         (try clear BK199)
         (try clear BK201)
         (try clear BK212)
         (try clear HK)
         (try clear HB)
         generalize (w54.setCell ⟨gb199, 4, none⟩ (.slice Ao56 y219.length co56)) = w58 at n0_ n1_ n2_ n3_ n4_ n5_ n6_ n7_ n8_ ⊢
         have HO204 := n0_
         have HO_200003 := n1_
         have HO218 := n2_
         have HO221 := n3_
         have BK199 := n4_
         have BK201 := n5_
         have BK212 := n6_
         have HK := n7_
         have HB := n8_
         clear n0_ n1_ n2_ n3_ n4_ n5_ n6_ n7_ n8_
         have n0_ := Aside0.mk (Kd.Q_drew HO204.out)
         have n1_ := Aside0.mk (Kd.R_drew HO_200003.out)
         have n2_ := Aside0.mk (Kd.R_drew HO218.out)
         have n3_ := Aside0.mk (Kd.R_drew HO221.out)
         have n4_ := Aside0.mk (blk_drew BK199.out)
         have n5_ := Aside0.mk (blk_drew BK201.out)
         have n6_ := Aside0.mk (blk_drew BK212.out)
         have n7_ := Aside0.mk (Kept.drew HK.out)
         have n8_ := Aside0.mk (below_drew1 HB.out)
         clear HO204
         clear HO_200003
         clear HO218
         clear HO221
         clear BK199
         clear BK201
         clear BK212
         clear HK
         clear HB
         have HO204 := n0_
         have HO_200003 := n1_
         have HO218 := n2_
         have HO221 := n3_
         have BK199 := n4_
         have BK201 := n5_
         have BK212 := n6_
         have HK := n7_
         have HB := n8_
         clear n0_ n1_ n2_ n3_ n4_ n5_ n6_ n7_ n8_
         obtain ⟨Ao60, co60, eo60⟩ := Kd.R_slice HO_200003.out
         (first | subst eo60 | (injection eo60 with f1_ f2_ f3_; have f4_ := f1_.symm; have f5_ := f3_.symm; clear f1_ f2_ f3_; subst f4_; subst f5_))
         refine start_ (n := 8) (S := fun w' => w'.cell? ⟨gb199, 0, none⟩ = some (.int .i64 a0_0) ∧ w'.cell? ⟨gb199, 1, none⟩ = some (.int .i64 a0_1) ∧ w'.cell? ⟨gb199, 2, none⟩ = some (.slice A41 y202.length c41) ∧ w'.cell? ⟨gb199, 3, none⟩ = some (.slice Ao60 x200003_1.length co60) ∧ w'.cell? ⟨gb199, 4, none⟩ = some (.slice Ao56 y219.length co56)) (ds := []) (bv 8 0x0) (by kernel_rfl) rfl rfl ⟨bc0 BK199, bc1 BK199, bc2 BK199, bc3 BK199, bc4 BK199⟩ (fun hHeld => ?_); refine with_tabW impl_Three_evictSmall.tab9 impl_Three_evictSmall.bits9 (fun HT_ HW_ => ?_)
         generalize w58.drew = w59 at HO204 HO_200003 HO218 HO221 BK199 BK201 BK212 HK HB hHeld ⊢
         refine py HT_ 0 55 (bv 8 0x1) ?_
         refine py HT_ 1 56 (bv 8 0x3) ?_
         refine py HT_ 2 57 (bv 8 0x7) ?_
         refine tk HT_ HW_ hHeld 3 58 (bv 8 0xf) ?_
         refine py HT_ 4 59 (bv 8 0x1f) ?_
         refine py HT_ 5 60 (bv 8 0x3f) ?_
         refine one_ (i := 6) (N := some 61) (bv 8 0x7f) rfl rfl (one_of HT_.out (by kernel_rfl)) (by decide) (fun K hK => ?_)
         refine goes_ Try.func65 (by kernel_rfl) rfl #[.pointer (some ⟨gb199, 0, none⟩)] (by rfl) rfl rfl ml ?_
         with_reducible refine (impl_Three_ghosts.calls a0_0 a0_1 A41 c41 y202 Ao60 co60 x200003_1 Ao56 co56 y219 gb199 t222 _ ?side1 ?side2 ?side3 ?side4 ?side5 ?side6 ?sideP A31.out).mono ?_
         (case sideP => exact bk BK199)
         (case side1 => repeat (first | exact (Kd.Q_reads' HO204.out).2.2 | (with_reducible refine Kd.C_alloc ?_ _) | (with_reducible refine Kd.C_drewN ?_ _) | (with_reducible refine Kd.C_drew ?_)))
         (case side2 => exact (Kd.Q_reads' HO204.out).2.1)
         (case side3 => exact cr HO_200003)
         (case side4 => exact (Kd.R_reads' HO_200003.out).2.1)
         (case side5 => exact cr HO221)
         (case side6 => exact (Kd.R_reads' HO221.out).2.1)
         rintro e w61 ⟨rfl, hb⟩
         refine ⟨_, rfl, ?_⟩
         have n0_ := Aside0.mk (Kd.Q_below (qo HO204) hb)
         have n1_ := rb HO_200003 hb
         have n2_ := rb HO218 hb
         have n3_ := rb HO221 hb
         have n4_ := bb BK199 hb
         have n5_ := bb BK201 hb
         have n6_ := bb BK212 hb
         have n7_ := Aside0.mk (Kept.below (w := w) (S := (fun k_ => (P0_2_ k_ ∨ P0_3_ k_ ∨ P0_4_ k_) ∨ k_ = gb199)) (kr2 HK GW201 GW212) hb)
         have n8_ := Aside0.mk (below_step (be3 HB GE199 GE201 GE212) hb)
         clear HO204
         clear HO_200003
         clear HO218
         clear HO221
         clear BK199
         clear BK201
         clear BK212
         clear HK
         clear HB
         have HO204 := n0_
         have HO_200003 := n1_
         have HO218 := n2_
         have HO221 := n3_
         have BK199 := n4_
         have BK201 := n5_
         have BK212 := n6_
         have HK := n7_
         have HB := n8_
         clear n0_ n1_ n2_ n3_ n4_ n5_ n6_ n7_ n8_
         (try clear hb)
         (try clear hb2)
         (try clear hk)
         (try clear hi)
         refine hK.out _ _ ⟨bc0 BK199, bc1 BK199, bc2 BK199, bc3 BK199, bc4 BK199⟩ (fun hHeld => ?_)
         clear hK K
         refine norm_ (a' := ?_) ?_ ?_
         rotate_left
         ·show Act.put _ (some 61) _ = _
          simp only [aP]
          rfl
         refine py HT_ 7 62 (bv 8 0xff) ?_
         refine done_ (done_of HT_.out (by kernel_rfl)) ?_
         have hcz62_0 := bz5 BK199
         have q63 : (1 : Int) ≤ ((y219.length : Int) : Int) := od
         obtain ⟨i063, hi063, _, hsz63, _⟩ := info_parts info3
         have hcut63 := cut_from (P := Try.prog) 23 3 .i64 Try.underlying23 hi063 1 hsz63 Ao56 y219.length co56 1 (by omega) q63
         have hr63 := Kd.Q_drop (k := (1 : Int).toNat) (Kd.Q_of_R HO221.out) (by omega)
         obtain ⟨A63, hA63⟩ : ∃ A1, A1 = (if co56 = (1 : Int).toNat then Ao56 else (Ao56 : Option Addr).map (·.add ((1 : Int).toNat * 1))) := ⟨_, rfl⟩
         obtain ⟨c63, hc63⟩ : ∃ c1, c1 = co56 - (1 : Int).toNat := ⟨_, rfl⟩
         have hy63 : y223.length = y219.length - (1 : Int).toNat := (by rw [Ny223.out, List.length_drop])
         rw [← Ny223.out] at hr63
         rw [← hy63, ← hA63, ← hc63] at hcut63
         replace hr63 : Kd.Q (Kd.int .i64) 3 w61 w0.heap.size (fun k_ => ((P0_2_ k_ ∨ P0_3_ k_ ∨ P0_4_ k_) ∨ w.heap.size ≤ k_) ∧ nb k_ Ao55 y216.length co55 ∧ k_ ≠ gb212) (.slice A63 y223.length c63) y223 := (by rw [hA63, hc63, hy63]; exact hr63)
         have HE63 : Aside0 ((Value.slice A63 y223.length c63).ownBlock = (.slice Ao56 y219.length co56 : Value).ownBlock) := ⟨by rw [hA63]; split <;> (cases (Ao56 : Option Addr) <;> rfl)⟩
         clear hy63 hi063 hsz63 HO221 hA63 hc63
         have HO225 := Aside0.mk hr63
         clear hr63
         replace q63 := eq_true q63
         have n_ := Aside0.mk (Kd.R_mono (ok' := fun k_ => ((((P0_2_ k_ ∨ P0_3_ k_ ∨ P0_4_ k_) ∨ w.heap.size ≤ k_)) ∧ (nb k_ A63 y223.length c63 ∧ k_ ≠ gb212))) HO218.out (fun k_ hk => ⟨hk.1, ⟨(fun e_ => hk.2.1 (e_.trans HE63.out)), hk.2.2⟩⟩))
         clear HO218
         have HO218 := n_
         clear n_
         have hcz64_0 := bz3 BK201
         try go_wp2
         go_ret2
         exact ⟨_, _, _, er, (bp BK199), by (with_reducible repeat (first | apply Kd.Q_alloc | apply Kd.Q_drewN | apply Kd.Q_drew)); exact Kd.Q_mono (Kd.Q_far (p := ⟨gb199, 4, none⟩) (Kd.Q_types HO204.out BK199.out (by decide)) (fun _ hk => hk.2) (.slice A63 y223.length c63)) (fun _ hk => ⟨hk.1.1, hk.1.2.1⟩), by (with_reducible repeat (first | apply Kd.R_alloc | apply Kd.R_drewN | apply Kd.R_drew)); exact Kd.R_mono (Kd.R_far (p := ⟨gb199, 4, none⟩) (Kd.R_types HO_200003.out BK199.out (by decide)) (fun _ hk => hk.2) (.slice A63 y223.length c63)) (fun _ hk => ⟨hk.1.1, hk.1.2.1⟩), by (with_reducible repeat (first | apply Kd.Q_alloc | apply Kd.Q_drewN | apply Kd.Q_drew)); exact Kd.Q_mono (Kd.Q_far (p := ⟨gb199, 4, none⟩) (Kd.Q_types HO225.out BK199.out (by decide)) (fun _ hk => hk.2) (.slice A63 y223.length c63)) (fun _ hk => hk.1.1), be3 HB GE199 GE201 GE212, (kr2 HK GW201 GW212)⟩
        rw [if_neg c33] at H
        exact absurd H (by simp)
       rw [if_neg c32] at H
       have c32b0 : decide (t222 < (y219.length : Int)) = false := decide_eq_false c32
       clear c32
       simp only [Option.some.injEq, Prod.mk.injEq] at H
       obtain ⟨rfl, rfl, rfl, rfl, rfl, rfl, rfl⟩ := H
       have hcz65_0 := bz5 BK199
       obtain ⟨Ao66, co66, eo66, _⟩ := Kd.Q_slice HO_200002.out
       subst eo66
       have p200 : 0 ≤ (0 : Int) := (by omega)
       have q200 : 0 < (x200002_1.length : Int) := od
       obtain ⟨ad200, e200, hx200_0, hx200_1, hx200_2⟩ := at_T68 (Kd.Q_reads' HO_200002.out).2.2 0 p200 q200
       cases e200
       have qi200 : (0 < x200002_1.length) = True := eq_true (by omega)
       (try rw [show ((0 : Int)).toNat = 0 from rfl] at hx200_0)
       (try rw [show 0 * 3 = 0 from rfl] at hx200_0)
       (try rw [Addr.add_zero'] at hx200_0)
       (try rw [show ((0 : Int)).toNat = 0 from rfl] at hx200_1)
       (try rw [show 0 * 3 = 0 from rfl] at hx200_1)
       (try rw [Addr.add_zero'] at hx200_1)
       (try rw [show ((0 : Int)).toNat = 0 from rfl] at hx200_2)
       (try rw [show 0 * 3 = 0 from rfl] at hx200_2)
       (try rw [Addr.add_zero'] at hx200_2)
       replace p200 := eq_true p200
       replace q200 := eq_true q200
       try go_wp2_with (first | ((with_reducible refine gate_dst (N := 4) rfl ?_); refine bx 4 #[.string (⟨#[]⟩ : ByteArray), .string (⟨#[]⟩ : ByteArray), .int .i64 0] 68 ?_; intro gb201 hg w67 hbox hb; replace HO_200002 := Aside0.mk (Kd.Q_below (Kd.Q_elderB (qo HO_200002) gb201 (Nat.le_of_eq hg.symm)) hb); replace HO_200003 := Aside0.mk (Kd.R_below (Kd.R_elderB (ro HO_200003) gb201 (Nat.le_of_eq hg.symm)) hb); replace HO_200004 := rb HO_200004 hb; have BK201 := am hbox; have GW201 := Aside0.mk ((by rw [hg]; exact (by first | exact HK.out.1 | exact (show Kept w _ (fun k_ => (P0_2_ k_ ∨ P0_3_ k_ ∨ P0_4_ k_) ∨ k_ = gb199) from (kr HK)).1) : w.heap.size ≤ gb201)); replace HK := Aside0.mk (Kept.below (w := w) (S := (fun k_ => (P0_2_ k_ ∨ P0_3_ k_ ∨ P0_4_ k_) ∨ k_ = gb199)) (kr HK) hb); have GE201 := Aside0.mk ((by rw [hg]; exact (below_size (be1 HB GE199)) : w0.heap.size ≤ gb201)); replace HB := Aside0.mk (below_step (be1 HB GE199) hb); have NB199_201 := nl hg BK199; have NB201_199 := ng hg BK199; replace BK199 := bb BK199 hb; clear hb hbox hg; have hnb68 := NB201_199.out; have hnc68 := NB199_201.out; have hcz69_0 := bz3 BK201) | ((with_reducible refine gate_store (t := 68) (p := 4) rfl ?_); refine store_event (t := 68) (p := 4) (v := ?vo_w70) (w1 := (((w67.setCell ⟨gb201, 0, none⟩ (.string ((rd_T68 x200002_1 0).f0))).setCell ⟨gb201, 1, none⟩ (.string ((rd_T68 x200002_1 0).f1))).setCell ⟨gb201, 2, none⟩ (.int .i64 ((rd_T68 x200002_1 0).f2)))) ?hg ?ho ?hn ?hr ?_; (case ho => rfl); (case hg => rfl); (case hn => rfl); (case hr => first | (go_simp; done) | (go_simp; rfl)); intro w70 hw; have n0_ : Aside0 (Kd.Q k68 68 w70 w0.heap.size (fun k_ => ((P0_2_ k_ ∨ P0_3_ k_ ∨ P0_4_ k_) ∨ w.heap.size ≤ k_) ∧ some k_ ≠ (u200003 : Value).ownBlock ∧ k_ ≠ gb201) (.slice (some ad200) x200002_1.length co66) x200002_1) := ⟨(by rw [hw]; exact (qg gb201 HO_200002))⟩; have n1_ : Aside0 (Kd.R k68 68 w70 w0.heap.size (fun k_ => ((P0_2_ k_ ∨ P0_3_ k_ ∨ P0_4_ k_) ∨ w.heap.size ≤ k_) ∧ some k_ ≠ (.slice (some ad200) x200002_1.length co66 : Value).ownBlock ∧ k_ ≠ gb201) u200003 x200003_1) := ⟨(by rw [hw]; exact (rg gb201 HO_200003))⟩; have n2_ : Aside0 (Kd.R (Kd.int .i64) 3 w70 w0.heap.size (fun k_ => ((P0_2_ k_ ∨ P0_3_ k_ ∨ P0_4_ k_) ∨ w.heap.size ≤ k_)) u200004 x200004_1) := ⟨(by rw [hw]; exact (rf HO_200004 BK201))⟩; have n3_ : Aside0 (w70.heap[gb199]? = some (.cells #[.int .i64 a0_0, .int .i64 a0_1, .slice (some ad200) x200002_1.length co66, u200003, u200004] 30 (0, 0))) := ⟨(by rw [hw]; exact (bf1 BK199 NB199_201))⟩; have n4_ : Aside0 (w70.heap[gb201]? = some (.cells #[.string ((rd_T68 x200002_1 0).f0), .string ((rd_T68 x200002_1 0).f1), .int .i64 ((rd_T68 x200002_1 0).f2)] 68 (0, 0))) := ⟨(by rw [hw]; exact (bp BK201))⟩; have n5_ : Aside0 (Kept w w70 (fun k_ => (P0_2_ k_ ∨ P0_3_ k_ ∨ P0_4_ k_) ∨ k_ = gb199)) := ⟨(by rw [hw]; exact (kr1 HK GW201))⟩; have n6_ : Aside0 (Below w0.heap.size w0 w70) := ⟨(by rw [hw]; exact (be2 HB GE199 GE201))⟩; clear hw; clear HO_200002; clear HO_200003; clear HO_200004; clear BK199; clear BK201; clear HK; clear HB; have HO_200002 := n0_; have HO_200003 := n1_; have HO_200004 := n2_; have BK199 := n3_; have BK201 := n4_; have HK := n5_; have HB := n6_; clear n0_ n1_ n2_ n3_ n4_ n5_ n6_; have hcz71_0 := bz5 BK199; have q72 : (1 : Int) ≤ ((x200002_1.length : Int) : Int) := od; obtain ⟨i072, hi072, _, hsz72, _⟩ := info_parts info68; have hcut72 := cut_from (P := Try.prog) 28 68 .i64 Try.underlying28 hi072 3 hsz72 (some ad200) x200002_1.length co66 1 (by omega) q72; have hr72 := Kd.Q_drop (k := (1 : Int).toNat) HO_200002.out (by omega); obtain ⟨A72, hA72⟩ : ∃ A1, A1 = (if co66 = (1 : Int).toNat then (some ad200) else ((some ad200) : Option Addr).map (·.add ((1 : Int).toNat * 3))) := ⟨_, rfl⟩; obtain ⟨c72, hc72⟩ : ∃ c1, c1 = co66 - (1 : Int).toNat := ⟨_, rfl⟩; have hy72 : y202.length = x200002_1.length - (1 : Int).toNat := (by rw [Ny202.out, List.length_drop]); rw [← Ny202.out] at hr72; rw [← hy72, ← hA72, ← hc72] at hcut72; replace hr72 : Kd.Q k68 68 w70 w0.heap.size (fun k_ => ((P0_2_ k_ ∨ P0_3_ k_ ∨ P0_4_ k_) ∨ w.heap.size ≤ k_) ∧ some k_ ≠ (u200003 : Value).ownBlock ∧ k_ ≠ gb201) (.slice A72 y202.length c72) y202 := (by rw [hA72, hc72, hy72]; exact hr72); have HE72 : Aside0 ((Value.slice A72 y202.length c72).ownBlock = (.slice (some ad200) x200002_1.length co66 : Value).ownBlock) := ⟨by rw [hA72]; split <;> (cases ((some ad200) : Option Addr) <;> rfl)⟩; clear hy72 hi072 hsz72 HO_200002 hA72 hc72; have HO204 := Aside0.mk hr72; clear hr72; replace q72 := eq_true q72; have n_ := Aside0.mk (Kd.R_mono (ok' := fun k_ => ((((P0_2_ k_ ∨ P0_3_ k_ ∨ P0_4_ k_) ∨ w.heap.size ≤ k_)) ∧ (nb k_ A72 y202.length c72 ∧ k_ ≠ gb201))) HO_200003.out (fun k_ hk => ⟨hk.1, ⟨(fun e_ => hk.2.1 (e_.trans HE72.out)), hk.2.2⟩⟩)); clear HO_200003; have HO_200003 := n_; clear n_; have hcz73_0 := bz3 BK201) | ((with_reducible refine gate_callee (f := 51) rfl ?_); refine gl 42 Try.func51 #[.string ((rd_T68 x200002_1 0).f0)] ?_; (with_reducible refine (impl_Hash.calls k1 ((rd_T68 x200002_1 0).f0) t211 _ A28.out).mono ?_); rintro e w' ⟨rfl, ⟨nd, rfl⟩⟩; refine ⟨_, rfl, ?_⟩) | ((with_reducible refine gate_dst (N := 5) rfl ?_); refine bx 5 #[.int .i64 0] 3 ?_; intro gb212 hg w74 hbox hb; replace HO204 := Aside0.mk (Kd.Q_below (qf HO204 BK199) hb); replace HO_200003 := Aside0.mk (Kd.R_below (rf HO_200003 BK199) hb); replace HO_200004 := Aside0.mk (Kd.R_below (Kd.R_elderB (rf HO_200004 BK199) gb212 (Nat.le_of_eq hg.symm)) hb); have BK212 := am hbox; have GW212 := Aside0.mk ((by rw [hg]; exact (show Kept w _ (fun k_ => (P0_2_ k_ ∨ P0_3_ k_ ∨ P0_4_ k_) ∨ k_ = gb199) from (kr1 HK GW201)).1 : w.heap.size ≤ gb212)); replace HK := Aside0.mk (Kept.below (w := w) (S := (fun k_ => (P0_2_ k_ ∨ P0_3_ k_ ∨ P0_4_ k_) ∨ k_ = gb199)) (kr1 HK GW201) hb); have GE212 := Aside0.mk ((by rw [hg]; exact (below_size (be2 HB GE199 GE201)) : w0.heap.size ≤ gb212)); replace HB := Aside0.mk (below_step (be2 HB GE199 GE201) hb); have NB199_212 := Aside0.mk ((by rw [hg]; exact Nat.ne_of_lt (blk_lt (g := gb199) (o := .cells #[.int .i64 a0_0, .int .i64 a0_1, .slice A72 y202.length c72, u200003, u200004] 30 (0, 0)) (bp BK199)) : gb199 ≠ gb212)); have NB212_199 := Aside0.mk ((by rw [hg]; exact Nat.ne_of_gt (blk_lt (g := gb199) (o := .cells #[.int .i64 a0_0, .int .i64 a0_1, .slice A72 y202.length c72, u200003, u200004] 30 (0, 0)) (bp BK199)) : gb212 ≠ gb199)); replace BK199 := Aside0.mk (blk_below (g := gb199) (o := .cells #[.int .i64 a0_0, .int .i64 a0_1, .slice A72 y202.length c72, u200003, u200004] 30 (0, 0)) (bp BK199) hb); have NB201_212 := Aside0.mk ((by rw [hg]; exact Nat.ne_of_lt (blk_lt (g := gb201) (o := .cells #[.string ((rd_T68 x200002_1 0).f0), .string ((rd_T68 x200002_1 0).f1), .int .i64 ((rd_T68 x200002_1 0).f2)] 68 (0, 0)) (bf1 BK201 NB201_199)) : gb201 ≠ gb212)); have NB212_201 := Aside0.mk ((by rw [hg]; exact Nat.ne_of_gt (blk_lt (g := gb201) (o := .cells #[.string ((rd_T68 x200002_1 0).f0), .string ((rd_T68 x200002_1 0).f1), .int .i64 ((rd_T68 x200002_1 0).f2)] 68 (0, 0)) (bf1 BK201 NB201_199)) : gb212 ≠ gb201)); replace BK201 := Aside0.mk (blk_below (g := gb201) (o := .cells #[.string ((rd_T68 x200002_1 0).f0), .string ((rd_T68 x200002_1 0).f1), .int .i64 ((rd_T68 x200002_1 0).f2)] 68 (0, 0)) (bf1 BK201 NB201_199) hb); clear hb hbox hg; have hnb75 := NB212_199.out; have hnc75 := NB199_212.out; have hnb76 := NB212_201.out; have hnc76 := NB201_212.out; have hcz77_0 := bz1 BK212; obtain ⟨Ao78, co78, eo78⟩ := Kd.R_slice HO_200004.out; subst eo78))
       have n0_ : Aside0 (Kd.Q k68 68 (w74.setCell ⟨gb212, 0, none⟩ (.int .i64 t211)) w0.heap.size (fun k_ => ((P0_2_ k_ ∨ P0_3_ k_ ∨ P0_4_ k_) ∨ w.heap.size ≤ k_) ∧ some k_ ≠ (u200003 : Value).ownBlock ∧ k_ ≠ gb201) (.slice A72 y202.length c72) y202) := ⟨(qf HO204 BK212)⟩
       have n1_ : Aside0 (Kd.R k68 68 (w74.setCell ⟨gb212, 0, none⟩ (.int .i64 t211)) w0.heap.size (fun k_ => ((P0_2_ k_ ∨ P0_3_ k_ ∨ P0_4_ k_) ∨ w.heap.size ≤ k_) ∧ nb k_ A72 y202.length c72 ∧ k_ ≠ gb201) u200003 x200003_1) := ⟨(rf HO_200003 BK212)⟩
       have n2_ : Aside0 (Kd.R (Kd.int .i64) 3 (w74.setCell ⟨gb212, 0, none⟩ (.int .i64 t211)) w0.heap.size (fun k_ => ((P0_2_ k_ ∨ P0_3_ k_ ∨ P0_4_ k_) ∨ w.heap.size ≤ k_) ∧ k_ ≠ gb212) (.slice Ao78 x200004_1.length co78) x200004_1) := ⟨(rgs gb212 HO_200004)⟩
       have n3_ : Aside0 ((w74.setCell ⟨gb212, 0, none⟩ (.int .i64 t211)).heap[gb199]? = some (.cells #[.int .i64 a0_0, .int .i64 a0_1, .slice A72 y202.length c72, u200003, .slice Ao78 x200004_1.length co78] 30 (0, 0))) := ⟨(bp1 BK199 NB199_212)⟩
       have n4_ : Aside0 ((w74.setCell ⟨gb212, 0, none⟩ (.int .i64 t211)).heap[gb201]? = some (.cells #[.string ((rd_T68 x200002_1 0).f0), .string ((rd_T68 x200002_1 0).f1), .int .i64 ((rd_T68 x200002_1 0).f2)] 68 (0, 0))) := ⟨(bp1 BK201 NB201_212)⟩
       have n5_ : Aside0 ((w74.setCell ⟨gb212, 0, none⟩ (.int .i64 t211)).heap[gb212]? = some (.cells #[.int .i64 t211] 3 (0, 0))) := ⟨(bp BK212)⟩
       have n6_ : Aside0 (Kept w (w74.setCell ⟨gb212, 0, none⟩ (.int .i64 t211)) (fun k_ => (P0_2_ k_ ∨ P0_3_ k_ ∨ P0_4_ k_) ∨ k_ = gb199)) := ⟨(kr2 HK GW201 GW212)⟩
       have n7_ : Aside0 (Below w0.heap.size w0 (w74.setCell ⟨gb212, 0, none⟩ (.int .i64 t211))) := ⟨be3 HB GE199 GE201 GE212⟩
       (try clear HO204)
       (try clear HO_200003)
       (try clear HO_200004)
       (try clear BK199)
       (try clear BK201)
       (try clear BK212)
       (try clear HK)
       (try clear HB)
       generalize (w74.setCell ⟨gb212, 0, none⟩ (.int .i64 t211)) = w79 at n0_ n1_ n2_ n3_ n4_ n5_ n6_ n7_ ⊢
       have HO204 := n0_
       have HO_200003 := n1_
       have HO_200004 := n2_
       have BK199 := n3_
       have BK201 := n4_
       have BK212 := n5_
       have HK := n6_
       have HB := n7_
       clear n0_ n1_ n2_ n3_ n4_ n5_ n6_ n7_
       have n0_ := Aside0.mk (Kd.Q_drew HO204.out)
       have n1_ := Aside0.mk (Kd.R_drew HO_200003.out)
       have n2_ := Aside0.mk (Kd.R_drew HO_200004.out)
       have n3_ := Aside0.mk (blk_drew BK199.out)
       have n4_ := Aside0.mk (blk_drew BK201.out)
       have n5_ := Aside0.mk (blk_drew BK212.out)
       have n6_ := Aside0.mk (Kept.drew HK.out)
       have n7_ := Aside0.mk (below_drew1 HB.out)
       clear HO204
       clear HO_200003
       clear HO_200004
       clear BK199
       clear BK201
       clear BK212
       clear HK
       clear HB
       have HO204 := n0_
       have HO_200003 := n1_
       have HO_200004 := n2_
       have BK199 := n3_
       have BK201 := n4_
       have BK212 := n5_
       have HK := n6_
       have HB := n7_
       clear n0_ n1_ n2_ n3_ n4_ n5_ n6_ n7_
       refine start_ (n := 13) (S := fun w' => w'.cell? ⟨gb199, 0, none⟩ = some (.int .i64 a0_0) ∧ w'.cell? ⟨gb199, 1, none⟩ = some (.int .i64 a0_1) ∧ w'.cell? ⟨gb199, 2, none⟩ = some (.slice A72 y202.length c72) ∧ w'.cell? ⟨gb199, 3, none⟩ = some (u200003) ∧ w'.cell? ⟨gb199, 4, none⟩ = some (.slice Ao78 x200004_1.length co78) ∧ w'.cell? ⟨gb212, 0, none⟩ = some (.int .i64 t211)) (ds := [12]) (bv 13 0x0) (by kernel_rfl) rfl rfl ⟨bc0 BK199, bc1 BK199, bc2 BK199, bc3 BK199, bc4 BK199, bc0 BK212⟩ (fun hHeld => ?_); refine with_tabW impl_Three_evictSmall.tab8 impl_Three_evictSmall.bits8 (fun HT_ HW_ => ?_)
       generalize w79.drew = w80 at HO204 HO_200003 HO_200004 BK199 BK201 BK212 HK HB hHeld ⊢
       refine py HT_ 0 43 (bv 13 0x1) ?_
       refine py HT_ 1 44 (bv 13 0x3) ?_
       refine py HT_ 2 45 (bv 13 0x7) ?_
       refine py HT_ 3 46 (bv 13 0xf) ?_
       refine tk HT_ HW_ hHeld 4 47 (bv 13 0x1f) ?_
       refine py HT_ 5 48 (bv 13 0x3f) ?_
       refine tk HT_ HW_ hHeld 7 50 (bv 13 0xbf) ?_
       refine join_ (σ := Value × Value) 4 (bv 13 0x1ff) (fun s_ => [(49, s_.1), (51, s_.2)]) (fun s_ w' => (w'.cell? ⟨gb199, 0, none⟩ = some (.int .i64 a0_0) ∧ w'.cell? ⟨gb199, 1, none⟩ = some (.int .i64 a0_1) ∧ w'.cell? ⟨gb199, 2, none⟩ = some (.slice A72 y202.length c72) ∧ w'.cell? ⟨gb199, 3, none⟩ = some (u200003) ∧ w'.cell? ⟨gb199, 4, none⟩ = some (.slice Ao78 x200004_1.length co78) ∧ w'.cell? ⟨gb212, 0, none⟩ = some (.int .i64 t211)) ∧ (Kd.Q k68 68 w' w0.heap.size (fun k_ => ((P0_2_ k_ ∨ P0_3_ k_ ∨ P0_4_ k_) ∨ w.heap.size ≤ k_) ∧ some k_ ≠ (u200003 : Value).ownBlock ∧ k_ ≠ gb201) (.slice A72 y202.length c72) y202) ∧ (Kd.R (Kd.int .i64) 3 w' w0.heap.size (fun k_ => ((P0_2_ k_ ∨ P0_3_ k_ ∨ P0_4_ k_) ∨ w.heap.size ≤ k_) ∧ some k_ ≠ (s_.2 : Value).ownBlock ∧ k_ ≠ gb212) s_.1 t213) ∧ (Kd.R (Kd.int .i64) 3 w' w0.heap.size (fun k_ => ((P0_2_ k_ ∨ P0_3_ k_ ∨ P0_4_ k_) ∨ w.heap.size ≤ k_) ∧ some k_ ≠ (s_.1 : Value).ownBlock ∧ k_ ≠ gb212) s_.2 y216) ∧ (Kd.R k68 68 w' w0.heap.size (fun k_ => ((P0_2_ k_ ∨ P0_3_ k_ ∨ P0_4_ k_) ∨ w.heap.size ≤ k_) ∧ nb k_ A72 y202.length c72 ∧ k_ ≠ gb201) u200003 x200003_1) ∧ (w'.heap[gb199]? = some (.cells #[.int .i64 a0_0, .int .i64 a0_1, .slice A72 y202.length c72, u200003, .slice Ao78 x200004_1.length co78] 30 (0, 0))) ∧ (w'.heap[gb201]? = some (.cells #[.string ((rd_T68 x200002_1 0).f0), .string ((rd_T68 x200002_1 0).f1), .int .i64 ((rd_T68 x200002_1 0).f2)] 68 (0, 0))) ∧ (w'.heap[gb212]? = some (.cells #[.int .i64 t211] 3 (0, 0))) ∧ (Kept w w' (fun k_ => (P0_2_ k_ ∨ P0_3_ k_ ∨ P0_4_ k_) ∨ k_ = gb199)) ∧ (Below w0.heap.size w0 w')) ?_ ?_
       rotate_left
       ·intro hCont
        refine two_ (i := 6) (j := 8) (Ni := some 49) (Nj := some 51) (bv 13 0xff) (bv 13 0x1bf) rfl rfl rfl rfl (two_of HT_.out (by kernel_rfl)) (by decide) (by decide) (fun K hK => ?_) (fun K hK => ?_)
        ·skip
         refine goes_ Try.func98 (by kernel_rfl) rfl #[.slice Ao78 x200004_1.length co78, .func (.func 118) #[] #[.pointer (some ⟨gb212, 0, none⟩)]] (by rfl) rfl rfl ml ?_
         with_reducible refine (slices_DeleteFunc_int_int.calls (fun k_ => some k_ = (.slice Ao78 x200004_1.length co78 : Value).ownBlock) (.slice Ao78 x200004_1.length co78) x200004_1 t211 gb212 t213 w0 _ ?sideP ?sideN ?side1 ?side2 A29.out).mono ?_
         (case sideP => exact bk BK212)
         (case sideN => exact fun k_ hk_ e_ => (Kd.R_away (g := gb212) HO_200004.out (fun _ hk => hk.2)) (by rw [hk_, e_]))
         (case side1 => repeat (first | (with_reducible first | exact HB.out | apply below_alloc | apply pw_below_drewN | apply below_drew1 | refine below_set ?_ GE199.out | refine below_set ?_ GE201.out | refine below_set ?_ GE212.out) | exact HB.out))
         (case side2 => exact Kd.R_tight rfl HO_200004.out)
         rintro e w81 ⟨v214, rfl, ho0, hb, hkp⟩
         refine ⟨_, rfl, ?_⟩
         have n0_ := Aside0.mk (Kd.Q_mono (ok' := fun k_ => ((P0_2_ k_ ∨ P0_3_ k_ ∨ P0_4_ k_) ∨ w.heap.size ≤ k_) ∧ some k_ ≠ (u200003 : Value).ownBlock ∧ k_ ≠ gb201) (Kd.Q_keptB ((Kd.Q_apart' HO204.out (Kd.R_typed HO_200004.out) (by decide))) hkp ch) cj)
         have n1_ := Aside0.mk (Kd.R_mono (ok' := fun k_ => ((P0_2_ k_ ∨ P0_3_ k_ ∨ P0_4_ k_) ∨ w.heap.size ≤ k_) ∧ nb k_ A72 y202.length c72 ∧ k_ ≠ gb201) (Kd.R_keptB ((Kd.R_apart' HO_200003.out (Kd.R_typed HO_200004.out) (by decide))) hkp ch) cj)
         have n2_ := Aside0.mk (blk_kept (bk BK199) hkp (fun hs_ => (fun e_ => (Kd.R_ne HO_200004.out BK199.out (by decide)) e_) hs_))
         have n3_ := Aside0.mk (blk_kept (bk BK201) hkp (fun hs_ => (fun e_ => (Kd.R_ne HO_200004.out BK201.out (by decide)) e_) hs_))
         have n4_ := Aside0.mk (blk_kept (bk BK212) hkp (fun hs_ => (fun e_ => (Kd.R_away HO_200004.out (fun _ hk => hk.2)) e_) hs_))
         have n5_ := Aside0.mk (Kd.R_mono (ok' := fun k_ => ((P0_2_ k_ ∨ P0_3_ k_ ∨ P0_4_ k_) ∨ w.heap.size ≤ k_) ∧ k_ ≠ gb212) ho0 (fun k_ hk_ => ⟨Or.elim hk_ (fun hs_ => (HO_200004.out.1 k_ (hs_).symm).1) (fun hn_ => (.inr (Nat.le_trans (by first | exact HK.out.1 | exact (show Kept w _ (fun k_ => (P0_2_ k_ ∨ P0_3_ k_ ∨ P0_4_ k_) ∨ k_ = gb199) from (kr2 HK GW201 GW212)).1) hn_))), Or.elim hk_ (fun hs_ => fun e_ => (Kd.R_away HO_200004.out (fun _ hk => hk.2)) (by rw [← e_]; exact hs_)) (fun hn_ => (Kd.freshB (g := gb212) (o := .cells #[.int .i64 t211] 3 (0, 0)) (bk BK212) k_ hn_))⟩))
         have n6_ := Aside0.mk (Kept.then_ (S := (fun k_ => (P0_2_ k_ ∨ P0_3_ k_ ∨ P0_4_ k_) ∨ k_ = gb199)) (kr2 HK GW201 GW212) hkp (fun k_ hs_ => Or.imp_left Or.inl ((fun e_ => (HO_200004.out.1 k_ e_.symm).1) hs_)))
         have n7_ := Aside0.mk (hb)
         clear HO204
         clear HO_200003
         clear BK199
         clear BK201
         clear BK212
         clear HK
         clear HB
         clear HO_200004
         have HO204 := n0_
         have HO_200003 := n1_
         have BK199 := n2_
         have BK201 := n3_
         have BK212 := n4_
         have HO215 := n5_
         have HK := n6_
         have HB := n7_
         clear n0_ n1_ n2_ n3_ n4_ n5_ n6_ n7_
         (try clear hb)
         (try clear hkp)
         (try clear ho0)
         refine hK.out _ _ ⟨bc0 BK199, bc1 BK199, bc2 BK199, bc3 BK199, bc4 BK199, bc0 BK212⟩ (fun hHeld => ?_)
         clear hK K
         refine norm_ (a' := ?_) ?_ ?_
         rotate_left
         ·show Act.put _ (some 49) _ = _
          simp only [aP]
          rfl
         refine one_ (i := 8) (N := some 51) (bv 13 0x1ff) rfl rfl (one_of HT_.out (by kernel_rfl)) (by decide) (fun K hK => ?_)
         refine Kd.R_lit_step (Kd.int .i64) _ 3 ?hg (N := 51) ?hd (xs := ([t211] : List Int)) (inner := [.int .i64 t211]) (ok := fun _ => True) (okp := fun _ => True) ?hr ?hp (fun _ hk => hk) trivial (Below.refl _ _) (Nat.le_refl _) (by simp) ?_; (case hd => rfl); (case hg => rfl); (case hr => first | (go_simp; done) | (go_simp; rfl)); (case hp => exact (Reps.one (show Kd.M (Kd.int .i64) _ _ _ t211 [.int .i64 t211] from rfl) (Reps.none _ _)))
         intro v217 w82 ho83 hb hg_ hnew_
         clear hg_ hnew_
         (first | rw [← Ny216.out] at ho83 | (simp only [Int.reduceToNat] at ho83; rw [← Ny216.out] at ho83))
         have n0_ := Aside0.mk (Kd.Q_below (qo HO204) hb)
         have n1_ := rb HO_200003 hb
         have n2_ := Aside0.mk (Kd.R_elder' (ro HO215) (Kd.R_base ho83) hb)
         have n3_ := Aside0.mk (Kd.R_lower (Kd.R_newB (nw (Kd.R_newM (M := fun k_ => ((P0_2_ k_ ∨ P0_3_ k_ ∨ P0_4_ k_) ∨ w.heap.size ≤ k_)) ho83 (by first | exact HK.out.1 | exact (show Kept w _ (fun k_ => (P0_2_ k_ ∨ P0_3_ k_ ∨ P0_4_ k_) ∨ k_ = gb199) from (kr2 HK GW201 GW212)).1) (fun k_ h_ => .inr h_)) HO215) (g := gb212) (o := .cells #[.int .i64 t211] 3 (0, 0)) (bk BK212)) (below_size (be3 HB GE199 GE201 GE212)))
         have n4_ := bb BK199 hb
         have n5_ := bb BK201 hb
         have n6_ := bb BK212 hb
         have n7_ := Aside0.mk (Kept.below (w := w) (S := (fun k_ => (P0_2_ k_ ∨ P0_3_ k_ ∨ P0_4_ k_) ∨ k_ = gb199)) (kr2 HK GW201 GW212) hb)
         have n8_ := Aside0.mk (below_step (be3 HB GE199 GE201 GE212) hb)
         clear HO204
         clear HO_200003
         clear HO215
         clear BK199
         clear BK201
         clear BK212
         clear HK
         clear HB
         have HO204 := n0_
         have HO_200003 := n1_
         have HO215 := n2_
         have HO218 := n3_
         have BK199 := n4_
         have BK201 := n5_
         have BK212 := n6_
         have HK := n7_
         have HB := n8_
         clear n0_ n1_ n2_ n3_ n4_ n5_ n6_ n7_ n8_
         clear hb ho83
         refine hK.out _ _ ⟨bc0 BK199, bc1 BK199, bc2 BK199, bc3 BK199, bc4 BK199, bc0 BK212⟩ (fun hHeld => ?_)
         clear hK K
         refine norm_ (a' := ?_) ?_ ?_
         rotate_left
         ·show Act.put _ (some 51) _ = _
          simp only [aP]
          rfl
         exact norm_ (by simp only [putAll, Act.put, List.setIfInBounds_toArray, List.set_cons_zero, List.set_cons_succ]) (hCont (v214, v217) _ ⟨hHeld, (qo HO204), (by (with_reducible repeat (first | apply Kd.R_alloc | apply Kd.R_drewN | apply Kd.R_drew)); exact rm HO215), (by (with_reducible repeat (first | apply Kd.R_alloc | apply Kd.R_drewN | apply Kd.R_drew)); exact rm HO218), (ro HO_200003), (bk BK199), (bk BK201), (bk BK212), (kr2 HK GW201 GW212), (be3 HB GE199 GE201 GE212)⟩)
        skip
        refine Kd.R_lit_step (Kd.int .i64) _ 3 ?hg (N := 51) ?hd (xs := ([t211] : List Int)) (inner := [.int .i64 t211]) (ok := fun _ => True) (okp := fun _ => True) ?hr ?hp (fun _ hk => hk) trivial (Below.refl _ _) (Nat.le_refl _) (by simp) ?_; (case hd => rfl); (case hg => rfl); (case hr => first | (go_simp; done) | (go_simp; rfl)); (case hp => exact (Reps.one (show Kd.M (Kd.int .i64) _ _ _ t211 [.int .i64 t211] from rfl) (Reps.none _ _)))
        intro v217 w81 ho82 hb hg_ hnew_
        clear hg_ hnew_
        (first | rw [← Ny216.out] at ho82 | (simp only [Int.reduceToNat] at ho82; rw [← Ny216.out] at ho82))
        have n0_ := Aside0.mk (Kd.Q_below (qo HO204) hb)
        have n1_ := rb HO_200003 hb
        have n2_ := Aside0.mk (Kd.R_elder' (ro HO_200004) (Kd.R_base ho82) hb)
        have n3_ := Aside0.mk (Kd.R_lower (Kd.R_newB (nw (Kd.R_newM (M := fun k_ => ((P0_2_ k_ ∨ P0_3_ k_ ∨ P0_4_ k_) ∨ w.heap.size ≤ k_)) ho82 (by first | exact HK.out.1 | exact (show Kept w _ (fun k_ => (P0_2_ k_ ∨ P0_3_ k_ ∨ P0_4_ k_) ∨ k_ = gb199) from (kr2 HK GW201 GW212)).1) (fun k_ h_ => .inr h_)) HO_200004) (g := gb212) (o := .cells #[.int .i64 t211] 3 (0, 0)) (bk BK212)) (below_size (be3 HB GE199 GE201 GE212)))
        have n4_ := bb BK199 hb
        have n5_ := bb BK201 hb
        have n6_ := bb BK212 hb
        have n7_ := Aside0.mk (Kept.below (w := w) (S := (fun k_ => (P0_2_ k_ ∨ P0_3_ k_ ∨ P0_4_ k_) ∨ k_ = gb199)) (kr2 HK GW201 GW212) hb)
        have n8_ := Aside0.mk (below_step (be3 HB GE199 GE201 GE212) hb)
        clear HO204
        clear HO_200003
        clear HO_200004
        clear BK199
        clear BK201
        clear BK212
        clear HK
        clear HB
        have HO204 := n0_
        have HO_200003 := n1_
        have HO_200004 := n2_
        have HO218 := n3_
        have BK199 := n4_
        have BK201 := n5_
        have BK212 := n6_
        have HK := n7_
        have HB := n8_
        clear n0_ n1_ n2_ n3_ n4_ n5_ n6_ n7_ n8_
        clear hb ho82
        refine hK.out _ _ ⟨bc0 BK199, bc1 BK199, bc2 BK199, bc3 BK199, bc4 BK199, bc0 BK212⟩ (fun hHeld => ?_)
        clear hK K
        refine norm_ (a' := ?_) ?_ ?_
        rotate_left
        ·show Act.put _ (some 51) _ = _
         simp only [aP]
         rfl
        refine one_ (i := 6) (N := some 49) (bv 13 0x1ff) rfl rfl (one_of HT_.out (by kernel_rfl)) (by decide) (fun K hK => ?_)
        refine goes_ Try.func98 (by kernel_rfl) rfl #[.slice Ao78 x200004_1.length co78, .func (.func 118) #[] #[.pointer (some ⟨gb212, 0, none⟩)]] (by rfl) rfl rfl ml ?_
        with_reducible refine (slices_DeleteFunc_int_int.calls (fun k_ => some k_ = (.slice Ao78 x200004_1.length co78 : Value).ownBlock) (.slice Ao78 x200004_1.length co78) x200004_1 t211 gb212 t213 w0 _ ?sideP ?sideN ?side1 ?side2 A29.out).mono ?_
        (case sideP => exact bk BK212)
        (case sideN => exact fun k_ hk_ e_ => (Kd.R_away (g := gb212) HO_200004.out (fun _ hk => hk.1.2)) (by rw [hk_, e_]))
        (case side1 => repeat (first | (with_reducible first | exact HB.out | apply below_alloc | apply pw_below_drewN | apply below_drew1 | refine below_set ?_ GE199.out | refine below_set ?_ GE201.out | refine below_set ?_ GE212.out) | exact HB.out))
        (case side2 => exact Kd.R_tight rfl HO_200004.out)
        rintro e w83 ⟨v214, rfl, ho0, hb, hkp⟩
        refine ⟨_, rfl, ?_⟩
        have n0_ := Aside0.mk (Kd.Q_mono (ok' := fun k_ => ((P0_2_ k_ ∨ P0_3_ k_ ∨ P0_4_ k_) ∨ w.heap.size ≤ k_) ∧ some k_ ≠ (u200003 : Value).ownBlock ∧ k_ ≠ gb201) (Kd.Q_keptB ((Kd.Q_apart' HO204.out (Kd.R_typed HO_200004.out) (by decide))) hkp ch) cj)
        have n1_ := Aside0.mk (Kd.R_mono (ok' := fun k_ => ((P0_2_ k_ ∨ P0_3_ k_ ∨ P0_4_ k_) ∨ w.heap.size ≤ k_) ∧ nb k_ A72 y202.length c72 ∧ k_ ≠ gb201) (Kd.R_keptB ((Kd.R_apart' HO_200003.out (Kd.R_typed HO_200004.out) (by decide))) hkp ch) cj)
        have n2_ := Aside0.mk (blk_kept (bk BK199) hkp (fun hs_ => (fun e_ => (Kd.R_ne HO_200004.out BK199.out (by decide)) e_) hs_))
        have n3_ := Aside0.mk (blk_kept (bk BK201) hkp (fun hs_ => (fun e_ => (Kd.R_ne HO_200004.out BK201.out (by decide)) e_) hs_))
        have n4_ := Aside0.mk (blk_kept (bk BK212) hkp (fun hs_ => (fun e_ => (Kd.R_away HO_200004.out (fun _ hk => hk.1.2)) e_) hs_))
        have n5_ := Aside0.mk (Kd.R_mono (ok' := fun k_ => ((P0_2_ k_ ∨ P0_3_ k_ ∨ P0_4_ k_) ∨ w.heap.size ≤ k_) ∧ k_ ≠ gb212 ∧ some k_ ≠ (v214 : Value).ownBlock) (Kd.R_keptB (HO218.out) hkp ch) (fun k_ hk_ => ⟨hk_.1.1.1.1, hk_.1.2, fun e_ => Or.elim (ho0.1 k_ e_.symm) (fun hs_ => hk_.2.1 hs_) (fun hn_ => Nat.not_le.2 hk_.2.2 hn_)⟩))
        have n6_ := Aside0.mk (Kd.R_mono (ok' := fun k_ => ((P0_2_ k_ ∨ P0_3_ k_ ∨ P0_4_ k_) ∨ w.heap.size ≤ k_) ∧ some k_ ≠ (v217 : Value).ownBlock ∧ k_ ≠ gb212) ho0 (fun k_ hk_ => ⟨Or.elim hk_ (fun hs_ => (HO_200004.out.1 k_ (hs_).symm).1.1) (fun hn_ => (.inr (Nat.le_trans (by first | exact HK.out.1 | exact (show Kept w _ (fun k_ => (P0_2_ k_ ∨ P0_3_ k_ ∨ P0_4_ k_) ∨ k_ = gb199) from (kr2 HK GW201 GW212)).1) hn_))), Or.elim hk_ (fun hs_ => fun e_ => (((HO218.out).1 k_ e_.symm).1.2) hs_) (fun hn_ => (Kd.fresh' (Kd.R_lt (ro HO218)) k_ hn_)), Or.elim hk_ (fun hs_ => fun e_ => (Kd.R_away HO_200004.out (fun _ hk => hk.1.2)) (by rw [← e_]; exact hs_)) (fun hn_ => (Kd.freshB (g := gb212) (o := .cells #[.int .i64 t211] 3 (0, 0)) (bk BK212) k_ hn_))⟩))
        have n7_ := Aside0.mk (Kept.then_ (S := (fun k_ => (P0_2_ k_ ∨ P0_3_ k_ ∨ P0_4_ k_) ∨ k_ = gb199)) (kr2 HK GW201 GW212) hkp (fun k_ hs_ => Or.imp_left Or.inl ((fun e_ => (HO_200004.out.1 k_ e_.symm).1.1) hs_)))
        have n8_ := Aside0.mk (hb)
        clear HO204
        clear HO_200003
        clear BK199
        clear BK201
        clear BK212
        clear HO218
        clear HK
        clear HB
        clear HO_200004
        have HO204 := n0_
        have HO_200003 := n1_
        have BK199 := n2_
        have BK201 := n3_
        have BK212 := n4_
        have HO218 := n5_
        have HO215 := n6_
        have HK := n7_
        have HB := n8_
        clear n0_ n1_ n2_ n3_ n4_ n5_ n6_ n7_ n8_
        (try clear hb)
        (try clear hkp)
        (try clear ho0)
        refine hK.out _ _ ⟨bc0 BK199, bc1 BK199, bc2 BK199, bc3 BK199, bc4 BK199, bc0 BK212⟩ (fun hHeld => ?_)
        clear hK K
        refine norm_ (a' := ?_) ?_ ?_
        rotate_left
        ·show Act.put _ (some 49) _ = _
         simp only [aP]
         rfl
        exact norm_ (by simp only [putAll, Act.put, List.setIfInBounds_toArray, List.set_cons_zero, List.set_cons_succ]) (hCont (v214, v217) _ ⟨hHeld, (qo HO204), (ro HO215), (by (with_reducible repeat (first | apply Kd.R_alloc | apply Kd.R_drewN | apply Kd.R_drew)); exact rm HO218), (ro HO_200003), (bk BK199), (bk BK201), (bk BK212), (kr2 HK GW201 GW212), (be3 HB GE199 GE201 GE212)⟩)
       rintro ⟨v214, v217⟩ w84 ⟨hS_, h0_, h1_, h2_, h3_, h4_, h5_, h6_, h7_, h8_⟩
       have n0_ : Aside0 (Kd.Q k68 68 w84 w0.heap.size (fun k_ => ((P0_2_ k_ ∨ P0_3_ k_ ∨ P0_4_ k_) ∨ w.heap.size ≤ k_) ∧ some k_ ≠ (u200003 : Value).ownBlock ∧ k_ ≠ gb201) (.slice A72 y202.length c72) y202) := ⟨h0_⟩
       have n1_ : Aside0 (Kd.R (Kd.int .i64) 3 w84 w0.heap.size (fun k_ => ((P0_2_ k_ ∨ P0_3_ k_ ∨ P0_4_ k_) ∨ w.heap.size ≤ k_) ∧ some k_ ≠ (v217 : Value).ownBlock ∧ k_ ≠ gb212) v214 t213) := ⟨h1_⟩
       have n2_ : Aside0 (Kd.R (Kd.int .i64) 3 w84 w0.heap.size (fun k_ => ((P0_2_ k_ ∨ P0_3_ k_ ∨ P0_4_ k_) ∨ w.heap.size ≤ k_) ∧ some k_ ≠ (v214 : Value).ownBlock ∧ k_ ≠ gb212) v217 y216) := ⟨h2_⟩
       have n3_ : Aside0 (Kd.R k68 68 w84 w0.heap.size (fun k_ => ((P0_2_ k_ ∨ P0_3_ k_ ∨ P0_4_ k_) ∨ w.heap.size ≤ k_) ∧ nb k_ A72 y202.length c72 ∧ k_ ≠ gb201) u200003 x200003_1) := ⟨h3_⟩
       have n4_ : Aside0 (w84.heap[gb199]? = some (.cells #[.int .i64 a0_0, .int .i64 a0_1, .slice A72 y202.length c72, u200003, .slice Ao78 x200004_1.length co78] 30 (0, 0))) := ⟨h4_⟩
       have n5_ : Aside0 (w84.heap[gb201]? = some (.cells #[.string ((rd_T68 x200002_1 0).f0), .string ((rd_T68 x200002_1 0).f1), .int .i64 ((rd_T68 x200002_1 0).f2)] 68 (0, 0))) := ⟨h5_⟩
       have n6_ : Aside0 (w84.heap[gb212]? = some (.cells #[.int .i64 t211] 3 (0, 0))) := ⟨h6_⟩
       have n7_ : Aside0 (Kept w w84 (fun k_ => (P0_2_ k_ ∨ P0_3_ k_ ∨ P0_4_ k_) ∨ k_ = gb199)) := ⟨h7_⟩
       have n8_ : Aside0 (Below w0.heap.size w0 w84) := ⟨h8_⟩
       clear HO204
       clear HO_200003
       clear HO_200004
       clear BK199
       clear BK201
       clear BK212
       clear HK
       clear HB
       clear h0_ h1_ h2_ h3_ h4_ h5_ h6_ h7_ h8_
       have HO204 := n0_
       have HO215 := n1_
       have HO218 := n2_
       have HO_200003 := n3_
       have BK199 := n4_
       have BK201 := n5_
       have BK212 := n6_
       have HK := n7_
       have HB := n8_
       clear n0_ n1_ n2_ n3_ n4_ n5_ n6_ n7_ n8_
       have hHeld : w84.cell? ⟨gb199, 0, none⟩ = some (.int .i64 a0_0) ∧ w84.cell? ⟨gb199, 1, none⟩ = some (.int .i64 a0_1) ∧ w84.cell? ⟨gb199, 2, none⟩ = some (.slice A72 y202.length c72) ∧ w84.cell? ⟨gb199, 3, none⟩ = some (u200003) ∧ w84.cell? ⟨gb199, 4, none⟩ = some (.slice Ao78 x200004_1.length co78) ∧ w84.cell? ⟨gb212, 0, none⟩ = some (.int .i64 t211) := hS_
       obtain ⟨Ao86, co86, eo86⟩ := Kd.R_slice HO218.out
       (first | subst eo86 | (injection eo86 with f1_ f2_ f3_; have f4_ := f1_.symm; have f5_ := f3_.symm; clear f1_ f2_ f3_; subst f4_; subst f5_))
       refine norm_ (a' := ?_) ?_ ?_
       rotate_left
       ·simp only [putAll, Act.put, List.setIfInBounds_toArray, List.set_cons_zero, List.set_cons_succ]
        rfl
       refine one_ (i := 9) (N := some 52) (bv 13 0x3ff) rfl rfl (one_of HT_.out (by kernel_rfl)) (by decide) (fun K hK => ?_)
       refine Kd.R_append_rows_step (Kd.int .i64) (w0 := w0) w0.heap.size (by rfl) (.tmp 49) (.tmp 51) 23 3 (.int .i64 0) 8 rfl Try.underlying23 info3 rfl (by decide) (by omega) v214 t213 y216 _ _ _ (fun k_ => ((P0_2_ k_ ∨ P0_3_ k_ ∨ P0_4_ k_) ∨ w.heap.size ≤ k_) ∧ nb k_ Ao86 y216.length co86 ∧ k_ ≠ gb212) (fun _ => False) rfl rfl ?aO ?aR (fun _ _ h => h) (fun _ h => h.elim) ?aF ?aB ?aS ?aL ?_
       (case aR => repeat (first | exact (Kd.R_reads' HO218.out).2.2 | (with_reducible refine Kd.C_alloc ?_ _) | (with_reducible refine Kd.C_drewN ?_ _) | (with_reducible refine Kd.C_drew ?_)))
       (case aB => exact (be3 HB GE199 GE201 GE212))
       (case aF => exact (fun k_ hk => ⟨(.inr (Nat.le_trans (by first | exact HK.out.1 | exact (show Kept w _ (fun k_ => (P0_2_ k_ ∨ P0_3_ k_ ∨ P0_4_ k_) ∨ k_ = gb199) from (kr2 HK GW201 GW212)).1) hk)), Kd.fresh' (Kd.R_lt (ro HO218)) k_ hk, Kd.freshB (g := gb212) (o := .cells #[.int .i64 t211] 3 (0, 0)) (bk BK212) k_ hk⟩))
       (case aO => exact (ro HO215))
       (case aS => exact (below_size (be3 HB GE199 GE201 GE212)))
       (case aL => have := LMc30.out; omega)
       intro v220 w85 ho hb hg hat
       rw [← Ny219.out] at ho
       have n0_ := Aside0.mk (Kd.Q_over' (qo HO204) (Kd.R_typed (ro HO215)) (by decide) hg)
       have n1_ := Aside0.mk (Kd.R_over' (ro HO_200003) (Kd.R_typed (ro HO215)) (by decide) hg)
       have n2_ := Aside0.mk (blk_grown (g := gb199) (o := .cells #[.int .i64 a0_0, .int .i64 a0_1, .slice A72 y202.length c72, u200003, .slice Ao78 x200004_1.length co78] 30 (0, 0)) (bk BK199) hg (Kd.R_ne HO215.out BK199.out (by decide)))
       have n3_ := Aside0.mk (blk_grown (g := gb201) (o := .cells #[.string ((rd_T68 x200002_1 0).f0), .string ((rd_T68 x200002_1 0).f1), .int .i64 ((rd_T68 x200002_1 0).f2)] 68 (0, 0)) (bk BK201) hg (Kd.R_ne HO215.out BK201.out (by decide)))
       have n4_ := Aside0.mk (blk_grown (g := gb212) (o := .cells #[.int .i64 t211] 3 (0, 0)) (bk BK212) hg (Kd.R_away HO215.out (fun _ hk => hk.2.2)))
       have n5_ := Aside0.mk (Kd.R_after (ok := (fun k_ => ((P0_2_ k_ ∨ P0_3_ k_ ∨ P0_4_ k_) ∨ w.heap.size ≤ k_) ∧ k_ ≠ gb212)) (by (with_reducible repeat (first | apply Kd.R_alloc | apply Kd.R_drewN | apply Kd.R_drew)); exact rm HO218) hg hat)
       have n6_ := Aside0.mk (hb)
       have n7_ := Aside0.mk (Kept.of_grown (S := (fun k_ => (P0_2_ k_ ∨ P0_3_ k_ ∨ P0_4_ k_) ∨ k_ = gb199)) hg (kr2 HK GW201 GW212) (fun k_ e_ => Or.imp_left Or.inl ((HO215.out.1 k_ e_).1)))
       have n8_ := Aside0.mk (ho)
       clear HO204
       clear HO_200003
       clear BK199
       clear BK201
       clear BK212
       clear HO218
       clear HB
       clear HK
       clear HO215
       have HO204 := n0_
       have HO_200003 := n1_
       have BK199 := n2_
       have BK201 := n3_
       have BK212 := n4_
       have HO218 := n5_
       have HB := n6_
       have HK := n7_
       have HO221 := n8_
       clear n0_ n1_ n2_ n3_ n4_ n5_ n6_ n7_ n8_
       clear ho hb hg hat
       obtain ⟨Ao87, co87, eo87⟩ := Kd.R_slice HO221.out
       (first | subst eo87 | (injection eo87 with f1_ f2_ f3_; have f4_ := f1_.symm; have f5_ := f3_.symm; clear f1_ f2_ f3_; subst f4_; subst f5_))
       refine hK.out _ _ ⟨bc0 BK199, bc1 BK199, bc2 BK199, bc3 BK199, bc4 BK199, bc0 BK212⟩ (fun hHeld => ?_)
       clear hK K
       refine norm_ (a' := ?_) ?_ ?_
       rotate_left
       ·show Act.put _ (some 52) _ = _
        simp only [aP]
        rfl
       refine py HT_ 10 53 (bv 13 0x7ff) ?_
       refine py HT_ 11 54 (bv 13 0xfff) ?_
       refine last_ (i := 12) (N := none) (bv 13 0x1fff) rfl rfl (one_of HT_.out (by kernel_rfl)) (by decide) (fun K hK => ?_)
       have hs88 : w85.cell? ⟨gb199, 4, none⟩ = some (.slice Ao78 x200004_1.length co78) := bc4 BK199
       have hfs88 := blk_frozen BK199.out 4
       have hns88_1 := NB201_199.out
       have hns88_2 := NB212_199.out
       have hms88_1 := NB199_201.out
       have hms88_2 := NB199_212.out
       refine skip_ (w1 := ?_) (by rfl) rfl ?_ ?_
       rotate_left
       ·go_simp
        rfl
       refine hK.out _ _ ?_
       clear hK K
       refine done_ (done_of HT_.out (by kernel_rfl)) ?_
       try go_wp2
       have n0_ : Aside0 (Kd.Q k68 68 (w85.setCell ⟨gb199, 4, none⟩ (.slice Ao87 y219.length co87)) w0.heap.size (fun k_ => ((P0_2_ k_ ∨ P0_3_ k_ ∨ P0_4_ k_) ∨ w.heap.size ≤ k_) ∧ some k_ ≠ (u200003 : Value).ownBlock ∧ k_ ≠ gb201) (.slice A72 y202.length c72) y202) := ⟨(qf HO204 BK199)⟩
       have n1_ : Aside0 (Kd.R k68 68 (w85.setCell ⟨gb199, 4, none⟩ (.slice Ao87 y219.length co87)) w0.heap.size (fun k_ => ((P0_2_ k_ ∨ P0_3_ k_ ∨ P0_4_ k_) ∨ w.heap.size ≤ k_) ∧ nb k_ A72 y202.length c72 ∧ k_ ≠ gb201) u200003 x200003_1) := ⟨(rf HO_200003 BK199)⟩
       have n2_ : Aside0 (Kd.R (Kd.int .i64) 3 (w85.setCell ⟨gb199, 4, none⟩ (.slice Ao87 y219.length co87)) w0.heap.size (fun k_ => ((P0_2_ k_ ∨ P0_3_ k_ ∨ P0_4_ k_) ∨ w.heap.size ≤ k_) ∧ nb k_ Ao87 y219.length co87 ∧ k_ ≠ gb212) (.slice Ao86 y216.length co86) y216) := ⟨(rfn HO218 BK199)⟩
       have n3_ : Aside0 (Kd.R (Kd.int .i64) 3 (w85.setCell ⟨gb199, 4, none⟩ (.slice Ao87 y219.length co87)) w0.heap.size (fun k_ => ((P0_2_ k_ ∨ P0_3_ k_ ∨ P0_4_ k_) ∨ w.heap.size ≤ k_) ∧ nb k_ Ao86 y216.length co86 ∧ k_ ≠ gb212) (.slice Ao87 y219.length co87) y219) := ⟨(rf HO221 BK199)⟩
       have n4_ : Aside0 ((w85.setCell ⟨gb199, 4, none⟩ (.slice Ao87 y219.length co87)).heap[gb199]? = some (.cells #[.int .i64 a0_0, .int .i64 a0_1, .slice A72 y202.length c72, u200003, .slice Ao87 y219.length co87] 30 (0, 0))) := ⟨(bp BK199)⟩
       have n5_ : Aside0 ((w85.setCell ⟨gb199, 4, none⟩ (.slice Ao87 y219.length co87)).heap[gb201]? = some (.cells #[.string ((rd_T68 x200002_1 0).f0), .string ((rd_T68 x200002_1 0).f1), .int .i64 ((rd_T68 x200002_1 0).f2)] 68 (0, 0))) := ⟨(bp1 BK201 NB201_199)⟩
       have n6_ : Aside0 ((w85.setCell ⟨gb199, 4, none⟩ (.slice Ao87 y219.length co87)).heap[gb212]? = some (.cells #[.int .i64 t211] 3 (0, 0))) := ⟨(bp1 BK212 NB212_199)⟩
       have n7_ : Aside0 (Kept w (w85.setCell ⟨gb199, 4, none⟩ (.slice Ao87 y219.length co87)) (fun k_ => (P0_2_ k_ ∨ P0_3_ k_ ∨ P0_4_ k_) ∨ k_ = gb199)) := ⟨(kr2 HK GW201 GW212)⟩
       have n8_ : Aside0 (Below w0.heap.size w0 (w85.setCell ⟨gb199, 4, none⟩ (.slice Ao87 y219.length co87))) := ⟨be3 HB GE199 GE201 GE212⟩
       (try clear HO204)
       (try clear HO_200003)
       (try clear HO218)
       (try clear HO221)
       (try clear BK199)
       (try clear BK201)
       (try clear BK212)
       (try clear HK)
       (try clear HB)
       generalize (w85.setCell ⟨gb199, 4, none⟩ (.slice Ao87 y219.length co87)) = w89 at n0_ n1_ n2_ n3_ n4_ n5_ n6_ n7_ n8_ ⊢
       have HO204 := n0_
       have HO_200003 := n1_
       have HO218 := n2_
       have HO221 := n3_
       have BK199 := n4_
       have BK201 := n5_
       have BK212 := n6_
       have HK := n7_
       have HB := n8_
       clear n0_ n1_ n2_ n3_ n4_ n5_ n6_ n7_ n8_
       have n0_ := Aside0.mk (Kd.Q_drew HO204.out)
       have n1_ := Aside0.mk (Kd.R_drew HO_200003.out)
       have n2_ := Aside0.mk (Kd.R_drew HO218.out)
       have n3_ := Aside0.mk (Kd.R_drew HO221.out)
       have n4_ := Aside0.mk (blk_drew BK199.out)
       have n5_ := Aside0.mk (blk_drew BK201.out)
       have n6_ := Aside0.mk (blk_drew BK212.out)
       have n7_ := Aside0.mk (Kept.drew HK.out)
       have n8_ := Aside0.mk (below_drew1 HB.out)
       clear HO204
       clear HO_200003
       clear HO218
       clear HO221
       clear BK199
       clear BK201
       clear BK212
       clear HK
       clear HB
       have HO204 := n0_
       have HO_200003 := n1_
       have HO218 := n2_
       have HO221 := n3_
       have BK199 := n4_
       have BK201 := n5_
       have BK212 := n6_
       have HK := n7_
       have HB := n8_
       clear n0_ n1_ n2_ n3_ n4_ n5_ n6_ n7_ n8_
       obtain ⟨Ao91, co91, eo91⟩ := Kd.R_slice HO_200003.out
       (first | subst eo91 | (injection eo91 with f1_ f2_ f3_; have f4_ := f1_.symm; have f5_ := f3_.symm; clear f1_ f2_ f3_; subst f4_; subst f5_))
       refine start_ (n := 8) (S := fun w' => w'.cell? ⟨gb199, 0, none⟩ = some (.int .i64 a0_0) ∧ w'.cell? ⟨gb199, 1, none⟩ = some (.int .i64 a0_1) ∧ w'.cell? ⟨gb199, 2, none⟩ = some (.slice A72 y202.length c72) ∧ w'.cell? ⟨gb199, 3, none⟩ = some (.slice Ao91 x200003_1.length co91) ∧ w'.cell? ⟨gb199, 4, none⟩ = some (.slice Ao87 y219.length co87)) (ds := []) (bv 8 0x0) (by kernel_rfl) rfl rfl ⟨bc0 BK199, bc1 BK199, bc2 BK199, bc3 BK199, bc4 BK199⟩ (fun hHeld => ?_); refine with_tabW impl_Three_evictSmall.tab9 impl_Three_evictSmall.bits9 (fun HT_ HW_ => ?_)
       generalize w89.drew = w90 at HO204 HO_200003 HO218 HO221 BK199 BK201 BK212 HK HB hHeld ⊢
       refine py HT_ 0 55 (bv 8 0x1) ?_
       refine py HT_ 1 56 (bv 8 0x3) ?_
       refine py HT_ 2 57 (bv 8 0x7) ?_
       refine tk HT_ HW_ hHeld 3 58 (bv 8 0xf) ?_
       refine py HT_ 4 59 (bv 8 0x1f) ?_
       refine py HT_ 5 60 (bv 8 0x3f) ?_
       refine one_ (i := 6) (N := some 61) (bv 8 0x7f) rfl rfl (one_of HT_.out (by kernel_rfl)) (by decide) (fun K hK => ?_)
       refine goes_ Try.func65 (by kernel_rfl) rfl #[.pointer (some ⟨gb199, 0, none⟩)] (by rfl) rfl rfl ml ?_
       with_reducible refine (impl_Three_ghosts.calls a0_0 a0_1 A72 c72 y202 Ao91 co91 x200003_1 Ao87 co87 y219 gb199 t222 _ ?side1 ?side2 ?side3 ?side4 ?side5 ?side6 ?sideP A31.out).mono ?_
       (case sideP => exact bk BK199)
       (case side1 => repeat (first | exact (Kd.Q_reads' HO204.out).2.2 | (with_reducible refine Kd.C_alloc ?_ _) | (with_reducible refine Kd.C_drewN ?_ _) | (with_reducible refine Kd.C_drew ?_)))
       (case side2 => exact (Kd.Q_reads' HO204.out).2.1)
       (case side3 => exact cr HO_200003)
       (case side4 => exact (Kd.R_reads' HO_200003.out).2.1)
       (case side5 => exact cr HO221)
       (case side6 => exact (Kd.R_reads' HO221.out).2.1)
       rintro e w92 ⟨rfl, hb⟩
       refine ⟨_, rfl, ?_⟩
       have n0_ := Aside0.mk (Kd.Q_below (qo HO204) hb)
       have n1_ := rb HO_200003 hb
       have n2_ := rb HO218 hb
       have n3_ := rb HO221 hb
       have n4_ := bb BK199 hb
       have n5_ := bb BK201 hb
       have n6_ := bb BK212 hb
       have n7_ := Aside0.mk (Kept.below (w := w) (S := (fun k_ => (P0_2_ k_ ∨ P0_3_ k_ ∨ P0_4_ k_) ∨ k_ = gb199)) (kr2 HK GW201 GW212) hb)
       have n8_ := Aside0.mk (below_step (be3 HB GE199 GE201 GE212) hb)
       clear HO204
       clear HO_200003
       clear HO218
       clear HO221
       clear BK199
       clear BK201
       clear BK212
       clear HK
       clear HB
       have HO204 := n0_
       have HO_200003 := n1_
       have HO218 := n2_
       have HO221 := n3_
       have BK199 := n4_
       have BK201 := n5_
       have BK212 := n6_
       have HK := n7_
       have HB := n8_
       clear n0_ n1_ n2_ n3_ n4_ n5_ n6_ n7_ n8_
       (try clear hb)
       (try clear hb2)
       (try clear hk)
       (try clear hi)
       refine hK.out _ _ ⟨bc0 BK199, bc1 BK199, bc2 BK199, bc3 BK199, bc4 BK199⟩ (fun hHeld => ?_)
       clear hK K
       refine norm_ (a' := ?_) ?_ ?_
       rotate_left
       ·show Act.put _ (some 61) _ = _
        simp only [aP]
        rfl
       refine py HT_ 7 62 (bv 8 0xff) ?_
       refine done_ (done_of HT_.out (by kernel_rfl)) ?_
       have hcz93_0 := bz3 BK201
       try go_wp2
       go_ret2
       exact ⟨_, _, _, er, (bk BK199), by (with_reducible repeat (first | apply Kd.Q_alloc | apply Kd.Q_drewN | apply Kd.Q_drew)); exact Kd.Q_mono HO204.out (fun _ hk => ⟨hk.1, hk.2.1⟩), by (with_reducible repeat (first | apply Kd.R_alloc | apply Kd.R_drewN | apply Kd.R_drew)); exact rm HO_200003, Kd.Q_of_R (by (with_reducible repeat (first | apply Kd.R_alloc | apply Kd.R_drewN | apply Kd.R_drew)); exact Kd.R_mono HO221.out (fun _ hk => hk.1)), be3 HB GE199 GE201 GE212, (kr2 HK GW201 GW212)⟩
      rw [if_neg c30] at H
      exact absurd H (by simp)
     rw [if_neg c8] at H
     exact absurd H (by simp)
    rw [if_neg c7] at H
    exact absurd H (by simp)
   rw [if_neg c6] at H
   have c6b0 : decide (0 < (x200002_1.length : Int)) = false := decide_eq_false c6
   have c6b1 : decide (0 < x200002_1.length) = false := decide_eq_false (by omega)
   clear c6
   simp only [Option.some.injEq, Prod.mk.injEq] at H
   obtain ⟨rfl, rfl, rfl, rfl, rfl, rfl, rfl⟩ := H
   have hcz94_0 := bz5 BK199
   obtain ⟨Ao95, co95, eo95, _⟩ := Kd.Q_slice HO_200002.out
   subst eo95
   go_wp2
   go_ret2
   exact ⟨_, _, _, er, (bk BK199), (qo HO_200002), (ro HO_200003), Kd.Q_of_R (ro HO_200004), be1 HB GE199, (kr HK)⟩

end Go.Proofs.Ytfjhkediaholmaa.QFnSweep
