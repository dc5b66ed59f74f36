-- made by a program of this session (myprint.py)
import Derived.Test.YtfjhkediaholmaaQFnExactEvictx0
import Derived.Test.YtfjhkediaholmaaQFnExactEvictx10
import Derived.Test.YtfjhkediaholmaaQFnExactEvictx13
namespace Go.Proofs.Ytfjhkediaholmaa.QFnExactEvict
open Go.RowKit Go.Proofs.YtfjhkediaholmaaW.PrintWords Go.Proofs.YtfjhkediaholmaaW.PrintLast Go.Proofs.YtfjhkediaholmaaW.PrintMore
attribute [local go_sem] max2_int min2_int max_two min_two max_three min_three max_four min_four   -- for this text's walks alone
set_option linter.unusedVariables false
set_option linter.unusedSimpArgs false

/-! ### impl_Three_evictSmall: function 94 -/
def impl_Three_evictSmall.l0 : Nat → Int → Int → List (S68) → List (S68) → List Int → Option (ByteArray × Bool × Int × Int × (List (S68)) × (List (S68)) × List Int)
 | 0, _, _, _, _, _ => none
 | k + 1, x430000, x430001, x430002, x430003, x430004 => if (x430002.length : Int) > 0 then (if 0 < (x430002.length : Int) then (if 1 ≤ (x430002.length : Int) then ((some (x430002.drop (1 : Int).toNat : List (S68))).bind fun y432 => (if ((rd_T68 x430002 0).f2) > 1 then ((some (([(⟨(rd_T68 x430002 0).f0, (rd_T68 x430002 0).f1, 0⟩ : S68)] : List (S68)) : List (S68))).bind fun y435 => (if x430003.length + y435.length < 3518437208883 then (impl_Three_evictSmall.l0 k x430000 x430001 y432 (x430003 ++ y435) x430004) else (none))) else ((impl_Hash.f k ((rd_T68 x430002 0).f0)).bind fun t441 => ((slices_DeleteFunc_int_int.f x430004 t441).bind fun t443 => ((some (([t441] : List Int) : List Int)).bind fun y446 => (if t443.length + y446.length < 17592186044416 then ((some (t443 ++ y446 : List Int)).bind fun y449 => ((impl_Three_ghosts.f x430000 x430001 y432 x430003 y449).bind fun t452 => (if (y449.length : Int) > t452 then (if 1 ≤ (y449.length : Int) then (some ((rd_T68 x430002 0).f0, true, x430000, x430001, y432, x430003, (y449.drop (1 : Int).toNat))) else (none)) else (some ((rd_T68 x430002 0).f0, true, x430000, x430001, y432, x430003, y449))))) else (none))))))) else (none)) else (none)) else (some ((⟨#[]⟩ : ByteArray), false, x430000, x430001, x430002, x430003, x430004))
def impl_Three_evictSmall.f (k : Nat) (a0_0 : Int) (a0_1 : Int) (l0_2 : List (S68)) (l0_3 : List (S68)) (l0_4 : List Int) : Option (ByteArray × Bool × Int × Int × (List (S68)) × (List (S68)) × List Int) := impl_Three_evictSmall.l0 k a0_0 a0_1 l0_2 l0_3 l0_4
theorem impl_Three_evictSmall.mono_l : ∀ k, (∀ y0 y1 y2 y3 y4, LeO (impl_Three_evictSmall.l0 k y0 y1 y2 y3 y4) (impl_Three_evictSmall.l0 (k + 1) y0 y1 y2 y3 y4))
 | 0 => fun _ _ _ _ _ r h => by simp [impl_Three_evictSmall.l0] at h
 | k + 1 => by
  have ih0 := impl_Three_evictSmall.mono_l k
  ·intro y0 y1 y2 y3 y4
   unfold impl_Three_evictSmall.l0
   repeat' first
   | (with_reducible exact ih0 _ _ _ _ _)
   | (with_reducible exact impl_Hash.mono _ _)
   | (with_reducible exact LeO.refl _)
   | (with_reducible exact LeO.none _)
   | (with_reducible refine LeO.ite ?_ ?_)
   | (with_reducible refine LeO.bind ?_ (fun _ => ?_))
   | exact ih0 _ _ _ _ _
   | exact impl_Hash.mono _ _
   | exact LeO.none _
   | refine LeO.ite ?_ ?_
   | refine LeO.bind ?_ (fun _ => ?_)
theorem impl_Three_evictSmall.mono : ∀ a0 a1 a2 a3 a4 k, LeO (impl_Three_evictSmall.f k a0 a1 a2 a3 a4) (impl_Three_evictSmall.f (k + 1) a0 a1 a2 a3 a4) := by
 intro a0 a1 a2 a3 a4 k
 have ih0 := impl_Three_evictSmall.mono_l k
 unfold impl_Three_evictSmall.f
 repeat' first
   | (with_reducible exact ih0 _ _ _ _ _)
   | (with_reducible exact impl_Hash.mono _ _)
   | (with_reducible exact LeO.refl _)
   | (with_reducible exact LeO.none _)
   | (with_reducible refine LeO.ite ?_ ?_)
   | (with_reducible refine LeO.bind ?_ (fun _ => ?_))
   | exact ih0 _ _ _ _ _
   | exact impl_Hash.mono _ _
   | exact LeO.none _
   | refine LeO.ite ?_ ?_
   | refine LeO.bind ?_ (fun _ => ?_)
def impl_Three_evictSmall.T6 : Bool × List (List Nat × List Nat) := (true, [([], []), ([], []), ([1], [1]), ([2], [2]), ([3], [3]), ([], []), ([5], [5]), ([4, 6], [4, 6]), ([0, 0, 1, 2, 3, 4, 5, 6, 7], [0]), ([8, 0, 1, 2, 3, 4, 5, 6, 7], [8]), ([9, 7, 7, 0, 1, 2, 3, 4, 5, 6, 7], [7, 9])])
def impl_Three_evictSmall.B6 : List Nat := [0, 0, 2, 6, 14, 0, 32, 126, 255, 511, 1023]
theorem impl_Three_evictSmall.tab6 : rtab .any (opsOf Try.f94 6) = impl_Three_evictSmall.T6 := by kernel_rfl
theorem impl_Three_evictSmall.bits6 : waitsOk impl_Three_evictSmall.T6.2 impl_Three_evictSmall.B6 = true := by kernel_rfl
def impl_Three_evictSmall.T8 : Bool × List (List Nat × List Nat) := (true, [([], []), ([], []), ([1], [1]), ([2], [2]), ([3], [3]), ([], []), ([4, 5], [4, 5]), ([], []), ([7], [7]), ([6, 8, 6], [6, 8]), ([0, 0, 1, 2, 3, 4, 5, 6, 7, 8, 9], [0]), ([10, 0, 1, 2, 3, 4, 5, 6, 7, 8, 9], [10]), ([11, 9, 9, 0, 1, 2, 3, 4, 5, 6, 7, 8, 9], [9, 11])])
def impl_Three_evictSmall.B8 : List Nat := [0, 0, 2, 6, 14, 0, 62, 0, 128, 510, 1023, 2047, 4095]
theorem impl_Three_evictSmall.tab8 : rtab .any (opsOf Try.f94 8) = impl_Three_evictSmall.T8 := by kernel_rfl
theorem impl_Three_evictSmall.bits8 : waitsOk impl_Three_evictSmall.T8.2 impl_Three_evictSmall.B8 = true := by kernel_rfl
def impl_Three_evictSmall.T9 : Bool × List (List Nat × List Nat) := (true, [([], []), ([0], [0]), ([1], [1]), ([2], [2]), ([3], [3]), ([], []), ([5], [5]), ([4, 6], [4, 6])])
def impl_Three_evictSmall.B9 : List Nat := [0, 1, 3, 7, 15, 0, 32, 127]
theorem impl_Three_evictSmall.tab9 : rtab .any (opsOf Try.f94 9) = impl_Three_evictSmall.T9 := by kernel_rfl
theorem impl_Three_evictSmall.bits9 : waitsOk impl_Three_evictSmall.T9.2 impl_Three_evictSmall.B9 = true := by kernel_rfl
set_option maxHeartbeats 8000000 in
set_option maxRecDepth 100000 in
theorem impl_Three_evictSmall.calls (k : Nat) (a0_0 : Int) (a0_1 : Int) (P0_2_ : Nat → Prop) (u9000_ : Value) (l0_2 : List (S68)) (P0_3_ : Nat → Prop) (u9001_ : Value) (l0_3 : List (S68)) (P0_4_ : Nat → Prop) (u9002_ : Value) (l0_4 : List Int) (gb429 : Nat) (r1 : ByteArray) (r2 : Bool) (r3 : Int) (r4 : Int) (r5 : List (S68)) (r6 : List (S68)) (r7 : List Int) (w0 w : World) (hP : w.heap[gb429]? = some (.cells #[.int .i64 a0_0, .int .i64 a0_1, u9000_, u9001_, u9002_] 30 (0, 0))) (hW : w0.heap.size ≤ gb429) (hB : Below w0.heap.size w0 w) (ho0_2 : Kd.R k68 68 w w0.heap.size P0_2_ u9000_ l0_2) (hp0_2_0_3 : ∀ k_, P0_2_ k_ → ¬ P0_3_ k_) (ho0_3 : Kd.R k68 68 w w0.heap.size P0_3_ u9001_ l0_3) (hp0_3_0_2 : ∀ k_, P0_3_ k_ → ¬ P0_2_ k_) (ho0_4 : Kd.R (Kd.int .i64) 3 w w0.heap.size P0_4_ u9002_ l0_4) (h : impl_Three_evictSmall.f k a0_0 a0_1 l0_2 l0_3 l0_4 = some (r1, r2, r3, r4, r5, r6, r7)) :
  Calls Try.prog 94 #[.pointer (some ⟨gb429, 0, none⟩)] w fun e w' => ∃ v4_ v5_ v6_ : Value, e = .returned (.tuple #[.string r1, .bool r2]) ∧ w'.heap[gb429]? = some (.cells #[.int .i64 r3, .int .i64 r4, v4_, v5_, v6_] 30 (0, 0)) ∧ Kd.Q k68 68 w' w0.heap.size (fun k_ => ((P0_2_ k_ ∨ P0_3_ k_ ∨ P0_4_ k_) ∨ w.heap.size ≤ k_) ∧ some k_ ≠ (v5_ : Value).ownBlock) v4_ r5 ∧ Kd.R k68 68 w' w0.heap.size (fun k_ => ((P0_2_ k_ ∨ P0_3_ k_ ∨ P0_4_ k_) ∨ w.heap.size ≤ k_) ∧ some k_ ≠ (v4_ : Value).ownBlock) v5_ r6 ∧ Kd.Q (Kd.int .i64) 3 w' w0.heap.size (fun k_ => ((P0_2_ k_ ∨ P0_3_ k_ ∨ P0_4_ k_) ∨ w.heap.size ≤ k_)) v6_ r7 ∧ Below w0.heap.size w0 w' ∧ Kept w w' (fun k_ => (P0_2_ k_ ∨ P0_3_ k_ ∨ P0_4_ k_) ∨ k_ = gb429) := by
 have hu30 := Try.underlying30
 have hu68 := Try.underlying68
 have HO0_2 := Aside0.mk (show Kd.R k68 68 w w0.heap.size (fun k_ => ((P0_2_ k_ ∨ P0_3_ k_ ∨ P0_4_ k_) ∨ w.heap.size ≤ k_) ∧ some k_ ≠ (u9001_ : Value).ownBlock) u9000_ l0_2 from Kd.R_mono ho0_2 (fun k_ hk => ⟨(.inl (.inl hk)), fun e_ => hp0_2_0_3 k_ hk (ho0_3.1 k_ e_.symm)⟩))
 have HO0_3 := Aside0.mk (show Kd.R k68 68 w w0.heap.size (fun k_ => ((P0_2_ k_ ∨ P0_3_ k_ ∨ P0_4_ k_) ∨ w.heap.size ≤ k_) ∧ some k_ ≠ (u9000_ : Value).ownBlock) u9001_ l0_3 from Kd.R_mono ho0_3 (fun k_ hk => ⟨(.inl (.inr (.inl hk))), fun e_ => hp0_3_0_2 k_ hk (ho0_2.1 k_ e_.symm)⟩))
 have HO0_4 := Aside0.mk (show Kd.R (Kd.int .i64) 3 w w0.heap.size (fun k_ => ((P0_2_ k_ ∨ P0_3_ k_ ∨ P0_4_ k_) ∨ w.heap.size ≤ k_)) u9002_ l0_4 from Kd.R_mono ho0_4 (fun k_ hk => (.inl (.inr (.inr hk)))))
 have HK := Aside0.mk (Kept.refl w (fun k_ => (P0_2_ k_ ∨ P0_3_ k_ ∨ P0_4_ k_) ∨ k_ = gb429))
 have HW0 := Aside0.mk hB.size
 have HB := Aside0.mk hB
 clear hB
 have BK429 := Aside0.mk hP
 have GE429 := Aside0.mk hW
 clear hP hW
 have H : (impl_Three_evictSmall.l0 k a0_0 a0_1 l0_2 l0_3 l0_4) = some (r1, r2, r3, r4, r5, r6, r7) := h
 clear h
 have H' := Aside0.mk H
 clear H
 obtain ⟨Ao2, co2, eo2⟩ := Kd.R_slice HO0_2.out
 subst eo2
 obtain ⟨Ao3, co3, eo3⟩ := Kd.R_slice HO0_3.out
 subst eo3
 obtain ⟨Ao4, co4, eo4⟩ := Kd.R_slice HO0_4.out
 subst eo4
 go_enter Try.func94, Try.ntmps94
 go_wp2
 go_loopg [] k (fun kq w' => ∃ (x430002_1 : List (S68)) (x430003_1 : List (S68)) (x430004_1 : List Int) (u430002 : Value) (u430003 : Value) (u430004 : Value), Aside0 (impl_Three_evictSmall.l0 kq a0_0 a0_1 x430002_1 x430003_1 x430004_1 = some (r1, r2, r3, r4, r5, r6, r7)) ∧ Aside0 (kq ≤ k) ∧ Aside0 (Kd.Q k68 68 w' w0.heap.size (fun k_ => ((P0_2_ k_ ∨ P0_3_ k_ ∨ P0_4_ k_) ∨ w.heap.size ≤ k_) ∧ some k_ ≠ (u430003 : Value).ownBlock) u430002 x430002_1) ∧ Aside0 (Kd.R k68 68 w' w0.heap.size (fun k_ => ((P0_2_ k_ ∨ P0_3_ k_ ∨ P0_4_ k_) ∨ w.heap.size ≤ k_) ∧ some k_ ≠ (u430002 : Value).ownBlock) u430003 x430003_1) ∧ Aside0 (Kd.R (Kd.int .i64) 3 w' w0.heap.size (fun k_ => ((P0_2_ k_ ∨ P0_3_ k_ ∨ P0_4_ k_) ∨ w.heap.size ≤ k_)) u430004 x430004_1) ∧ Aside0 (w'.heap[gb429]? = some (.cells #[.int .i64 a0_0, .int .i64 a0_1, u430002, u430003, u430004] 30 (0, 0))) ∧ Aside0 (Kept w w' (fun k_ => (P0_2_ k_ ∨ P0_3_ k_ ∨ P0_4_ k_) ∨ k_ = gb429)) ∧ Aside0 (Below w0.heap.size w0 w'))
 case atStart => exact ⟨(l0_2), (l0_3), (l0_4), (.slice Ao2 l0_2.length co2), (.slice Ao3 l0_3.length co3), (.slice Ao4 l0_4.length co4), H', ⟨Nat.le_refl _⟩, ⟨Kd.Q_of_R (ro HO0_2)⟩, ⟨ro HO0_3⟩, ⟨ro HO0_4⟩, ⟨bk BK429⟩, ⟨(kr HK)⟩, ⟨be1 HB GE429⟩⟩
 case round =>
  clear H'
  try clear p2
  obtain ⟨x430002_1, x430003_1, x430004_1, u430002, u430003, u430004, HA, HK1, HO_430002, HO_430003, HO_430004, BK429, HK, HB⟩ := hrel
  cases gk with
  | zero => exact absurd HA.out (by simp [impl_Three_evictSmall.l0])
  | succ k1 =>
   have H := HA.out
   clear HA
   simp only [impl_Three_evictSmall.l0] at H
   by_cases c6 : (x430002_1.length : Int) > 0
   ·rw [if_pos c6] at H
    have c6b0 : decide (0 < (x430002_1.length : Int)) = true := decide_eq_true c6
    have c6b1 : decide (0 < x430002_1.length) = true := decide_eq_true (by omega)
    clear c6
    by_cases c7 : 0 < (x430002_1.length : Int)
    ·rw [if_pos c7] at H
     have c7b0 : decide (0 < (x430002_1.length : Int)) = true := decide_eq_true c7
     have c7b1 : decide (0 < x430002_1.length) = true := decide_eq_true (by omega)
     clear c7
     by_cases c8 : 1 ≤ (x430002_1.length : Int)
     ·rw [if_pos c8] at H
      have c8b0 := eq_true c8
      have c8b1 : decide (1 ≤ (x430002_1.length : Int)) = true := decide_eq_true c8
      clear c8
      obtain ⟨y432, hy432⟩ : ∃ y_ : List (S68), y_ = (x430002_1.drop (1 : Int).toNat) := ⟨_, rfl⟩
      replace H : (if ((rd_T68 x430002_1 0).f2) > 1 then ((some (([(⟨(rd_T68 x430002_1 0).f0, (rd_T68 x430002_1 0).f1, 0⟩ : S68)] : List (S68)) : List (S68))).bind fun y435 => (if x430003_1.length + y435.length < 3518437208883 then (impl_Three_evictSmall.l0 k1 a0_0 a0_1 y432 (x430003_1 ++ y435) x430004_1) else (none))) else ((impl_Hash.f k1 ((rd_T68 x430002_1 0).f0)).bind fun t441 => ((slices_DeleteFunc_int_int.f x430004_1 t441).bind fun t443 => ((some (([t441] : List Int) : List Int)).bind fun y446 => (if t443.length + y446.length < 17592186044416 then ((some (t443 ++ y446 : List Int)).bind fun y449 => ((impl_Three_ghosts.f a0_0 a0_1 y432 x430003_1 y449).bind fun t452 => (if (y449.length : Int) > t452 then (if 1 ≤ (y449.length : Int) then (some ((rd_T68 x430002_1 0).f0, true, a0_0, a0_1, y432, x430003_1, (y449.drop (1 : Int).toNat))) else (none)) else (some ((rd_T68 x430002_1 0).f0, true, a0_0, a0_1, y432, x430003_1, y449))))) else (none)))))) = some (r1, r2, r3, r4, r5, r6, r7) := by first | (rw [hy432]; with_reducible exact H) | (have H2_ := (Option.bind_some _ _).symm.trans H; rw [hy432]; with_reducible exact H2_) | (have H2_ := (Option.bind_some _ _).symm.trans H; with_reducible exact H2_) | with_reducible exact H | (rw [hy432]; exact H) | exact H
      have Ny432 := Aside0.mk hy432
      clear hy432
      by_cases c9 : ((rd_T68 x430002_1 0).f2) > 1
      ·rw [if_pos c9] at H
       have c9b0 : decide (1 < ((rd_T68 x430002_1 0).f2)) = true := decide_eq_true c9
       clear c9
       obtain ⟨y435, hy435⟩ : ∃ y_ : List (S68), y_ = (([(⟨(rd_T68 x430002_1 0).f0, (rd_T68 x430002_1 0).f1, 0⟩ : S68)] : List (S68))) := ⟨_, rfl⟩
       replace H : (if x430003_1.length + y435.length < 3518437208883 then (impl_Three_evictSmall.l0 k1 a0_0 a0_1 y432 (x430003_1 ++ y435) x430004_1) else (none)) = some (r1, r2, r3, r4, r5, r6, r7) := by first | (rw [hy435]; with_reducible exact H) | (have H2_ := (Option.bind_some _ _).symm.trans H; rw [hy435]; with_reducible exact H2_) | (have H2_ := (Option.bind_some _ _).symm.trans H; with_reducible exact H2_) | with_reducible exact H | (rw [hy435]; exact H) | exact H
       have Ny435 := Aside0.mk hy435
       clear hy435
       by_cases c10 : x430003_1.length + y435.length < 3518437208883
       ·rw [if_pos c10] at H
        have LMc10 := Aside0.mk c10
        clear c10
        obtain ⟨y438, hy438⟩ : ∃ y_ : List (S68), y_ = (x430003_1 ++ y435) := ⟨_, rfl⟩
        replace H : (impl_Three_evictSmall.l0 k1 a0_0 a0_1 y432 y438 x430004_1) = some (r1, r2, r3, r4, r5, r6, r7) := by first | (rw [hy438]; with_reducible exact H) | (have H2_ := (Option.bind_some _ _).symm.trans H; rw [hy438]; with_reducible exact H2_) | (have H2_ := (Option.bind_some _ _).symm.trans H; with_reducible exact H2_) | with_reducible exact H | (rw [hy438]; exact H) | exact H
        have Ny438 := Aside0.mk hy438
        clear hy438
        have H' := Aside0.mk H
        clear H
        have hcz11_0 := bz5 BK429
        obtain ⟨Ao12, co12, eo12, _⟩ := Kd.Q_slice HO_430002.out
        subst eo12
        have p430 : 0 ≤ (0 : Int) := (by omega)
        have q430 : 0 < (x430002_1.length : Int) := od
        obtain ⟨ad430, e430, hx430_0, hx430_1, hx430_2⟩ := at_T68 (Kd.Q_reads' HO_430002.out).2.2 0 p430 q430
        cases e430
        have qi430 : (0 < x430002_1.length) = True := eq_true (by omega)
        (try rw [show ((0 : Int)).toNat = 0 from rfl] at hx430_0)
        (try rw [show 0 * 3 = 0 from rfl] at hx430_0)
        (try rw [Addr.add_zero'] at hx430_0)
        (try rw [show ((0 : Int)).toNat = 0 from rfl] at hx430_1)
        (try rw [show 0 * 3 = 0 from rfl] at hx430_1)
        (try rw [Addr.add_zero'] at hx430_1)
        (try rw [show ((0 : Int)).toNat = 0 from rfl] at hx430_2)
        (try rw [show 0 * 3 = 0 from rfl] at hx430_2)
        (try rw [Addr.add_zero'] at hx430_2)
        replace p430 := eq_true p430
        replace q430 := eq_true q430
        try go_wp2_with (first | ((with_reducible refine gate_dst (N := 4) rfl ?_); refine bx 4 #[.string (⟨#[]⟩ : ByteArray), .string (⟨#[]⟩ : ByteArray), .int .i64 0] 68 ?_; intro gb431 hg w13 hbox hb; replace HO_430002 := Aside0.mk (Kd.Q_below (Kd.Q_elderB (qo HO_430002) gb431 (Nat.le_of_eq hg.symm)) hb); replace HO_430003 := Aside0.mk (Kd.R_below (Kd.R_elderB (ro HO_430003) gb431 (Nat.le_of_eq hg.symm)) hb); replace HO_430004 := rb HO_430004 hb; have BK431 := am hbox; have GW431 := Aside0.mk ((by rw [hg]; exact (by first | exact HK.out.1 | exact (show Kept w _ (fun k_ => (P0_2_ k_ ∨ P0_3_ k_ ∨ P0_4_ k_) ∨ k_ = gb429) from (kr HK)).1) : w.heap.size ≤ gb431)); replace HK := Aside0.mk (Kept.below (w := w) (S := (fun k_ => (P0_2_ k_ ∨ P0_3_ k_ ∨ P0_4_ k_) ∨ k_ = gb429)) (kr HK) hb); have GE431 := Aside0.mk ((by rw [hg]; exact (below_size (be1 HB GE429)) : w0.heap.size ≤ gb431)); replace HB := Aside0.mk (below_step (be1 HB GE429) hb); have NB429_431 := nl hg BK429; have NB431_429 := ng hg BK429; replace BK429 := bb BK429 hb; clear hb hbox hg; have hnb14 := NB431_429.out; have hnc14 := NB429_431.out; have hcz15_0 := bz3 BK431) | ((with_reducible refine gate_store (t := 68) (p := 4) rfl ?_); refine store_event (t := 68) (p := 4) (v := ?vo_w16) (w1 := (((w13.setCell ⟨gb431, 0, none⟩ (.string ((rd_T68 x430002_1 0).f0))).setCell ⟨gb431, 1, none⟩ (.string ((rd_T68 x430002_1 0).f1))).setCell ⟨gb431, 2, none⟩ (.int .i64 ((rd_T68 x430002_1 0).f2)))) ?hg ?ho ?hn ?hr ?_; (case ho => rfl); (case hg => rfl); (case hn => rfl); (case hr => first | (go_simp; done) | (go_simp; rfl)); intro w16 hw; have n0_ : Aside0 (Kd.Q k68 68 w16 w0.heap.size (fun k_ => ((P0_2_ k_ ∨ P0_3_ k_ ∨ P0_4_ k_) ∨ w.heap.size ≤ k_) ∧ some k_ ≠ (u430003 : Value).ownBlock ∧ k_ ≠ gb431) (.slice (some ad430) x430002_1.length co12) x430002_1) := ⟨(by rw [hw]; exact (qg gb431 HO_430002))⟩; have n1_ : Aside0 (Kd.R k68 68 w16 w0.heap.size (fun k_ => ((P0_2_ k_ ∨ P0_3_ k_ ∨ P0_4_ k_) ∨ w.heap.size ≤ k_) ∧ some k_ ≠ (.slice (some ad430) x430002_1.length co12 : Value).ownBlock ∧ k_ ≠ gb431) u430003 x430003_1) := ⟨(by rw [hw]; exact (rg gb431 HO_430003))⟩; have n2_ : Aside0 (Kd.R (Kd.int .i64) 3 w16 w0.heap.size (fun k_ => ((P0_2_ k_ ∨ P0_3_ k_ ∨ P0_4_ k_) ∨ w.heap.size ≤ k_)) u430004 x430004_1) := ⟨(by rw [hw]; exact (rf HO_430004 BK431))⟩; have n3_ : Aside0 (w16.heap[gb429]? = some (.cells #[.int .i64 a0_0, .int .i64 a0_1, .slice (some ad430) x430002_1.length co12, u430003, u430004] 30 (0, 0))) := ⟨(by rw [hw]; exact (bf1 BK429 NB429_431))⟩; have n4_ : Aside0 (w16.heap[gb431]? = some (.cells #[.string ((rd_T68 x430002_1 0).f0), .string ((rd_T68 x430002_1 0).f1), .int .i64 ((rd_T68 x430002_1 0).f2)] 68 (0, 0))) := ⟨(by rw [hw]; exact (bp BK431))⟩; have n5_ : Aside0 (Kept w w16 (fun k_ => (P0_2_ k_ ∨ P0_3_ k_ ∨ P0_4_ k_) ∨ k_ = gb429)) := ⟨(by rw [hw]; exact (kr1 HK GW431))⟩; have n6_ : Aside0 (Below w0.heap.size w0 w16) := ⟨(by rw [hw]; exact (be2 HB GE429 GE431))⟩; clear hw; clear HO_430002; clear HO_430003; clear HO_430004; clear BK429; clear BK431; clear HK; clear HB; have HO_430002 := n0_; have HO_430003 := n1_; have HO_430004 := n2_; have BK429 := n3_; have BK431 := n4_; have HK := n5_; have HB := n6_; clear n0_ n1_ n2_ n3_ n4_ n5_ n6_; have hcz17_0 := bz5 BK429; have q18 : (1 : Int) ≤ ((x430002_1.length : Int) : Int) := od; obtain ⟨i018, hi018, _, hsz18, _⟩ := info_parts info68; have hcut18 := cut_from (P := Try.prog) 28 68 .i64 Try.underlying28 hi018 3 hsz18 (some ad430) x430002_1.length co12 1 (by omega) q18; have hr18 := Kd.Q_drop (k := (1 : Int).toNat) HO_430002.out (by omega); obtain ⟨A18, hA18⟩ : ∃ A1, A1 = (if co12 = (1 : Int).toNat then (some ad430) else ((some ad430) : Option Addr).map (·.add ((1 : Int).toNat * 3))) := ⟨_, rfl⟩; obtain ⟨c18, hc18⟩ : ∃ c1, c1 = co12 - (1 : Int).toNat := ⟨_, rfl⟩; have hy18 : y432.length = x430002_1.length - (1 : Int).toNat := (by rw [Ny432.out, List.length_drop]); rw [← Ny432.out] at hr18; rw [← hy18, ← hA18, ← hc18] at hcut18; replace hr18 : Kd.Q k68 68 w16 w0.heap.size (fun k_ => ((P0_2_ k_ ∨ P0_3_ k_ ∨ P0_4_ k_) ∨ w.heap.size ≤ k_) ∧ some k_ ≠ (u430003 : Value).ownBlock ∧ k_ ≠ gb431) (.slice A18 y432.length c18) y432 := (by rw [hA18, hc18, hy18]; exact hr18); have HE18 : Aside0 ((Value.slice A18 y432.length c18).ownBlock = (.slice (some ad430) x430002_1.length co12 : Value).ownBlock) := ⟨by rw [hA18]; split <;> (cases ((some ad430) : Option Addr) <;> rfl)⟩; clear hy18 hi018 hsz18 HO_430002 hA18 hc18; have HO434 := Aside0.mk hr18; clear hr18; replace q18 := eq_true q18; have n_ := Aside0.mk (Kd.R_mono (ok' := fun k_ => ((((P0_2_ k_ ∨ P0_3_ k_ ∨ P0_4_ k_) ∨ w.heap.size ≤ k_)) ∧ (nb k_ A18 y432.length c18 ∧ k_ ≠ gb431))) HO_430003.out (fun k_ hk => ⟨hk.1, ⟨(fun e_ => hk.2.1 (e_.trans HE18.out)), hk.2.2⟩⟩)); clear HO_430003; have HO_430003 := n_; clear n_; have hcz19_0 := bz3 BK431))
        have n0_ : Aside0 (Kd.Q k68 68 ((w16.setCell ⟨gb429, 2, none⟩ (.slice A18 y432.length c18)).setCell ⟨gb431, 2, none⟩ (.int .i64 0)) w0.heap.size (fun k_ => ((P0_2_ k_ ∨ P0_3_ k_ ∨ P0_4_ k_) ∨ w.heap.size ≤ k_) ∧ some k_ ≠ (u430003 : Value).ownBlock ∧ k_ ≠ gb431) (.slice A18 y432.length c18) y432) := ⟨by (with_reducible repeat (first | apply Kd.Q_alloc | apply Kd.Q_drewN | apply Kd.Q_drew)); exact Kd.Q_mono (Kd.Q_far (p := ⟨gb431, 2, none⟩) (Kd.Q_far (p := ⟨gb429, 2, none⟩) (Kd.Q_mono (Kd.Q_types HO434.out BK429.out (by decide)) (fun k_ hk => (⟨hk, hk.1.2.2⟩ : _ ∧ k_ ≠ gb431))) (fun _ hk => hk.1.2) (.slice A18 y432.length c18)) (fun _ hk => hk.2) (.int .i64 0)) (fun _ hk => ⟨hk.1.1.1, ⟨hk.1.1.2.1, hk.1.1.2.2⟩⟩)⟩
        have n1_ : Aside0 (Kd.R k68 68 ((w16.setCell ⟨gb429, 2, none⟩ (.slice A18 y432.length c18)).setCell ⟨gb431, 2, none⟩ (.int .i64 0)) w0.heap.size (fun k_ => ((P0_2_ k_ ∨ P0_3_ k_ ∨ P0_4_ k_) ∨ w.heap.size ≤ k_) ∧ nb k_ A18 y432.length c18 ∧ k_ ≠ gb431) u430003 x430003_1) := ⟨by (with_reducible repeat (first | apply Kd.R_alloc | apply Kd.R_drewN | apply Kd.R_drew)); exact Kd.R_mono (Kd.R_far (p := ⟨gb431, 2, none⟩) (Kd.R_far (p := ⟨gb429, 2, none⟩) (Kd.R_mono (Kd.R_types HO_430003.out BK429.out (by decide)) (fun k_ hk => (⟨hk, hk.1.2.2⟩ : _ ∧ k_ ≠ gb431))) (fun _ hk => hk.1.2) (.slice A18 y432.length c18)) (fun _ hk => hk.2) (.int .i64 0)) (fun _ hk => ⟨hk.1.1.1, ⟨hk.1.1.2.1, hk.1.1.2.2⟩⟩)⟩
        have n2_ : Aside0 (Kd.R (Kd.int .i64) 3 ((w16.setCell ⟨gb429, 2, none⟩ (.slice A18 y432.length c18)).setCell ⟨gb431, 2, none⟩ (.int .i64 0)) w0.heap.size (fun k_ => ((P0_2_ k_ ∨ P0_3_ k_ ∨ P0_4_ k_) ∨ w.heap.size ≤ k_)) u430004 x430004_1) := ⟨by (with_reducible repeat (first | apply Kd.R_alloc | apply Kd.R_drewN | apply Kd.R_drew)); exact Kd.R_mono (Kd.R_far (p := ⟨gb431, 2, none⟩) (Kd.R_far (p := ⟨gb429, 2, none⟩) (Kd.R_types (Kd.R_types HO_430004.out BK429.out (by decide)) BK431.out (by decide)) (fun _ hk => hk.1.2) (.slice A18 y432.length c18)) (fun _ hk => hk.2) (.int .i64 0)) (fun _ hk => hk.1.1)⟩
        have n3_ : Aside0 (((w16.setCell ⟨gb429, 2, none⟩ (.slice A18 y432.length c18)).setCell ⟨gb431, 2, none⟩ (.int .i64 0)).heap[gb429]? = some (.cells #[.int .i64 a0_0, .int .i64 a0_1, .slice A18 y432.length c18, u430003, u430004] 30 (0, 0))) := ⟨(bp1 BK429 NB429_431)⟩
        have n4_ : Aside0 (((w16.setCell ⟨gb429, 2, none⟩ (.slice A18 y432.length c18)).setCell ⟨gb431, 2, none⟩ (.int .i64 0)).heap[gb431]? = some (.cells #[.string ((rd_T68 x430002_1 0).f0), .string ((rd_T68 x430002_1 0).f1), .int .i64 0] 68 (0, 0))) := ⟨(bp1 BK431 NB431_429)⟩
        have n5_ : Aside0 (Kept w ((w16.setCell ⟨gb429, 2, none⟩ (.slice A18 y432.length c18)).setCell ⟨gb431, 2, none⟩ (.int .i64 0)) (fun k_ => (P0_2_ k_ ∨ P0_3_ k_ ∨ P0_4_ k_) ∨ k_ = gb429)) := ⟨(kr1 HK GW431)⟩
        have n6_ : Aside0 (Below w0.heap.size w0 ((w16.setCell ⟨gb429, 2, none⟩ (.slice A18 y432.length c18)).setCell ⟨gb431, 2, none⟩ (.int .i64 0))) := ⟨be2 HB GE429 GE431⟩
        (try clear HO434)
        (try clear HO_430003)
        (try clear HO_430004)
        (try clear BK429)
        (try clear BK431)
        (try clear HK)
        (try clear HB)
        generalize ((w16.setCell ⟨gb429, 2, none⟩ (.slice A18 y432.length c18)).setCell ⟨gb431, 2, none⟩ (.int .i64 0)) = w20 at n0_ n1_ n2_ n3_ n4_ n5_ n6_ ⊢
        have HO434 := n0_
        have HO_430003 := n1_
        have HO_430004 := n2_
        have BK429 := n3_
        have BK431 := n4_
        have HK := n5_
        have HB := n6_
        clear n0_ n1_ n2_ n3_ n4_ n5_ n6_
        have n0_ := Aside0.mk (Kd.Q_drew HO434.out)
        have n1_ := Aside0.mk (Kd.R_drew HO_430003.out)
        have n2_ := Aside0.mk (Kd.R_drew HO_430004.out)
        have n3_ := Aside0.mk (blk_drew BK429.out)
        have n4_ := Aside0.mk (blk_drew BK431.out)
        have n5_ := Aside0.mk (Kept.drew HK.out)
        have n6_ := Aside0.mk (below_drew1 HB.out)
        clear HO434
        clear HO_430003
        clear HO_430004
        clear BK429
        clear BK431
        clear HK
        clear HB
        have HO434 := n0_
        have HO_430003 := n1_
        have HO_430004 := n2_
        have BK429 := n3_
        have BK431 := n4_
        have HK := n5_
        have HB := n6_
        clear n0_ n1_ n2_ n3_ n4_ n5_ n6_
        refine start_ (n := 11) (S := fun w' => w'.cell? ⟨gb429, 0, none⟩ = some (.int .i64 a0_0) ∧ w'.cell? ⟨gb429, 1, none⟩ = some (.int .i64 a0_1) ∧ w'.cell? ⟨gb429, 2, none⟩ = some (.slice A18 y432.length c18) ∧ w'.cell? ⟨gb429, 3, none⟩ = some (u430003) ∧ w'.cell? ⟨gb429, 4, none⟩ = some (u430004) ∧ w'.cell? ⟨gb431, 0, none⟩ = some (.string ((rd_T68 x430002_1 0).f0)) ∧ w'.cell? ⟨gb431, 1, none⟩ = some (.string ((rd_T68 x430002_1 0).f1)) ∧ w'.cell? ⟨gb431, 2, none⟩ = some (.int .i64 0)) (ds := [10]) (bv 11 0x0) (by kernel_rfl) rfl rfl ⟨bc0 BK429, bc1 BK429, bc2 BK429, bc3 BK429, bc4 BK429, bc0 BK431, bc1 BK431, bc2 BK431⟩ (fun hHeld => ?_); refine with_tabW impl_Three_evictSmall.tab6 impl_Three_evictSmall.bits6 (fun HT_ HW_ => ?_)
        generalize w20.drew = w21 at HO434 HO_430003 HO_430004 BK429 BK431 HK HB hHeld ⊢
        refine py HT_ 0 30 (bv 11 0x1) ?_
        refine py HT_ 1 31 (bv 11 0x3) ?_
        refine py HT_ 2 32 (bv 11 0x7) ?_
        refine py HT_ 3 33 (bv 11 0xf) ?_
        refine tk HT_ HW_ hHeld 4 34 (bv 11 0x1f) ?_
        refine tk HT_ HW_ hHeld 5 35 (bv 11 0x3f) ?_
        refine one_ (i := 6) (N := some 36) (bv 11 0x7f) rfl rfl (one_of HT_.out (by kernel_rfl)) (by decide) (fun K hK => ?_)
        refine Kd.R_lit_step k68 _ 68 ?hg (N := 36) ?hd (xs := ([(⟨(rd_T68 x430002_1 0).f0, (rd_T68 x430002_1 0).f1, 0⟩ : S68)] : List (S68))) (inner := [.string ((rd_T68 x430002_1 0).f0), .string ((rd_T68 x430002_1 0).f1), .int .i64 0]) (ok := fun _ => True) (okp := fun _ => True) ?hr ?hp (fun _ hk => hk) trivial (Below.refl _ _) (Nat.le_refl _) (by simp) ?_; (case hd => rfl); (case hg => rfl); (case hr => first | (go_simp; done) | (go_simp; rfl)); (case hp => exact (Reps.c3 (show Kd.M k68 _ _ _ (⟨(rd_T68 x430002_1 0).f0, (rd_T68 x430002_1 0).f1, 0⟩ : S68) [.string ((rd_T68 x430002_1 0).f0), .string ((rd_T68 x430002_1 0).f1), .int .i64 0] from (k68_mkM _ _ _ (⟨(rd_T68 x430002_1 0).f0, (rd_T68 x430002_1 0).f1, 0⟩ : S68) )) (Reps.none _ _)))
        intro v436 w22 ho23 hb hg_ hnew_
        clear hg_ hnew_
        (first | rw [← Ny435.out] at ho23 | (simp only [Int.reduceToNat] at ho23; rw [← Ny435.out] at ho23))
        have n0_ := Aside0.mk (Kd.Q_elder' (qo HO434) (Kd.R_base ho23) hb)
        have n1_ := Aside0.mk (Kd.R_elder' (ro HO_430003) (Kd.R_base ho23) hb)
        have n2_ := rb HO_430004 hb
        have n3_ := Aside0.mk (Kd.R_lower (Kd.R_newB (nw (Kd.R_new' (Kd.R_newM (M := fun k_ => ((P0_2_ k_ ∨ P0_3_ k_ ∨ P0_4_ k_) ∨ w.heap.size ≤ k_)) ho23 (by first | exact HK.out.1 | exact (show Kept w _ (fun k_ => (P0_2_ k_ ∨ P0_3_ k_ ∨ P0_4_ k_) ∨ k_ = gb429) from (kr1 HK GW431)).1) (fun k_ h_ => .inr h_)) (Kd.Q_lt (qo HO434))) HO_430003) (g := gb431) (o := .cells #[.string ((rd_T68 x430002_1 0).f0), .string ((rd_T68 x430002_1 0).f1), .int .i64 0] 68 (0, 0)) (bk BK431)) (below_size (be2 HB GE429 GE431)))
        have n4_ := bb BK429 hb
        have n5_ := bb BK431 hb
        have n6_ := Aside0.mk (Kept.below (w := w) (S := (fun k_ => (P0_2_ k_ ∨ P0_3_ k_ ∨ P0_4_ k_) ∨ k_ = gb429)) (kr1 HK GW431) hb)
        have n7_ := Aside0.mk (below_step (be2 HB GE429 GE431) hb)
        clear HO434
        clear HO_430003
        clear HO_430004
        clear BK429
        clear BK431
        clear HK
        clear HB
        have HO434 := n0_
        have HO_430003 := n1_
        have HO_430004 := n2_
        have HO437 := n3_
        have BK429 := n4_
        have BK431 := n5_
        have HK := n6_
        have HB := n7_
        clear n0_ n1_ n2_ n3_ n4_ n5_ n6_ n7_
        clear hb ho23
        obtain ⟨Ao25, co25, eo25⟩ := Kd.R_slice HO437.out
        (first | subst eo25 | (injection eo25 with f1_ f2_ f3_; have f4_ := f1_.symm; have f5_ := f3_.symm; clear f1_ f2_ f3_; subst f4_; subst f5_))
        refine hK.out _ _ ⟨bc0 BK429, bc1 BK429, bc2 BK429, bc3 BK429, bc4 BK429, bc0 BK431, bc1 BK431, bc2 BK431⟩ (fun hHeld => ?_)
        clear hK K
        refine norm_ (a' := ?_) ?_ ?_
        rotate_left
        ·show Act.put _ (some 36) _ = _
         simp only [aP]
         rfl
        refine one_ (i := 7) (N := some 37) (bv 11 0xff) rfl rfl (one_of HT_.out (by kernel_rfl)) (by decide) (fun K hK => ?_)
        refine Kd.R_append_rows_step k68 (w0 := w0) w0.heap.size (by rfl) (.tmp 34) (.tmp 36) 28 68 (.agg #[(.string ⟨#[]⟩), (.string ⟨#[]⟩), (.int .i64 0)]) 40 rfl Try.underlying28 info68 rfl (by decide) (by omega) u430003 x430003_1 y435 _ _ _ (fun k_ => ((P0_2_ k_ ∨ P0_3_ k_ ∨ P0_4_ k_) ∨ w.heap.size ≤ k_) ∧ nb k_ A18 y432.length c18 ∧ nb k_ Ao25 y435.length co25 ∧ k_ ≠ gb431) (fun _ => False) rfl rfl ?aO ?aR (fun _ _ h => h) (fun _ h => h.elim) ?aF ?aB ?aS ?aL ?_
        (case aR => repeat (first | exact (Kd.R_reads' HO437.out).2.2 | (with_reducible refine Kd.C_alloc ?_ _) | (with_reducible refine Kd.C_drewN ?_ _) | (with_reducible refine Kd.C_drew ?_)))
        (case aB => exact (be2 HB GE429 GE431))
        (case aF => exact (fun k_ hk => ⟨(.inr (Nat.le_trans (by first | exact HK.out.1 | exact (show Kept w _ (fun k_ => (P0_2_ k_ ∨ P0_3_ k_ ∨ P0_4_ k_) ∨ k_ = gb429) from (kr1 HK GW431)).1) hk)), Kd.fresh' (Kd.Q_lt (qo HO434)) k_ hk, Kd.fresh' (Kd.R_lt (ro HO437)) k_ hk, Kd.freshB (g := gb431) (o := .cells #[.string ((rd_T68 x430002_1 0).f0), .string ((rd_T68 x430002_1 0).f1), .int .i64 0] 68 (0, 0)) (bk BK431) k_ hk⟩))
        (case aO => exact (by (with_reducible repeat (first | apply Kd.R_alloc | apply Kd.R_drewN | apply Kd.R_drew)); exact rm HO_430003))
        (case aS => exact (below_size (be2 HB GE429 GE431)))
        (case aL => have := LMc10.out; omega)
        intro v439 w24 ho hb hg hat
        rw [← Ny438.out] at ho
        have n0_ := Aside0.mk (Kd.Q_after (ok := (fun k_ => ((P0_2_ k_ ∨ P0_3_ k_ ∨ P0_4_ k_) ∨ w.heap.size ≤ k_) ∧ nb k_ Ao25 y435.length co25 ∧ k_ ≠ gb431)) (by (with_reducible repeat (first | apply Kd.Q_alloc | apply Kd.Q_drewN | apply Kd.Q_drew)); exact Kd.Q_mono HO434.out (fun _ hk => ⟨⟨hk.1.1, ⟨hk.2, hk.1.2.2⟩⟩, hk.1.2.1⟩)) hg hat)
        have n1_ := Aside0.mk (Kd.R_over' (ro HO_430004) (Kd.R_typed (ro HO_430003)) (by decide) hg)
        have n2_ := Aside0.mk (blk_grown (g := gb429) (o := .cells #[.int .i64 a0_0, .int .i64 a0_1, .slice A18 y432.length c18, u430003, u430004] 30 (0, 0)) (bk BK429) hg (Kd.R_ne HO_430003.out BK429.out (by decide)))
        have n3_ := Aside0.mk (blk_grown (g := gb431) (o := .cells #[.string ((rd_T68 x430002_1 0).f0), .string ((rd_T68 x430002_1 0).f1), .int .i64 0] 68 (0, 0)) (bk BK431) hg (Kd.R_away HO_430003.out (fun _ hk => hk.1.2.2)))
        have n4_ := Aside0.mk (Kd.R_after (ok := (fun k_ => ((P0_2_ k_ ∨ P0_3_ k_ ∨ P0_4_ k_) ∨ w.heap.size ≤ k_) ∧ nb k_ A18 y432.length c18 ∧ k_ ≠ gb431)) (by (with_reducible repeat (first | apply Kd.R_alloc | apply Kd.R_drewN | apply Kd.R_drew)); exact rm HO437) hg hat)
        have n5_ := Aside0.mk (hb)
        have n6_ := Aside0.mk (Kept.of_grown (S := (fun k_ => (P0_2_ k_ ∨ P0_3_ k_ ∨ P0_4_ k_) ∨ k_ = gb429)) hg (kr1 HK GW431) (fun k_ e_ => Or.imp_left Or.inl ((HO_430003.out.1 k_ e_).1.1)))
        have n7_ := Aside0.mk (ho)
        clear HO434
        clear HO_430004
        clear BK429
        clear BK431
        clear HO437
        clear HB
        clear HK
        clear HO_430003
        have HO434 := n0_
        have HO_430004 := n1_
        have BK429 := n2_
        have BK431 := n3_
        have HO437 := n4_
        have HB := n5_
        have HK := n6_
        have HO440 := n7_
        clear n0_ n1_ n2_ n3_ n4_ n5_ n6_ n7_
        clear ho hb hg hat
        obtain ⟨Ao26, co26, eo26⟩ := Kd.R_slice HO440.out
        (first | subst eo26 | (injection eo26 with f1_ f2_ f3_; have f4_ := f1_.symm; have f5_ := f3_.symm; clear f1_ f2_ f3_; subst f4_; subst f5_))
        refine hK.out _ _ ⟨bc0 BK429, bc1 BK429, bc2 BK429, bc3 BK429, bc4 BK429, bc0 BK431, bc1 BK431, bc2 BK431⟩ (fun hHeld => ?_)
        clear hK K
        refine norm_ (a' := ?_) ?_ ?_
        rotate_left
        ·show Act.put _ (some 37) _ = _
         simp only [aP]
         rfl
        refine py HT_ 8 38 (bv 11 0x1ff) ?_
        refine py HT_ 9 39 (bv 11 0x3ff) ?_
        refine last_ (i := 10) (N := none) (bv 11 0x7ff) rfl rfl (one_of HT_.out (by kernel_rfl)) (by decide) (fun K hK => ?_)
        have hs27 : w24.cell? ⟨gb429, 3, none⟩ = some (u430003) := bc3 BK429
        have hfs27 := blk_frozen BK429.out 3
        have hns27_1 := NB431_429.out
        have hms27_1 := NB429_431.out
        refine skip_ (w1 := ?_) (by rfl) rfl ?_ ?_
        rotate_left
        ·go_simp
         rfl
        refine hK.out _ _ ?_
        clear hK K
        refine done_ (done_of HT_.out (by kernel_rfl)) ?_
        try go_wp2
        go_roundg k1
        case measure => have := HK1.out; omega
        case rel => exact ⟨(y432), (y438), (x430004_1), (.slice A18 y432.length c18), (.slice Ao26 y438.length co26), (u430004), H', ⟨by have := HK1.out; omega⟩, ⟨(qfn HO434 BK429)⟩, ⟨(rfn HO440 BK429)⟩, ⟨(rf HO_430004 BK429)⟩, ⟨(bp BK429)⟩, ⟨(kr1 HK GW431)⟩, ⟨be2 HB GE429 GE431⟩⟩
       rw [if_neg c10] at H
       exact absurd H (by simp)
      rw [if_neg c9] at H
      have c9b0 : decide (1 < ((rd_T68 x430002_1 0).f2)) = false := decide_eq_false c9
      clear c9
      replace H := Option.bind_eq_some_iff.mp H
      obtain ⟨t441, A280, H⟩ := H
      replace H : ((slices_DeleteFunc_int_int.f x430004_1 t441).bind fun t443 => ((some (([t441] : List Int) : List Int)).bind fun y446 => (if t443.length + y446.length < 17592186044416 then ((some (t443 ++ y446 : List Int)).bind fun y449 => ((impl_Three_ghosts.f a0_0 a0_1 y432 x430003_1 y449).bind fun t452 => (if (y449.length : Int) > t452 then (if 1 ≤ (y449.length : Int) then (some ((rd_T68 x430002_1 0).f0, true, a0_0, a0_1, y432, x430003_1, (y449.drop (1 : Int).toNat))) else (none)) else (some ((rd_T68 x430002_1 0).f0, true, a0_0, a0_1, y432, x430003_1, y449))))) else (none)))) = some (r1, r2, r3, r4, r5, r6, r7) := H
      have A28 := Aside0.mk A280
      clear A280
      replace H := Option.bind_eq_some_iff.mp H
      obtain ⟨t443, A290, H⟩ := H
      replace H : ((some (([t441] : List Int) : List Int)).bind fun y446 => (if t443.length + y446.length < 17592186044416 then ((some (t443 ++ y446 : List Int)).bind fun y449 => ((impl_Three_ghosts.f a0_0 a0_1 y432 x430003_1 y449).bind fun t452 => (if (y449.length : Int) > t452 then (if 1 ≤ (y449.length : Int) then (some ((rd_T68 x430002_1 0).f0, true, a0_0, a0_1, y432, x430003_1, (y449.drop (1 : Int).toNat))) else (none)) else (some ((rd_T68 x430002_1 0).f0, true, a0_0, a0_1, y432, x430003_1, y449))))) else (none))) = some (r1, r2, r3, r4, r5, r6, r7) := H
      have A29 := Aside0.mk A290
      clear A290
      obtain ⟨y446, hy446⟩ : ∃ y_ : List Int, y_ = (([t441] : List Int)) := ⟨_, rfl⟩
      replace H : (if t443.length + y446.length < 17592186044416 then ((some (t443 ++ y446 : List Int)).bind fun y449 => ((impl_Three_ghosts.f a0_0 a0_1 y432 x430003_1 y449).bind fun t452 => (if (y449.length : Int) > t452 then (if 1 ≤ (y449.length : Int) then (some ((rd_T68 x430002_1 0).f0, true, a0_0, a0_1, y432, x430003_1, (y449.drop (1 : Int).toNat))) else (none)) else (some ((rd_T68 x430002_1 0).f0, true, a0_0, a0_1, y432, x430003_1, y449))))) else (none)) = some (r1, r2, r3, r4, r5, r6, r7) := by first | (rw [hy446]; with_reducible exact H) | (have H2_ := (Option.bind_some _ _).symm.trans H; rw [hy446]; with_reducible exact H2_) | (have H2_ := (Option.bind_some _ _).symm.trans H; with_reducible exact H2_) | with_reducible exact H | (rw [hy446]; exact H) | exact H
      have Ny446 := Aside0.mk hy446
      clear hy446
      by_cases c30 : t443.length + y446.length < 17592186044416
      ·rw [if_pos c30] at H
       have LMc30 := Aside0.mk c30
       clear c30
       obtain ⟨y449, hy449⟩ : ∃ y_ : List Int, y_ = (t443 ++ y446) := ⟨_, rfl⟩
       replace H : ((impl_Three_ghosts.f a0_0 a0_1 y432 x430003_1 y449).bind fun t452 => (if (y449.length : Int) > t452 then (if 1 ≤ (y449.length : Int) then (some ((rd_T68 x430002_1 0).f0, true, a0_0, a0_1, y432, x430003_1, (y449.drop (1 : Int).toNat))) else (none)) else (some ((rd_T68 x430002_1 0).f0, true, a0_0, a0_1, y432, x430003_1, y449)))) = some (r1, r2, r3, r4, r5, r6, r7) := by first | (rw [hy449]; with_reducible exact H) | (have H2_ := (Option.bind_some _ _).symm.trans H; rw [hy449]; with_reducible exact H2_) | (have H2_ := (Option.bind_some _ _).symm.trans H; with_reducible exact H2_) | with_reducible exact H | (rw [hy449]; exact H) | exact H
       have Ny449 := Aside0.mk hy449
       clear hy449
       replace H := Option.bind_eq_some_iff.mp H
       obtain ⟨t452, A310, H⟩ := H
       replace H : (if (y449.length : Int) > t452 then (if 1 ≤ (y449.length : Int) then (some ((rd_T68 x430002_1 0).f0, true, a0_0, a0_1, y432, x430003_1, (y449.drop (1 : Int).toNat))) else (none)) else (some ((rd_T68 x430002_1 0).f0, true, a0_0, a0_1, y432, x430003_1, y449))) = some (r1, r2, r3, r4, r5, r6, r7) := H
       have A31 := Aside0.mk A310
       clear A310
       by_cases c32 : (y449.length : Int) > t452
       ·rw [if_pos c32] at H
        have c32b0 : decide (t452 < (y449.length : Int)) = true := decide_eq_true c32
        clear c32
        by_cases c33 : 1 ≤ (y449.length : Int)
        ·rw [if_pos c33] at H
         have c33b0 := eq_true c33
         have c33b1 : decide (1 ≤ (y449.length : Int)) = true := decide_eq_true c33
         clear c33
         obtain ⟨y453, hy453⟩ : ∃ y_ : List Int, y_ = (y449.drop (1 : Int).toNat) := ⟨_, rfl⟩
         replace H : (some ((rd_T68 x430002_1 0).f0, true, a0_0, a0_1, y432, x430003_1, y453)) = some (r1, r2, r3, r4, r5, r6, r7) := by first | (rw [hy453]; with_reducible exact H) | (have H2_ := (Option.bind_some _ _).symm.trans H; rw [hy453]; with_reducible exact H2_) | (have H2_ := (Option.bind_some _ _).symm.trans H; with_reducible exact H2_) | with_reducible exact H | (rw [hy453]; exact H) | exact H
         have Ny453 := Aside0.mk hy453
         clear hy453
         simp only [Option.some.injEq, Prod.mk.injEq] at H
         obtain ⟨rfl, rfl, rfl, rfl, rfl, rfl, rfl⟩ := H
         have hcz34_0 := bz5 BK429
         obtain ⟨Ao35, co35, eo35, _⟩ := Kd.Q_slice HO_430002.out
         subst eo35
         have p430 : 0 ≤ (0 : Int) := (by omega)
         have q430 : 0 < (x430002_1.length : Int) := od
         obtain ⟨ad430, e430, hx430_0, hx430_1, hx430_2⟩ := at_T68 (Kd.Q_reads' HO_430002.out).2.2 0 p430 q430
         cases e430
         have qi430 : (0 < x430002_1.length) = True := eq_true (by omega)
         (try rw [show ((0 : Int)).toNat = 0 from rfl] at hx430_0)
         (try rw [show 0 * 3 = 0 from rfl] at hx430_0)
         (try rw [Addr.add_zero'] at hx430_0)
         (try rw [show ((0 : Int)).toNat = 0 from rfl] at hx430_1)
         (try rw [show 0 * 3 = 0 from rfl] at hx430_1)
         (try rw [Addr.add_zero'] at hx430_1)
         (try rw [show ((0 : Int)).toNat = 0 from rfl] at hx430_2)
         (try rw [show 0 * 3 = 0 from rfl] at hx430_2)
         (try rw [Addr.add_zero'] at hx430_2)
         replace p430 := eq_true p430
         replace q430 := eq_true q430
         try go_wp2_with (first | ((with_reducible refine gate_dst (N := 4) rfl ?_); refine bx 4 #[.string (⟨#[]⟩ : ByteArray), .string (⟨#[]⟩ : ByteArray), .int .i64 0] 68 ?_; intro gb431 hg w36 hbox hb; replace HO_430002 := Aside0.mk (Kd.Q_below (Kd.Q_elderB (qo HO_430002) gb431 (Nat.le_of_eq hg.symm)) hb); replace HO_430003 := Aside0.mk (Kd.R_below (Kd.R_elderB (ro HO_430003) gb431 (Nat.le_of_eq hg.symm)) hb); replace HO_430004 := rb HO_430004 hb; have BK431 := am hbox; have GW431 := Aside0.mk ((by rw [hg]; exact (by first | exact HK.out.1 | exact (show Kept w _ (fun k_ => (P0_2_ k_ ∨ P0_3_ k_ ∨ P0_4_ k_) ∨ k_ = gb429) from (kr HK)).1) : w.heap.size ≤ gb431)); replace HK := Aside0.mk (Kept.below (w := w) (S := (fun k_ => (P0_2_ k_ ∨ P0_3_ k_ ∨ P0_4_ k_) ∨ k_ = gb429)) (kr HK) hb); have GE431 := Aside0.mk ((by rw [hg]; exact (below_size (be1 HB GE429)) : w0.heap.size ≤ gb431)); replace HB := Aside0.mk (below_step (be1 HB GE429) hb); have NB429_431 := nl hg BK429; have NB431_429 := ng hg BK429; replace BK429 := bb BK429 hb; clear hb hbox hg; have hnb37 := NB431_429.out; have hnc37 := NB429_431.out; have hcz38_0 := bz3 BK431) | ((with_reducible refine gate_store (t := 68) (p := 4) rfl ?_); refine store_event (t := 68) (p := 4) (v := ?vo_w39) (w1 := (((w36.setCell ⟨gb431, 0, none⟩ (.string ((rd_T68 x430002_1 0).f0))).setCell ⟨gb431, 1, none⟩ (.string ((rd_T68 x430002_1 0).f1))).setCell ⟨gb431, 2, none⟩ (.int .i64 ((rd_T68 x430002_1 0).f2)))) ?hg ?ho ?hn ?hr ?_; (case ho => rfl); (case hg => rfl); (case hn => rfl); (case hr => first | (go_simp; done) | (go_simp; rfl)); intro w39 hw; have n0_ : Aside0 (Kd.Q k68 68 w39 w0.heap.size (fun k_ => ((P0_2_ k_ ∨ P0_3_ k_ ∨ P0_4_ k_) ∨ w.heap.size ≤ k_) ∧ some k_ ≠ (u430003 : Value).ownBlock ∧ k_ ≠ gb431) (.slice (some ad430) x430002_1.length co35) x430002_1) := ⟨(by rw [hw]; exact (qg gb431 HO_430002))⟩; have n1_ : Aside0 (Kd.R k68 68 w39 w0.heap.size (fun k_ => ((P0_2_ k_ ∨ P0_3_ k_ ∨ P0_4_ k_) ∨ w.heap.size ≤ k_) ∧ some k_ ≠ (.slice (some ad430) x430002_1.length co35 : Value).ownBlock ∧ k_ ≠ gb431) u430003 x430003_1) := ⟨(by rw [hw]; exact (rg gb431 HO_430003))⟩; have n2_ : Aside0 (Kd.R (Kd.int .i64) 3 w39 w0.heap.size (fun k_ => ((P0_2_ k_ ∨ P0_3_ k_ ∨ P0_4_ k_) ∨ w.heap.size ≤ k_)) u430004 x430004_1) := ⟨(by rw [hw]; exact (rf HO_430004 BK431))⟩; have n3_ : Aside0 (w39.heap[gb429]? = some (.cells #[.int .i64 a0_0, .int .i64 a0_1, .slice (some ad430) x430002_1.length co35, u430003, u430004] 30 (0, 0))) := ⟨(by rw [hw]; exact (bf1 BK429 NB429_431))⟩; have n4_ : Aside0 (w39.heap[gb431]? = some (.cells #[.string ((rd_T68 x430002_1 0).f0), .string ((rd_T68 x430002_1 0).f1), .int .i64 ((rd_T68 x430002_1 0).f2)] 68 (0, 0))) := ⟨(by rw [hw]; exact (bp BK431))⟩; have n5_ : Aside0 (Kept w w39 (fun k_ => (P0_2_ k_ ∨ P0_3_ k_ ∨ P0_4_ k_) ∨ k_ = gb429)) := ⟨(by rw [hw]; exact (kr1 HK GW431))⟩; have n6_ : Aside0 (Below w0.heap.size w0 w39) := ⟨(by rw [hw]; exact (be2 HB GE429 GE431))⟩; clear hw; clear HO_430002; clear HO_430003; clear HO_430004; clear BK429; clear BK431; clear HK; clear HB; have HO_430002 := n0_; have HO_430003 := n1_; have HO_430004 := n2_; have BK429 := n3_; have BK431 := n4_; have HK := n5_; have HB := n6_; clear n0_ n1_ n2_ n3_ n4_ n5_ n6_; have hcz40_0 := bz5 BK429; have q41 : (1 : Int) ≤ ((x430002_1.length : Int) : Int) := od; obtain ⟨i041, hi041, _, hsz41, _⟩ := info_parts info68; have hcut41 := cut_from (P := Try.prog) 28 68 .i64 Try.underlying28 hi041 3 hsz41 (some ad430) x430002_1.length co35 1 (by omega) q41; have hr41 := Kd.Q_drop (k := (1 : Int).toNat) HO_430002.out (by omega); obtain ⟨A41, hA41⟩ : ∃ A1, A1 = (if co35 = (1 : Int).toNat then (some ad430) else ((some ad430) : Option Addr).map (·.add ((1 : Int).toNat * 3))) := ⟨_, rfl⟩; obtain ⟨c41, hc41⟩ : ∃ c1, c1 = co35 - (1 : Int).toNat := ⟨_, rfl⟩; have hy41 : y432.length = x430002_1.length - (1 : Int).toNat := (by rw [Ny432.out, List.length_drop]); rw [← Ny432.out] at hr41; rw [← hy41, ← hA41, ← hc41] at hcut41; replace hr41 : Kd.Q k68 68 w39 w0.heap.size (fun k_ => ((P0_2_ k_ ∨ P0_3_ k_ ∨ P0_4_ k_) ∨ w.heap.size ≤ k_) ∧ some k_ ≠ (u430003 : Value).ownBlock ∧ k_ ≠ gb431) (.slice A41 y432.length c41) y432 := (by rw [hA41, hc41, hy41]; exact hr41); have HE41 : Aside0 ((Value.slice A41 y432.length c41).ownBlock = (.slice (some ad430) x430002_1.length co35 : Value).ownBlock) := ⟨by rw [hA41]; split <;> (cases ((some ad430) : Option Addr) <;> rfl)⟩; clear hy41 hi041 hsz41 HO_430002 hA41 hc41; have HO434 := Aside0.mk hr41; clear hr41; replace q41 := eq_true q41; have n_ := Aside0.mk (Kd.R_mono (ok' := fun k_ => ((((P0_2_ k_ ∨ P0_3_ k_ ∨ P0_4_ k_) ∨ w.heap.size ≤ k_)) ∧ (nb k_ A41 y432.length c41 ∧ k_ ≠ gb431))) HO_430003.out (fun k_ hk => ⟨hk.1, ⟨(fun e_ => hk.2.1 (e_.trans HE41.out)), hk.2.2⟩⟩)); clear HO_430003; have HO_430003 := n_; clear n_; have hcz42_0 := bz3 BK431) | ((with_reducible refine gate_callee (f := 51) rfl ?_); refine gl 42 Try.func51 #[.string ((rd_T68 x430002_1 0).f0)] ?_; (with_reducible refine (impl_Hash.calls k1 ((rd_T68 x430002_1 0).f0) t441 _ A28.out).mono ?_); rintro e w' ⟨rfl, ⟨nd, rfl⟩⟩; refine ⟨_, rfl, ?_⟩) | ((with_reducible refine gate_dst (N := 5) rfl ?_); refine bx 5 #[.int .i64 0] 3 ?_; intro gb442 hg w43 hbox hb; replace HO434 := Aside0.mk (Kd.Q_below (qf HO434 BK429) hb); replace HO_430003 := Aside0.mk (Kd.R_below (rf HO_430003 BK429) hb); replace HO_430004 := Aside0.mk (Kd.R_below (Kd.R_elderB (rf HO_430004 BK429) gb442 (Nat.le_of_eq hg.symm)) hb); have BK442 := am hbox; have GW442 := Aside0.mk ((by rw [hg]; exact (show Kept w _ (fun k_ => (P0_2_ k_ ∨ P0_3_ k_ ∨ P0_4_ k_) ∨ k_ = gb429) from (kr1 HK GW431)).1 : w.heap.size ≤ gb442)); replace HK := Aside0.mk (Kept.below (w := w) (S := (fun k_ => (P0_2_ k_ ∨ P0_3_ k_ ∨ P0_4_ k_) ∨ k_ = gb429)) (kr1 HK GW431) hb); have GE442 := Aside0.mk ((by rw [hg]; exact (below_size (be2 HB GE429 GE431)) : w0.heap.size ≤ gb442)); replace HB := Aside0.mk (below_step (be2 HB GE429 GE431) hb); have NB429_442 := Aside0.mk ((by rw [hg]; exact Nat.ne_of_lt (blk_lt (g := gb429) (o := .cells #[.int .i64 a0_0, .int .i64 a0_1, .slice A41 y432.length c41, u430003, u430004] 30 (0, 0)) (bp BK429)) : gb429 ≠ gb442)); have NB442_429 := Aside0.mk ((by rw [hg]; exact Nat.ne_of_gt (blk_lt (g := gb429) (o := .cells #[.int .i64 a0_0, .int .i64 a0_1, .slice A41 y432.length c41, u430003, u430004] 30 (0, 0)) (bp BK429)) : gb442 ≠ gb429)); replace BK429 := Aside0.mk (blk_below (g := gb429) (o := .cells #[.int .i64 a0_0, .int .i64 a0_1, .slice A41 y432.length c41, u430003, u430004] 30 (0, 0)) (bp BK429) hb); have NB431_442 := Aside0.mk ((by rw [hg]; exact Nat.ne_of_lt (blk_lt (g := gb431) (o := .cells #[.string ((rd_T68 x430002_1 0).f0), .string ((rd_T68 x430002_1 0).f1), .int .i64 ((rd_T68 x430002_1 0).f2)] 68 (0, 0)) (bf1 BK431 NB431_429)) : gb431 ≠ gb442)); have NB442_431 := Aside0.mk ((by rw [hg]; exact Nat.ne_of_gt (blk_lt (g := gb431) (o := .cells #[.string ((rd_T68 x430002_1 0).f0), .string ((rd_T68 x430002_1 0).f1), .int .i64 ((rd_T68 x430002_1 0).f2)] 68 (0, 0)) (bf1 BK431 NB431_429)) : gb442 ≠ gb431)); replace BK431 := Aside0.mk (blk_below (g := gb431) (o := .cells #[.string ((rd_T68 x430002_1 0).f0), .string ((rd_T68 x430002_1 0).f1), .int .i64 ((rd_T68 x430002_1 0).f2)] 68 (0, 0)) (bf1 BK431 NB431_429) hb); clear hb hbox hg; have hnb44 := NB442_429.out; have hnc44 := NB429_442.out; have hnb45 := NB442_431.out; have hnc45 := NB431_442.out; have hcz46_0 := bz1 BK442; obtain ⟨Ao47, co47, eo47⟩ := Kd.R_slice HO_430004.out; subst eo47))
         have n0_ : Aside0 (Kd.Q k68 68 (w43.setCell ⟨gb442, 0, none⟩ (.int .i64 t441)) w0.heap.size (fun k_ => ((P0_2_ k_ ∨ P0_3_ k_ ∨ P0_4_ k_) ∨ w.heap.size ≤ k_) ∧ some k_ ≠ (u430003 : Value).ownBlock ∧ k_ ≠ gb431) (.slice A41 y432.length c41) y432) := ⟨(qf HO434 BK442)⟩
         have n1_ : Aside0 (Kd.R k68 68 (w43.setCell ⟨gb442, 0, none⟩ (.int .i64 t441)) w0.heap.size (fun k_ => ((P0_2_ k_ ∨ P0_3_ k_ ∨ P0_4_ k_) ∨ w.heap.size ≤ k_) ∧ nb k_ A41 y432.length c41 ∧ k_ ≠ gb431) u430003 x430003_1) := ⟨(rf HO_430003 BK442)⟩
         have n2_ : Aside0 (Kd.R (Kd.int .i64) 3 (w43.setCell ⟨gb442, 0, none⟩ (.int .i64 t441)) w0.heap.size (fun k_ => ((P0_2_ k_ ∨ P0_3_ k_ ∨ P0_4_ k_) ∨ w.heap.size ≤ k_) ∧ k_ ≠ gb442) (.slice Ao47 x430004_1.length co47) x430004_1) := ⟨(rgs gb442 HO_430004)⟩
         have n3_ : Aside0 ((w43.setCell ⟨gb442, 0, none⟩ (.int .i64 t441)).heap[gb429]? = some (.cells #[.int .i64 a0_0, .int .i64 a0_1, .slice A41 y432.length c41, u430003, .slice Ao47 x430004_1.length co47] 30 (0, 0))) := ⟨(bp1 BK429 NB429_442)⟩
         have n4_ : Aside0 ((w43.setCell ⟨gb442, 0, none⟩ (.int .i64 t441)).heap[gb431]? = some (.cells #[.string ((rd_T68 x430002_1 0).f0), .string ((rd_T68 x430002_1 0).f1), .int .i64 ((rd_T68 x430002_1 0).f2)] 68 (0, 0))) := ⟨(bp1 BK431 NB431_442)⟩
         have n5_ : Aside0 ((w43.setCell ⟨gb442, 0, none⟩ (.int .i64 t441)).heap[gb442]? = some (.cells #[.int .i64 t441] 3 (0, 0))) := ⟨(bp BK442)⟩
         have n6_ : Aside0 (Kept w (w43.setCell ⟨gb442, 0, none⟩ (.int .i64 t441)) (fun k_ => (P0_2_ k_ ∨ P0_3_ k_ ∨ P0_4_ k_) ∨ k_ = gb429)) := ⟨(kr2 HK GW431 GW442)⟩
         have n7_ : Aside0 (Below w0.heap.size w0 (w43.setCell ⟨gb442, 0, none⟩ (.int .i64 t441))) := ⟨be3 HB GE429 GE431 GE442⟩
         (try clear HO434)
         (try clear HO_430003)
         (try clear HO_430004)
         (try clear BK429)
         (try clear BK431)
         (try clear BK442)
         (try clear HK)
         (try clear HB)
         generalize (w43.setCell ⟨gb442, 0, none⟩ (.int .i64 t441)) = w48 at n0_ n1_ n2_ n3_ n4_ n5_ n6_ n7_ ⊢
         have HO434 := n0_
         have HO_430003 := n1_
         have HO_430004 := n2_
         have BK429 := n3_
         have BK431 := n4_
         have BK442 := n5_
         have HK := n6_
         have HB := n7_
         clear n0_ n1_ n2_ n3_ n4_ n5_ n6_ n7_
         have n0_ := Aside0.mk (Kd.Q_drew HO434.out)
         have n1_ := Aside0.mk (Kd.R_drew HO_430003.out)
         have n2_ := Aside0.mk (Kd.R_drew HO_430004.out)
         have n3_ := Aside0.mk (blk_drew BK429.out)
         have n4_ := Aside0.mk (blk_drew BK431.out)
         have n5_ := Aside0.mk (blk_drew BK442.out)
         have n6_ := Aside0.mk (Kept.drew HK.out)
         have n7_ := Aside0.mk (below_drew1 HB.out)
         clear HO434
         clear HO_430003
         clear HO_430004
         clear BK429
         clear BK431
         clear BK442
         clear HK
         clear HB
         have HO434 := n0_
         have HO_430003 := n1_
         have HO_430004 := n2_
         have BK429 := n3_
         have BK431 := n4_
         have BK442 := n5_
         have HK := n6_
         have HB := n7_
         clear n0_ n1_ n2_ n3_ n4_ n5_ n6_ n7_
         refine start_ (n := 13) (S := fun w' => w'.cell? ⟨gb429, 0, none⟩ = some (.int .i64 a0_0) ∧ w'.cell? ⟨gb429, 1, none⟩ = some (.int .i64 a0_1) ∧ w'.cell? ⟨gb429, 2, none⟩ = some (.slice A41 y432.length c41) ∧ w'.cell? ⟨gb429, 3, none⟩ = some (u430003) ∧ w'.cell? ⟨gb429, 4, none⟩ = some (.slice Ao47 x430004_1.length co47) ∧ w'.cell? ⟨gb442, 0, none⟩ = some (.int .i64 t441)) (ds := [12]) (bv 13 0x0) (by kernel_rfl) rfl rfl ⟨bc0 BK429, bc1 BK429, bc2 BK429, bc3 BK429, bc4 BK429, bc0 BK442⟩ (fun hHeld => ?_); refine with_tabW impl_Three_evictSmall.tab8 impl_Three_evictSmall.bits8 (fun HT_ HW_ => ?_)
         generalize w48.drew = w49 at HO434 HO_430003 HO_430004 BK429 BK431 BK442 HK HB hHeld ⊢
         refine py HT_ 0 43 (bv 13 0x1) ?_
         refine py HT_ 1 44 (bv 13 0x3) ?_
         refine py HT_ 2 45 (bv 13 0x7) ?_
         refine py HT_ 3 46 (bv 13 0xf) ?_
         refine tk HT_ HW_ hHeld 4 47 (bv 13 0x1f) ?_
         refine py HT_ 5 48 (bv 13 0x3f) ?_
         refine tk HT_ HW_ hHeld 7 50 (bv 13 0xbf) ?_
         refine join_ (σ := Value × Value) 4 (bv 13 0x1ff) (fun s_ => [(49, s_.1), (51, s_.2)]) (fun s_ w' => (w'.cell? ⟨gb429, 0, none⟩ = some (.int .i64 a0_0) ∧ w'.cell? ⟨gb429, 1, none⟩ = some (.int .i64 a0_1) ∧ w'.cell? ⟨gb429, 2, none⟩ = some (.slice A41 y432.length c41) ∧ w'.cell? ⟨gb429, 3, none⟩ = some (u430003) ∧ w'.cell? ⟨gb429, 4, none⟩ = some (.slice Ao47 x430004_1.length co47) ∧ w'.cell? ⟨gb442, 0, none⟩ = some (.int .i64 t441)) ∧ (Kd.Q k68 68 w' w0.heap.size (fun k_ => ((P0_2_ k_ ∨ P0_3_ k_ ∨ P0_4_ k_) ∨ w.heap.size ≤ k_) ∧ some k_ ≠ (u430003 : Value).ownBlock ∧ k_ ≠ gb431) (.slice A41 y432.length c41) y432) ∧ (Kd.R (Kd.int .i64) 3 w' w0.heap.size (fun k_ => ((P0_2_ k_ ∨ P0_3_ k_ ∨ P0_4_ k_) ∨ w.heap.size ≤ k_) ∧ some k_ ≠ (s_.2 : Value).ownBlock ∧ k_ ≠ gb442) s_.1 t443) ∧ (Kd.R (Kd.int .i64) 3 w' w0.heap.size (fun k_ => ((P0_2_ k_ ∨ P0_3_ k_ ∨ P0_4_ k_) ∨ w.heap.size ≤ k_) ∧ some k_ ≠ (s_.1 : Value).ownBlock ∧ k_ ≠ gb442) s_.2 y446) ∧ (Kd.R k68 68 w' w0.heap.size (fun k_ => ((P0_2_ k_ ∨ P0_3_ k_ ∨ P0_4_ k_) ∨ w.heap.size ≤ k_) ∧ nb k_ A41 y432.length c41 ∧ k_ ≠ gb431) u430003 x430003_1) ∧ (w'.heap[gb429]? = some (.cells #[.int .i64 a0_0, .int .i64 a0_1, .slice A41 y432.length c41, u430003, .slice Ao47 x430004_1.length co47] 30 (0, 0))) ∧ (w'.heap[gb431]? = some (.cells #[.string ((rd_T68 x430002_1 0).f0), .string ((rd_T68 x430002_1 0).f1), .int .i64 ((rd_T68 x430002_1 0).f2)] 68 (0, 0))) ∧ (w'.heap[gb442]? = some (.cells #[.int .i64 t441] 3 (0, 0))) ∧ (Kept w w' (fun k_ => (P0_2_ k_ ∨ P0_3_ k_ ∨ P0_4_ k_) ∨ k_ = gb429)) ∧ (Below w0.heap.size w0 w')) ?_ ?_
         rotate_left
         ·intro hCont
          refine two_ (i := 6) (j := 8) (Ni := some 49) (Nj := some 51) (bv 13 0xff) (bv 13 0x1bf) rfl rfl rfl rfl (two_of HT_.out (by kernel_rfl)) (by decide) (by decide) (fun K hK => ?_) (fun K hK => ?_)
          ·skip
           refine goes_ Try.func98 (by kernel_rfl) rfl #[.slice Ao47 x430004_1.length co47, .func (.func 118) #[] #[.pointer (some ⟨gb442, 0, none⟩)]] (by rfl) rfl rfl ml ?_
           with_reducible refine (slices_DeleteFunc_int_int.calls (fun k_ => some k_ = (.slice Ao47 x430004_1.length co47 : Value).ownBlock) (.slice Ao47 x430004_1.length co47) x430004_1 t441 gb442 t443 w0 _ ?sideP ?sideN ?side1 ?side2 A29.out).mono ?_
           (case sideP => exact bk BK442)
           (case sideN => exact fun k_ hk_ e_ => (Kd.R_away (g := gb442) HO_430004.out (fun _ hk => hk.2)) (by rw [hk_, e_]))
           (case side1 => repeat (first | (with_reducible first | exact HB.out | apply below_alloc | apply pw_below_drewN | apply below_drew1 | refine below_set ?_ GE429.out | refine below_set ?_ GE431.out | refine below_set ?_ GE442.out) | exact HB.out))
           (case side2 => exact Kd.R_tight rfl HO_430004.out)
           rintro e w50 ⟨v444, rfl, ho0, hb, hkp⟩
           refine ⟨_, rfl, ?_⟩
           have n0_ := Aside0.mk (Kd.Q_mono (ok' := fun k_ => ((P0_2_ k_ ∨ P0_3_ k_ ∨ P0_4_ k_) ∨ w.heap.size ≤ k_) ∧ some k_ ≠ (u430003 : Value).ownBlock ∧ k_ ≠ gb431) (Kd.Q_keptB ((Kd.Q_apart' HO434.out (Kd.R_typed HO_430004.out) (by decide))) hkp ch) cj)
           have n1_ := Aside0.mk (Kd.R_mono (ok' := fun k_ => ((P0_2_ k_ ∨ P0_3_ k_ ∨ P0_4_ k_) ∨ w.heap.size ≤ k_) ∧ nb k_ A41 y432.length c41 ∧ k_ ≠ gb431) (Kd.R_keptB ((Kd.R_apart' HO_430003.out (Kd.R_typed HO_430004.out) (by decide))) hkp ch) cj)
           have n2_ := Aside0.mk (blk_kept (bk BK429) hkp (fun hs_ => (fun e_ => (Kd.R_ne HO_430004.out BK429.out (by decide)) e_) hs_))
           have n3_ := Aside0.mk (blk_kept (bk BK431) hkp (fun hs_ => (fun e_ => (Kd.R_ne HO_430004.out BK431.out (by decide)) e_) hs_))
           have n4_ := Aside0.mk (blk_kept (bk BK442) hkp (fun hs_ => (fun e_ => (Kd.R_away HO_430004.out (fun _ hk => hk.2)) e_) hs_))
           have n5_ := Aside0.mk (Kd.R_mono (ok' := fun k_ => ((P0_2_ k_ ∨ P0_3_ k_ ∨ P0_4_ k_) ∨ w.heap.size ≤ k_) ∧ k_ ≠ gb442) ho0 (fun k_ hk_ => ⟨Or.elim hk_ (fun hs_ => (HO_430004.out.1 k_ (hs_).symm).1) (fun hn_ => (.inr (Nat.le_trans (by first | exact HK.out.1 | exact (show Kept w _ (fun k_ => (P0_2_ k_ ∨ P0_3_ k_ ∨ P0_4_ k_) ∨ k_ = gb429) from (kr2 HK GW431 GW442)).1) hn_))), Or.elim hk_ (fun hs_ => fun e_ => (Kd.R_away HO_430004.out (fun _ hk => hk.2)) (by rw [← e_]; exact hs_)) (fun hn_ => (Kd.freshB (g := gb442) (o := .cells #[.int .i64 t441] 3 (0, 0)) (bk BK442) k_ hn_))⟩))
           have n6_ := Aside0.mk (Kept.then_ (S := (fun k_ => (P0_2_ k_ ∨ P0_3_ k_ ∨ P0_4_ k_) ∨ k_ = gb429)) (kr2 HK GW431 GW442) hkp (fun k_ hs_ => Or.imp_left Or.inl ((fun e_ => (HO_430004.out.1 k_ e_.symm).1) hs_)))
           have n7_ := Aside0.mk (hb)
           clear HO434
           clear HO_430003
           clear BK429
           clear BK431
           clear BK442
           clear HK
           clear HB
           clear HO_430004
           have HO434 := n0_
           have HO_430003 := n1_
           have BK429 := n2_
           have BK431 := n3_
           have BK442 := n4_
           have HO445 := n5_
           have HK := n6_
           have HB := n7_
           clear n0_ n1_ n2_ n3_ n4_ n5_ n6_ n7_
           (try clear hb)
           (try clear hkp)
           (try clear ho0)
           refine hK.out _ _ ⟨bc0 BK429, bc1 BK429, bc2 BK429, bc3 BK429, bc4 BK429, bc0 BK442⟩ (fun hHeld => ?_)
           clear hK K
           refine norm_ (a' := ?_) ?_ ?_
           rotate_left
           ·show Act.put _ (some 49) _ = _
            simp only [aP]
            rfl
           refine one_ (i := 8) (N := some 51) (bv 13 0x1ff) rfl rfl (one_of HT_.out (by kernel_rfl)) (by decide) (fun K hK => ?_)
           refine Kd.R_lit_step (Kd.int .i64) _ 3 ?hg (N := 51) ?hd (xs := ([t441] : List Int)) (inner := [.int .i64 t441]) (ok := fun _ => True) (okp := fun _ => True) ?hr ?hp (fun _ hk => hk) trivial (Below.refl _ _) (Nat.le_refl _) (by simp) ?_; (case hd => rfl); (case hg => rfl); (case hr => first | (go_simp; done) | (go_simp; rfl)); (case hp => exact (Reps.one (show Kd.M (Kd.int .i64) _ _ _ t441 [.int .i64 t441] from rfl) (Reps.none _ _)))
           intro v447 w51 ho52 hb hg_ hnew_
           clear hg_ hnew_
           (first | rw [← Ny446.out] at ho52 | (simp only [Int.reduceToNat] at ho52; rw [← Ny446.out] at ho52))
           have n0_ := Aside0.mk (Kd.Q_below (qo HO434) hb)
           have n1_ := rb HO_430003 hb
           have n2_ := Aside0.mk (Kd.R_elder' (ro HO445) (Kd.R_base ho52) hb)
           have n3_ := Aside0.mk (Kd.R_lower (Kd.R_newB (nw (Kd.R_newM (M := fun k_ => ((P0_2_ k_ ∨ P0_3_ k_ ∨ P0_4_ k_) ∨ w.heap.size ≤ k_)) ho52 (by first | exact HK.out.1 | exact (show Kept w _ (fun k_ => (P0_2_ k_ ∨ P0_3_ k_ ∨ P0_4_ k_) ∨ k_ = gb429) from (kr2 HK GW431 GW442)).1) (fun k_ h_ => .inr h_)) HO445) (g := gb442) (o := .cells #[.int .i64 t441] 3 (0, 0)) (bk BK442)) (below_size (be3 HB GE429 GE431 GE442)))
           have n4_ := bb BK429 hb
           have n5_ := bb BK431 hb
           have n6_ := bb BK442 hb
           have n7_ := Aside0.mk (Kept.below (w := w) (S := (fun k_ => (P0_2_ k_ ∨ P0_3_ k_ ∨ P0_4_ k_) ∨ k_ = gb429)) (kr2 HK GW431 GW442) hb)
           have n8_ := Aside0.mk (below_step (be3 HB GE429 GE431 GE442) hb)
           clear HO434
           clear HO_430003
           clear HO445
           clear BK429
           clear BK431
           clear BK442
           clear HK
           clear HB
           have HO434 := n0_
           have HO_430003 := n1_
           have HO445 := n2_
           have HO448 := n3_
           have BK429 := n4_
           have BK431 := n5_
           have BK442 := n6_
           have HK := n7_
           have HB := n8_
           clear n0_ n1_ n2_ n3_ n4_ n5_ n6_ n7_ n8_
           clear hb ho52
           refine hK.out _ _ ⟨bc0 BK429, bc1 BK429, bc2 BK429, bc3 BK429, bc4 BK429, bc0 BK442⟩ (fun hHeld => ?_)
           clear hK K
           refine norm_ (a' := ?_) ?_ ?_
           rotate_left
           ·show Act.put _ (some 51) _ = _
            simp only [aP]
            rfl
           exact norm_ (by simp only [putAll, Act.put, List.setIfInBounds_toArray, List.set_cons_zero, List.set_cons_succ]) (hCont (v444, v447) _ ⟨hHeld, (qo HO434), (by (with_reducible repeat (first | apply Kd.R_alloc | apply Kd.R_drewN | apply Kd.R_drew)); exact rm HO445), (by (with_reducible repeat (first | apply Kd.R_alloc | apply Kd.R_drewN | apply Kd.R_drew)); exact rm HO448), (ro HO_430003), (bk BK429), (bk BK431), (bk BK442), (kr2 HK GW431 GW442), (be3 HB GE429 GE431 GE442)⟩)
          skip
          refine Kd.R_lit_step (Kd.int .i64) _ 3 ?hg (N := 51) ?hd (xs := ([t441] : List Int)) (inner := [.int .i64 t441]) (ok := fun _ => True) (okp := fun _ => True) ?hr ?hp (fun _ hk => hk) trivial (Below.refl _ _) (Nat.le_refl _) (by simp) ?_; (case hd => rfl); (case hg => rfl); (case hr => first | (go_simp; done) | (go_simp; rfl)); (case hp => exact (Reps.one (show Kd.M (Kd.int .i64) _ _ _ t441 [.int .i64 t441] from rfl) (Reps.none _ _)))
          intro v447 w50 ho51 hb hg_ hnew_
          clear hg_ hnew_
          (first | rw [← Ny446.out] at ho51 | (simp only [Int.reduceToNat] at ho51; rw [← Ny446.out] at ho51))
          have n0_ := Aside0.mk (Kd.Q_below (qo HO434) hb)
          have n1_ := rb HO_430003 hb
          have n2_ := Aside0.mk (Kd.R_elder' (ro HO_430004) (Kd.R_base ho51) hb)
          have n3_ := Aside0.mk (Kd.R_lower (Kd.R_newB (nw (Kd.R_newM (M := fun k_ => ((P0_2_ k_ ∨ P0_3_ k_ ∨ P0_4_ k_) ∨ w.heap.size ≤ k_)) ho51 (by first | exact HK.out.1 | exact (show Kept w _ (fun k_ => (P0_2_ k_ ∨ P0_3_ k_ ∨ P0_4_ k_) ∨ k_ = gb429) from (kr2 HK GW431 GW442)).1) (fun k_ h_ => .inr h_)) HO_430004) (g := gb442) (o := .cells #[.int .i64 t441] 3 (0, 0)) (bk BK442)) (below_size (be3 HB GE429 GE431 GE442)))
          have n4_ := bb BK429 hb
          have n5_ := bb BK431 hb
          have n6_ := bb BK442 hb
          have n7_ := Aside0.mk (Kept.below (w := w) (S := (fun k_ => (P0_2_ k_ ∨ P0_3_ k_ ∨ P0_4_ k_) ∨ k_ = gb429)) (kr2 HK GW431 GW442) hb)
          have n8_ := Aside0.mk (below_step (be3 HB GE429 GE431 GE442) hb)
          clear HO434
          clear HO_430003
          clear HO_430004
          clear BK429
          clear BK431
          clear BK442
          clear HK
          clear HB
          have HO434 := n0_
          have HO_430003 := n1_
          have HO_430004 := n2_
          have HO448 := n3_
          have BK429 := n4_
          have BK431 := n5_
          have BK442 := n6_
          have HK := n7_
          have HB := n8_
          clear n0_ n1_ n2_ n3_ n4_ n5_ n6_ n7_ n8_
          clear hb ho51
          refine hK.out _ _ ⟨bc0 BK429, bc1 BK429, bc2 BK429, bc3 BK429, bc4 BK429, bc0 BK442⟩ (fun hHeld => ?_)
          clear hK K
          refine norm_ (a' := ?_) ?_ ?_
          rotate_left
          ·show Act.put _ (some 51) _ = _
           simp only [aP]
           rfl
          refine one_ (i := 6) (N := some 49) (bv 13 0x1ff) rfl rfl (one_of HT_.out (by kernel_rfl)) (by decide) (fun K hK => ?_)
          refine goes_ Try.func98 (by kernel_rfl) rfl #[.slice Ao47 x430004_1.length co47, .func (.func 118) #[] #[.pointer (some ⟨gb442, 0, none⟩)]] (by rfl) rfl rfl ml ?_
          with_reducible refine (slices_DeleteFunc_int_int.calls (fun k_ => some k_ = (.slice Ao47 x430004_1.length co47 : Value).ownBlock) (.slice Ao47 x430004_1.length co47) x430004_1 t441 gb442 t443 w0 _ ?sideP ?sideN ?side1 ?side2 A29.out).mono ?_
          (case sideP => exact bk BK442)
          (case sideN => exact fun k_ hk_ e_ => (Kd.R_away (g := gb442) HO_430004.out (fun _ hk => hk.1.2)) (by rw [hk_, e_]))
          (case side1 => repeat (first | (with_reducible first | exact HB.out | apply below_alloc | apply pw_below_drewN | apply below_drew1 | refine below_set ?_ GE429.out | refine below_set ?_ GE431.out | refine below_set ?_ GE442.out) | exact HB.out))
          (case side2 => exact Kd.R_tight rfl HO_430004.out)
          rintro e w52 ⟨v444, rfl, ho0, hb, hkp⟩
          refine ⟨_, rfl, ?_⟩
          have n0_ := Aside0.mk (Kd.Q_mono (ok' := fun k_ => ((P0_2_ k_ ∨ P0_3_ k_ ∨ P0_4_ k_) ∨ w.heap.size ≤ k_) ∧ some k_ ≠ (u430003 : Value).ownBlock ∧ k_ ≠ gb431) (Kd.Q_keptB ((Kd.Q_apart' HO434.out (Kd.R_typed HO_430004.out) (by decide))) hkp ch) cj)
          have n1_ := Aside0.mk (Kd.R_mono (ok' := fun k_ => ((P0_2_ k_ ∨ P0_3_ k_ ∨ P0_4_ k_) ∨ w.heap.size ≤ k_) ∧ nb k_ A41 y432.length c41 ∧ k_ ≠ gb431) (Kd.R_keptB ((Kd.R_apart' HO_430003.out (Kd.R_typed HO_430004.out) (by decide))) hkp ch) cj)
          have n2_ := Aside0.mk (blk_kept (bk BK429) hkp (fun hs_ => (fun e_ => (Kd.R_ne HO_430004.out BK429.out (by decide)) e_) hs_))
          have n3_ := Aside0.mk (blk_kept (bk BK431) hkp (fun hs_ => (fun e_ => (Kd.R_ne HO_430004.out BK431.out (by decide)) e_) hs_))
          have n4_ := Aside0.mk (blk_kept (bk BK442) hkp (fun hs_ => (fun e_ => (Kd.R_away HO_430004.out (fun _ hk => hk.1.2)) e_) hs_))
          have n5_ := Aside0.mk (Kd.R_mono (ok' := fun k_ => ((P0_2_ k_ ∨ P0_3_ k_ ∨ P0_4_ k_) ∨ w.heap.size ≤ k_) ∧ k_ ≠ gb442 ∧ some k_ ≠ (v444 : Value).ownBlock) (Kd.R_keptB (HO448.out) hkp ch) (fun k_ hk_ => ⟨hk_.1.1.1.1, hk_.1.2, fun e_ => Or.elim (ho0.1 k_ e_.symm) (fun hs_ => hk_.2.1 hs_) (fun hn_ => Nat.not_le.2 hk_.2.2 hn_)⟩))
          have n6_ := Aside0.mk (Kd.R_mono (ok' := fun k_ => ((P0_2_ k_ ∨ P0_3_ k_ ∨ P0_4_ k_) ∨ w.heap.size ≤ k_) ∧ some k_ ≠ (v447 : Value).ownBlock ∧ k_ ≠ gb442) ho0 (fun k_ hk_ => ⟨Or.elim hk_ (fun hs_ => (HO_430004.out.1 k_ (hs_).symm).1.1) (fun hn_ => (.inr (Nat.le_trans (by first | exact HK.out.1 | exact (show Kept w _ (fun k_ => (P0_2_ k_ ∨ P0_3_ k_ ∨ P0_4_ k_) ∨ k_ = gb429) from (kr2 HK GW431 GW442)).1) hn_))), Or.elim hk_ (fun hs_ => fun e_ => (((HO448.out).1 k_ e_.symm).1.2) hs_) (fun hn_ => (Kd.fresh' (Kd.R_lt (ro HO448)) k_ hn_)), Or.elim hk_ (fun hs_ => fun e_ => (Kd.R_away HO_430004.out (fun _ hk => hk.1.2)) (by rw [← e_]; exact hs_)) (fun hn_ => (Kd.freshB (g := gb442) (o := .cells #[.int .i64 t441] 3 (0, 0)) (bk BK442) k_ hn_))⟩))
          have n7_ := Aside0.mk (Kept.then_ (S := (fun k_ => (P0_2_ k_ ∨ P0_3_ k_ ∨ P0_4_ k_) ∨ k_ = gb429)) (kr2 HK GW431 GW442) hkp (fun k_ hs_ => Or.imp_left Or.inl ((fun e_ => (HO_430004.out.1 k_ e_.symm).1.1) hs_)))
          have n8_ := Aside0.mk (hb)
          clear HO434
          clear HO_430003
          clear BK429
          clear BK431
          clear BK442
          clear HO448
          clear HK
          clear HB
          clear HO_430004
          have HO434 := n0_
          have HO_430003 := n1_
          have BK429 := n2_
          have BK431 := n3_
          have BK442 := n4_
          have HO448 := n5_
          have HO445 := n6_
          have HK := n7_
          have HB := n8_
          clear n0_ n1_ n2_ n3_ n4_ n5_ n6_ n7_ n8_
          (try clear hb)
          (try clear hkp)
          (try clear ho0)
          refine hK.out _ _ ⟨bc0 BK429, bc1 BK429, bc2 BK429, bc3 BK429, bc4 BK429, bc0 BK442⟩ (fun hHeld => ?_)
          clear hK K
          refine norm_ (a' := ?_) ?_ ?_
          rotate_left
          ·show Act.put _ (some 49) _ = _
           simp only [aP]
           rfl
          exact norm_ (by simp only [putAll, Act.put, List.setIfInBounds_toArray, List.set_cons_zero, List.set_cons_succ]) (hCont (v444, v447) _ ⟨hHeld, (qo HO434), (ro HO445), (by (with_reducible repeat (first | apply Kd.R_alloc | apply Kd.R_drewN | apply Kd.R_drew)); exact rm HO448), (ro HO_430003), (bk BK429), (bk BK431), (bk BK442), (kr2 HK GW431 GW442), (be3 HB GE429 GE431 GE442)⟩)
         rintro ⟨v444, v447⟩ w53 ⟨hS_, h0_, h1_, h2_, h3_, h4_, h5_, h6_, h7_, h8_⟩
         have n0_ : Aside0 (Kd.Q k68 68 w53 w0.heap.size (fun k_ => ((P0_2_ k_ ∨ P0_3_ k_ ∨ P0_4_ k_) ∨ w.heap.size ≤ k_) ∧ some k_ ≠ (u430003 : Value).ownBlock ∧ k_ ≠ gb431) (.slice A41 y432.length c41) y432) := ⟨h0_⟩
         have n1_ : Aside0 (Kd.R (Kd.int .i64) 3 w53 w0.heap.size (fun k_ => ((P0_2_ k_ ∨ P0_3_ k_ ∨ P0_4_ k_) ∨ w.heap.size ≤ k_) ∧ some k_ ≠ (v447 : Value).ownBlock ∧ k_ ≠ gb442) v444 t443) := ⟨h1_⟩
         have n2_ : Aside0 (Kd.R (Kd.int .i64) 3 w53 w0.heap.size (fun k_ => ((P0_2_ k_ ∨ P0_3_ k_ ∨ P0_4_ k_) ∨ w.heap.size ≤ k_) ∧ some k_ ≠ (v444 : Value).ownBlock ∧ k_ ≠ gb442) v447 y446) := ⟨h2_⟩
         have n3_ : Aside0 (Kd.R k68 68 w53 w0.heap.size (fun k_ => ((P0_2_ k_ ∨ P0_3_ k_ ∨ P0_4_ k_) ∨ w.heap.size ≤ k_) ∧ nb k_ A41 y432.length c41 ∧ k_ ≠ gb431) u430003 x430003_1) := ⟨h3_⟩
         have n4_ : Aside0 (w53.heap[gb429]? = some (.cells #[.int .i64 a0_0, .int .i64 a0_1, .slice A41 y432.length c41, u430003, .slice Ao47 x430004_1.length co47] 30 (0, 0))) := ⟨h4_⟩
         have n5_ : Aside0 (w53.heap[gb431]? = some (.cells #[.string ((rd_T68 x430002_1 0).f0), .string ((rd_T68 x430002_1 0).f1), .int .i64 ((rd_T68 x430002_1 0).f2)] 68 (0, 0))) := ⟨h5_⟩
         have n6_ : Aside0 (w53.heap[gb442]? = some (.cells #[.int .i64 t441] 3 (0, 0))) := ⟨h6_⟩
         have n7_ : Aside0 (Kept w w53 (fun k_ => (P0_2_ k_ ∨ P0_3_ k_ ∨ P0_4_ k_) ∨ k_ = gb429)) := ⟨h7_⟩
         have n8_ : Aside0 (Below w0.heap.size w0 w53) := ⟨h8_⟩
         clear HO434
         clear HO_430003
         clear HO_430004
         clear BK429
         clear BK431
         clear BK442
         clear HK
         clear HB
         clear h0_ h1_ h2_ h3_ h4_ h5_ h6_ h7_ h8_
         have HO434 := n0_
         have HO445 := n1_
         have HO448 := n2_
         have HO_430003 := n3_
         have BK429 := n4_
         have BK431 := n5_
         have BK442 := n6_
         have HK := n7_
         have HB := n8_
         clear n0_ n1_ n2_ n3_ n4_ n5_ n6_ n7_ n8_
         have hHeld : w53.cell? ⟨gb429, 0, none⟩ = some (.int .i64 a0_0) ∧ w53.cell? ⟨gb429, 1, none⟩ = some (.int .i64 a0_1) ∧ w53.cell? ⟨gb429, 2, none⟩ = some (.slice A41 y432.length c41) ∧ w53.cell? ⟨gb429, 3, none⟩ = some (u430003) ∧ w53.cell? ⟨gb429, 4, none⟩ = some (.slice Ao47 x430004_1.length co47) ∧ w53.cell? ⟨gb442, 0, none⟩ = some (.int .i64 t441) := hS_
         obtain ⟨Ao55, co55, eo55⟩ := Kd.R_slice HO448.out
         (first | subst eo55 | (injection eo55 with f1_ f2_ f3_; have f4_ := f1_.symm; have f5_ := f3_.symm; clear f1_ f2_ f3_; subst f4_; subst f5_))
         refine norm_ (a' := ?_) ?_ ?_
         rotate_left
         ·simp only [putAll, Act.put, List.setIfInBounds_toArray, List.set_cons_zero, List.set_cons_succ]
          rfl
         refine one_ (i := 9) (N := some 52) (bv 13 0x3ff) rfl rfl (one_of HT_.out (by kernel_rfl)) (by decide) (fun K hK => ?_)
         refine Kd.R_append_rows_step (Kd.int .i64) (w0 := w0) w0.heap.size (by rfl) (.tmp 49) (.tmp 51) 23 3 (.int .i64 0) 8 rfl Try.underlying23 info3 rfl (by decide) (by omega) v444 t443 y446 _ _ _ (fun k_ => ((P0_2_ k_ ∨ P0_3_ k_ ∨ P0_4_ k_) ∨ w.heap.size ≤ k_) ∧ nb k_ Ao55 y446.length co55 ∧ k_ ≠ gb442) (fun _ => False) rfl rfl ?aO ?aR (fun _ _ h => h) (fun _ h => h.elim) ?aF ?aB ?aS ?aL ?_
         (case aR => repeat (first | exact (Kd.R_reads' HO448.out).2.2 | (with_reducible refine Kd.C_alloc ?_ _) | (with_reducible refine Kd.C_drewN ?_ _) | (with_reducible refine Kd.C_drew ?_)))
         (case aB => exact (be3 HB GE429 GE431 GE442))
         (case aF => exact (fun k_ hk => ⟨(.inr (Nat.le_trans (by first | exact HK.out.1 | exact (show Kept w _ (fun k_ => (P0_2_ k_ ∨ P0_3_ k_ ∨ P0_4_ k_) ∨ k_ = gb429) from (kr2 HK GW431 GW442)).1) hk)), Kd.fresh' (Kd.R_lt (ro HO448)) k_ hk, Kd.freshB (g := gb442) (o := .cells #[.int .i64 t441] 3 (0, 0)) (bk BK442) k_ hk⟩))
         (case aO => exact (ro HO445))
         (case aS => exact (below_size (be3 HB GE429 GE431 GE442)))
         (case aL => have := LMc30.out; omega)
         intro v450 w54 ho hb hg hat
         rw [← Ny449.out] at ho
         have n0_ := Aside0.mk (Kd.Q_over' (qo HO434) (Kd.R_typed (ro HO445)) (by decide) hg)
         have n1_ := Aside0.mk (Kd.R_over' (ro HO_430003) (Kd.R_typed (ro HO445)) (by decide) hg)
         have n2_ := Aside0.mk (blk_grown (g := gb429) (o := .cells #[.int .i64 a0_0, .int .i64 a0_1, .slice A41 y432.length c41, u430003, .slice Ao47 x430004_1.length co47] 30 (0, 0)) (bk BK429) hg (Kd.R_ne HO445.out BK429.out (by decide)))
         have n3_ := Aside0.mk (blk_grown (g := gb431) (o := .cells #[.string ((rd_T68 x430002_1 0).f0), .string ((rd_T68 x430002_1 0).f1), .int .i64 ((rd_T68 x430002_1 0).f2)] 68 (0, 0)) (bk BK431) hg (Kd.R_ne HO445.out BK431.out (by decide)))
         have n4_ := Aside0.mk (blk_grown (g := gb442) (o := .cells #[.int .i64 t441] 3 (0, 0)) (bk BK442) hg (Kd.R_away HO445.out (fun _ hk => hk.2.2)))
         have n5_ := Aside0.mk (Kd.R_after (ok := (fun k_ => ((P0_2_ k_ ∨ P0_3_ k_ ∨ P0_4_ k_) ∨ w.heap.size ≤ k_) ∧ k_ ≠ gb442)) (by (with_reducible repeat (first | apply Kd.R_alloc | apply Kd.R_drewN | apply Kd.R_drew)); exact rm HO448) hg hat)
         have n6_ := Aside0.mk (hb)
         have n7_ := Aside0.mk (Kept.of_grown (S := (fun k_ => (P0_2_ k_ ∨ P0_3_ k_ ∨ P0_4_ k_) ∨ k_ = gb429)) hg (kr2 HK GW431 GW442) (fun k_ e_ => Or.imp_left Or.inl ((HO445.out.1 k_ e_).1)))
         have n8_ := Aside0.mk (ho)
         clear HO434
         clear HO_430003
         clear BK429
         clear BK431
         clear BK442
         clear HO448
         clear HB
         clear HK
         clear HO445
         have HO434 := n0_
         have HO_430003 := n1_
         have BK429 := n2_
         have BK431 := n3_
         have BK442 := n4_
         have HO448 := n5_
         have HB := n6_
         have HK := n7_
         have HO451 := n8_
         clear n0_ n1_ n2_ n3_ n4_ n5_ n6_ n7_ n8_
         clear ho hb hg hat
         obtain ⟨Ao56, co56, eo56⟩ := Kd.R_slice HO451.out
         (first | subst eo56 | (injection eo56 with f1_ f2_ f3_; have f4_ := f1_.symm; have f5_ := f3_.symm; clear f1_ f2_ f3_; subst f4_; subst f5_))
         refine hK.out _ _ ⟨bc0 BK429, bc1 BK429, bc2 BK429, bc3 BK429, bc4 BK429, bc0 BK442⟩ (fun hHeld => ?_)
         clear hK K
         refine norm_ (a' := ?_) ?_ ?_
         rotate_left
         ·show Act.put _ (some 52) _ = _
          simp only [aP]
          rfl
         refine py HT_ 10 53 (bv 13 0x7ff) ?_
         refine py HT_ 11 54 (bv 13 0xfff) ?_
         refine last_ (i := 12) (N := none) (bv 13 0x1fff) rfl rfl (one_of HT_.out (by kernel_rfl)) (by decide) (fun K hK => ?_)
         have hs57 : w54.cell? ⟨gb429, 4, none⟩ = some (.slice Ao47 x430004_1.length co47) := bc4 BK429
         have hfs57 := blk_frozen BK429.out 4
         have hns57_1 := NB431_429.out
         have hns57_2 := NB442_429.out
         have hms57_1 := NB429_431.out
         have hms57_2 := NB429_442.out
         refine skip_ (w1 := ?_) (by rfl) rfl ?_ ?_
         rotate_left
         ·go_simp
          rfl
         refine hK.out _ _ ?_
         clear hK K
         refine done_ (done_of HT_.out (by kernel_rfl)) ?_
         try go_wp2
         have n0_ : Aside0 (Kd.Q k68 68 (w54.setCell ⟨gb429, 4, none⟩ (.slice Ao56 y449.length co56)) w0.heap.size (fun k_ => ((P0_2_ k_ ∨ P0_3_ k_ ∨ P0_4_ k_) ∨ w.heap.size ≤ k_) ∧ some k_ ≠ (u430003 : Value).ownBlock ∧ k_ ≠ gb431) (.slice A41 y432.length c41) y432) := ⟨(qf HO434 BK429)⟩
         have n1_ : Aside0 (Kd.R k68 68 (w54.setCell ⟨gb429, 4, none⟩ (.slice Ao56 y449.length co56)) w0.heap.size (fun k_ => ((P0_2_ k_ ∨ P0_3_ k_ ∨ P0_4_ k_) ∨ w.heap.size ≤ k_) ∧ nb k_ A41 y432.length c41 ∧ k_ ≠ gb431) u430003 x430003_1) := ⟨(rf HO_430003 BK429)⟩
         have n2_ : Aside0 (Kd.R (Kd.int .i64) 3 (w54.setCell ⟨gb429, 4, none⟩ (.slice Ao56 y449.length co56)) w0.heap.size (fun k_ => ((P0_2_ k_ ∨ P0_3_ k_ ∨ P0_4_ k_) ∨ w.heap.size ≤ k_) ∧ nb k_ Ao56 y449.length co56 ∧ k_ ≠ gb442) (.slice Ao55 y446.length co55) y446) := ⟨(rfn HO448 BK429)⟩
         have n3_ : Aside0 (Kd.R (Kd.int .i64) 3 (w54.setCell ⟨gb429, 4, none⟩ (.slice Ao56 y449.length co56)) w0.heap.size (fun k_ => ((P0_2_ k_ ∨ P0_3_ k_ ∨ P0_4_ k_) ∨ w.heap.size ≤ k_) ∧ nb k_ Ao55 y446.length co55 ∧ k_ ≠ gb442) (.slice Ao56 y449.length co56) y449) := ⟨(rf HO451 BK429)⟩
         have n4_ : Aside0 ((w54.setCell ⟨gb429, 4, none⟩ (.slice Ao56 y449.length co56)).heap[gb429]? = some (.cells #[.int .i64 a0_0, .int .i64 a0_1, .slice A41 y432.length c41, u430003, .slice Ao56 y449.length co56] 30 (0, 0))) := ⟨(bp BK429)⟩
         have n5_ : Aside0 ((w54.setCell ⟨gb429, 4, none⟩ (.slice Ao56 y449.length co56)).heap[gb431]? = some (.cells #[.string ((rd_T68 x430002_1 0).f0), .string ((rd_T68 x430002_1 0).f1), .int .i64 ((rd_T68 x430002_1 0).f2)] 68 (0, 0))) := ⟨(bp1 BK431 NB431_429)⟩
         have n6_ : Aside0 ((w54.setCell ⟨gb429, 4, none⟩ (.slice Ao56 y449.length co56)).heap[gb442]? = some (.cells #[.int .i64 t441] 3 (0, 0))) := ⟨(bp1 BK442 NB442_429)⟩
         have n7_ : Aside0 (Kept w (w54.setCell ⟨gb429, 4, none⟩ (.slice Ao56 y449.length co56)) (fun k_ => (P0_2_ k_ ∨ P0_3_ k_ ∨ P0_4_ k_) ∨ k_ = gb429)) := ⟨(kr2 HK GW431 GW442)⟩
         have n8_ : Aside0 (Below w0.heap.size w0 (w54.setCell ⟨gb429, 4, none⟩ (.slice Ao56 y449.length co56))) := ⟨be3 HB GE429 GE431 GE442⟩
         (try clear HO434)
         (try clear HO_430003)
         (try clear HO448)
         (try clear HO451)
         (try clear BK429)
         (try clear BK431)
         (try clear BK442)
         (try clear HK)
         (try clear HB)
         generalize (w54.setCell ⟨gb429, 4, none⟩ (.slice Ao56 y449.length co56)) = w58 at n0_ n1_ n2_ n3_ n4_ n5_ n6_ n7_ n8_ ⊢
         have HO434 := n0_
         have HO_430003 := n1_
         have HO448 := n2_
         have HO451 := n3_
         have BK429 := n4_
         have BK431 := n5_
         have BK442 := n6_
         have HK := n7_
         have HB := n8_
         clear n0_ n1_ n2_ n3_ n4_ n5_ n6_ n7_ n8_
         have n0_ := Aside0.mk (Kd.Q_drew HO434.out)
         have n1_ := Aside0.mk (Kd.R_drew HO_430003.out)
         have n2_ := Aside0.mk (Kd.R_drew HO448.out)
         have n3_ := Aside0.mk (Kd.R_drew HO451.out)
         have n4_ := Aside0.mk (blk_drew BK429.out)
         have n5_ := Aside0.mk (blk_drew BK431.out)
         have n6_ := Aside0.mk (blk_drew BK442.out)
         have n7_ := Aside0.mk (Kept.drew HK.out)
         have n8_ := Aside0.mk (below_drew1 HB.out)
         clear HO434
         clear HO_430003
         clear HO448
         clear HO451
         clear BK429
         clear BK431
         clear BK442
         clear HK
         clear HB
         have HO434 := n0_
         have HO_430003 := n1_
         have HO448 := n2_
         have HO451 := n3_
         have BK429 := n4_
         have BK431 := n5_
         have BK442 := n6_
         have HK := n7_
         have HB := n8_
         clear n0_ n1_ n2_ n3_ n4_ n5_ n6_ n7_ n8_
         obtain ⟨Ao60, co60, eo60⟩ := Kd.R_slice HO_430003.out
         (first | subst eo60 | (injection eo60 with f1_ f2_ f3_; have f4_ := f1_.symm; have f5_ := f3_.symm; clear f1_ f2_ f3_; subst f4_; subst f5_))
         refine start_ (n := 8) (S := fun w' => w'.cell? ⟨gb429, 0, none⟩ = some (.int .i64 a0_0) ∧ w'.cell? ⟨gb429, 1, none⟩ = some (.int .i64 a0_1) ∧ w'.cell? ⟨gb429, 2, none⟩ = some (.slice A41 y432.length c41) ∧ w'.cell? ⟨gb429, 3, none⟩ = some (.slice Ao60 x430003_1.length co60) ∧ w'.cell? ⟨gb429, 4, none⟩ = some (.slice Ao56 y449.length co56)) (ds := []) (bv 8 0x0) (by kernel_rfl) rfl rfl ⟨bc0 BK429, bc1 BK429, bc2 BK429, bc3 BK429, bc4 BK429⟩ (fun hHeld => ?_); refine with_tabW impl_Three_evictSmall.tab9 impl_Three_evictSmall.bits9 (fun HT_ HW_ => ?_)
         generalize w58.drew = w59 at HO434 HO_430003 HO448 HO451 BK429 BK431 BK442 HK HB hHeld ⊢
         refine py HT_ 0 55 (bv 8 0x1) ?_
         refine py HT_ 1 56 (bv 8 0x3) ?_
         refine py HT_ 2 57 (bv 8 0x7) ?_
         refine tk HT_ HW_ hHeld 3 58 (bv 8 0xf) ?_
         refine py HT_ 4 59 (bv 8 0x1f) ?_
         refine py HT_ 5 60 (bv 8 0x3f) ?_
         refine one_ (i := 6) (N := some 61) (bv 8 0x7f) rfl rfl (one_of HT_.out (by kernel_rfl)) (by decide) (fun K hK => ?_)
         refine goes_ Try.func65 (by kernel_rfl) rfl #[.pointer (some ⟨gb429, 0, none⟩)] (by rfl) rfl rfl ml ?_
         with_reducible refine (impl_Three_ghosts.calls a0_0 a0_1 A41 c41 y432 Ao60 co60 x430003_1 Ao56 co56 y449 gb429 t452 _ ?side1 ?side2 ?side3 ?side4 ?side5 ?side6 ?sideP A31.out).mono ?_
         (case sideP => exact bk BK429)
         (case side1 => repeat (first | exact (Kd.Q_reads' HO434.out).2.2 | (with_reducible refine Kd.C_alloc ?_ _) | (with_reducible refine Kd.C_drewN ?_ _) | (with_reducible refine Kd.C_drew ?_)))
         (case side2 => exact (Kd.Q_reads' HO434.out).2.1)
         (case side3 => exact cr HO_430003)
         (case side4 => exact (Kd.R_reads' HO_430003.out).2.1)
         (case side5 => exact cr HO451)
         (case side6 => exact (Kd.R_reads' HO451.out).2.1)
         rintro e w61 ⟨rfl, hb⟩
         refine ⟨_, rfl, ?_⟩
         have n0_ := Aside0.mk (Kd.Q_below (qo HO434) hb)
         have n1_ := rb HO_430003 hb
         have n2_ := rb HO448 hb
         have n3_ := rb HO451 hb
         have n4_ := bb BK429 hb
         have n5_ := bb BK431 hb
         have n6_ := bb BK442 hb
         have n7_ := Aside0.mk (Kept.below (w := w) (S := (fun k_ => (P0_2_ k_ ∨ P0_3_ k_ ∨ P0_4_ k_) ∨ k_ = gb429)) (kr2 HK GW431 GW442) hb)
         have n8_ := Aside0.mk (below_step (be3 HB GE429 GE431 GE442) hb)
         clear HO434
         clear HO_430003
         clear HO448
         clear HO451
         clear BK429
         clear BK431
         clear BK442
         clear HK
         clear HB
         have HO434 := n0_
         have HO_430003 := n1_
         have HO448 := n2_
         have HO451 := n3_
         have BK429 := n4_
         have BK431 := n5_
         have BK442 := n6_
         have HK := n7_
         have HB := n8_
         clear n0_ n1_ n2_ n3_ n4_ n5_ n6_ n7_ n8_
         (try clear hb)
         (try clear hb2)
         (try clear hk)
         (try clear hi)
         refine hK.out _ _ ⟨bc0 BK429, bc1 BK429, bc2 BK429, bc3 BK429, bc4 BK429⟩ (fun hHeld => ?_)
         clear hK K
         refine norm_ (a' := ?_) ?_ ?_
         rotate_left
         ·show Act.put _ (some 61) _ = _
          simp only [aP]
          rfl
         refine py HT_ 7 62 (bv 8 0xff) ?_
         refine done_ (done_of HT_.out (by kernel_rfl)) ?_
         have hcz62_0 := bz5 BK429
         have q63 : (1 : Int) ≤ ((y449.length : Int) : Int) := od
         obtain ⟨i063, hi063, _, hsz63, _⟩ := info_parts info3
         have hcut63 := cut_from (P := Try.prog) 23 3 .i64 Try.underlying23 hi063 1 hsz63 Ao56 y449.length co56 1 (by omega) q63
         have hr63 := Kd.Q_drop (k := (1 : Int).toNat) (Kd.Q_of_R HO451.out) (by omega)
         obtain ⟨A63, hA63⟩ : ∃ A1, A1 = (if co56 = (1 : Int).toNat then Ao56 else (Ao56 : Option Addr).map (·.add ((1 : Int).toNat * 1))) := ⟨_, rfl⟩
         obtain ⟨c63, hc63⟩ : ∃ c1, c1 = co56 - (1 : Int).toNat := ⟨_, rfl⟩
         have hy63 : y453.length = y449.length - (1 : Int).toNat := (by rw [Ny453.out, List.length_drop])
         rw [← Ny453.out] at hr63
         rw [← hy63, ← hA63, ← hc63] at hcut63
         replace hr63 : Kd.Q (Kd.int .i64) 3 w61 w0.heap.size (fun k_ => ((P0_2_ k_ ∨ P0_3_ k_ ∨ P0_4_ k_) ∨ w.heap.size ≤ k_) ∧ nb k_ Ao55 y446.length co55 ∧ k_ ≠ gb442) (.slice A63 y453.length c63) y453 := (by rw [hA63, hc63, hy63]; exact hr63)
         have HE63 : Aside0 ((Value.slice A63 y453.length c63).ownBlock = (.slice Ao56 y449.length co56 : Value).ownBlock) := ⟨by rw [hA63]; split <;> (cases (Ao56 : Option Addr) <;> rfl)⟩
         clear hy63 hi063 hsz63 HO451 hA63 hc63
         have HO455 := Aside0.mk hr63
         clear hr63
         replace q63 := eq_true q63
         have n_ := Aside0.mk (Kd.R_mono (ok' := fun k_ => ((((P0_2_ k_ ∨ P0_3_ k_ ∨ P0_4_ k_) ∨ w.heap.size ≤ k_)) ∧ (nb k_ A63 y453.length c63 ∧ k_ ≠ gb442))) HO448.out (fun k_ hk => ⟨hk.1, ⟨(fun e_ => hk.2.1 (e_.trans HE63.out)), hk.2.2⟩⟩))
         clear HO448
         have HO448 := n_
         clear n_
         have hcz64_0 := bz3 BK431
         try go_wp2
         go_ret2
         exact ⟨_, _, _, er, (bp BK429), by (with_reducible repeat (first | apply Kd.Q_alloc | apply Kd.Q_drewN | apply Kd.Q_drew)); exact Kd.Q_mono (Kd.Q_far (p := ⟨gb429, 4, none⟩) (Kd.Q_types HO434.out BK429.out (by decide)) (fun _ hk => hk.2) (.slice A63 y453.length c63)) (fun _ hk => ⟨hk.1.1, hk.1.2.1⟩), by (with_reducible repeat (first | apply Kd.R_alloc | apply Kd.R_drewN | apply Kd.R_drew)); exact Kd.R_mono (Kd.R_far (p := ⟨gb429, 4, none⟩) (Kd.R_types HO_430003.out BK429.out (by decide)) (fun _ hk => hk.2) (.slice A63 y453.length c63)) (fun _ hk => ⟨hk.1.1, hk.1.2.1⟩), by (with_reducible repeat (first | apply Kd.Q_alloc | apply Kd.Q_drewN | apply Kd.Q_drew)); exact Kd.Q_mono (Kd.Q_far (p := ⟨gb429, 4, none⟩) (Kd.Q_types HO455.out BK429.out (by decide)) (fun _ hk => hk.2) (.slice A63 y453.length c63)) (fun _ hk => hk.1.1), be3 HB GE429 GE431 GE442, (kr2 HK GW431 GW442)⟩
        rw [if_neg c33] at H
        exact absurd H (by simp)
       rw [if_neg c32] at H
       have c32b0 : decide (t452 < (y449.length : Int)) = false := decide_eq_false c32
       clear c32
       simp only [Option.some.injEq, Prod.mk.injEq] at H
       obtain ⟨rfl, rfl, rfl, rfl, rfl, rfl, rfl⟩ := H
       have hcz65_0 := bz5 BK429
       obtain ⟨Ao66, co66, eo66, _⟩ := Kd.Q_slice HO_430002.out
       subst eo66
       have p430 : 0 ≤ (0 : Int) := (by omega)
       have q430 : 0 < (x430002_1.length : Int) := od
       obtain ⟨ad430, e430, hx430_0, hx430_1, hx430_2⟩ := at_T68 (Kd.Q_reads' HO_430002.out).2.2 0 p430 q430
       cases e430
       have qi430 : (0 < x430002_1.length) = True := eq_true (by omega)
       (try rw [show ((0 : Int)).toNat = 0 from rfl] at hx430_0)
       (try rw [show 0 * 3 = 0 from rfl] at hx430_0)
       (try rw [Addr.add_zero'] at hx430_0)
       (try rw [show ((0 : Int)).toNat = 0 from rfl] at hx430_1)
       (try rw [show 0 * 3 = 0 from rfl] at hx430_1)
       (try rw [Addr.add_zero'] at hx430_1)
       (try rw [show ((0 : Int)).toNat = 0 from rfl] at hx430_2)
       (try rw [show 0 * 3 = 0 from rfl] at hx430_2)
       (try rw [Addr.add_zero'] at hx430_2)
       replace p430 := eq_true p430
       replace q430 := eq_true q430
       try go_wp2_with (first | ((with_reducible refine gate_dst (N := 4) rfl ?_); refine bx 4 #[.string (⟨#[]⟩ : ByteArray), .string (⟨#[]⟩ : ByteArray), .int .i64 0] 68 ?_; intro gb431 hg w67 hbox hb; replace HO_430002 := Aside0.mk (Kd.Q_below (Kd.Q_elderB (qo HO_430002) gb431 (Nat.le_of_eq hg.symm)) hb); replace HO_430003 := Aside0.mk (Kd.R_below (Kd.R_elderB (ro HO_430003) gb431 (Nat.le_of_eq hg.symm)) hb); replace HO_430004 := rb HO_430004 hb; have BK431 := am hbox; have GW431 := Aside0.mk ((by rw [hg]; exact (by first | exact HK.out.1 | exact (show Kept w _ (fun k_ => (P0_2_ k_ ∨ P0_3_ k_ ∨ P0_4_ k_) ∨ k_ = gb429) from (kr HK)).1) : w.heap.size ≤ gb431)); replace HK := Aside0.mk (Kept.below (w := w) (S := (fun k_ => (P0_2_ k_ ∨ P0_3_ k_ ∨ P0_4_ k_) ∨ k_ = gb429)) (kr HK) hb); have GE431 := Aside0.mk ((by rw [hg]; exact (below_size (be1 HB GE429)) : w0.heap.size ≤ gb431)); replace HB := Aside0.mk (below_step (be1 HB GE429) hb); have NB429_431 := nl hg BK429; have NB431_429 := ng hg BK429; replace BK429 := bb BK429 hb; clear hb hbox hg; have hnb68 := NB431_429.out; have hnc68 := NB429_431.out; have hcz69_0 := bz3 BK431) | ((with_reducible refine gate_store (t := 68) (p := 4) rfl ?_); refine store_event (t := 68) (p := 4) (v := ?vo_w70) (w1 := (((w67.setCell ⟨gb431, 0, none⟩ (.string ((rd_T68 x430002_1 0).f0))).setCell ⟨gb431, 1, none⟩ (.string ((rd_T68 x430002_1 0).f1))).setCell ⟨gb431, 2, none⟩ (.int .i64 ((rd_T68 x430002_1 0).f2)))) ?hg ?ho ?hn ?hr ?_; (case ho => rfl); (case hg => rfl); (case hn => rfl); (case hr => first | (go_simp; done) | (go_simp; rfl)); intro w70 hw; have n0_ : Aside0 (Kd.Q k68 68 w70 w0.heap.size (fun k_ => ((P0_2_ k_ ∨ P0_3_ k_ ∨ P0_4_ k_) ∨ w.heap.size ≤ k_) ∧ some k_ ≠ (u430003 : Value).ownBlock ∧ k_ ≠ gb431) (.slice (some ad430) x430002_1.length co66) x430002_1) := ⟨(by rw [hw]; exact (qg gb431 HO_430002))⟩; have n1_ : Aside0 (Kd.R k68 68 w70 w0.heap.size (fun k_ => ((P0_2_ k_ ∨ P0_3_ k_ ∨ P0_4_ k_) ∨ w.heap.size ≤ k_) ∧ some k_ ≠ (.slice (some ad430) x430002_1.length co66 : Value).ownBlock ∧ k_ ≠ gb431) u430003 x430003_1) := ⟨(by rw [hw]; exact (rg gb431 HO_430003))⟩; have n2_ : Aside0 (Kd.R (Kd.int .i64) 3 w70 w0.heap.size (fun k_ => ((P0_2_ k_ ∨ P0_3_ k_ ∨ P0_4_ k_) ∨ w.heap.size ≤ k_)) u430004 x430004_1) := ⟨(by rw [hw]; exact (rf HO_430004 BK431))⟩; have n3_ : Aside0 (w70.heap[gb429]? = some (.cells #[.int .i64 a0_0, .int .i64 a0_1, .slice (some ad430) x430002_1.length co66, u430003, u430004] 30 (0, 0))) := ⟨(by rw [hw]; exact (bf1 BK429 NB429_431))⟩; have n4_ : Aside0 (w70.heap[gb431]? = some (.cells #[.string ((rd_T68 x430002_1 0).f0), .string ((rd_T68 x430002_1 0).f1), .int .i64 ((rd_T68 x430002_1 0).f2)] 68 (0, 0))) := ⟨(by rw [hw]; exact (bp BK431))⟩; have n5_ : Aside0 (Kept w w70 (fun k_ => (P0_2_ k_ ∨ P0_3_ k_ ∨ P0_4_ k_) ∨ k_ = gb429)) := ⟨(by rw [hw]; exact (kr1 HK GW431))⟩; have n6_ : Aside0 (Below w0.heap.size w0 w70) := ⟨(by rw [hw]; exact (be2 HB GE429 GE431))⟩; clear hw; clear HO_430002; clear HO_430003; clear HO_430004; clear BK429; clear BK431; clear HK; clear HB; have HO_430002 := n0_; have HO_430003 := n1_; have HO_430004 := n2_; have BK429 := n3_; have BK431 := n4_; have HK := n5_; have HB := n6_; clear n0_ n1_ n2_ n3_ n4_ n5_ n6_; have hcz71_0 := bz5 BK429; have q72 : (1 : Int) ≤ ((x430002_1.length : Int) : Int) := od; obtain ⟨i072, hi072, _, hsz72, _⟩ := info_parts info68; have hcut72 := cut_from (P := Try.prog) 28 68 .i64 Try.underlying28 hi072 3 hsz72 (some ad430) x430002_1.length co66 1 (by omega) q72; have hr72 := Kd.Q_drop (k := (1 : Int).toNat) HO_430002.out (by omega); obtain ⟨A72, hA72⟩ : ∃ A1, A1 = (if co66 = (1 : Int).toNat then (some ad430) else ((some ad430) : Option Addr).map (·.add ((1 : Int).toNat * 3))) := ⟨_, rfl⟩; obtain ⟨c72, hc72⟩ : ∃ c1, c1 = co66 - (1 : Int).toNat := ⟨_, rfl⟩; have hy72 : y432.length = x430002_1.length - (1 : Int).toNat := (by rw [Ny432.out, List.length_drop]); rw [← Ny432.out] at hr72; rw [← hy72, ← hA72, ← hc72] at hcut72; replace hr72 : Kd.Q k68 68 w70 w0.heap.size (fun k_ => ((P0_2_ k_ ∨ P0_3_ k_ ∨ P0_4_ k_) ∨ w.heap.size ≤ k_) ∧ some k_ ≠ (u430003 : Value).ownBlock ∧ k_ ≠ gb431) (.slice A72 y432.length c72) y432 := (by rw [hA72, hc72, hy72]; exact hr72); have HE72 : Aside0 ((Value.slice A72 y432.length c72).ownBlock = (.slice (some ad430) x430002_1.length co66 : Value).ownBlock) := ⟨by rw [hA72]; split <;> (cases ((some ad430) : Option Addr) <;> rfl)⟩; clear hy72 hi072 hsz72 HO_430002 hA72 hc72; have HO434 := Aside0.mk hr72; clear hr72; replace q72 := eq_true q72; have n_ := Aside0.mk (Kd.R_mono (ok' := fun k_ => ((((P0_2_ k_ ∨ P0_3_ k_ ∨ P0_4_ k_) ∨ w.heap.size ≤ k_)) ∧ (nb k_ A72 y432.length c72 ∧ k_ ≠ gb431))) HO_430003.out (fun k_ hk => ⟨hk.1, ⟨(fun e_ => hk.2.1 (e_.trans HE72.out)), hk.2.2⟩⟩)); clear HO_430003; have HO_430003 := n_; clear n_; have hcz73_0 := bz3 BK431) | ((with_reducible refine gate_callee (f := 51) rfl ?_); refine gl 42 Try.func51 #[.string ((rd_T68 x430002_1 0).f0)] ?_; (with_reducible refine (impl_Hash.calls k1 ((rd_T68 x430002_1 0).f0) t441 _ A28.out).mono ?_); rintro e w' ⟨rfl, ⟨nd, rfl⟩⟩; refine ⟨_, rfl, ?_⟩) | ((with_reducible refine gate_dst (N := 5) rfl ?_); refine bx 5 #[.int .i64 0] 3 ?_; intro gb442 hg w74 hbox hb; replace HO434 := Aside0.mk (Kd.Q_below (qf HO434 BK429) hb); replace HO_430003 := Aside0.mk (Kd.R_below (rf HO_430003 BK429) hb); replace HO_430004 := Aside0.mk (Kd.R_below (Kd.R_elderB (rf HO_430004 BK429) gb442 (Nat.le_of_eq hg.symm)) hb); have BK442 := am hbox; have GW442 := Aside0.mk ((by rw [hg]; exact (show Kept w _ (fun k_ => (P0_2_ k_ ∨ P0_3_ k_ ∨ P0_4_ k_) ∨ k_ = gb429) from (kr1 HK GW431)).1 : w.heap.size ≤ gb442)); replace HK := Aside0.mk (Kept.below (w := w) (S := (fun k_ => (P0_2_ k_ ∨ P0_3_ k_ ∨ P0_4_ k_) ∨ k_ = gb429)) (kr1 HK GW431) hb); have GE442 := Aside0.mk ((by rw [hg]; exact (below_size (be2 HB GE429 GE431)) : w0.heap.size ≤ gb442)); replace HB := Aside0.mk (below_step (be2 HB GE429 GE431) hb); have NB429_442 := Aside0.mk ((by rw [hg]; exact Nat.ne_of_lt (blk_lt (g := gb429) (o := .cells #[.int .i64 a0_0, .int .i64 a0_1, .slice A72 y432.length c72, u430003, u430004] 30 (0, 0)) (bp BK429)) : gb429 ≠ gb442)); have NB442_429 := Aside0.mk ((by rw [hg]; exact Nat.ne_of_gt (blk_lt (g := gb429) (o := .cells #[.int .i64 a0_0, .int .i64 a0_1, .slice A72 y432.length c72, u430003, u430004] 30 (0, 0)) (bp BK429)) : gb442 ≠ gb429)); replace BK429 := Aside0.mk (blk_below (g := gb429) (o := .cells #[.int .i64 a0_0, .int .i64 a0_1, .slice A72 y432.length c72, u430003, u430004] 30 (0, 0)) (bp BK429) hb); have NB431_442 := Aside0.mk ((by rw [hg]; exact Nat.ne_of_lt (blk_lt (g := gb431) (o := .cells #[.string ((rd_T68 x430002_1 0).f0), .string ((rd_T68 x430002_1 0).f1), .int .i64 ((rd_T68 x430002_1 0).f2)] 68 (0, 0)) (bf1 BK431 NB431_429)) : gb431 ≠ gb442)); have NB442_431 := Aside0.mk ((by rw [hg]; exact Nat.ne_of_gt (blk_lt (g := gb431) (o := .cells #[.string ((rd_T68 x430002_1 0).f0), .string ((rd_T68 x430002_1 0).f1), .int .i64 ((rd_T68 x430002_1 0).f2)] 68 (0, 0)) (bf1 BK431 NB431_429)) : gb442 ≠ gb431)); replace BK431 := Aside0.mk (blk_below (g := gb431) (o := .cells #[.string ((rd_T68 x430002_1 0).f0), .string ((rd_T68 x430002_1 0).f1), .int .i64 ((rd_T68 x430002_1 0).f2)] 68 (0, 0)) (bf1 BK431 NB431_429) hb); clear hb hbox hg; have hnb75 := NB442_429.out; have hnc75 := NB429_442.out; have hnb76 := NB442_431.out; have hnc76 := NB431_442.out; have hcz77_0 := bz1 BK442; obtain ⟨Ao78, co78, eo78⟩ := Kd.R_slice HO_430004.out; subst eo78))
       have n0_ : Aside0 (Kd.Q k68 68 (w74.setCell ⟨gb442, 0, none⟩ (.int .i64 t441)) w0.heap.size (fun k_ => ((P0_2_ k_ ∨ P0_3_ k_ ∨ P0_4_ k_) ∨ w.heap.size ≤ k_) ∧ some k_ ≠ (u430003 : Value).ownBlock ∧ k_ ≠ gb431) (.slice A72 y432.length c72) y432) := ⟨(qf HO434 BK442)⟩
       have n1_ : Aside0 (Kd.R k68 68 (w74.setCell ⟨gb442, 0, none⟩ (.int .i64 t441)) w0.heap.size (fun k_ => ((P0_2_ k_ ∨ P0_3_ k_ ∨ P0_4_ k_) ∨ w.heap.size ≤ k_) ∧ nb k_ A72 y432.length c72 ∧ k_ ≠ gb431) u430003 x430003_1) := ⟨(rf HO_430003 BK442)⟩
       have n2_ : Aside0 (Kd.R (Kd.int .i64) 3 (w74.setCell ⟨gb442, 0, none⟩ (.int .i64 t441)) w0.heap.size (fun k_ => ((P0_2_ k_ ∨ P0_3_ k_ ∨ P0_4_ k_) ∨ w.heap.size ≤ k_) ∧ k_ ≠ gb442) (.slice Ao78 x430004_1.length co78) x430004_1) := ⟨(rgs gb442 HO_430004)⟩
       have n3_ : Aside0 ((w74.setCell ⟨gb442, 0, none⟩ (.int .i64 t441)).heap[gb429]? = some (.cells #[.int .i64 a0_0, .int .i64 a0_1, .slice A72 y432.length c72, u430003, .slice Ao78 x430004_1.length co78] 30 (0, 0))) := ⟨(bp1 BK429 NB429_442)⟩
       have n4_ : Aside0 ((w74.setCell ⟨gb442, 0, none⟩ (.int .i64 t441)).heap[gb431]? = some (.cells #[.string ((rd_T68 x430002_1 0).f0), .string ((rd_T68 x430002_1 0).f1), .int .i64 ((rd_T68 x430002_1 0).f2)] 68 (0, 0))) := ⟨(bp1 BK431 NB431_442)⟩
       have n5_ : Aside0 ((w74.setCell ⟨gb442, 0, none⟩ (.int .i64 t441)).heap[gb442]? = some (.cells #[.int .i64 t441] 3 (0, 0))) := ⟨(bp BK442)⟩
       have n6_ : Aside0 (Kept w (w74.setCell ⟨gb442, 0, none⟩ (.int .i64 t441)) (fun k_ => (P0_2_ k_ ∨ P0_3_ k_ ∨ P0_4_ k_) ∨ k_ = gb429)) := ⟨(kr2 HK GW431 GW442)⟩
       have n7_ : Aside0 (Below w0.heap.size w0 (w74.setCell ⟨gb442, 0, none⟩ (.int .i64 t441))) := ⟨be3 HB GE429 GE431 GE442⟩
       (try clear HO434)
       (try clear HO_430003)
       (try clear HO_430004)
       (try clear BK429)
       (try clear BK431)
       (try clear BK442)
       (try clear HK)
       (try clear HB)
       generalize (w74.setCell ⟨gb442, 0, none⟩ (.int .i64 t441)) = w79 at n0_ n1_ n2_ n3_ n4_ n5_ n6_ n7_ ⊢
       have HO434 := n0_
       have HO_430003 := n1_
       have HO_430004 := n2_
       have BK429 := n3_
       have BK431 := n4_
       have BK442 := n5_
       have HK := n6_
       have HB := n7_
       clear n0_ n1_ n2_ n3_ n4_ n5_ n6_ n7_
       have n0_ := Aside0.mk (Kd.Q_drew HO434.out)
       have n1_ := Aside0.mk (Kd.R_drew HO_430003.out)
       have n2_ := Aside0.mk (Kd.R_drew HO_430004.out)
       have n3_ := Aside0.mk (blk_drew BK429.out)
       have n4_ := Aside0.mk (blk_drew BK431.out)
       have n5_ := Aside0.mk (blk_drew BK442.out)
       have n6_ := Aside0.mk (Kept.drew HK.out)
       have n7_ := Aside0.mk (below_drew1 HB.out)
       clear HO434
       clear HO_430003
       clear HO_430004
       clear BK429
       clear BK431
       clear BK442
       clear HK
       clear HB
       have HO434 := n0_
       have HO_430003 := n1_
       have HO_430004 := n2_
       have BK429 := n3_
       have BK431 := n4_
       have BK442 := n5_
       have HK := n6_
       have HB := n7_
       clear n0_ n1_ n2_ n3_ n4_ n5_ n6_ n7_
       refine start_ (n := 13) (S := fun w' => w'.cell? ⟨gb429, 0, none⟩ = some (.int .i64 a0_0) ∧ w'.cell? ⟨gb429, 1, none⟩ = some (.int .i64 a0_1) ∧ w'.cell? ⟨gb429, 2, none⟩ = some (.slice A72 y432.length c72) ∧ w'.cell? ⟨gb429, 3, none⟩ = some (u430003) ∧ w'.cell? ⟨gb429, 4, none⟩ = some (.slice Ao78 x430004_1.length co78) ∧ w'.cell? ⟨gb442, 0, none⟩ = some (.int .i64 t441)) (ds := [12]) (bv 13 0x0) (by kernel_rfl) rfl rfl ⟨bc0 BK429, bc1 BK429, bc2 BK429, bc3 BK429, bc4 BK429, bc0 BK442⟩ (fun hHeld => ?_); refine with_tabW impl_Three_evictSmall.tab8 impl_Three_evictSmall.bits8 (fun HT_ HW_ => ?_)
       generalize w79.drew = w80 at HO434 HO_430003 HO_430004 BK429 BK431 BK442 HK HB hHeld ⊢
       refine py HT_ 0 43 (bv 13 0x1) ?_
       refine py HT_ 1 44 (bv 13 0x3) ?_
       refine py HT_ 2 45 (bv 13 0x7) ?_
       refine py HT_ 3 46 (bv 13 0xf) ?_
       refine tk HT_ HW_ hHeld 4 47 (bv 13 0x1f) ?_
       refine py HT_ 5 48 (bv 13 0x3f) ?_
       refine tk HT_ HW_ hHeld 7 50 (bv 13 0xbf) ?_
       refine join_ (σ := Value × Value) 4 (bv 13 0x1ff) (fun s_ => [(49, s_.1), (51, s_.2)]) (fun s_ w' => (w'.cell? ⟨gb429, 0, none⟩ = some (.int .i64 a0_0) ∧ w'.cell? ⟨gb429, 1, none⟩ = some (.int .i64 a0_1) ∧ w'.cell? ⟨gb429, 2, none⟩ = some (.slice A72 y432.length c72) ∧ w'.cell? ⟨gb429, 3, none⟩ = some (u430003) ∧ w'.cell? ⟨gb429, 4, none⟩ = some (.slice Ao78 x430004_1.length co78) ∧ w'.cell? ⟨gb442, 0, none⟩ = some (.int .i64 t441)) ∧ (Kd.Q k68 68 w' w0.heap.size (fun k_ => ((P0_2_ k_ ∨ P0_3_ k_ ∨ P0_4_ k_) ∨ w.heap.size ≤ k_) ∧ some k_ ≠ (u430003 : Value).ownBlock ∧ k_ ≠ gb431) (.slice A72 y432.length c72) y432) ∧ (Kd.R (Kd.int .i64) 3 w' w0.heap.size (fun k_ => ((P0_2_ k_ ∨ P0_3_ k_ ∨ P0_4_ k_) ∨ w.heap.size ≤ k_) ∧ some k_ ≠ (s_.2 : Value).ownBlock ∧ k_ ≠ gb442) s_.1 t443) ∧ (Kd.R (Kd.int .i64) 3 w' w0.heap.size (fun k_ => ((P0_2_ k_ ∨ P0_3_ k_ ∨ P0_4_ k_) ∨ w.heap.size ≤ k_) ∧ some k_ ≠ (s_.1 : Value).ownBlock ∧ k_ ≠ gb442) s_.2 y446) ∧ (Kd.R k68 68 w' w0.heap.size (fun k_ => ((P0_2_ k_ ∨ P0_3_ k_ ∨ P0_4_ k_) ∨ w.heap.size ≤ k_) ∧ nb k_ A72 y432.length c72 ∧ k_ ≠ gb431) u430003 x430003_1) ∧ (w'.heap[gb429]? = some (.cells #[.int .i64 a0_0, .int .i64 a0_1, .slice A72 y432.length c72, u430003, .slice Ao78 x430004_1.length co78] 30 (0, 0))) ∧ (w'.heap[gb431]? = some (.cells #[.string ((rd_T68 x430002_1 0).f0), .string ((rd_T68 x430002_1 0).f1), .int .i64 ((rd_T68 x430002_1 0).f2)] 68 (0, 0))) ∧ (w'.heap[gb442]? = some (.cells #[.int .i64 t441] 3 (0, 0))) ∧ (Kept w w' (fun k_ => (P0_2_ k_ ∨ P0_3_ k_ ∨ P0_4_ k_) ∨ k_ = gb429)) ∧ (Below w0.heap.size w0 w')) ?_ ?_
       rotate_left
       ·intro hCont
        refine two_ (i := 6) (j := 8) (Ni := some 49) (Nj := some 51) (bv 13 0xff) (bv 13 0x1bf) rfl rfl rfl rfl (two_of HT_.out (by kernel_rfl)) (by decide) (by decide) (fun K hK => ?_) (fun K hK => ?_)
        ·skip
         refine goes_ Try.func98 (by kernel_rfl) rfl #[.slice Ao78 x430004_1.length co78, .func (.func 118) #[] #[.pointer (some ⟨gb442, 0, none⟩)]] (by rfl) rfl rfl ml ?_
         with_reducible refine (slices_DeleteFunc_int_int.calls (fun k_ => some k_ = (.slice Ao78 x430004_1.length co78 : Value).ownBlock) (.slice Ao78 x430004_1.length co78) x430004_1 t441 gb442 t443 w0 _ ?sideP ?sideN ?side1 ?side2 A29.out).mono ?_
         (case sideP => exact bk BK442)
         (case sideN => exact fun k_ hk_ e_ => (Kd.R_away (g := gb442) HO_430004.out (fun _ hk => hk.2)) (by rw [hk_, e_]))
         (case side1 => repeat (first | (with_reducible first | exact HB.out | apply below_alloc | apply pw_below_drewN | apply below_drew1 | refine below_set ?_ GE429.out | refine below_set ?_ GE431.out | refine below_set ?_ GE442.out) | exact HB.out))
         (case side2 => exact Kd.R_tight rfl HO_430004.out)
         rintro e w81 ⟨v444, rfl, ho0, hb, hkp⟩
         refine ⟨_, rfl, ?_⟩
         have n0_ := Aside0.mk (Kd.Q_mono (ok' := fun k_ => ((P0_2_ k_ ∨ P0_3_ k_ ∨ P0_4_ k_) ∨ w.heap.size ≤ k_) ∧ some k_ ≠ (u430003 : Value).ownBlock ∧ k_ ≠ gb431) (Kd.Q_keptB ((Kd.Q_apart' HO434.out (Kd.R_typed HO_430004.out) (by decide))) hkp ch) cj)
         have n1_ := Aside0.mk (Kd.R_mono (ok' := fun k_ => ((P0_2_ k_ ∨ P0_3_ k_ ∨ P0_4_ k_) ∨ w.heap.size ≤ k_) ∧ nb k_ A72 y432.length c72 ∧ k_ ≠ gb431) (Kd.R_keptB ((Kd.R_apart' HO_430003.out (Kd.R_typed HO_430004.out) (by decide))) hkp ch) cj)
         have n2_ := Aside0.mk (blk_kept (bk BK429) hkp (fun hs_ => (fun e_ => (Kd.R_ne HO_430004.out BK429.out (by decide)) e_) hs_))
         have n3_ := Aside0.mk (blk_kept (bk BK431) hkp (fun hs_ => (fun e_ => (Kd.R_ne HO_430004.out BK431.out (by decide)) e_) hs_))
         have n4_ := Aside0.mk (blk_kept (bk BK442) hkp (fun hs_ => (fun e_ => (Kd.R_away HO_430004.out (fun _ hk => hk.2)) e_) hs_))
         have n5_ := Aside0.mk (Kd.R_mono (ok' := fun k_ => ((P0_2_ k_ ∨ P0_3_ k_ ∨ P0_4_ k_) ∨ w.heap.size ≤ k_) ∧ k_ ≠ gb442) ho0 (fun k_ hk_ => ⟨Or.elim hk_ (fun hs_ => (HO_430004.out.1 k_ (hs_).symm).1) (fun hn_ => (.inr (Nat.le_trans (by first | exact HK.out.1 | exact (show Kept w _ (fun k_ => (P0_2_ k_ ∨ P0_3_ k_ ∨ P0_4_ k_) ∨ k_ = gb429) from (kr2 HK GW431 GW442)).1) hn_))), Or.elim hk_ (fun hs_ => fun e_ => (Kd.R_away HO_430004.out (fun _ hk => hk.2)) (by rw [← e_]; exact hs_)) (fun hn_ => (Kd.freshB (g := gb442) (o := .cells #[.int .i64 t441] 3 (0, 0)) (bk BK442) k_ hn_))⟩))
         have n6_ := Aside0.mk (Kept.then_ (S := (fun k_ => (P0_2_ k_ ∨ P0_3_ k_ ∨ P0_4_ k_) ∨ k_ = gb429)) (kr2 HK GW431 GW442) hkp (fun k_ hs_ => Or.imp_left Or.inl ((fun e_ => (HO_430004.out.1 k_ e_.symm).1) hs_)))
         have n7_ := Aside0.mk (hb)
         clear HO434
         clear HO_430003
         clear BK429
         clear BK431
         clear BK442
         clear HK
         clear HB
         clear HO_430004
         have HO434 := n0_
         have HO_430003 := n1_
         have BK429 := n2_
         have BK431 := n3_
         have BK442 := n4_
         have HO445 := n5_
         have HK := n6_
         have HB := n7_
         clear n0_ n1_ n2_ n3_ n4_ n5_ n6_ n7_
         (try clear hb)
         (try clear hkp)
         (try clear ho0)
         refine hK.out _ _ ⟨bc0 BK429, bc1 BK429, bc2 BK429, bc3 BK429, bc4 BK429, bc0 BK442⟩ (fun hHeld => ?_)
         clear hK K
         refine norm_ (a' := ?_) ?_ ?_
         rotate_left
         ·show Act.put _ (some 49) _ = _
          simp only [aP]
          rfl
         refine one_ (i := 8) (N := some 51) (bv 13 0x1ff) rfl rfl (one_of HT_.out (by kernel_rfl)) (by decide) (fun K hK => ?_)
         refine Kd.R_lit_step (Kd.int .i64) _ 3 ?hg (N := 51) ?hd (xs := ([t441] : List Int)) (inner := [.int .i64 t441]) (ok := fun _ => True) (okp := fun _ => True) ?hr ?hp (fun _ hk => hk) trivial (Below.refl _ _) (Nat.le_refl _) (by simp) ?_; (case hd => rfl); (case hg => rfl); (case hr => first | (go_simp; done) | (go_simp; rfl)); (case hp => exact (Reps.one (show Kd.M (Kd.int .i64) _ _ _ t441 [.int .i64 t441] from rfl) (Reps.none _ _)))
         intro v447 w82 ho83 hb hg_ hnew_
         clear hg_ hnew_
         (first | rw [← Ny446.out] at ho83 | (simp only [Int.reduceToNat] at ho83; rw [← Ny446.out] at ho83))
         have n0_ := Aside0.mk (Kd.Q_below (qo HO434) hb)
         have n1_ := rb HO_430003 hb
         have n2_ := Aside0.mk (Kd.R_elder' (ro HO445) (Kd.R_base ho83) hb)
         have n3_ := Aside0.mk (Kd.R_lower (Kd.R_newB (nw (Kd.R_newM (M := fun k_ => ((P0_2_ k_ ∨ P0_3_ k_ ∨ P0_4_ k_) ∨ w.heap.size ≤ k_)) ho83 (by first | exact HK.out.1 | exact (show Kept w _ (fun k_ => (P0_2_ k_ ∨ P0_3_ k_ ∨ P0_4_ k_) ∨ k_ = gb429) from (kr2 HK GW431 GW442)).1) (fun k_ h_ => .inr h_)) HO445) (g := gb442) (o := .cells #[.int .i64 t441] 3 (0, 0)) (bk BK442)) (below_size (be3 HB GE429 GE431 GE442)))
         have n4_ := bb BK429 hb
         have n5_ := bb BK431 hb
         have n6_ := bb BK442 hb
         have n7_ := Aside0.mk (Kept.below (w := w) (S := (fun k_ => (P0_2_ k_ ∨ P0_3_ k_ ∨ P0_4_ k_) ∨ k_ = gb429)) (kr2 HK GW431 GW442) hb)
         have n8_ := Aside0.mk (below_step (be3 HB GE429 GE431 GE442) hb)
         clear HO434
         clear HO_430003
         clear HO445
         clear BK429
         clear BK431
         clear BK442
         clear HK
         clear HB
         have HO434 := n0_
         have HO_430003 := n1_
         have HO445 := n2_
         have HO448 := n3_
         have BK429 := n4_
         have BK431 := n5_
         have BK442 := n6_
         have HK := n7_
         have HB := n8_
         clear n0_ n1_ n2_ n3_ n4_ n5_ n6_ n7_ n8_
         clear hb ho83
         refine hK.out _ _ ⟨bc0 BK429, bc1 BK429, bc2 BK429, bc3 BK429, bc4 BK429, bc0 BK442⟩ (fun hHeld => ?_)
         clear hK K
         refine norm_ (a' := ?_) ?_ ?_
         rotate_left
         ·show Act.put _ (some 51) _ = _
          simp only [aP]
          rfl
         exact norm_ (by simp only [putAll, Act.put, List.setIfInBounds_toArray, List.set_cons_zero, List.set_cons_succ]) (hCont (v444, v447) _ ⟨hHeld, (qo HO434), (by (with_reducible repeat (first | apply Kd.R_alloc | apply Kd.R_drewN | apply Kd.R_drew)); exact rm HO445), (by (with_reducible repeat (first | apply Kd.R_alloc | apply Kd.R_drewN | apply Kd.R_drew)); exact rm HO448), (ro HO_430003), (bk BK429), (bk BK431), (bk BK442), (kr2 HK GW431 GW442), (be3 HB GE429 GE431 GE442)⟩)
        skip
        refine Kd.R_lit_step (Kd.int .i64) _ 3 ?hg (N := 51) ?hd (xs := ([t441] : List Int)) (inner := [.int .i64 t441]) (ok := fun _ => True) (okp := fun _ => True) ?hr ?hp (fun _ hk => hk) trivial (Below.refl _ _) (Nat.le_refl _) (by simp) ?_; (case hd => rfl); (case hg => rfl); (case hr => first | (go_simp; done) | (go_simp; rfl)); (case hp => exact (Reps.one (show Kd.M (Kd.int .i64) _ _ _ t441 [.int .i64 t441] from rfl) (Reps.none _ _)))
        intro v447 w81 ho82 hb hg_ hnew_
        clear hg_ hnew_
        (first | rw [← Ny446.out] at ho82 | (simp only [Int.reduceToNat] at ho82; rw [← Ny446.out] at ho82))
        have n0_ := Aside0.mk (Kd.Q_below (qo HO434) hb)
        have n1_ := rb HO_430003 hb
        have n2_ := Aside0.mk (Kd.R_elder' (ro HO_430004) (Kd.R_base ho82) hb)
        have n3_ := Aside0.mk (Kd.R_lower (Kd.R_newB (nw (Kd.R_newM (M := fun k_ => ((P0_2_ k_ ∨ P0_3_ k_ ∨ P0_4_ k_) ∨ w.heap.size ≤ k_)) ho82 (by first | exact HK.out.1 | exact (show Kept w _ (fun k_ => (P0_2_ k_ ∨ P0_3_ k_ ∨ P0_4_ k_) ∨ k_ = gb429) from (kr2 HK GW431 GW442)).1) (fun k_ h_ => .inr h_)) HO_430004) (g := gb442) (o := .cells #[.int .i64 t441] 3 (0, 0)) (bk BK442)) (below_size (be3 HB GE429 GE431 GE442)))
        have n4_ := bb BK429 hb
        have n5_ := bb BK431 hb
        have n6_ := bb BK442 hb
        have n7_ := Aside0.mk (Kept.below (w := w) (S := (fun k_ => (P0_2_ k_ ∨ P0_3_ k_ ∨ P0_4_ k_) ∨ k_ = gb429)) (kr2 HK GW431 GW442) hb)
        have n8_ := Aside0.mk (below_step (be3 HB GE429 GE431 GE442) hb)
        clear HO434
        clear HO_430003
        clear HO_430004
        clear BK429
        clear BK431
        clear BK442
        clear HK
        clear HB
        have HO434 := n0_
        have HO_430003 := n1_
        have HO_430004 := n2_
        have HO448 := n3_
        have BK429 := n4_
        have BK431 := n5_
        have BK442 := n6_
        have HK := n7_
        have HB := n8_
        clear n0_ n1_ n2_ n3_ n4_ n5_ n6_ n7_ n8_
        clear hb ho82
        refine hK.out _ _ ⟨bc0 BK429, bc1 BK429, bc2 BK429, bc3 BK429, bc4 BK429, bc0 BK442⟩ (fun hHeld => ?_)
        clear hK K
        refine norm_ (a' := ?_) ?_ ?_
        rotate_left
        ·show Act.put _ (some 51) _ = _
         simp only [aP]
         rfl
        refine one_ (i := 6) (N := some 49) (bv 13 0x1ff) rfl rfl (one_of HT_.out (by kernel_rfl)) (by decide) (fun K hK => ?_)
        refine goes_ Try.func98 (by kernel_rfl) rfl #[.slice Ao78 x430004_1.length co78, .func (.func 118) #[] #[.pointer (some ⟨gb442, 0, none⟩)]] (by rfl) rfl rfl ml ?_
        with_reducible refine (slices_DeleteFunc_int_int.calls (fun k_ => some k_ = (.slice Ao78 x430004_1.length co78 : Value).ownBlock) (.slice Ao78 x430004_1.length co78) x430004_1 t441 gb442 t443 w0 _ ?sideP ?sideN ?side1 ?side2 A29.out).mono ?_
        (case sideP => exact bk BK442)
        (case sideN => exact fun k_ hk_ e_ => (Kd.R_away (g := gb442) HO_430004.out (fun _ hk => hk.1.2)) (by rw [hk_, e_]))
        (case side1 => repeat (first | (with_reducible first | exact HB.out | apply below_alloc | apply pw_below_drewN | apply below_drew1 | refine below_set ?_ GE429.out | refine below_set ?_ GE431.out | refine below_set ?_ GE442.out) | exact HB.out))
        (case side2 => exact Kd.R_tight rfl HO_430004.out)
        rintro e w83 ⟨v444, rfl, ho0, hb, hkp⟩
        refine ⟨_, rfl, ?_⟩
        have n0_ := Aside0.mk (Kd.Q_mono (ok' := fun k_ => ((P0_2_ k_ ∨ P0_3_ k_ ∨ P0_4_ k_) ∨ w.heap.size ≤ k_) ∧ some k_ ≠ (u430003 : Value).ownBlock ∧ k_ ≠ gb431) (Kd.Q_keptB ((Kd.Q_apart' HO434.out (Kd.R_typed HO_430004.out) (by decide))) hkp ch) cj)
        have n1_ := Aside0.mk (Kd.R_mono (ok' := fun k_ => ((P0_2_ k_ ∨ P0_3_ k_ ∨ P0_4_ k_) ∨ w.heap.size ≤ k_) ∧ nb k_ A72 y432.length c72 ∧ k_ ≠ gb431) (Kd.R_keptB ((Kd.R_apart' HO_430003.out (Kd.R_typed HO_430004.out) (by decide))) hkp ch) cj)
        have n2_ := Aside0.mk (blk_kept (bk BK429) hkp (fun hs_ => (fun e_ => (Kd.R_ne HO_430004.out BK429.out (by decide)) e_) hs_))
        have n3_ := Aside0.mk (blk_kept (bk BK431) hkp (fun hs_ => (fun e_ => (Kd.R_ne HO_430004.out BK431.out (by decide)) e_) hs_))
        have n4_ := Aside0.mk (blk_kept (bk BK442) hkp (fun hs_ => (fun e_ => (Kd.R_away HO_430004.out (fun _ hk => hk.1.2)) e_) hs_))
        have n5_ := Aside0.mk (Kd.R_mono (ok' := fun k_ => ((P0_2_ k_ ∨ P0_3_ k_ ∨ P0_4_ k_) ∨ w.heap.size ≤ k_) ∧ k_ ≠ gb442 ∧ some k_ ≠ (v444 : Value).ownBlock) (Kd.R_keptB (HO448.out) hkp ch) (fun k_ hk_ => ⟨hk_.1.1.1.1, hk_.1.2, fun e_ => Or.elim (ho0.1 k_ e_.symm) (fun hs_ => hk_.2.1 hs_) (fun hn_ => Nat.not_le.2 hk_.2.2 hn_)⟩))
        have n6_ := Aside0.mk (Kd.R_mono (ok' := fun k_ => ((P0_2_ k_ ∨ P0_3_ k_ ∨ P0_4_ k_) ∨ w.heap.size ≤ k_) ∧ some k_ ≠ (v447 : Value).ownBlock ∧ k_ ≠ gb442) ho0 (fun k_ hk_ => ⟨Or.elim hk_ (fun hs_ => (HO_430004.out.1 k_ (hs_).symm).1.1) (fun hn_ => (.inr (Nat.le_trans (by first | exact HK.out.1 | exact (show Kept w _ (fun k_ => (P0_2_ k_ ∨ P0_3_ k_ ∨ P0_4_ k_) ∨ k_ = gb429) from (kr2 HK GW431 GW442)).1) hn_))), Or.elim hk_ (fun hs_ => fun e_ => (((HO448.out).1 k_ e_.symm).1.2) hs_) (fun hn_ => (Kd.fresh' (Kd.R_lt (ro HO448)) k_ hn_)), Or.elim hk_ (fun hs_ => fun e_ => (Kd.R_away HO_430004.out (fun _ hk => hk.1.2)) (by rw [← e_]; exact hs_)) (fun hn_ => (Kd.freshB (g := gb442) (o := .cells #[.int .i64 t441] 3 (0, 0)) (bk BK442) k_ hn_))⟩))
        have n7_ := Aside0.mk (Kept.then_ (S := (fun k_ => (P0_2_ k_ ∨ P0_3_ k_ ∨ P0_4_ k_) ∨ k_ = gb429)) (kr2 HK GW431 GW442) hkp (fun k_ hs_ => Or.imp_left Or.inl ((fun e_ => (HO_430004.out.1 k_ e_.symm).1.1) hs_)))
        have n8_ := Aside0.mk (hb)
        clear HO434
        clear HO_430003
        clear BK429
        clear BK431
        clear BK442
        clear HO448
        clear HK
        clear HB
        clear HO_430004
        have HO434 := n0_
        have HO_430003 := n1_
        have BK429 := n2_
        have BK431 := n3_
        have BK442 := n4_
        have HO448 := n5_
        have HO445 := n6_
        have HK := n7_
        have HB := n8_
        clear n0_ n1_ n2_ n3_ n4_ n5_ n6_ n7_ n8_
        (try clear hb)
        (try clear hkp)
        (try clear ho0)
        refine hK.out _ _ ⟨bc0 BK429, bc1 BK429, bc2 BK429, bc3 BK429, bc4 BK429, bc0 BK442⟩ (fun hHeld => ?_)
        clear hK K
        refine norm_ (a' := ?_) ?_ ?_
        rotate_left
        ·show Act.put _ (some 49) _ = _
         simp only [aP]
         rfl
        exact norm_ (by simp only [putAll, Act.put, List.setIfInBounds_toArray, List.set_cons_zero, List.set_cons_succ]) (hCont (v444, v447) _ ⟨hHeld, (qo HO434), (ro HO445), (by (with_reducible repeat (first | apply Kd.R_alloc | apply Kd.R_drewN | apply Kd.R_drew)); exact rm HO448), (ro HO_430003), (bk BK429), (bk BK431), (bk BK442), (kr2 HK GW431 GW442), (be3 HB GE429 GE431 GE442)⟩)
       rintro ⟨v444, v447⟩ w84 ⟨hS_, h0_, h1_, h2_, h3_, h4_, h5_, h6_, h7_, h8_⟩
       have n0_ : Aside0 (Kd.Q k68 68 w84 w0.heap.size (fun k_ => ((P0_2_ k_ ∨ P0_3_ k_ ∨ P0_4_ k_) ∨ w.heap.size ≤ k_) ∧ some k_ ≠ (u430003 : Value).ownBlock ∧ k_ ≠ gb431) (.slice A72 y432.length c72) y432) := ⟨h0_⟩
       have n1_ : Aside0 (Kd.R (Kd.int .i64) 3 w84 w0.heap.size (fun k_ => ((P0_2_ k_ ∨ P0_3_ k_ ∨ P0_4_ k_) ∨ w.heap.size ≤ k_) ∧ some k_ ≠ (v447 : Value).ownBlock ∧ k_ ≠ gb442) v444 t443) := ⟨h1_⟩
       have n2_ : Aside0 (Kd.R (Kd.int .i64) 3 w84 w0.heap.size (fun k_ => ((P0_2_ k_ ∨ P0_3_ k_ ∨ P0_4_ k_) ∨ w.heap.size ≤ k_) ∧ some k_ ≠ (v444 : Value).ownBlock ∧ k_ ≠ gb442) v447 y446) := ⟨h2_⟩
       have n3_ : Aside0 (Kd.R k68 68 w84 w0.heap.size (fun k_ => ((P0_2_ k_ ∨ P0_3_ k_ ∨ P0_4_ k_) ∨ w.heap.size ≤ k_) ∧ nb k_ A72 y432.length c72 ∧ k_ ≠ gb431) u430003 x430003_1) := ⟨h3_⟩
       have n4_ : Aside0 (w84.heap[gb429]? = some (.cells #[.int .i64 a0_0, .int .i64 a0_1, .slice A72 y432.length c72, u430003, .slice Ao78 x430004_1.length co78] 30 (0, 0))) := ⟨h4_⟩
       have n5_ : Aside0 (w84.heap[gb431]? = some (.cells #[.string ((rd_T68 x430002_1 0).f0), .string ((rd_T68 x430002_1 0).f1), .int .i64 ((rd_T68 x430002_1 0).f2)] 68 (0, 0))) := ⟨h5_⟩
       have n6_ : Aside0 (w84.heap[gb442]? = some (.cells #[.int .i64 t441] 3 (0, 0))) := ⟨h6_⟩
       have n7_ : Aside0 (Kept w w84 (fun k_ => (P0_2_ k_ ∨ P0_3_ k_ ∨ P0_4_ k_) ∨ k_ = gb429)) := ⟨h7_⟩
       have n8_ : Aside0 (Below w0.heap.size w0 w84) := ⟨h8_⟩
       clear HO434
       clear HO_430003
       clear HO_430004
       clear BK429
       clear BK431
       clear BK442
       clear HK
       clear HB
       clear h0_ h1_ h2_ h3_ h4_ h5_ h6_ h7_ h8_
       have HO434 := n0_
       have HO445 := n1_
       have HO448 := n2_
       have HO_430003 := n3_
       have BK429 := n4_
       have BK431 := n5_
       have BK442 := n6_
       have HK := n7_
       have HB := n8_
       clear n0_ n1_ n2_ n3_ n4_ n5_ n6_ n7_ n8_
       have hHeld : w84.cell? ⟨gb429, 0, none⟩ = some (.int .i64 a0_0) ∧ w84.cell? ⟨gb429, 1, none⟩ = some (.int .i64 a0_1) ∧ w84.cell? ⟨gb429, 2, none⟩ = some (.slice A72 y432.length c72) ∧ w84.cell? ⟨gb429, 3, none⟩ = some (u430003) ∧ w84.cell? ⟨gb429, 4, none⟩ = some (.slice Ao78 x430004_1.length co78) ∧ w84.cell? ⟨gb442, 0, none⟩ = some (.int .i64 t441) := hS_
       obtain ⟨Ao86, co86, eo86⟩ := Kd.R_slice HO448.out
       (first | subst eo86 | (injection eo86 with f1_ f2_ f3_; have f4_ := f1_.symm; have f5_ := f3_.symm; clear f1_ f2_ f3_; subst f4_; subst f5_))
       refine norm_ (a' := ?_) ?_ ?_
       rotate_left
       ·simp only [putAll, Act.put, List.setIfInBounds_toArray, List.set_cons_zero, List.set_cons_succ]
        rfl
       refine one_ (i := 9) (N := some 52) (bv 13 0x3ff) rfl rfl (one_of HT_.out (by kernel_rfl)) (by decide) (fun K hK => ?_)
       refine Kd.R_append_rows_step (Kd.int .i64) (w0 := w0) w0.heap.size (by rfl) (.tmp 49) (.tmp 51) 23 3 (.int .i64 0) 8 rfl Try.underlying23 info3 rfl (by decide) (by omega) v444 t443 y446 _ _ _ (fun k_ => ((P0_2_ k_ ∨ P0_3_ k_ ∨ P0_4_ k_) ∨ w.heap.size ≤ k_) ∧ nb k_ Ao86 y446.length co86 ∧ k_ ≠ gb442) (fun _ => False) rfl rfl ?aO ?aR (fun _ _ h => h) (fun _ h => h.elim) ?aF ?aB ?aS ?aL ?_
       (case aR => repeat (first | exact (Kd.R_reads' HO448.out).2.2 | (with_reducible refine Kd.C_alloc ?_ _) | (with_reducible refine Kd.C_drewN ?_ _) | (with_reducible refine Kd.C_drew ?_)))
       (case aB => exact (be3 HB GE429 GE431 GE442))
       (case aF => exact (fun k_ hk => ⟨(.inr (Nat.le_trans (by first | exact HK.out.1 | exact (show Kept w _ (fun k_ => (P0_2_ k_ ∨ P0_3_ k_ ∨ P0_4_ k_) ∨ k_ = gb429) from (kr2 HK GW431 GW442)).1) hk)), Kd.fresh' (Kd.R_lt (ro HO448)) k_ hk, Kd.freshB (g := gb442) (o := .cells #[.int .i64 t441] 3 (0, 0)) (bk BK442) k_ hk⟩))
       (case aO => exact (ro HO445))
       (case aS => exact (below_size (be3 HB GE429 GE431 GE442)))
       (case aL => have := LMc30.out; omega)
       intro v450 w85 ho hb hg hat
       rw [← Ny449.out] at ho
       have n0_ := Aside0.mk (Kd.Q_over' (qo HO434) (Kd.R_typed (ro HO445)) (by decide) hg)
       have n1_ := Aside0.mk (Kd.R_over' (ro HO_430003) (Kd.R_typed (ro HO445)) (by decide) hg)
       have n2_ := Aside0.mk (blk_grown (g := gb429) (o := .cells #[.int .i64 a0_0, .int .i64 a0_1, .slice A72 y432.length c72, u430003, .slice Ao78 x430004_1.length co78] 30 (0, 0)) (bk BK429) hg (Kd.R_ne HO445.out BK429.out (by decide)))
       have n3_ := Aside0.mk (blk_grown (g := gb431) (o := .cells #[.string ((rd_T68 x430002_1 0).f0), .string ((rd_T68 x430002_1 0).f1), .int .i64 ((rd_T68 x430002_1 0).f2)] 68 (0, 0)) (bk BK431) hg (Kd.R_ne HO445.out BK431.out (by decide)))
       have n4_ := Aside0.mk (blk_grown (g := gb442) (o := .cells #[.int .i64 t441] 3 (0, 0)) (bk BK442) hg (Kd.R_away HO445.out (fun _ hk => hk.2.2)))
       have n5_ := Aside0.mk (Kd.R_after (ok := (fun k_ => ((P0_2_ k_ ∨ P0_3_ k_ ∨ P0_4_ k_) ∨ w.heap.size ≤ k_) ∧ k_ ≠ gb442)) (by (with_reducible repeat (first | apply Kd.R_alloc | apply Kd.R_drewN | apply Kd.R_drew)); exact rm HO448) hg hat)
       have n6_ := Aside0.mk (hb)
       have n7_ := Aside0.mk (Kept.of_grown (S := (fun k_ => (P0_2_ k_ ∨ P0_3_ k_ ∨ P0_4_ k_) ∨ k_ = gb429)) hg (kr2 HK GW431 GW442) (fun k_ e_ => Or.imp_left Or.inl ((HO445.out.1 k_ e_).1)))
       have n8_ := Aside0.mk (ho)
       clear HO434
       clear HO_430003
       clear BK429
       clear BK431
       clear BK442
       clear HO448
       clear HB
       clear HK
       clear HO445
       have HO434 := n0_
       have HO_430003 := n1_
       have BK429 := n2_
       have BK431 := n3_
       have BK442 := n4_
       have HO448 := n5_
       have HB := n6_
       have HK := n7_
       have HO451 := n8_
       clear n0_ n1_ n2_ n3_ n4_ n5_ n6_ n7_ n8_
       clear ho hb hg hat
       obtain ⟨Ao87, co87, eo87⟩ := Kd.R_slice HO451.out
       (first | subst eo87 | (injection eo87 with f1_ f2_ f3_; have f4_ := f1_.symm; have f5_ := f3_.symm; clear f1_ f2_ f3_; subst f4_; subst f5_))
       refine hK.out _ _ ⟨bc0 BK429, bc1 BK429, bc2 BK429, bc3 BK429, bc4 BK429, bc0 BK442⟩ (fun hHeld => ?_)
       clear hK K
       refine norm_ (a' := ?_) ?_ ?_
       rotate_left
       ·show Act.put _ (some 52) _ = _
        simp only [aP]
        rfl
       refine py HT_ 10 53 (bv 13 0x7ff) ?_
       refine py HT_ 11 54 (bv 13 0xfff) ?_
       refine last_ (i := 12) (N := none) (bv 13 0x1fff) rfl rfl (one_of HT_.out (by kernel_rfl)) (by decide) (fun K hK => ?_)
       have hs88 : w85.cell? ⟨gb429, 4, none⟩ = some (.slice Ao78 x430004_1.length co78) := bc4 BK429
       have hfs88 := blk_frozen BK429.out 4
       have hns88_1 := NB431_429.out
       have hns88_2 := NB442_429.out
       have hms88_1 := NB429_431.out
       have hms88_2 := NB429_442.out
       refine skip_ (w1 := ?_) (by rfl) rfl ?_ ?_
       rotate_left
       ·go_simp
        rfl
       refine hK.out _ _ ?_
       clear hK K
       refine done_ (done_of HT_.out (by kernel_rfl)) ?_
       try go_wp2
       have n0_ : Aside0 (Kd.Q k68 68 (w85.setCell ⟨gb429, 4, none⟩ (.slice Ao87 y449.length co87)) w0.heap.size (fun k_ => ((P0_2_ k_ ∨ P0_3_ k_ ∨ P0_4_ k_) ∨ w.heap.size ≤ k_) ∧ some k_ ≠ (u430003 : Value).ownBlock ∧ k_ ≠ gb431) (.slice A72 y432.length c72) y432) := ⟨(qf HO434 BK429)⟩
       have n1_ : Aside0 (Kd.R k68 68 (w85.setCell ⟨gb429, 4, none⟩ (.slice Ao87 y449.length co87)) w0.heap.size (fun k_ => ((P0_2_ k_ ∨ P0_3_ k_ ∨ P0_4_ k_) ∨ w.heap.size ≤ k_) ∧ nb k_ A72 y432.length c72 ∧ k_ ≠ gb431) u430003 x430003_1) := ⟨(rf HO_430003 BK429)⟩
       have n2_ : Aside0 (Kd.R (Kd.int .i64) 3 (w85.setCell ⟨gb429, 4, none⟩ (.slice Ao87 y449.length co87)) w0.heap.size (fun k_ => ((P0_2_ k_ ∨ P0_3_ k_ ∨ P0_4_ k_) ∨ w.heap.size ≤ k_) ∧ nb k_ Ao87 y449.length co87 ∧ k_ ≠ gb442) (.slice Ao86 y446.length co86) y446) := ⟨(rfn HO448 BK429)⟩
       have n3_ : Aside0 (Kd.R (Kd.int .i64) 3 (w85.setCell ⟨gb429, 4, none⟩ (.slice Ao87 y449.length co87)) w0.heap.size (fun k_ => ((P0_2_ k_ ∨ P0_3_ k_ ∨ P0_4_ k_) ∨ w.heap.size ≤ k_) ∧ nb k_ Ao86 y446.length co86 ∧ k_ ≠ gb442) (.slice Ao87 y449.length co87) y449) := ⟨(rf HO451 BK429)⟩
       have n4_ : Aside0 ((w85.setCell ⟨gb429, 4, none⟩ (.slice Ao87 y449.length co87)).heap[gb429]? = some (.cells #[.int .i64 a0_0, .int .i64 a0_1, .slice A72 y432.length c72, u430003, .slice Ao87 y449.length co87] 30 (0, 0))) := ⟨(bp BK429)⟩
       have n5_ : Aside0 ((w85.setCell ⟨gb429, 4, none⟩ (.slice Ao87 y449.length co87)).heap[gb431]? = some (.cells #[.string ((rd_T68 x430002_1 0).f0), .string ((rd_T68 x430002_1 0).f1), .int .i64 ((rd_T68 x430002_1 0).f2)] 68 (0, 0))) := ⟨(bp1 BK431 NB431_429)⟩
       have n6_ : Aside0 ((w85.setCell ⟨gb429, 4, none⟩ (.slice Ao87 y449.length co87)).heap[gb442]? = some (.cells #[.int .i64 t441] 3 (0, 0))) := ⟨(bp1 BK442 NB442_429)⟩
       have n7_ : Aside0 (Kept w (w85.setCell ⟨gb429, 4, none⟩ (.slice Ao87 y449.length co87)) (fun k_ => (P0_2_ k_ ∨ P0_3_ k_ ∨ P0_4_ k_) ∨ k_ = gb429)) := ⟨(kr2 HK GW431 GW442)⟩
       have n8_ : Aside0 (Below w0.heap.size w0 (w85.setCell ⟨gb429, 4, none⟩ (.slice Ao87 y449.length co87))) := ⟨be3 HB GE429 GE431 GE442⟩
       (try clear HO434)
       (try clear HO_430003)
       (try clear HO448)
       (try clear HO451)
       (try clear BK429)
       (try clear BK431)
       (try clear BK442)
       (try clear HK)
       (try clear HB)
       generalize (w85.setCell ⟨gb429, 4, none⟩ (.slice Ao87 y449.length co87)) = w89 at n0_ n1_ n2_ n3_ n4_ n5_ n6_ n7_ n8_ ⊢
       have HO434 := n0_
       have HO_430003 := n1_
       have HO448 := n2_
       have HO451 := n3_
       have BK429 := n4_
       have BK431 := n5_
       have BK442 := n6_
       have HK := n7_
       have HB := n8_
       clear n0_ n1_ n2_ n3_ n4_ n5_ n6_ n7_ n8_
       have n0_ := Aside0.mk (Kd.Q_drew HO434.out)
       have n1_ := Aside0.mk (Kd.R_drew HO_430003.out)
       have n2_ := Aside0.mk (Kd.R_drew HO448.out)
       have n3_ := Aside0.mk (Kd.R_drew HO451.out)
       have n4_ := Aside0.mk (blk_drew BK429.out)
       have n5_ := Aside0.mk (blk_drew BK431.out)
       have n6_ := Aside0.mk (blk_drew BK442.out)
       have n7_ := Aside0.mk (Kept.drew HK.out)
       have n8_ := Aside0.mk (below_drew1 HB.out)
       clear HO434
       clear HO_430003
       clear HO448
       clear HO451
       clear BK429
       clear BK431
       clear BK442
       clear HK
       clear HB
       have HO434 := n0_
       have HO_430003 := n1_
       have HO448 := n2_
       have HO451 := n3_
       have BK429 := n4_
       have BK431 := n5_
       have BK442 := n6_
       have HK := n7_
       have HB := n8_
       clear n0_ n1_ n2_ n3_ n4_ n5_ n6_ n7_ n8_
       obtain ⟨Ao91, co91, eo91⟩ := Kd.R_slice HO_430003.out
       (first | subst eo91 | (injection eo91 with f1_ f2_ f3_; have f4_ := f1_.symm; have f5_ := f3_.symm; clear f1_ f2_ f3_; subst f4_; subst f5_))
       refine start_ (n := 8) (S := fun w' => w'.cell? ⟨gb429, 0, none⟩ = some (.int .i64 a0_0) ∧ w'.cell? ⟨gb429, 1, none⟩ = some (.int .i64 a0_1) ∧ w'.cell? ⟨gb429, 2, none⟩ = some (.slice A72 y432.length c72) ∧ w'.cell? ⟨gb429, 3, none⟩ = some (.slice Ao91 x430003_1.length co91) ∧ w'.cell? ⟨gb429, 4, none⟩ = some (.slice Ao87 y449.length co87)) (ds := []) (bv 8 0x0) (by kernel_rfl) rfl rfl ⟨bc0 BK429, bc1 BK429, bc2 BK429, bc3 BK429, bc4 BK429⟩ (fun hHeld => ?_); refine with_tabW impl_Three_evictSmall.tab9 impl_Three_evictSmall.bits9 (fun HT_ HW_ => ?_)
       generalize w89.drew = w90 at HO434 HO_430003 HO448 HO451 BK429 BK431 BK442 HK HB hHeld ⊢
       refine py HT_ 0 55 (bv 8 0x1) ?_
       refine py HT_ 1 56 (bv 8 0x3) ?_
       refine py HT_ 2 57 (bv 8 0x7) ?_
       refine tk HT_ HW_ hHeld 3 58 (bv 8 0xf) ?_
       refine py HT_ 4 59 (bv 8 0x1f) ?_
       refine py HT_ 5 60 (bv 8 0x3f) ?_
       refine one_ (i := 6) (N := some 61) (bv 8 0x7f) rfl rfl (one_of HT_.out (by kernel_rfl)) (by decide) (fun K hK => ?_)
       refine goes_ Try.func65 (by kernel_rfl) rfl #[.pointer (some ⟨gb429, 0, none⟩)] (by rfl) rfl rfl ml ?_
       with_reducible refine (impl_Three_ghosts.calls a0_0 a0_1 A72 c72 y432 Ao91 co91 x430003_1 Ao87 co87 y449 gb429 t452 _ ?side1 ?side2 ?side3 ?side4 ?side5 ?side6 ?sideP A31.out).mono ?_
       (case sideP => exact bk BK429)
       (case side1 => repeat (first | exact (Kd.Q_reads' HO434.out).2.2 | (with_reducible refine Kd.C_alloc ?_ _) | (with_reducible refine Kd.C_drewN ?_ _) | (with_reducible refine Kd.C_drew ?_)))
       (case side2 => exact (Kd.Q_reads' HO434.out).2.1)
       (case side3 => exact cr HO_430003)
       (case side4 => exact (Kd.R_reads' HO_430003.out).2.1)
       (case side5 => exact cr HO451)
       (case side6 => exact (Kd.R_reads' HO451.out).2.1)
       rintro e w92 ⟨rfl, hb⟩
       refine ⟨_, rfl, ?_⟩
       have n0_ := Aside0.mk (Kd.Q_below (qo HO434) hb)
       have n1_ := rb HO_430003 hb
       have n2_ := rb HO448 hb
       have n3_ := rb HO451 hb
       have n4_ := bb BK429 hb
       have n5_ := bb BK431 hb
       have n6_ := bb BK442 hb
       have n7_ := Aside0.mk (Kept.below (w := w) (S := (fun k_ => (P0_2_ k_ ∨ P0_3_ k_ ∨ P0_4_ k_) ∨ k_ = gb429)) (kr2 HK GW431 GW442) hb)
       have n8_ := Aside0.mk (below_step (be3 HB GE429 GE431 GE442) hb)
       clear HO434
       clear HO_430003
       clear HO448
       clear HO451
       clear BK429
       clear BK431
       clear BK442
       clear HK
       clear HB
       have HO434 := n0_
       have HO_430003 := n1_
       have HO448 := n2_
       have HO451 := n3_
       have BK429 := n4_
       have BK431 := n5_
       have BK442 := n6_
       have HK := n7_
       have HB := n8_
       clear n0_ n1_ n2_ n3_ n4_ n5_ n6_ n7_ n8_
       (try clear hb)
       (try clear hb2)
       (try clear hk)
       (try clear hi)
       refine hK.out _ _ ⟨bc0 BK429, bc1 BK429, bc2 BK429, bc3 BK429, bc4 BK429⟩ (fun hHeld => ?_)
       clear hK K
       refine norm_ (a' := ?_) ?_ ?_
       rotate_left
       ·show Act.put _ (some 61) _ = _
        simp only [aP]
        rfl
       refine py HT_ 7 62 (bv 8 0xff) ?_
       refine done_ (done_of HT_.out (by kernel_rfl)) ?_
       have hcz93_0 := bz3 BK431
       try go_wp2
       go_ret2
       exact ⟨_, _, _, er, (bk BK429), by (with_reducible repeat (first | apply Kd.Q_alloc | apply Kd.Q_drewN | apply Kd.Q_drew)); exact Kd.Q_mono HO434.out (fun _ hk => ⟨hk.1, hk.2.1⟩), by (with_reducible repeat (first | apply Kd.R_alloc | apply Kd.R_drewN | apply Kd.R_drew)); exact rm HO_430003, Kd.Q_of_R (by (with_reducible repeat (first | apply Kd.R_alloc | apply Kd.R_drewN | apply Kd.R_drew)); exact Kd.R_mono HO451.out (fun _ hk => hk.1)), be3 HB GE429 GE431 GE442, (kr2 HK GW431 GW442)⟩
      rw [if_neg c30] at H
      exact absurd H (by simp)
     rw [if_neg c8] at H
     exact absurd H (by simp)
    rw [if_neg c7] at H
    exact absurd H (by simp)
   rw [if_neg c6] at H
   have c6b0 : decide (0 < (x430002_1.length : Int)) = false := decide_eq_false c6
   have c6b1 : decide (0 < x430002_1.length) = false := decide_eq_false (by omega)
   clear c6
   simp only [Option.some.injEq, Prod.mk.injEq] at H
   obtain ⟨rfl, rfl, rfl, rfl, rfl, rfl, rfl⟩ := H
   have hcz94_0 := bz5 BK429
   obtain ⟨Ao95, co95, eo95, _⟩ := Kd.Q_slice HO_430002.out
   subst eo95
   go_wp2
   go_ret2
   exact ⟨_, _, _, er, (bk BK429), (qo HO_430002), (ro HO_430003), Kd.Q_of_R (ro HO_430004), be1 HB GE429, (kr HK)⟩

end Go.Proofs.Ytfjhkediaholmaa.QFnExactEvict
