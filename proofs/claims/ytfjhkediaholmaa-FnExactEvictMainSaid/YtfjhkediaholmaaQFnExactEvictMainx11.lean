-- made by a program of this session (myprint.py)
import Derived.Test.YtfjhkediaholmaaQFnExactEvictMainx0
import Derived.Test.YtfjhkediaholmaaQFnExactEvictMainx8
import Derived.Test.YtfjhkediaholmaaQFnExactEvictMainx10
namespace Go.Proofs.Ytfjhkediaholmaa.QFnExactEvictMain
open Go.RowKit Go.Proofs.YtfjhkediaholmaaW.PrintWords Go.Proofs.YtfjhkediaholmaaW.PrintLast Go.Proofs.YtfjhkediaholmaaW.PrintMore
attribute [local go_sem] max2_int min2_int max_two min_two max_three min_three max_four min_four   -- for this text's walks alone
set_option linter.unusedVariables false
set_option linter.unusedSimpArgs false

/-! ### impl_Three_evictMain: function 85 -/
def impl_Three_evictMain.l0 : Nat → Int → Int → List (S68) → List (S68) → List Int → Option (ByteArray × Bool × Int × Int × (List (S68)) × (List (S68)) × List Int)
 | 0, _, _, _, _, _ => none
 | k + 1, x288000, x288001, x288002, x288003, x288004 => if (x288003.length : Int) > 0 then (if 0 < (x288003.length : Int) then (if 1 ≤ (x288003.length : Int) then ((some (x288003.drop (1 : Int).toNat : List (S68))).bind fun y290 => (if ((rd_T68 x288003 0).f2) = 0 then (some ((rd_T68 x288003 0).f0, true, x288000, x288001, x288002, y290, x288004)) else (if y290.length < 3518437208883 then (impl_Three_evictMain.l0 k x288000 x288001 x288002 (y290 ++ [(⟨(rd_T68 x288003 0).f0, (rd_T68 x288003 0).f1, wrap64 (((rd_T68 x288003 0).f2) - 1)⟩ : S68)]) x288004) else (none)))) else (none)) else (none)) else (some ((⟨#[]⟩ : ByteArray), false, x288000, x288001, x288002, x288003, x288004))
def impl_Three_evictMain.f (k : Nat) (a0_0 : Int) (a0_1 : Int) (l0_2 : List (S68)) (l0_3 : List (S68)) (l0_4 : List Int) : Option (ByteArray × Bool × Int × Int × (List (S68)) × (List (S68)) × List Int) := impl_Three_evictMain.l0 k a0_0 a0_1 l0_2 l0_3 l0_4
theorem impl_Three_evictMain.mono_l : ∀ k, (∀ y0 y1 y2 y3 y4, LeO (impl_Three_evictMain.l0 k y0 y1 y2 y3 y4) (impl_Three_evictMain.l0 (k + 1) y0 y1 y2 y3 y4))
 | 0 => fun _ _ _ _ _ r h => by simp [impl_Three_evictMain.l0] at h
 | k + 1 => by
  have ih0 := impl_Three_evictMain.mono_l k
  ·intro y0 y1 y2 y3 y4
   unfold impl_Three_evictMain.l0
   repeat' first
   | (with_reducible exact ih0 _ _ _ _ _)
   | (with_reducible exact LeO.refl _)
   | (with_reducible exact LeO.none _)
   | (with_reducible refine LeO.ite ?_ ?_)
   | (with_reducible refine LeO.bind ?_ (fun _ => ?_))
   | exact ih0 _ _ _ _ _
   | exact LeO.none _
   | refine LeO.ite ?_ ?_
   | refine LeO.bind ?_ (fun _ => ?_)
theorem impl_Three_evictMain.mono : ∀ a0 a1 a2 a3 a4 k, LeO (impl_Three_evictMain.f k a0 a1 a2 a3 a4) (impl_Three_evictMain.f (k + 1) a0 a1 a2 a3 a4) := by
 intro a0 a1 a2 a3 a4 k
 have ih0 := impl_Three_evictMain.mono_l k
 unfold impl_Three_evictMain.f
 repeat' first
   | (with_reducible exact ih0 _ _ _ _ _)
   | (with_reducible exact LeO.refl _)
   | (with_reducible exact LeO.none _)
   | (with_reducible refine LeO.ite ?_ ?_)
   | (with_reducible refine LeO.bind ?_ (fun _ => ?_))
   | exact ih0 _ _ _ _ _
   | exact LeO.none _
   | refine LeO.ite ?_ ?_
   | refine LeO.bind ?_ (fun _ => ?_)
def impl_Three_evictMain.T7 : Bool × List (List Nat × List Nat) := (true, [([], []), ([], []), ([1], [1]), ([2], [2]), ([3], [3]), ([], []), ([5], [5]), ([4, 6], [4, 6]), ([0, 0, 1, 2, 3, 4, 5, 6, 7], [0]), ([8, 0, 1, 2, 3, 4, 5, 6, 7], [8]), ([9, 7, 7, 0, 1, 2, 3, 4, 5, 6, 7], [7, 9])])
def impl_Three_evictMain.B7 : List Nat := [0, 0, 2, 6, 14, 0, 32, 126, 255, 511, 1023]
theorem impl_Three_evictMain.tab7 : rtab .any (opsOf Try.f85 7) = impl_Three_evictMain.T7 := by kernel_rfl
theorem impl_Three_evictMain.bits7 : waitsOk impl_Three_evictMain.T7.2 impl_Three_evictMain.B7 = true := by kernel_rfl
set_option maxHeartbeats 8000000 in
set_option maxRecDepth 100000 in
theorem impl_Three_evictMain.calls (k : Nat) (a0_0 : Int) (a0_1 : Int) (P0_2_ : Nat → Prop) (u9000_ : Value) (l0_2 : List (S68)) (P0_3_ : Nat → Prop) (u9001_ : Value) (l0_3 : List (S68)) (P0_4_ : Nat → Prop) (u9002_ : Value) (l0_4 : List Int) (gb287 : Nat) (r1 : ByteArray) (r2 : Bool) (r3 : Int) (r4 : Int) (r5 : List (S68)) (r6 : List (S68)) (r7 : List Int) (w0 w : World) (hP : w.heap[gb287]? = some (.cells #[.int .i64 a0_0, .int .i64 a0_1, u9000_, u9001_, u9002_] 30 (0, 0))) (hW : w0.heap.size ≤ gb287) (hB : Below w0.heap.size w0 w) (ho0_2 : Kd.R k68 68 w w0.heap.size P0_2_ u9000_ l0_2) (hp0_2_0_3 : ∀ k_, P0_2_ k_ → ¬ P0_3_ k_) (ho0_3 : Kd.R k68 68 w w0.heap.size P0_3_ u9001_ l0_3) (hp0_3_0_2 : ∀ k_, P0_3_ k_ → ¬ P0_2_ k_) (ho0_4 : Kd.R (Kd.int .i64) 3 w w0.heap.size P0_4_ u9002_ l0_4) (h : impl_Three_evictMain.f k a0_0 a0_1 l0_2 l0_3 l0_4 = some (r1, r2, r3, r4, r5, r6, r7)) :
  Calls Try.prog 85 #[.pointer (some ⟨gb287, 0, none⟩)] w fun e w' => ∃ v4_ v5_ v6_ : Value, e = .returned (.tuple #[.string r1, .bool r2]) ∧ w'.heap[gb287]? = some (.cells #[.int .i64 r3, .int .i64 r4, v4_, v5_, v6_] 30 (0, 0)) ∧ Kd.R k68 68 w' w0.heap.size (fun k_ => ((P0_2_ k_ ∨ P0_3_ k_ ∨ P0_4_ k_) ∨ w.heap.size ≤ k_) ∧ some k_ ≠ (v5_ : Value).ownBlock) v4_ r5 ∧ Kd.Q k68 68 w' w0.heap.size (fun k_ => ((P0_2_ k_ ∨ P0_3_ k_ ∨ P0_4_ k_) ∨ w.heap.size ≤ k_) ∧ some k_ ≠ (v4_ : Value).ownBlock) v5_ r6 ∧ Kd.R (Kd.int .i64) 3 w' w0.heap.size (fun k_ => ((P0_2_ k_ ∨ P0_3_ k_ ∨ P0_4_ k_) ∨ w.heap.size ≤ k_)) v6_ r7 ∧ Below w0.heap.size w0 w' ∧ Kept w w' (fun k_ => (P0_2_ k_ ∨ P0_3_ k_ ∨ P0_4_ k_) ∨ k_ = gb287) := by
 have hu30 := Try.underlying30
 have hu68 := Try.underlying68
 have HO0_2 := Aside0.mk (show Kd.R k68 68 w w0.heap.size (fun k_ => ((P0_2_ k_ ∨ P0_3_ k_ ∨ P0_4_ k_) ∨ w.heap.size ≤ k_) ∧ some k_ ≠ (u9001_ : Value).ownBlock) u9000_ l0_2 from Kd.R_mono ho0_2 (fun k_ hk => ⟨(.inl (.inl hk)), fun e_ => hp0_2_0_3 k_ hk (ho0_3.1 k_ e_.symm)⟩))
 have HO0_3 := Aside0.mk (show Kd.R k68 68 w w0.heap.size (fun k_ => ((P0_2_ k_ ∨ P0_3_ k_ ∨ P0_4_ k_) ∨ w.heap.size ≤ k_) ∧ some k_ ≠ (u9000_ : Value).ownBlock) u9001_ l0_3 from Kd.R_mono ho0_3 (fun k_ hk => ⟨(.inl (.inr (.inl hk))), fun e_ => hp0_3_0_2 k_ hk (ho0_2.1 k_ e_.symm)⟩))
 have HO0_4 := Aside0.mk (show Kd.R (Kd.int .i64) 3 w w0.heap.size (fun k_ => ((P0_2_ k_ ∨ P0_3_ k_ ∨ P0_4_ k_) ∨ w.heap.size ≤ k_)) u9002_ l0_4 from Kd.R_mono ho0_4 (fun k_ hk => (.inl (.inr (.inr hk)))))
 have HK := Aside0.mk (Kept.refl w (fun k_ => (P0_2_ k_ ∨ P0_3_ k_ ∨ P0_4_ k_) ∨ k_ = gb287))
 have HW0 := Aside0.mk hB.size
 have HB := Aside0.mk hB
 clear hB
 have BK287 := Aside0.mk hP
 have GE287 := Aside0.mk hW
 clear hP hW
 have H : (impl_Three_evictMain.l0 k a0_0 a0_1 l0_2 l0_3 l0_4) = some (r1, r2, r3, r4, r5, r6, r7) := h
 clear h
 have H' := Aside0.mk H
 clear H
 obtain ⟨Ao2, co2, eo2⟩ := Kd.R_slice HO0_2.out
 subst eo2
 obtain ⟨Ao3, co3, eo3⟩ := Kd.R_slice HO0_3.out
 subst eo3
 obtain ⟨Ao4, co4, eo4⟩ := Kd.R_slice HO0_4.out
 subst eo4
 go_enter Try.func85, Try.ntmps85
 go_wp2
 go_loopg [] k (fun kq w' => ∃ (x288003_1 : List (S68)) (u288003 : Value), Aside0 (impl_Three_evictMain.l0 kq a0_0 a0_1 l0_2 x288003_1 l0_4 = some (r1, r2, r3, r4, r5, r6, r7)) ∧ Aside0 (kq ≤ k) ∧ Aside0 (Kd.R k68 68 w' w0.heap.size (fun k_ => ((P0_2_ k_ ∨ P0_3_ k_ ∨ P0_4_ k_) ∨ w.heap.size ≤ k_) ∧ some k_ ≠ (u288003 : Value).ownBlock) (.slice Ao2 l0_2.length co2) l0_2) ∧ Aside0 (Kd.Q k68 68 w' w0.heap.size (fun k_ => ((P0_2_ k_ ∨ P0_3_ k_ ∨ P0_4_ k_) ∨ w.heap.size ≤ k_) ∧ nb k_ Ao2 l0_2.length co2) u288003 x288003_1) ∧ Aside0 (Kd.R (Kd.int .i64) 3 w' w0.heap.size (fun k_ => ((P0_2_ k_ ∨ P0_3_ k_ ∨ P0_4_ k_) ∨ w.heap.size ≤ k_)) (.slice Ao4 l0_4.length co4) l0_4) ∧ Aside0 (w'.heap[gb287]? = some (.cells #[.int .i64 a0_0, .int .i64 a0_1, (.slice Ao2 l0_2.length co2), u288003, (.slice Ao4 l0_4.length co4)] 30 (0, 0))) ∧ Aside0 (Kept w w' (fun k_ => (P0_2_ k_ ∨ P0_3_ k_ ∨ P0_4_ k_) ∨ k_ = gb287)) ∧ Aside0 (Below w0.heap.size w0 w'))
 case atStart => exact ⟨(l0_3), (.slice Ao3 l0_3.length co3), H', ⟨Nat.le_refl _⟩, ⟨ro HO0_2⟩, ⟨Kd.Q_of_R (ro HO0_3)⟩, ⟨ro HO0_4⟩, ⟨bk BK287⟩, ⟨by repeat (first | (with_reducible first | exact HK.out | apply Kept.alloc | apply Kept.drewN | apply Kept.drew | refine Kept.setCell ?_ (.inl (.inr rfl)) _) | exact HK.out)⟩, ⟨be1 HB GE287⟩⟩
 case round =>
  clear H'
  try clear p2
  obtain ⟨x288003_1, u288003, HA, HK1, HO_288002, HO_288003, HO_288004, BK287, HK, HB⟩ := hrel
  cases gk with
  | zero => exact absurd HA.out (by simp [impl_Three_evictMain.l0])
  | succ k1 =>
   have H := HA.out
   clear HA
   simp only [impl_Three_evictMain.l0] at H
   by_cases c6 : (x288003_1.length : Int) > 0
   ·rw [if_pos c6] at H
    have c6b0 : decide (0 < (x288003_1.length : Int)) = true := decide_eq_true c6
    have c6b1 : decide (0 < x288003_1.length) = true := decide_eq_true (by omega)
    clear c6
    by_cases c7 : 0 < (x288003_1.length : Int)
    ·rw [if_pos c7] at H
     have c7b0 : decide (0 < (x288003_1.length : Int)) = true := decide_eq_true c7
     have c7b1 : decide (0 < x288003_1.length) = true := decide_eq_true (by omega)
     clear c7
     by_cases c8 : 1 ≤ (x288003_1.length : Int)
     ·rw [if_pos c8] at H
      have c8b0 := eq_true c8
      have c8b1 : decide (1 ≤ (x288003_1.length : Int)) = true := decide_eq_true c8
      clear c8
      obtain ⟨y290, hy290⟩ : ∃ y_ : List (S68), y_ = (x288003_1.drop (1 : Int).toNat) := ⟨_, rfl⟩
      replace H : (if ((rd_T68 x288003_1 0).f2) = 0 then (some ((rd_T68 x288003_1 0).f0, true, a0_0, a0_1, l0_2, y290, l0_4)) else (if y290.length < 3518437208883 then (impl_Three_evictMain.l0 k1 a0_0 a0_1 l0_2 (y290 ++ [(⟨(rd_T68 x288003_1 0).f0, (rd_T68 x288003_1 0).f1, wrap64 (((rd_T68 x288003_1 0).f2) - 1)⟩ : S68)]) l0_4) else (none))) = some (r1, r2, r3, r4, r5, r6, r7) := by first | (rw [hy290]; with_reducible exact H) | (have H2_ := (Option.bind_some _ _).symm.trans H; rw [hy290]; with_reducible exact H2_) | (have H2_ := (Option.bind_some _ _).symm.trans H; with_reducible exact H2_) | with_reducible exact H | (rw [hy290]; exact H) | exact H
      have Ny290 := Aside0.mk hy290
      clear hy290
      by_cases c9 : ((rd_T68 x288003_1 0).f2) = 0
      ·rw [if_pos c9] at H
       have c9b0 : (((rd_T68 x288003_1 0).f2) == 0) = true := beq_iff_eq.mpr c9
       have c9b1 : (((rd_T68 x288003_1 0).f2) != 0) = false := bne_eq_false_iff_eq.mpr c9
       clear c9
       simp only [Option.some.injEq, Prod.mk.injEq] at H
       obtain ⟨rfl, rfl, rfl, rfl, rfl, rfl, rfl⟩ := H
       have hcz10_0 := bz5 BK287
       obtain ⟨Ao11, co11, eo11, _⟩ := Kd.Q_slice HO_288003.out
       subst eo11
       have p288 : 0 ≤ (0 : Int) := (by omega)
       have q288 : 0 < (x288003_1.length : Int) := od
       obtain ⟨ad288, e288, hx288_0, hx288_1, hx288_2⟩ := at_T68 (Kd.Q_reads' HO_288003.out).2.2 0 p288 q288
       cases e288
       have qi288 : (0 < x288003_1.length) = True := eq_true (by omega)
       (try rw [show ((0 : Int)).toNat = 0 from rfl] at hx288_0)
       (try rw [show 0 * 3 = 0 from rfl] at hx288_0)
       (try rw [Addr.add_zero'] at hx288_0)
       (try rw [show ((0 : Int)).toNat = 0 from rfl] at hx288_1)
       (try rw [show 0 * 3 = 0 from rfl] at hx288_1)
       (try rw [Addr.add_zero'] at hx288_1)
       (try rw [show ((0 : Int)).toNat = 0 from rfl] at hx288_2)
       (try rw [show 0 * 3 = 0 from rfl] at hx288_2)
       (try rw [Addr.add_zero'] at hx288_2)
       replace p288 := eq_true p288
       replace q288 := eq_true q288
       go_wp2_with (first | ((with_reducible refine gate_dst (N := 4) rfl ?_); refine bx 4 #[.string (⟨#[]⟩ : ByteArray), .string (⟨#[]⟩ : ByteArray), .int .i64 0] 68 ?_; intro gb289 hg w12 hbox hb; replace HO_288002 := Aside0.mk (Kd.R_below (Kd.R_elderB (ro HO_288002) gb289 (Nat.le_of_eq hg.symm)) hb); replace HO_288003 := Aside0.mk (Kd.Q_below (Kd.Q_elderB (by (with_reducible repeat (first | apply Kd.Q_alloc | apply Kd.Q_drewN | apply Kd.Q_drew)); exact HO_288003.out) gb289 (Nat.le_of_eq hg.symm)) hb); replace HO_288004 := rb HO_288004 hb; have BK289 := am hbox; have GW289 := Aside0.mk ((by rw [hg]; exact (by first | exact HK.out.1 | exact (show Kept w _ (fun k_ => (P0_2_ k_ ∨ P0_3_ k_ ∨ P0_4_ k_) ∨ k_ = gb287) from by repeat (first | (with_reducible first | exact HK.out | apply Kept.alloc | apply Kept.drewN | apply Kept.drew | refine Kept.setCell ?_ (.inl (.inr rfl)) _) | exact HK.out)).1) : w.heap.size ≤ gb289)); replace HK := Aside0.mk (Kept.below (S := (fun k_ => (P0_2_ k_ ∨ P0_3_ k_ ∨ P0_4_ k_) ∨ k_ = gb287)) (by repeat (first | (with_reducible first | exact HK.out | apply Kept.alloc | apply Kept.drewN | apply Kept.drew | refine Kept.setCell ?_ (.inl (.inr rfl)) _) | exact HK.out)) hb); have GE289 := Aside0.mk ((by rw [hg]; exact (below_size (be1 HB GE287)) : w0.heap.size ≤ gb289)); replace HB := Aside0.mk (below_step (be1 HB GE287) hb); have NB287_289 := Aside0.mk ((by rw [hg]; exact Nat.ne_of_lt (bl BK287) : gb287 ≠ gb289)); have NB289_287 := Aside0.mk ((by rw [hg]; exact Nat.ne_of_gt (bl BK287) : gb289 ≠ gb287)); replace BK287 := bb BK287 hb; clear hb hbox hg; have hnb13 := NB289_287.out; have hnc13 := NB287_289.out; have hcz14_0 := bz3 BK289) | ((with_reducible refine gate_store (t := 68) (p := 4) rfl ?_); refine store_event (t := 68) (p := 4) (v := ?vo_w15) (w1 := (((w12.setCell ⟨gb289, 0, none⟩ (.string ((rd_T68 x288003_1 0).f0))).setCell ⟨gb289, 1, none⟩ (.string ((rd_T68 x288003_1 0).f1))).setCell ⟨gb289, 2, none⟩ (.int .i64 ((rd_T68 x288003_1 0).f2)))) ?hg ?ho ?hn ?hr ?_; (case ho => rfl); (case hg => rfl); (case hn => rfl); (case hr => first | (go_simp; done) | (go_simp; rfl)); intro w15 hw; have n0_ : Aside0 (Kd.R k68 68 w15 w0.heap.size (fun k_ => ((P0_2_ k_ ∨ P0_3_ k_ ∨ P0_4_ k_) ∨ w.heap.size ≤ k_) ∧ some k_ ≠ (.slice (some ad288) x288003_1.length co11 : Value).ownBlock ∧ k_ ≠ gb289) (.slice Ao2 l0_2.length co2) l0_2) := ⟨(by rw [hw]; exact (by (with_reducible repeat (first | apply Kd.R_alloc | apply Kd.R_drewN | apply Kd.R_drew)); exact Kd.R_mono (Kd.R_far (p := ⟨gb289, 2, none⟩) (Kd.R_far (p := ⟨gb289, 1, none⟩) (Kd.R_far (p := ⟨gb289, 0, none⟩) (Kd.R_mono HO_288002.out (fun k_ hk => (⟨hk, hk.2⟩ : _ ∧ k_ ≠ gb289))) (fun _ hk => hk.2) (.string ((rd_T68 x288003_1 0).f0))) (fun _ hk => hk.2) (.string ((rd_T68 x288003_1 0).f1))) (fun _ hk => hk.2) (.int .i64 ((rd_T68 x288003_1 0).f2))) (fun _ hk => ⟨hk.1.1.1, ⟨hk.1.1.2, hk.1.2⟩⟩)))⟩; have n1_ : Aside0 (Kd.Q k68 68 w15 w0.heap.size (fun k_ => ((P0_2_ k_ ∨ P0_3_ k_ ∨ P0_4_ k_) ∨ w.heap.size ≤ k_) ∧ nb k_ Ao2 l0_2.length co2 ∧ k_ ≠ gb289) (.slice (some ad288) x288003_1.length co11) x288003_1) := ⟨(by rw [hw]; exact (by (with_reducible repeat (first | apply Kd.Q_alloc | apply Kd.Q_drewN | apply Kd.Q_drew)); exact Kd.Q_mono (Kd.Q_far (p := ⟨gb289, 2, none⟩) (Kd.Q_far (p := ⟨gb289, 1, none⟩) (Kd.Q_far (p := ⟨gb289, 0, none⟩) (Kd.Q_mono HO_288003.out (fun k_ hk => (⟨hk, hk.2⟩ : _ ∧ k_ ≠ gb289))) (fun _ hk => hk.2) (.string ((rd_T68 x288003_1 0).f0))) (fun _ hk => hk.2) (.string ((rd_T68 x288003_1 0).f1))) (fun _ hk => hk.2) (.int .i64 ((rd_T68 x288003_1 0).f2))) (fun _ hk => ⟨hk.1.1.1, ⟨hk.1.1.2, hk.1.2⟩⟩)))⟩; have n2_ : Aside0 (Kd.R (Kd.int .i64) 3 w15 w0.heap.size (fun k_ => ((P0_2_ k_ ∨ P0_3_ k_ ∨ P0_4_ k_) ∨ w.heap.size ≤ k_)) (.slice Ao4 l0_4.length co4) l0_4) := ⟨(by rw [hw]; exact (by (with_reducible repeat (first | apply Kd.R_alloc | apply Kd.R_drewN | apply Kd.R_drew)); exact Kd.R_mono (Kd.R_far (p := ⟨gb289, 2, none⟩) (Kd.R_far (p := ⟨gb289, 1, none⟩) (Kd.R_far (p := ⟨gb289, 0, none⟩) (Kd.R_types HO_288004.out BK289.out (by decide)) (fun _ hk => hk.2) (.string ((rd_T68 x288003_1 0).f0))) (fun _ hk => hk.2) (.string ((rd_T68 x288003_1 0).f1))) (fun _ hk => hk.2) (.int .i64 ((rd_T68 x288003_1 0).f2))) (fun _ hk => hk.1)))⟩; have n3_ : Aside0 (w15.heap[gb287]? = some (.cells #[.int .i64 a0_0, .int .i64 a0_1, .slice Ao2 l0_2.length co2, .slice (some ad288) x288003_1.length co11, .slice Ao4 l0_4.length co4] 30 (0, 0))) := ⟨(by rw [hw]; exact (bf1 BK287 NB287_289))⟩; have n4_ : Aside0 (w15.heap[gb289]? = some (.cells #[.string ((rd_T68 x288003_1 0).f0), .string ((rd_T68 x288003_1 0).f1), .int .i64 ((rd_T68 x288003_1 0).f2)] 68 (0, 0))) := ⟨(by rw [hw]; exact (by (with_reducible repeat (first | refine blk_drewN ?_ _ | refine blk_drew ?_ | refine blk_alloc ?_ _)); refine blk_put (cs := #[.string ((rd_T68 x288003_1 0).f0), .string ((rd_T68 x288003_1 0).f1), .int .i64 0]) ?_ 2 _ rfl; (with_reducible repeat (first | refine blk_drewN ?_ _ | refine blk_drew ?_ | refine blk_alloc ?_ _)); refine blk_put (cs := #[.string ((rd_T68 x288003_1 0).f0), .string (⟨#[]⟩ : ByteArray), .int .i64 0]) ?_ 1 _ rfl; (with_reducible repeat (first | refine blk_drewN ?_ _ | refine blk_drew ?_ | refine blk_alloc ?_ _)); refine blk_put (cs := #[.string (⟨#[]⟩ : ByteArray), .string (⟨#[]⟩ : ByteArray), .int .i64 0]) ?_ 0 _ rfl; (with_reducible repeat (first | refine blk_drewN ?_ _ | refine blk_drew ?_ | refine blk_alloc ?_ _)); exact BK289.out))⟩; have n5_ : Aside0 (Kept w w15 (fun k_ => (P0_2_ k_ ∨ P0_3_ k_ ∨ P0_4_ k_) ∨ k_ = gb287)) := ⟨(by rw [hw]; exact (by repeat (first | (with_reducible first | exact HK.out | apply Kept.alloc | apply Kept.drewN | apply Kept.drew | refine Kept.setCell ?_ (.inl (.inr rfl)) _ | refine Kept.setCell ?_ (.inr GW289.out) _) | exact HK.out)))⟩; have n6_ : Aside0 (Below w0.heap.size w0 w15) := ⟨(by rw [hw]; exact (be2 HB GE287 GE289))⟩; clear hw; clear HO_288002; clear HO_288003; clear HO_288004; clear BK287; clear BK289; clear HK; clear HB; have HO_288002 := n0_; have HO_288003 := n1_; have HO_288004 := n2_; have BK287 := n3_; have BK289 := n4_; have HK := n5_; have HB := n6_; clear n0_ n1_ n2_ n3_ n4_ n5_ n6_; have hcz16_0 := bz5 BK287; have q17 : (1 : Int) ≤ ((x288003_1.length : Int) : Int) := od; obtain ⟨i017, hi017, _, hsz17, _⟩ := info_parts info68; have hcut17 := cut_from (P := Try.prog) 28 68 .i64 Try.underlying28 hi017 3 hsz17 (some ad288) x288003_1.length co11 1 (by omega) q17; have hr17 := Kd.Q_drop (k := (1 : Int).toNat) HO_288003.out (by omega); obtain ⟨A17, hA17⟩ : ∃ A1, A1 = (if co11 = (1 : Int).toNat then (some ad288) else ((some ad288) : Option Addr).map (·.add ((1 : Int).toNat * 3))) := ⟨_, rfl⟩; obtain ⟨c17, hc17⟩ : ∃ c1, c1 = co11 - (1 : Int).toNat := ⟨_, rfl⟩; have hy17 : y290.length = x288003_1.length - (1 : Int).toNat := (by rw [Ny290.out, List.length_drop]); rw [← Ny290.out] at hr17; rw [← hy17, ← hA17, ← hc17] at hcut17; replace hr17 : Kd.Q k68 68 w15 w0.heap.size (fun k_ => ((P0_2_ k_ ∨ P0_3_ k_ ∨ P0_4_ k_) ∨ w.heap.size ≤ k_) ∧ nb k_ Ao2 l0_2.length co2 ∧ k_ ≠ gb289) (.slice A17 y290.length c17) y290 := (by rw [hA17, hc17, hy17]; exact hr17); have HE17 : Aside0 ((Value.slice A17 y290.length c17).ownBlock = (.slice (some ad288) x288003_1.length co11 : Value).ownBlock) := ⟨by rw [hA17]; split <;> (cases ((some ad288) : Option Addr) <;> rfl)⟩; clear hy17 hi017 hsz17 HO_288003 hA17 hc17; have HO292 := Aside0.mk hr17; clear hr17; replace q17 := eq_true q17; have n_ := Aside0.mk (Kd.R_mono (ok' := fun k_ => ((((P0_2_ k_ ∨ P0_3_ k_ ∨ P0_4_ k_) ∨ w.heap.size ≤ k_)) ∧ (nb k_ A17 y290.length c17 ∧ k_ ≠ gb289))) HO_288002.out (fun k_ hk => ⟨hk.1, ⟨(fun e_ => hk.2.1 (e_.trans HE17.out)), hk.2.2⟩⟩)); clear HO_288002; have HO_288002 := n_; clear n_; have hcz18_0 := bz3 BK289))
       go_ret2
       exact ⟨_, _, _, er, (by (with_reducible repeat (first | refine blk_drewN ?_ _ | refine blk_drew ?_ | refine blk_alloc ?_ _)); refine blk_put (cs := #[.int .i64 a0_0, .int .i64 a0_1, .slice Ao2 l0_2.length co2, .slice (some ad288) x288003_1.length co11, .slice Ao4 l0_4.length co4]) ?_ 3 _ rfl; (with_reducible repeat (first | refine blk_drewN ?_ _ | refine blk_drew ?_ | refine blk_alloc ?_ _)); exact BK287.out), by (with_reducible repeat (first | apply Kd.R_alloc | apply Kd.R_drewN | apply Kd.R_drew)); exact Kd.R_mono (Kd.R_far (p := ⟨gb287, 3, none⟩) (Kd.R_types HO_288002.out BK287.out (by decide)) (fun _ hk => hk.2) (.slice A17 y290.length c17)) (fun _ hk => ⟨hk.1.1, hk.1.2.1⟩), by (with_reducible repeat (first | apply Kd.Q_alloc | apply Kd.Q_drewN | apply Kd.Q_drew)); exact Kd.Q_mono (Kd.Q_far (p := ⟨gb287, 3, none⟩) (Kd.Q_types HO292.out BK287.out (by decide)) (fun _ hk => hk.2) (.slice A17 y290.length c17)) (fun _ hk => ⟨hk.1.1, hk.1.2.1⟩), by (with_reducible repeat (first | apply Kd.R_alloc | apply Kd.R_drewN | apply Kd.R_drew)); exact Kd.R_mono (Kd.R_far (p := ⟨gb287, 3, none⟩) (Kd.R_types HO_288004.out BK287.out (by decide)) (fun _ hk => hk.2) (.slice A17 y290.length c17)) (fun _ hk => hk.1), be2 HB GE287 GE289, by repeat (first | (with_reducible first | exact HK.out | apply Kept.alloc | apply Kept.drewN | apply Kept.drew | refine Kept.setCell ?_ (.inl (.inr rfl)) _ | refine Kept.setCell ?_ (.inr GW289.out) _) | exact HK.out)⟩
      rw [if_neg c9] at H
      have c9b0 : (((rd_T68 x288003_1 0).f2) == 0) = false := beq_eq_false_iff_ne.mpr c9
      have c9b1 : (((rd_T68 x288003_1 0).f2) != 0) = true := bne_iff_ne.mpr c9
      by_cases c19 : y290.length < 3518437208883
      ·rw [if_pos c19] at H
       have LMc19 := Aside0.mk c19
       clear c19
       obtain ⟨y293, hy293⟩ : ∃ y_ : List (S68), y_ = (y290 ++ [(⟨(rd_T68 x288003_1 0).f0, (rd_T68 x288003_1 0).f1, wrap64 (((rd_T68 x288003_1 0).f2) - 1)⟩ : S68)]) := ⟨_, rfl⟩
       replace H : (impl_Three_evictMain.l0 k1 a0_0 a0_1 l0_2 y293 l0_4) = some (r1, r2, r3, r4, r5, r6, r7) := by first | (rw [hy293]; with_reducible exact H) | (have H2_ := (Option.bind_some _ _).symm.trans H; rw [hy293]; with_reducible exact H2_) | (have H2_ := (Option.bind_some _ _).symm.trans H; with_reducible exact H2_) | with_reducible exact H | (rw [hy293]; exact H) | exact H
       have Ny293 := Aside0.mk hy293
       clear hy293
       have H' := Aside0.mk H
       clear H
       have hcz20_0 := bz5 BK287
       obtain ⟨Ao21, co21, eo21, _⟩ := Kd.Q_slice HO_288003.out
       subst eo21
       have p288 : 0 ≤ (0 : Int) := (by omega)
       have q288 : 0 < (x288003_1.length : Int) := od
       obtain ⟨ad288, e288, hx288_0, hx288_1, hx288_2⟩ := at_T68 (Kd.Q_reads' HO_288003.out).2.2 0 p288 q288
       cases e288
       have qi288 : (0 < x288003_1.length) = True := eq_true (by omega)
       (try rw [show ((0 : Int)).toNat = 0 from rfl] at hx288_0)
       (try rw [show 0 * 3 = 0 from rfl] at hx288_0)
       (try rw [Addr.add_zero'] at hx288_0)
       (try rw [show ((0 : Int)).toNat = 0 from rfl] at hx288_1)
       (try rw [show 0 * 3 = 0 from rfl] at hx288_1)
       (try rw [Addr.add_zero'] at hx288_1)
       (try rw [show ((0 : Int)).toNat = 0 from rfl] at hx288_2)
       (try rw [show 0 * 3 = 0 from rfl] at hx288_2)
       (try rw [Addr.add_zero'] at hx288_2)
       replace p288 := eq_true p288
       replace q288 := eq_true q288
       try go_wp2_with (first | ((with_reducible refine gate_dst (N := 4) rfl ?_); refine bx 4 #[.string (⟨#[]⟩ : ByteArray), .string (⟨#[]⟩ : ByteArray), .int .i64 0] 68 ?_; intro gb289 hg w22 hbox hb; replace HO_288002 := Aside0.mk (Kd.R_below (Kd.R_elderB (ro HO_288002) gb289 (Nat.le_of_eq hg.symm)) hb); replace HO_288003 := Aside0.mk (Kd.Q_below (Kd.Q_elderB (by (with_reducible repeat (first | apply Kd.Q_alloc | apply Kd.Q_drewN | apply Kd.Q_drew)); exact HO_288003.out) gb289 (Nat.le_of_eq hg.symm)) hb); replace HO_288004 := rb HO_288004 hb; have BK289 := am hbox; have GW289 := Aside0.mk ((by rw [hg]; exact (by first | exact HK.out.1 | exact (show Kept w _ (fun k_ => (P0_2_ k_ ∨ P0_3_ k_ ∨ P0_4_ k_) ∨ k_ = gb287) from by repeat (first | (with_reducible first | exact HK.out | apply Kept.alloc | apply Kept.drewN | apply Kept.drew | refine Kept.setCell ?_ (.inl (.inr rfl)) _) | exact HK.out)).1) : w.heap.size ≤ gb289)); replace HK := Aside0.mk (Kept.below (S := (fun k_ => (P0_2_ k_ ∨ P0_3_ k_ ∨ P0_4_ k_) ∨ k_ = gb287)) (by repeat (first | (with_reducible first | exact HK.out | apply Kept.alloc | apply Kept.drewN | apply Kept.drew | refine Kept.setCell ?_ (.inl (.inr rfl)) _) | exact HK.out)) hb); have GE289 := Aside0.mk ((by rw [hg]; exact (below_size (be1 HB GE287)) : w0.heap.size ≤ gb289)); replace HB := Aside0.mk (below_step (be1 HB GE287) hb); have NB287_289 := Aside0.mk ((by rw [hg]; exact Nat.ne_of_lt (bl BK287) : gb287 ≠ gb289)); have NB289_287 := Aside0.mk ((by rw [hg]; exact Nat.ne_of_gt (bl BK287) : gb289 ≠ gb287)); replace BK287 := bb BK287 hb; clear hb hbox hg; have hnb23 := NB289_287.out; have hnc23 := NB287_289.out; have hcz24_0 := bz3 BK289) | ((with_reducible refine gate_store (t := 68) (p := 4) rfl ?_); refine store_event (t := 68) (p := 4) (v := ?vo_w25) (w1 := (((w22.setCell ⟨gb289, 0, none⟩ (.string ((rd_T68 x288003_1 0).f0))).setCell ⟨gb289, 1, none⟩ (.string ((rd_T68 x288003_1 0).f1))).setCell ⟨gb289, 2, none⟩ (.int .i64 ((rd_T68 x288003_1 0).f2)))) ?hg ?ho ?hn ?hr ?_; (case ho => rfl); (case hg => rfl); (case hn => rfl); (case hr => first | (go_simp; done) | (go_simp; rfl)); intro w25 hw; have n0_ : Aside0 (Kd.R k68 68 w25 w0.heap.size (fun k_ => ((P0_2_ k_ ∨ P0_3_ k_ ∨ P0_4_ k_) ∨ w.heap.size ≤ k_) ∧ some k_ ≠ (.slice (some ad288) x288003_1.length co21 : Value).ownBlock ∧ k_ ≠ gb289) (.slice Ao2 l0_2.length co2) l0_2) := ⟨(by rw [hw]; exact (by (with_reducible repeat (first | apply Kd.R_alloc | apply Kd.R_drewN | apply Kd.R_drew)); exact Kd.R_mono (Kd.R_far (p := ⟨gb289, 2, none⟩) (Kd.R_far (p := ⟨gb289, 1, none⟩) (Kd.R_far (p := ⟨gb289, 0, none⟩) (Kd.R_mono HO_288002.out (fun k_ hk => (⟨hk, hk.2⟩ : _ ∧ k_ ≠ gb289))) (fun _ hk => hk.2) (.string ((rd_T68 x288003_1 0).f0))) (fun _ hk => hk.2) (.string ((rd_T68 x288003_1 0).f1))) (fun _ hk => hk.2) (.int .i64 ((rd_T68 x288003_1 0).f2))) (fun _ hk => ⟨hk.1.1.1, ⟨hk.1.1.2, hk.1.2⟩⟩)))⟩; have n1_ : Aside0 (Kd.Q k68 68 w25 w0.heap.size (fun k_ => ((P0_2_ k_ ∨ P0_3_ k_ ∨ P0_4_ k_) ∨ w.heap.size ≤ k_) ∧ nb k_ Ao2 l0_2.length co2 ∧ k_ ≠ gb289) (.slice (some ad288) x288003_1.length co21) x288003_1) := ⟨(by rw [hw]; exact (by (with_reducible repeat (first | apply Kd.Q_alloc | apply Kd.Q_drewN | apply Kd.Q_drew)); exact Kd.Q_mono (Kd.Q_far (p := ⟨gb289, 2, none⟩) (Kd.Q_far (p := ⟨gb289, 1, none⟩) (Kd.Q_far (p := ⟨gb289, 0, none⟩) (Kd.Q_mono HO_288003.out (fun k_ hk => (⟨hk, hk.2⟩ : _ ∧ k_ ≠ gb289))) (fun _ hk => hk.2) (.string ((rd_T68 x288003_1 0).f0))) (fun _ hk => hk.2) (.string ((rd_T68 x288003_1 0).f1))) (fun _ hk => hk.2) (.int .i64 ((rd_T68 x288003_1 0).f2))) (fun _ hk => ⟨hk.1.1.1, ⟨hk.1.1.2, hk.1.2⟩⟩)))⟩; have n2_ : Aside0 (Kd.R (Kd.int .i64) 3 w25 w0.heap.size (fun k_ => ((P0_2_ k_ ∨ P0_3_ k_ ∨ P0_4_ k_) ∨ w.heap.size ≤ k_)) (.slice Ao4 l0_4.length co4) l0_4) := ⟨(by rw [hw]; exact (by (with_reducible repeat (first | apply Kd.R_alloc | apply Kd.R_drewN | apply Kd.R_drew)); exact Kd.R_mono (Kd.R_far (p := ⟨gb289, 2, none⟩) (Kd.R_far (p := ⟨gb289, 1, none⟩) (Kd.R_far (p := ⟨gb289, 0, none⟩) (Kd.R_types HO_288004.out BK289.out (by decide)) (fun _ hk => hk.2) (.string ((rd_T68 x288003_1 0).f0))) (fun _ hk => hk.2) (.string ((rd_T68 x288003_1 0).f1))) (fun _ hk => hk.2) (.int .i64 ((rd_T68 x288003_1 0).f2))) (fun _ hk => hk.1)))⟩; have n3_ : Aside0 (w25.heap[gb287]? = some (.cells #[.int .i64 a0_0, .int .i64 a0_1, .slice Ao2 l0_2.length co2, .slice (some ad288) x288003_1.length co21, .slice Ao4 l0_4.length co4] 30 (0, 0))) := ⟨(by rw [hw]; exact (bf1 BK287 NB287_289))⟩; have n4_ : Aside0 (w25.heap[gb289]? = some (.cells #[.string ((rd_T68 x288003_1 0).f0), .string ((rd_T68 x288003_1 0).f1), .int .i64 ((rd_T68 x288003_1 0).f2)] 68 (0, 0))) := ⟨(by rw [hw]; exact (by (with_reducible repeat (first | refine blk_drewN ?_ _ | refine blk_drew ?_ | refine blk_alloc ?_ _)); refine blk_put (cs := #[.string ((rd_T68 x288003_1 0).f0), .string ((rd_T68 x288003_1 0).f1), .int .i64 0]) ?_ 2 _ rfl; (with_reducible repeat (first | refine blk_drewN ?_ _ | refine blk_drew ?_ | refine blk_alloc ?_ _)); refine blk_put (cs := #[.string ((rd_T68 x288003_1 0).f0), .string (⟨#[]⟩ : ByteArray), .int .i64 0]) ?_ 1 _ rfl; (with_reducible repeat (first | refine blk_drewN ?_ _ | refine blk_drew ?_ | refine blk_alloc ?_ _)); refine blk_put (cs := #[.string (⟨#[]⟩ : ByteArray), .string (⟨#[]⟩ : ByteArray), .int .i64 0]) ?_ 0 _ rfl; (with_reducible repeat (first | refine blk_drewN ?_ _ | refine blk_drew ?_ | refine blk_alloc ?_ _)); exact BK289.out))⟩; have n5_ : Aside0 (Kept w w25 (fun k_ => (P0_2_ k_ ∨ P0_3_ k_ ∨ P0_4_ k_) ∨ k_ = gb287)) := ⟨(by rw [hw]; exact (by repeat (first | (with_reducible first | exact HK.out | apply Kept.alloc | apply Kept.drewN | apply Kept.drew | refine Kept.setCell ?_ (.inl (.inr rfl)) _ | refine Kept.setCell ?_ (.inr GW289.out) _) | exact HK.out)))⟩; have n6_ : Aside0 (Below w0.heap.size w0 w25) := ⟨(by rw [hw]; exact (be2 HB GE287 GE289))⟩; clear hw; clear HO_288002; clear HO_288003; clear HO_288004; clear BK287; clear BK289; clear HK; clear HB; have HO_288002 := n0_; have HO_288003 := n1_; have HO_288004 := n2_; have BK287 := n3_; have BK289 := n4_; have HK := n5_; have HB := n6_; clear n0_ n1_ n2_ n3_ n4_ n5_ n6_; have hcz26_0 := bz5 BK287; have q27 : (1 : Int) ≤ ((x288003_1.length : Int) : Int) := od; obtain ⟨i027, hi027, _, hsz27, _⟩ := info_parts info68; have hcut27 := cut_from (P := Try.prog) 28 68 .i64 Try.underlying28 hi027 3 hsz27 (some ad288) x288003_1.length co21 1 (by omega) q27; have hr27 := Kd.Q_drop (k := (1 : Int).toNat) HO_288003.out (by omega); obtain ⟨A27, hA27⟩ : ∃ A1, A1 = (if co21 = (1 : Int).toNat then (some ad288) else ((some ad288) : Option Addr).map (·.add ((1 : Int).toNat * 3))) := ⟨_, rfl⟩; obtain ⟨c27, hc27⟩ : ∃ c1, c1 = co21 - (1 : Int).toNat := ⟨_, rfl⟩; have hy27 : y290.length = x288003_1.length - (1 : Int).toNat := (by rw [Ny290.out, List.length_drop]); rw [← Ny290.out] at hr27; rw [← hy27, ← hA27, ← hc27] at hcut27; replace hr27 : Kd.Q k68 68 w25 w0.heap.size (fun k_ => ((P0_2_ k_ ∨ P0_3_ k_ ∨ P0_4_ k_) ∨ w.heap.size ≤ k_) ∧ nb k_ Ao2 l0_2.length co2 ∧ k_ ≠ gb289) (.slice A27 y290.length c27) y290 := (by rw [hA27, hc27, hy27]; exact hr27); have HE27 : Aside0 ((Value.slice A27 y290.length c27).ownBlock = (.slice (some ad288) x288003_1.length co21 : Value).ownBlock) := ⟨by rw [hA27]; split <;> (cases ((some ad288) : Option Addr) <;> rfl)⟩; clear hy27 hi027 hsz27 HO_288003 hA27 hc27; have HO292 := Aside0.mk hr27; clear hr27; replace q27 := eq_true q27; have n_ := Aside0.mk (Kd.R_mono (ok' := fun k_ => ((((P0_2_ k_ ∨ P0_3_ k_ ∨ P0_4_ k_) ∨ w.heap.size ≤ k_)) ∧ (nb k_ A27 y290.length c27 ∧ k_ ≠ gb289))) HO_288002.out (fun k_ hk => ⟨hk.1, ⟨(fun e_ => hk.2.1 (e_.trans HE27.out)), hk.2.2⟩⟩)); clear HO_288002; have HO_288002 := n_; clear n_; have hcz28_0 := bz3 BK289))
       have n0_ : Aside0 (Kd.R k68 68 ((w25.setCell ⟨gb287, 3, none⟩ (.slice A27 y290.length c27)).setCell ⟨gb289, 2, none⟩ (.int .i64 (wrap64 (((rd_T68 x288003_1 0).f2) - 1)))) w0.heap.size (fun k_ => ((P0_2_ k_ ∨ P0_3_ k_ ∨ P0_4_ k_) ∨ w.heap.size ≤ k_) ∧ nb k_ A27 y290.length c27 ∧ k_ ≠ gb289) (.slice Ao2 l0_2.length co2) l0_2) := ⟨by (with_reducible repeat (first | apply Kd.R_alloc | apply Kd.R_drewN | apply Kd.R_drew)); exact Kd.R_mono (Kd.R_far (p := ⟨gb289, 2, none⟩) (Kd.R_far (p := ⟨gb287, 3, none⟩) (Kd.R_mono (Kd.R_types HO_288002.out BK287.out (by decide)) (fun k_ hk => (⟨hk, hk.1.2.2⟩ : _ ∧ k_ ≠ gb289))) (fun _ hk => hk.1.2) (.slice A27 y290.length c27)) (fun _ hk => hk.2) (.int .i64 (wrap64 (((rd_T68 x288003_1 0).f2) - 1)))) (fun _ hk => ⟨hk.1.1.1, ⟨hk.1.1.2.1, hk.1.1.2.2⟩⟩)⟩
       have n1_ : Aside0 (Kd.Q k68 68 ((w25.setCell ⟨gb287, 3, none⟩ (.slice A27 y290.length c27)).setCell ⟨gb289, 2, none⟩ (.int .i64 (wrap64 (((rd_T68 x288003_1 0).f2) - 1)))) w0.heap.size (fun k_ => ((P0_2_ k_ ∨ P0_3_ k_ ∨ P0_4_ k_) ∨ w.heap.size ≤ k_) ∧ nb k_ Ao2 l0_2.length co2 ∧ k_ ≠ gb289) (.slice A27 y290.length c27) y290) := ⟨by (with_reducible repeat (first | apply Kd.Q_alloc | apply Kd.Q_drewN | apply Kd.Q_drew)); exact Kd.Q_mono (Kd.Q_far (p := ⟨gb289, 2, none⟩) (Kd.Q_far (p := ⟨gb287, 3, none⟩) (Kd.Q_mono (Kd.Q_types HO292.out BK287.out (by decide)) (fun k_ hk => (⟨hk, hk.1.2.2⟩ : _ ∧ k_ ≠ gb289))) (fun _ hk => hk.1.2) (.slice A27 y290.length c27)) (fun _ hk => hk.2) (.int .i64 (wrap64 (((rd_T68 x288003_1 0).f2) - 1)))) (fun _ hk => ⟨hk.1.1.1, ⟨hk.1.1.2.1, hk.1.1.2.2⟩⟩)⟩
       have n2_ : Aside0 (Kd.R (Kd.int .i64) 3 ((w25.setCell ⟨gb287, 3, none⟩ (.slice A27 y290.length c27)).setCell ⟨gb289, 2, none⟩ (.int .i64 (wrap64 (((rd_T68 x288003_1 0).f2) - 1)))) w0.heap.size (fun k_ => ((P0_2_ k_ ∨ P0_3_ k_ ∨ P0_4_ k_) ∨ w.heap.size ≤ k_)) (.slice Ao4 l0_4.length co4) l0_4) := ⟨by (with_reducible repeat (first | apply Kd.R_alloc | apply Kd.R_drewN | apply Kd.R_drew)); exact Kd.R_mono (Kd.R_far (p := ⟨gb289, 2, none⟩) (Kd.R_far (p := ⟨gb287, 3, none⟩) (Kd.R_types (Kd.R_types HO_288004.out BK287.out (by decide)) BK289.out (by decide)) (fun _ hk => hk.1.2) (.slice A27 y290.length c27)) (fun _ hk => hk.2) (.int .i64 (wrap64 (((rd_T68 x288003_1 0).f2) - 1)))) (fun _ hk => hk.1.1)⟩
       have n3_ : Aside0 (((w25.setCell ⟨gb287, 3, none⟩ (.slice A27 y290.length c27)).setCell ⟨gb289, 2, none⟩ (.int .i64 (wrap64 (((rd_T68 x288003_1 0).f2) - 1)))).heap[gb287]? = some (.cells #[.int .i64 a0_0, .int .i64 a0_1, .slice Ao2 l0_2.length co2, .slice A27 y290.length c27, .slice Ao4 l0_4.length co4] 30 (0, 0))) := ⟨by (with_reducible repeat (first | refine blk_drewN ?_ _ | refine blk_drew ?_ | refine blk_alloc ?_ _)); refine blk_far ?_ NB287_289.out _; (with_reducible repeat (first | refine blk_drewN ?_ _ | refine blk_drew ?_ | refine blk_alloc ?_ _)); refine blk_put (cs := #[.int .i64 a0_0, .int .i64 a0_1, .slice Ao2 l0_2.length co2, .slice (some ad288) x288003_1.length co21, .slice Ao4 l0_4.length co4]) ?_ 3 _ rfl; (with_reducible repeat (first | refine blk_drewN ?_ _ | refine blk_drew ?_ | refine blk_alloc ?_ _)); exact BK287.out⟩
       have n4_ : Aside0 (((w25.setCell ⟨gb287, 3, none⟩ (.slice A27 y290.length c27)).setCell ⟨gb289, 2, none⟩ (.int .i64 (wrap64 (((rd_T68 x288003_1 0).f2) - 1)))).heap[gb289]? = some (.cells #[.string ((rd_T68 x288003_1 0).f0), .string ((rd_T68 x288003_1 0).f1), .int .i64 (wrap64 (((rd_T68 x288003_1 0).f2) - 1))] 68 (0, 0))) := ⟨by (with_reducible repeat (first | refine blk_drewN ?_ _ | refine blk_drew ?_ | refine blk_alloc ?_ _)); refine blk_put (cs := #[.string ((rd_T68 x288003_1 0).f0), .string ((rd_T68 x288003_1 0).f1), .int .i64 ((rd_T68 x288003_1 0).f2)]) ?_ 2 _ rfl; (with_reducible repeat (first | refine blk_drewN ?_ _ | refine blk_drew ?_ | refine blk_alloc ?_ _)); refine blk_far ?_ NB289_287.out _; (with_reducible repeat (first | refine blk_drewN ?_ _ | refine blk_drew ?_ | refine blk_alloc ?_ _)); exact BK289.out⟩
       have n5_ : Aside0 (Kept w ((w25.setCell ⟨gb287, 3, none⟩ (.slice A27 y290.length c27)).setCell ⟨gb289, 2, none⟩ (.int .i64 (wrap64 (((rd_T68 x288003_1 0).f2) - 1)))) (fun k_ => (P0_2_ k_ ∨ P0_3_ k_ ∨ P0_4_ k_) ∨ k_ = gb287)) := ⟨by repeat (first | (with_reducible first | exact HK.out | apply Kept.alloc | apply Kept.drewN | apply Kept.drew | refine Kept.setCell ?_ (.inl (.inr rfl)) _ | refine Kept.setCell ?_ (.inr GW289.out) _) | exact HK.out)⟩
       have n6_ : Aside0 (Below w0.heap.size w0 ((w25.setCell ⟨gb287, 3, none⟩ (.slice A27 y290.length c27)).setCell ⟨gb289, 2, none⟩ (.int .i64 (wrap64 (((rd_T68 x288003_1 0).f2) - 1))))) := ⟨be2 HB GE287 GE289⟩
       (try clear HO_288002)
       (try clear HO292)
       (try clear HO_288004)
       (try clear BK287)
       (try clear BK289)
       (try clear HK)
       (try clear HB)
       generalize ((w25.setCell ⟨gb287, 3, none⟩ (.slice A27 y290.length c27)).setCell ⟨gb289, 2, none⟩ (.int .i64 (wrap64 (((rd_T68 x288003_1 0).f2) - 1)))) = w29 at n0_ n1_ n2_ n3_ n4_ n5_ n6_ ⊢
       have HO_288002 := n0_
       have HO292 := n1_
       have HO_288004 := n2_
       have BK287 := n3_
       have BK289 := n4_
       have HK := n5_
       have HB := n6_
       clear n0_ n1_ n2_ n3_ n4_ n5_ n6_
       have n0_ := Aside0.mk (Kd.R_drew HO_288002.out)
       have n1_ := Aside0.mk (Kd.Q_drew HO292.out)
       have n2_ := Aside0.mk (Kd.R_drew HO_288004.out)
       have n3_ := Aside0.mk (blk_drew BK287.out)
       have n4_ := Aside0.mk (blk_drew BK289.out)
       have n5_ := Aside0.mk (Kept.drew HK.out)
       have n6_ := Aside0.mk (below_drew1 HB.out)
       clear HO_288002
       clear HO292
       clear HO_288004
       clear BK287
       clear BK289
       clear HK
       clear HB
       have HO_288002 := n0_
       have HO292 := n1_
       have HO_288004 := n2_
       have BK287 := n3_
       have BK289 := n4_
       have HK := n5_
       have HB := n6_
       clear n0_ n1_ n2_ n3_ n4_ n5_ n6_
       refine start_ (n := 11) (S := fun w' => w'.cell? ⟨gb287, 0, none⟩ = some (.int .i64 a0_0) ∧ w'.cell? ⟨gb287, 1, none⟩ = some (.int .i64 a0_1) ∧ w'.cell? ⟨gb287, 2, none⟩ = some (.slice Ao2 l0_2.length co2) ∧ w'.cell? ⟨gb287, 3, none⟩ = some (.slice A27 y290.length c27) ∧ w'.cell? ⟨gb287, 4, none⟩ = some (.slice Ao4 l0_4.length co4) ∧ w'.cell? ⟨gb289, 0, none⟩ = some (.string ((rd_T68 x288003_1 0).f0)) ∧ w'.cell? ⟨gb289, 1, none⟩ = some (.string ((rd_T68 x288003_1 0).f1)) ∧ w'.cell? ⟨gb289, 2, none⟩ = some (.int .i64 (wrap64 (((rd_T68 x288003_1 0).f2) - 1)))) (ds := [10]) (bv 11 0x0) (by kernel_rfl) rfl rfl ⟨bc0 BK287, bc1 BK287, bc2 BK287, bc3 BK287, bc4 BK287, bc0 BK289, bc1 BK289, bc2 BK289⟩ (fun hHeld => ?_); refine with_tabW impl_Three_evictMain.tab7 impl_Three_evictMain.bits7 (fun HT_ HW_ => ?_)
       generalize w29.drew = w30 at HO_288002 HO292 HO_288004 BK287 BK289 HK HB hHeld ⊢
       refine py HT_ 0 34 (bv 11 0x1) ?_
       refine py HT_ 1 35 (bv 11 0x3) ?_
       refine py HT_ 2 36 (bv 11 0x7) ?_
       refine py HT_ 3 37 (bv 11 0xf) ?_
       refine tk HT_ HW_ hHeld 4 38 (bv 11 0x1f) ?_
       refine tk HT_ HW_ hHeld 5 39 (bv 11 0x3f) ?_
       refine one_ (i := 6) (N := some 40) (bv 11 0x7f) rfl rfl (one_of HT_.out (by kernel_rfl)) (by decide) (fun K hK => ?_)
       refine value_ (w1 := ?_) (v := ?_) (by rfl) rfl ?_ ?_
       rotate_left 2
       ·go_simp
        constructor
        ·rfl
        ·rfl
       refine hK.out _ _ ⟨(blk_cell (blk_alloc BK287.out _) 0).trans rfl, (blk_cell (blk_alloc BK287.out _) 1).trans rfl, (blk_cell (blk_alloc BK287.out _) 2).trans rfl, (blk_cell (blk_alloc BK287.out _) 3).trans rfl, (blk_cell (blk_alloc BK287.out _) 4).trans rfl, (blk_cell (blk_alloc BK289.out _) 0).trans rfl, (blk_cell (blk_alloc BK289.out _) 1).trans rfl, (blk_cell (blk_alloc BK289.out _) 2).trans rfl⟩ (fun hHeld => ?_)
       clear hK K
       refine norm_ (a' := ?_) ?_ ?_
       rotate_left
       ·show Act.put _ (some 40) _ = _
        simp only [aP]
        rfl
       refine one_ (i := 7) (N := some 41) (bv 11 0xff) rfl rfl (one_of HT_.out (by kernel_rfl)) (by decide) (fun K hK => ?_)
       refine Kd.Q_append_step k68 (w0 := w0) w0.heap.size (by rfl) (.tmp 38) (.tmp 40) 28 68 (.agg #[(.string ⟨#[]⟩), (.string ⟨#[]⟩), (.int .i64 0)]) 40 rfl Try.underlying28 info68 rfl (by decide) (by omega) (.slice A27 y290.length c27) y290 (⟨(rd_T68 x288003_1 0).f0, (rd_T68 x288003_1 0).f1, wrap64 (((rd_T68 x288003_1 0).f2) - 1)⟩ : S68) [.string ((rd_T68 x288003_1 0).f0), .string ((rd_T68 x288003_1 0).f1), .int .i64 (wrap64 (((rd_T68 x288003_1 0).f2) - 1))] (fun k_ => ((P0_2_ k_ ∨ P0_3_ k_ ∨ P0_4_ k_) ∨ w.heap.size ≤ k_) ∧ nb k_ Ao2 l0_2.length co2 ∧ k_ ≠ gb289) (fun _ => False) rfl rfl ?aP (fun _ hk => hk.elim) ?aF ?aO ?aB ?aS ?aL ?_
       (case aP => exact k68_mkM _ _ _ (⟨(rd_T68 x288003_1 0).f0, (rd_T68 x288003_1 0).f1, wrap64 (((rd_T68 x288003_1 0).f2) - 1)⟩ : S68))
       (case aB => exact (be2 HB GE287 GE289))
       (case aF => exact (fun k_ hk => ⟨(.inr (Nat.le_trans (by first | exact HK.out.1 | exact (show Kept w _ (fun k_ => (P0_2_ k_ ∨ P0_3_ k_ ∨ P0_4_ k_) ∨ k_ = gb287) from by repeat (first | (with_reducible first | exact HK.out | apply Kept.alloc | apply Kept.drewN | apply Kept.drew | refine Kept.setCell ?_ (.inl (.inr rfl)) _ | refine Kept.setCell ?_ (.inr GW289.out) _) | exact HK.out)).1) hk)), Kd.fresh' (Kd.R_lt (ro HO_288002)) k_ hk, Kd.freshB (g := gb289) (o := .cells #[.string ((rd_T68 x288003_1 0).f0), .string ((rd_T68 x288003_1 0).f1), .int .i64 (wrap64 (((rd_T68 x288003_1 0).f2) - 1))] 68 (0, 0)) (bk BK289) k_ hk⟩))
       (case aO => exact (by (with_reducible repeat (first | apply Kd.Q_alloc | apply Kd.Q_drewN | apply Kd.Q_drew)); exact HO292.out))
       (case aS => exact (below_size (be2 HB GE287 GE289)))
       (case aL => have := LMc19.out; omega)
       intro v294 w31 ho hb hg hat
       rw [← Ny293.out] at ho
       have n0_ := Aside0.mk (Kd.R_after (ok := (fun k_ => ((P0_2_ k_ ∨ P0_3_ k_ ∨ P0_4_ k_) ∨ w.heap.size ≤ k_) ∧ k_ ≠ gb289)) (by (with_reducible repeat (first | apply Kd.R_alloc | apply Kd.R_drewN | apply Kd.R_drew)); exact rm HO_288002) hg hat)
       have n1_ := Aside0.mk (Kd.R_over' (ro HO_288004) (Kd.Q_typed (by (with_reducible repeat (first | apply Kd.Q_alloc | apply Kd.Q_drewN | apply Kd.Q_drew)); exact HO292.out)) (by decide) hg)
       have n2_ := Aside0.mk (blk_grown (g := gb287) (o := .cells #[.int .i64 a0_0, .int .i64 a0_1, .slice Ao2 l0_2.length co2, .slice A27 y290.length c27, .slice Ao4 l0_4.length co4] 30 (0, 0)) (bk BK287) hg (Kd.Q_ne HO292.out BK287.out (by decide)))
       have n3_ := Aside0.mk (blk_grown (g := gb289) (o := .cells #[.string ((rd_T68 x288003_1 0).f0), .string ((rd_T68 x288003_1 0).f1), .int .i64 (wrap64 (((rd_T68 x288003_1 0).f2) - 1))] 68 (0, 0)) (bk BK289) hg (Kd.Q_away HO292.out (fun _ hk => hk.2.2)))
       have n4_ := Aside0.mk (hb)
       have n5_ := Aside0.mk (Kept.of_grown (S := (fun k_ => (P0_2_ k_ ∨ P0_3_ k_ ∨ P0_4_ k_) ∨ k_ = gb287)) hg (by repeat (first | (with_reducible first | exact HK.out | apply Kept.alloc | apply Kept.drewN | apply Kept.drew | refine Kept.setCell ?_ (.inl (.inr rfl)) _ | refine Kept.setCell ?_ (.inr GW289.out) _) | exact HK.out)) (fun k_ e_ => Or.imp_left Or.inl ((HO292.out.1 k_ e_).1)))
       have n6_ := Aside0.mk (ho)
       clear HO_288002
       clear HO_288004
       clear BK287
       clear BK289
       clear HB
       clear HK
       clear HO292
       have HO_288002 := n0_
       have HO_288004 := n1_
       have BK287 := n2_
       have BK289 := n3_
       have HB := n4_
       have HK := n5_
       have HO295 := n6_
       clear n0_ n1_ n2_ n3_ n4_ n5_ n6_
       clear ho hb hg hat
       obtain ⟨Ao32, co32, eo32, _⟩ := Kd.Q_slice HO295.out
       (first | subst eo32 | (injection eo32 with f1_ f2_ f3_; have f4_ := f1_.symm; have f5_ := f3_.symm; clear f1_ f2_ f3_; subst f4_; subst f5_))
       refine hK.out _ _ ⟨bc0 BK287, bc1 BK287, bc2 BK287, bc3 BK287, bc4 BK287, bc0 BK289, bc1 BK289, bc2 BK289⟩ (fun hHeld => ?_)
       clear hK K
       refine norm_ (a' := ?_) ?_ ?_
       rotate_left
       ·show Act.put _ (some 41) _ = _
        simp only [aP]
        rfl
       refine py HT_ 8 42 (bv 11 0x1ff) ?_
       refine py HT_ 9 43 (bv 11 0x3ff) ?_
       refine last_ (i := 10) (N := none) (bv 11 0x7ff) rfl rfl (one_of HT_.out (by kernel_rfl)) (by decide) (fun K hK => ?_)
       have hs33 : w31.cell? ⟨gb287, 3, none⟩ = some (.slice A27 y290.length c27) := bc3 BK287
       have hfs33 := blk_frozen BK287.out 3
       have hns33_1 := NB289_287.out
       have hms33_1 := NB287_289.out
       refine skip_ (w1 := ?_) (by rfl) rfl ?_ ?_
       rotate_left
       ·go_simp
        rfl
       refine hK.out _ _ ?_
       clear hK K
       refine done_ (done_of HT_.out (by kernel_rfl)) ?_
       try go_wp2
       go_roundg k1
       case measure => have := HK1.out; omega
       case rel => exact ⟨(y293), (.slice Ao32 y293.length co32), H', ⟨by have := HK1.out; omega⟩, ⟨by (with_reducible repeat (first | apply Kd.R_alloc | apply Kd.R_drewN | apply Kd.R_drew)); exact Kd.R_mono (Kd.R_far (p := ⟨gb287, 3, none⟩) (Kd.R_types HO_288002.out BK287.out (by decide)) (fun _ hk => hk.2) (.slice Ao32 y293.length co32)) (fun _ hk => ⟨hk.1.1.1, hk.1.2⟩)⟩, ⟨by (with_reducible repeat (first | apply Kd.Q_alloc | apply Kd.Q_drewN | apply Kd.Q_drew)); exact Kd.Q_mono (Kd.Q_far (p := ⟨gb287, 3, none⟩) (Kd.Q_types HO295.out BK287.out (by decide)) (fun _ hk => hk.2) (.slice Ao32 y293.length co32)) (fun _ hk => ⟨hk.1.1, hk.1.2.1⟩)⟩, ⟨by (with_reducible repeat (first | apply Kd.R_alloc | apply Kd.R_drewN | apply Kd.R_drew)); exact Kd.R_mono (Kd.R_far (p := ⟨gb287, 3, none⟩) (Kd.R_types HO_288004.out BK287.out (by decide)) (fun _ hk => hk.2) (.slice Ao32 y293.length co32)) (fun _ hk => hk.1)⟩, ⟨by (with_reducible repeat (first | refine blk_drewN ?_ _ | refine blk_drew ?_ | refine blk_alloc ?_ _)); refine blk_put (cs := #[.int .i64 a0_0, .int .i64 a0_1, .slice Ao2 l0_2.length co2, .slice A27 y290.length c27, .slice Ao4 l0_4.length co4]) ?_ 3 _ rfl; (with_reducible repeat (first | refine blk_drewN ?_ _ | refine blk_drew ?_ | refine blk_alloc ?_ _)); exact BK287.out⟩, ⟨by repeat (first | (with_reducible first | exact HK.out | apply Kept.alloc | apply Kept.drewN | apply Kept.drew | refine Kept.setCell ?_ (.inl (.inr rfl)) _ | refine Kept.setCell ?_ (.inr GW289.out) _) | exact HK.out)⟩, ⟨be2 HB GE287 GE289⟩⟩
      rw [if_neg c19] at H
      exact absurd H (by simp)
     rw [if_neg c8] at H
     exact absurd H (by simp)
    rw [if_neg c7] at H
    exact absurd H (by simp)
   rw [if_neg c6] at H
   have c6b0 : decide (0 < (x288003_1.length : Int)) = false := decide_eq_false c6
   have c6b1 : decide (0 < x288003_1.length) = false := decide_eq_false (by omega)
   clear c6
   simp only [Option.some.injEq, Prod.mk.injEq] at H
   obtain ⟨rfl, rfl, rfl, rfl, rfl, rfl, rfl⟩ := H
   have hcz34_0 := bz5 BK287
   obtain ⟨Ao35, co35, eo35, _⟩ := Kd.Q_slice HO_288003.out
   subst eo35
   go_wp2
   go_ret2
   exact ⟨_, _, _, er, (bk BK287), by (with_reducible repeat (first | apply Kd.R_alloc | apply Kd.R_drewN | apply Kd.R_drew)); exact HO_288002.out, by (with_reducible repeat (first | apply Kd.Q_alloc | apply Kd.Q_drewN | apply Kd.Q_drew)); exact HO_288003.out, by (with_reducible repeat (first | apply Kd.R_alloc | apply Kd.R_drewN | apply Kd.R_drew)); exact HO_288004.out, be1 HB GE287, by repeat (first | (with_reducible first | exact HK.out | apply Kept.alloc | apply Kept.drewN | apply Kept.drew | refine Kept.setCell ?_ (.inl (.inr rfl)) _) | exact HK.out)⟩

/-! ### impl_copyInts: function 115 -/
def impl_copyInts.f (l0 : List Int) : Option (List Int) := (some (([] : List Int) : List Int)).bind fun y296 => (if y296.length + l0.length < 17592186044416 then (some (y296 ++ l0)) else (none))
set_option maxHeartbeats 8000000 in
set_option maxRecDepth 100000 in
theorem impl_copyInts.calls (A0 : Option Addr) (c0 : Nat) (l0 : List Int) (r : List Int) (w : World) (hr0 : Kd.C (Kd.int .i64) w A0 l0.length l0) (hc0 : l0.length ≤ c0) (h : impl_copyInts.f l0 = some r) :
  Calls Try.prog 115 #[.slice A0 l0.length c0] w fun e w' => ∃ v0_ : Value, e = .returned (v0_) ∧ Kd.R (Kd.int .i64) 3 w' w.heap.size (fun _ => True) v0_ r ∧ Below w.heap.size w w' := by
 have HR0 := Aside0.mk hr0
 have HC0 := Aside0.mk hc0
 clear hr0 hc0
 have HB := Aside0.mk (Below.refl w.heap.size w)
 have H : ((some (([] : List Int) : List Int)).bind fun y296 => (if y296.length + l0.length < 17592186044416 then (some (y296 ++ l0)) else (none))) = some r := h
 clear h
 obtain ⟨y296, hy296⟩ : ∃ y_ : List Int, y_ = (([] : List Int)) := ⟨_, rfl⟩
 replace H : (if y296.length + l0.length < 17592186044416 then (some (y296 ++ l0)) else (none)) = some r := by first | (rw [hy296]; with_reducible exact H) | (have H2_ := (Option.bind_some _ _).symm.trans H; rw [hy296]; with_reducible exact H2_) | (have H2_ := (Option.bind_some _ _).symm.trans H; with_reducible exact H2_) | with_reducible exact H | (rw [hy296]; exact H) | exact H
 have Ny296 := Aside0.mk hy296
 clear hy296
 by_cases c2 : y296.length + l0.length < 17592186044416
 ·rw [if_pos c2] at H
  have LMc2 := Aside0.mk c2
  clear c2
  obtain ⟨y299, hy299⟩ : ∃ y_ : List Int, y_ = (y296 ++ l0) := ⟨_, rfl⟩
  replace H : (some y299) = some r := by first | (rw [hy299]; with_reducible exact H) | (have H2_ := (Option.bind_some _ _).symm.trans H; rw [hy299]; with_reducible exact H2_) | (have H2_ := (Option.bind_some _ _).symm.trans H; with_reducible exact H2_) | with_reducible exact H | (rw [hy299]; exact H) | exact H
  have Ny299 := Aside0.mk hy299
  clear hy299
  obtain rfl := Option.some.inj H
  go_enter Try.func115, Try.ntmps115
  have HO298 := Aside0.mk (show Kd.R (Kd.int .i64) 3 w w.heap.size (fun _ => True) (.slice none 0 0) y296 from by rw [Ny296.out]; exact Kd.R_nil _ _ _ _ _)
  go_wp2_with (first | ((with_reducible refine gate_builtin (b := .append) (xs := #[.const (.slice none 0 0), .tmp 3]) rfl ?_); at_builtin; refine Kd.R_append_rows (Kd.int .i64) (w0 := w) w.heap.size rfl (.const (.slice none 0 0)) (.tmp 3) 23 3 (.int .i64 0) 8 rfl Try.underlying23 info3 rfl (by decide) (by omega) (.slice none 0 0) y296 l0 _ _ _ (fun _ => True) (fun _ => False) rfl rfl ?aO ?aR (fun _ _ h => h) (fun _ h => h.elim) ?aF ?aB ?aS ?aL ?_; (case aR => repeat (first | exact (Kd.C_below HR0.out HB.out) | (with_reducible refine Kd.C_alloc ?_ _) | (with_reducible refine Kd.C_drewN ?_ _) | (with_reducible refine Kd.C_drew ?_))); (case aB => exact (be HB)); (case aF => exact (fun _ _ => trivial)); (case aO => exact (ro HO298)); (case aS => exact (below_size (be HB))); (case aL => have := LMc2.out; omega); intro v300 w5 ho hb hg hat; rw [← Ny299.out] at ho; replace HB := Aside0.mk (hb); have HO301 := Aside0.mk (ho); clear HO298; clear ho hb hg hat))
  go_ret
  exact ⟨_, er, by (with_reducible repeat (first | apply Kd.R_alloc | apply Kd.R_drewN | apply Kd.R_drew)); exact HO301.out, be HB⟩
 rw [if_neg c2] at H
 exact absurd H (by simp)

/-! ### impl_copyThree: function 87 -/
def impl_copyThree.f (a0_0 : Int) (a0_1 : Int) (l0_2 : List (S68)) (l0_3 : List (S68)) (l0_4 : List Int) : Option (Int × Int × (List (S68)) × (List (S68)) × List Int) := (impl_copyItems.f l0_2).bind fun t304 => ((impl_copyItems.f l0_3).bind fun t307 => ((impl_copyInts.f l0_4).bind fun t310 => (some (a0_0, a0_1, t304, t307, t310))))
def impl_copyThree.T1 : Bool × List (List Nat × List Nat) := (true, [([], []), ([0], [0]), ([], []), ([2], [2]), ([], []), ([4], [4]), ([5], [5]), ([], []), ([7], [7]), ([8, 6], [8]), ([], []), ([10], [10]), ([11, 9], [11]), ([1, 3, 6, 9, 12], [1, 3, 6, 9, 12]), ([13, 12, 0, 1, 2, 3, 4, 5, 6, 7, 8, 9, 10, 11, 12, 13], [13])])
def impl_copyThree.B1 : List Nat := [0, 1, 0, 4, 0, 16, 48, 0, 128, 496, 0, 1024, 4080, 8191, 16383]
theorem impl_copyThree.tab1 : rtab .any (opsOf Try.f87 1) = impl_copyThree.T1 := by kernel_rfl
theorem impl_copyThree.bits1 : waitsOk impl_copyThree.T1.2 impl_copyThree.B1 = true := by kernel_rfl
set_option maxHeartbeats 8000000 in
set_option maxRecDepth 100000 in
theorem impl_copyThree.calls (a0_0 : Int) (a0_1 : Int) (A0_2 : Option Addr) (c0_2 : Nat) (l0_2 : List (S68)) (A0_3 : Option Addr) (c0_3 : Nat) (l0_3 : List (S68)) (A0_4 : Option Addr) (c0_4 : Nat) (l0_4 : List Int) (r1 : Int) (r2 : Int) (r3 : List (S68)) (r4 : List (S68)) (r5 : List Int) (w : World) (hr0_2 : Kd.C k68 w A0_2 l0_2.length l0_2) (hc0_2 : l0_2.length ≤ c0_2) (hr0_3 : Kd.C k68 w A0_3 l0_3.length l0_3) (hc0_3 : l0_3.length ≤ c0_3) (hr0_4 : Kd.C (Kd.int .i64) w A0_4 l0_4.length l0_4) (hc0_4 : l0_4.length ≤ c0_4) (h : impl_copyThree.f a0_0 a0_1 l0_2 l0_3 l0_4 = some (r1, r2, r3, r4, r5)) :
  Calls Try.prog 87 #[.agg #[.int .i64 a0_0, .int .i64 a0_1, .slice A0_2 l0_2.length c0_2, .slice A0_3 l0_3.length c0_3, .slice A0_4 l0_4.length c0_4]] w fun e w' => ∃ v2_ v3_ v4_ : Value, e = .returned (.agg #[.int .i64 r1, .int .i64 r2, v2_, v3_, v4_]) ∧ Kd.R k68 68 w' w.heap.size (fun k_ => some k_ ≠ (v3_ : Value).ownBlock) v2_ r3 ∧ Kd.R k68 68 w' w.heap.size (fun k_ => some k_ ≠ (v2_ : Value).ownBlock) v3_ r4 ∧ Kd.R (Kd.int .i64) 3 w' w.heap.size (fun _ => True) v4_ r5 ∧ Below w.heap.size w w' := by
 have hu30 := Try.underlying30
 have HR0_2 := Aside0.mk hr0_2
 have HC0_2 := Aside0.mk hc0_2
 clear hr0_2 hc0_2
 have HR0_3 := Aside0.mk hr0_3
 have HC0_3 := Aside0.mk hc0_3
 clear hr0_3 hc0_3
 have HR0_4 := Aside0.mk hr0_4
 have HC0_4 := Aside0.mk hc0_4
 clear hr0_4 hc0_4
 have HB := Aside0.mk (Below.refl w.heap.size w)
 have H : ((impl_copyItems.f l0_2).bind fun t304 => ((impl_copyItems.f l0_3).bind fun t307 => ((impl_copyInts.f l0_4).bind fun t310 => (some (a0_0, a0_1, t304, t307, t310))))) = some (r1, r2, r3, r4, r5) := h
 clear h
 replace H := Option.bind_eq_some_iff.mp H
 obtain ⟨t304, A20, H⟩ := H
 replace H : ((impl_copyItems.f l0_3).bind fun t307 => ((impl_copyInts.f l0_4).bind fun t310 => (some (a0_0, a0_1, t304, t307, t310)))) = some (r1, r2, r3, r4, r5) := H
 have A2 := Aside0.mk A20
 clear A20
 replace H := Option.bind_eq_some_iff.mp H
 obtain ⟨t307, A30, H⟩ := H
 replace H : ((impl_copyInts.f l0_4).bind fun t310 => (some (a0_0, a0_1, t304, t307, t310))) = some (r1, r2, r3, r4, r5) := H
 have A3 := Aside0.mk A30
 clear A30
 replace H := Option.bind_eq_some_iff.mp H
 obtain ⟨t310, A40, H⟩ := H
 replace H : (some (a0_0, a0_1, t304, t307, t310)) = some (r1, r2, r3, r4, r5) := H
 have A4 := Aside0.mk A40
 clear A40
 simp only [Option.some.injEq, Prod.mk.injEq] at H
 obtain ⟨rfl, rfl, rfl, rfl, rfl⟩ := H
 go_enter Try.func87, Try.ntmps87
 try go_wp2_with (first | ((with_reducible refine gate_dst (N := 1) rfl ?_); refine bx 1 #[.int .i64 a0_0, .int .i64 a0_1, .slice A0_2 l0_2.length c0_2, .slice A0_3 l0_3.length c0_3, .slice A0_4 l0_4.length c0_4] 30 ?_; intro gb302 hg w5 hbox hb; have BK302 := am hbox; have GW302 := gs0 hg HB; have GE302 := gs0 hg HB; replace HB := s0 HB hb; clear hb hbox hg) | ((with_reducible refine gate_dst (N := 2) rfl ?_); refine bx 2 #[.int .i64 0, .int .i64 0, .slice none 0 0, .slice none 0 0, .slice none 0 0] 30 ?_; intro gb303 hg w6 hbox hb; have BK303 := am hbox; have GW303 := gs1 hg HB GE302; have GE303 := gs1 hg HB GE302; replace HB := Aside0.mk (below_step (be1 HB GE302) hb); have NB302_303 := Aside0.mk ((by rw [hg]; exact Nat.ne_of_lt (bl BK302) : gb302 ≠ gb303)); have NB303_302 := Aside0.mk ((by rw [hg]; exact Nat.ne_of_gt (bl BK302) : gb303 ≠ gb302)); replace BK302 := bb BK302 hb; clear hb hbox hg))
 have n0_ := Aside0.mk (blk_drew BK302.out)
 have n1_ := Aside0.mk (blk_drew BK303.out)
 have n2_ := Aside0.mk (below_drew1 HB.out)
 clear BK302
 clear BK303
 clear HB
 have BK302 := n0_
 have BK303 := n1_
 have HB := n2_
 clear n0_ n1_ n2_
 refine start_ (n := 15) (S := fun w' => w'.cell? ⟨gb302, 0, none⟩ = some (.int .i64 a0_0) ∧ w'.cell? ⟨gb302, 1, none⟩ = some (.int .i64 a0_1) ∧ w'.cell? ⟨gb302, 2, none⟩ = some (.slice A0_2 l0_2.length c0_2) ∧ w'.cell? ⟨gb302, 3, none⟩ = some (.slice A0_3 l0_3.length c0_3) ∧ w'.cell? ⟨gb302, 4, none⟩ = some (.slice A0_4 l0_4.length c0_4)) (ds := []) (bv 15 0x0) (by kernel_rfl) rfl rfl ⟨bc0 BK302, bc1 BK302, bc2 BK302, bc3 BK302, bc4 BK302⟩ (fun hHeld => ?_); refine with_tabW impl_copyThree.tab1 impl_copyThree.bits1 (fun HT_ HW_ => ?_)
 generalize w6.drew = w7 at BK302 BK303 HB hHeld ⊢
 refine py HT_ 0 3 (bv 15 0x1) ?_
 refine py HT_ 2 5 (bv 15 0x5) ?_
 refine py HT_ 4 7 (bv 15 0x15) ?_
 refine py HT_ 7 10 (bv 15 0x95) ?_
 refine py HT_ 10 13 (bv 15 0x495) ?_
 refine tk HT_ HW_ hHeld 1 4 (bv 15 0x497) ?_
 refine tk HT_ HW_ hHeld 3 6 (bv 15 0x49f) ?_
 refine tk HT_ HW_ hHeld 5 8 (bv 15 0x4bf) ?_
 refine tk HT_ HW_ hHeld 8 11 (bv 15 0x5bf) ?_
 refine tk HT_ HW_ hHeld 11 14 (bv 15 0xdbf) ?_
 refine one_ (i := 6) (N := some 9) (bv 15 0xdff) rfl rfl (one_of HT_.out (by kernel_rfl)) (by decide) (fun K hK => ?_)
 refine goes_ Try.func68 (by kernel_rfl) rfl #[.slice A0_2 l0_2.length c0_2] (by rfl) rfl rfl ml ?_
 with_reducible refine (impl_copyItems.calls _ _ l0_2 t304 _ ?side1 ?side2 A2.out).mono ?_
 (case side1 => exact cb HR0_2 HB)
 (case side2 => exact HC0_2.out)
 rintro e w8 ⟨v305, rfl, ho0, hb⟩
 refine ⟨_, rfl, ?_⟩
 have n0_ := Aside0.mk (Kd.R_lower ho0 (below_size (be2 HB GE302 GE303)))
 have n1_ := bb BK302 hb
 have n2_ := bb BK303 hb
 have n3_ := Aside0.mk (below_step (be2 HB GE302 GE303) hb)
 clear BK302
 clear BK303
 clear HB
 have HO306 := n0_
 have BK302 := n1_
 have BK303 := n2_
 have HB := n3_
 clear n0_ n1_ n2_ n3_
 (try clear hb)
 (try clear hb2)
 (try clear hk)
 (try clear hi)
 (try clear ho0)
 refine hK.out _ _ ⟨bc0 BK302, bc1 BK302, bc2 BK302, bc3 BK302, bc4 BK302⟩ (fun hHeld => ?_)
 clear hK K
 refine norm_ (a' := ?_) ?_ ?_
 rotate_left
 ·show Act.put _ (some 9) _ = _
  simp only [aP]
  rfl
 refine one_ (i := 9) (N := some 12) (bv 15 0xfff) rfl rfl (one_of HT_.out (by kernel_rfl)) (by decide) (fun K hK => ?_)
 refine goes_ Try.func68 (by kernel_rfl) rfl #[.slice A0_3 l0_3.length c0_3] (by rfl) rfl rfl ml ?_
 with_reducible refine (impl_copyItems.calls _ _ l0_3 t307 _ ?side1 ?side2 A3.out).mono ?_
 (case side1 => exact cb HR0_3 HB)
 (case side2 => exact HC0_3.out)
 rintro e w9 ⟨v308, rfl, ho0, hb⟩
 refine ⟨_, rfl, ?_⟩
 have n0_ := Aside0.mk (Kd.R_elder' (ro HO306) (Kd.R_base ho0) hb)
 have n1_ := Aside0.mk (Kd.R_lower (nw ho0 HO306) (below_size (be2 HB GE302 GE303)))
 have n2_ := bb BK302 hb
 have n3_ := bb BK303 hb
 have n4_ := Aside0.mk (below_step (be2 HB GE302 GE303) hb)
 clear HO306
 clear BK302
 clear BK303
 clear HB
 have HO306 := n0_
 have HO309 := n1_
 have BK302 := n2_
 have BK303 := n3_
 have HB := n4_
 clear n0_ n1_ n2_ n3_ n4_
 (try clear hb)
 (try clear hb2)
 (try clear hk)
 (try clear hi)
 (try clear ho0)
 refine hK.out _ _ ⟨bc0 BK302, bc1 BK302, bc2 BK302, bc3 BK302, bc4 BK302⟩ (fun hHeld => ?_)
 clear hK K
 refine norm_ (a' := ?_) ?_ ?_
 rotate_left
 ·show Act.put _ (some 12) _ = _
  simp only [aP]
  rfl
 refine one_ (i := 12) (N := some 15) (bv 15 0x1fff) rfl rfl (one_of HT_.out (by kernel_rfl)) (by decide) (fun K hK => ?_)
 refine goes_ Try.func115 (by kernel_rfl) rfl #[.slice A0_4 l0_4.length c0_4] (by rfl) rfl rfl ml ?_
 with_reducible refine (impl_copyInts.calls _ _ l0_4 t310 _ ?side1 ?side2 A4.out).mono ?_
 (case side1 => exact cb HR0_4 HB)
 (case side2 => exact HC0_4.out)
 rintro e w10 ⟨v311, rfl, ho0, hb⟩
 refine ⟨_, rfl, ?_⟩
 have n0_ := rb HO306 hb
 have n1_ := rb HO309 hb
 have n2_ := Aside0.mk (Kd.R_lower ho0 (below_size (be2 HB GE302 GE303)))
 have n3_ := bb BK302 hb
 have n4_ := bb BK303 hb
 have n5_ := Aside0.mk (below_step (be2 HB GE302 GE303) hb)
 clear HO306
 clear HO309
 clear BK302
 clear BK303
 clear HB
 have HO306 := n0_
 have HO309 := n1_
 have HO312 := n2_
 have BK302 := n3_
 have BK303 := n4_
 have HB := n5_
 clear n0_ n1_ n2_ n3_ n4_ n5_
 (try clear hb)
 (try clear hb2)
 (try clear hk)
 (try clear hi)
 (try clear ho0)
 obtain ⟨Ao11, co11, eo11⟩ := Kd.R_slice HO312.out
 (first | subst eo11 | (injection eo11 with f1_ f2_ f3_; have f4_ := f1_.symm; have f5_ := f3_.symm; clear f1_ f2_ f3_; subst f4_; subst f5_))
 obtain ⟨Ao12, co12, eo12⟩ := Kd.R_slice HO309.out
 (first | subst eo12 | (injection eo12 with f1_ f2_ f3_; have f4_ := f1_.symm; have f5_ := f3_.symm; clear f1_ f2_ f3_; subst f4_; subst f5_))
 obtain ⟨Ao13, co13, eo13⟩ := Kd.R_slice HO306.out
 (first | subst eo13 | (injection eo13 with f1_ f2_ f3_; have f4_ := f1_.symm; have f5_ := f3_.symm; clear f1_ f2_ f3_; subst f4_; subst f5_))
 refine hK.out _ _ ⟨bc0 BK302, bc1 BK302, bc2 BK302, bc3 BK302, bc4 BK302⟩ (fun hHeld => ?_)
 clear hK K
 refine norm_ (a' := ?_) ?_ ?_
 rotate_left
 ·show Act.put _ (some 15) _ = _
  simp only [aP]
  rfl
 refine py HT_ 13 16 (bv 15 0x3fff) ?_
 refine one_ (i := 14) (N := none) (bv 15 0x7fff) rfl rfl (one_of HT_.out (by kernel_rfl)) (by decide) (fun K hK => ?_)
 have hs14 : w10.cell? ⟨gb303, 0, none⟩ = some (.int .i64 0) := bc0 BK303
 have hfs14 := blk_frozen BK303.out 0
 have hns14_0 := NB302_303.out
 have hms14_0 := NB303_302.out
 have hs15 : w10.cell? ⟨gb303, 1, none⟩ = some (.int .i64 0) := bc1 BK303
 have hfs15 := blk_frozen BK303.out 1
 have hns15_0 := NB302_303.out
 have hms15_0 := NB303_302.out
 have hs16 : w10.cell? ⟨gb303, 2, none⟩ = some (.slice none 0 0) := bc2 BK303
 have hfs16 := blk_frozen BK303.out 2
 have hns16_0 := NB302_303.out
 have hms16_0 := NB303_302.out
 have hs17 : w10.cell? ⟨gb303, 3, none⟩ = some (.slice none 0 0) := bc3 BK303
 have hfs17 := blk_frozen BK303.out 3
 have hns17_0 := NB302_303.out
 have hms17_0 := NB303_302.out
 have hs18 : w10.cell? ⟨gb303, 4, none⟩ = some (.slice none 0 0) := bc4 BK303
 have hfs18 := blk_frozen BK303.out 4
 have hns18_0 := NB302_303.out
 have hms18_0 := NB303_302.out
 refine skip_ (w1 := ?_) (by rfl) rfl ?_ ?_
 rotate_left
 ·go_simp
  rfl
 refine hK.out _ _ ⟨((cell_far (p := ⟨gb303, _, none⟩) NB302_303.out _).trans (((cell_far (p := ⟨gb303, _, none⟩) NB302_303.out _).trans (((cell_far (p := ⟨gb303, _, none⟩) NB302_303.out _).trans (((cell_far (p := ⟨gb303, _, none⟩) NB302_303.out _).trans (((cell_far (p := ⟨gb303, _, none⟩) NB302_303.out _).trans (hHeld.1)))))))))), ((cell_far (p := ⟨gb303, _, none⟩) NB302_303.out _).trans (((cell_far (p := ⟨gb303, _, none⟩) NB302_303.out _).trans (((cell_far (p := ⟨gb303, _, none⟩) NB302_303.out _).trans (((cell_far (p := ⟨gb303, _, none⟩) NB302_303.out _).trans (((cell_far (p := ⟨gb303, _, none⟩) NB302_303.out _).trans (hHeld.2.1)))))))))), ((cell_far (p := ⟨gb303, _, none⟩) NB302_303.out _).trans (((cell_far (p := ⟨gb303, _, none⟩) NB302_303.out _).trans (((cell_far (p := ⟨gb303, _, none⟩) NB302_303.out _).trans (((cell_far (p := ⟨gb303, _, none⟩) NB302_303.out _).trans (((cell_far (p := ⟨gb303, _, none⟩) NB302_303.out _).trans (hHeld.2.2.1)))))))))), ((cell_far (p := ⟨gb303, _, none⟩) NB302_303.out _).trans (((cell_far (p := ⟨gb303, _, none⟩) NB302_303.out _).trans (((cell_far (p := ⟨gb303, _, none⟩) NB302_303.out _).trans (((cell_far (p := ⟨gb303, _, none⟩) NB302_303.out _).trans (((cell_far (p := ⟨gb303, _, none⟩) NB302_303.out _).trans (hHeld.2.2.2.1)))))))))), ((cell_far (p := ⟨gb303, _, none⟩) NB302_303.out _).trans (((cell_far (p := ⟨gb303, _, none⟩) NB302_303.out _).trans (((cell_far (p := ⟨gb303, _, none⟩) NB302_303.out _).trans (((cell_far (p := ⟨gb303, _, none⟩) NB302_303.out _).trans (((cell_far (p := ⟨gb303, _, none⟩) NB302_303.out _).trans (hHeld.2.2.2.2))))))))))⟩ (fun hHeld => ?_)
 clear hK K
 refine done_ (done_of HT_.out (by kernel_rfl)) ?_
 try go_wp2
 refine bodyPost_ret (results_cell_row rfl _ _ gb303 30 #[.int .i64 a0_0, .int .i64 a0_1, .slice Ao13 t304.length co13, .slice Ao12 t307.length co12, .slice Ao11 t310.length co11] (0, 0) _ rfl (by (with_reducible repeat (first | refine blk_drewN ?_ _ | refine blk_drew ?_ | refine blk_alloc ?_ _)); refine blk_put (cs := #[.int .i64 a0_0, .int .i64 a0_1, .slice Ao13 t304.length co13, .slice Ao12 t307.length co12, .slice none 0 0]) ?_ 4 _ rfl; (with_reducible repeat (first | refine blk_drewN ?_ _ | refine blk_drew ?_ | refine blk_alloc ?_ _)); refine blk_put (cs := #[.int .i64 a0_0, .int .i64 a0_1, .slice Ao13 t304.length co13, .slice none 0 0, .slice none 0 0]) ?_ 3 _ rfl; (with_reducible repeat (first | refine blk_drewN ?_ _ | refine blk_drew ?_ | refine blk_alloc ?_ _)); refine blk_put (cs := #[.int .i64 a0_0, .int .i64 a0_1, .slice none 0 0, .slice none 0 0, .slice none 0 0]) ?_ 2 _ rfl; (with_reducible repeat (first | refine blk_drewN ?_ _ | refine blk_drew ?_ | refine blk_alloc ?_ _)); refine blk_put (cs := #[.int .i64 a0_0, .int .i64 0, .slice none 0 0, .slice none 0 0, .slice none 0 0]) ?_ 1 _ rfl; (with_reducible repeat (first | refine blk_drewN ?_ _ | refine blk_drew ?_ | refine blk_alloc ?_ _)); refine blk_put (cs := #[.int .i64 0, .int .i64 0, .slice none 0 0, .slice none 0 0, .slice none 0 0]) ?_ 0 _ rfl; (with_reducible repeat (first | refine blk_drewN ?_ _ | refine blk_drew ?_ | refine blk_alloc ?_ _)); exact BK303.out) Try.underlying30 rfl (by kernel_rfl)) rfl ?_
 exact ⟨_, _, _, er, by (with_reducible repeat (first | apply Kd.R_alloc | apply Kd.R_drewN | apply Kd.R_drew)); exact Kd.R_mono (Kd.R_far (p := ⟨gb303, 4, none⟩) (Kd.R_far (p := ⟨gb303, 3, none⟩) (Kd.R_far (p := ⟨gb303, 2, none⟩) (Kd.R_far (p := ⟨gb303, 1, none⟩) (Kd.R_far (p := ⟨gb303, 0, none⟩) (Kd.R_types HO306.out BK303.out (by decide)) (fun _ hk => hk.2) (.int .i64 a0_0)) (fun _ hk => hk.2) (.int .i64 a0_1)) (fun _ hk => hk.2) (.slice Ao13 t304.length co13)) (fun _ hk => hk.2) (.slice Ao12 t307.length co12)) (fun _ hk => hk.2) (.slice Ao11 t310.length co11)) (fun _ hk => hk.1.2), by (with_reducible repeat (first | apply Kd.R_alloc | apply Kd.R_drewN | apply Kd.R_drew)); exact Kd.R_mono (Kd.R_far (p := ⟨gb303, 4, none⟩) (Kd.R_far (p := ⟨gb303, 3, none⟩) (Kd.R_far (p := ⟨gb303, 2, none⟩) (Kd.R_far (p := ⟨gb303, 1, none⟩) (Kd.R_far (p := ⟨gb303, 0, none⟩) (Kd.R_types HO309.out BK303.out (by decide)) (fun _ hk => hk.2) (.int .i64 a0_0)) (fun _ hk => hk.2) (.int .i64 a0_1)) (fun _ hk => hk.2) (.slice Ao13 t304.length co13)) (fun _ hk => hk.2) (.slice Ao12 t307.length co12)) (fun _ hk => hk.2) (.slice Ao11 t310.length co11)) (fun _ hk => hk.1.2), by (with_reducible repeat (first | apply Kd.R_alloc | apply Kd.R_drewN | apply Kd.R_drew)); exact Kd.R_mono (Kd.R_far (p := ⟨gb303, 4, none⟩) (Kd.R_far (p := ⟨gb303, 3, none⟩) (Kd.R_far (p := ⟨gb303, 2, none⟩) (Kd.R_far (p := ⟨gb303, 1, none⟩) (Kd.R_far (p := ⟨gb303, 0, none⟩) (Kd.R_types HO312.out BK303.out (by decide)) (fun _ hk => hk.2) (.int .i64 a0_0)) (fun _ hk => hk.2) (.int .i64 a0_1)) (fun _ hk => hk.2) (.slice Ao13 t304.length co13)) (fun _ hk => hk.2) (.slice Ao12 t307.length co12)) (fun _ hk => hk.2) (.slice Ao11 t310.length co11)) (fun _ hk => trivial), be2 HB GE302 GE303⟩

/-! ### impl_evicted: function 84 -/
def impl_evicted.f (k : Nat) (a0_0 : Int) (a0_1 : Int) (l0_2 : List (S68)) (l0_3 : List (S68)) (l0_4 : List Int) : Option (Int × Int × (List (S68)) × (List (S68)) × List Int × ByteArray × Bool) := (impl_ThreeOk.f k a0_0 a0_1 l0_2 l0_3 l0_4).bind fun t315 => (if t315 = true then ((impl_copyThree.f a0_0 a0_1 l0_2 l0_3 l0_4).bind fun bt316 => ((impl_Three_evictMain.f k bt316.1 bt316.2.1 bt316.2.2.1 bt316.2.2.2.1 bt316.2.2.2.2).bind fun bt328 => ((impl_copyThree.f bt328.2.2.1 bt328.2.2.2.1 bt328.2.2.2.2.1 bt328.2.2.2.2.2.1 bt328.2.2.2.2.2.2).bind fun bt341 => (some (bt341.1, bt341.2.1, bt341.2.2.1, bt341.2.2.2.1, bt341.2.2.2.2, bt328.1, bt328.2.1))))) else (some (0, 0, ([] : List (S68)), ([] : List (S68)), ([] : List Int), (⟨#[]⟩ : ByteArray), false)))
theorem impl_evicted.mono : ∀ a0 a1 a2 a3 a4 k, LeO (impl_evicted.f k a0 a1 a2 a3 a4) (impl_evicted.f (k + 1) a0 a1 a2 a3 a4) := by
 intro a0 a1 a2 a3 a4 k
 unfold impl_evicted.f
 repeat' first
   | (with_reducible exact impl_ThreeOk.mono _ _ _ _ _ _)
   | (with_reducible exact impl_Three_evictMain.mono _ _ _ _ _ _)
   | (with_reducible exact LeO.refl _)
   | (with_reducible exact LeO.none _)
   | (with_reducible refine LeO.ite ?_ ?_)
   | (with_reducible refine LeO.bind ?_ (fun _ => ?_))
   | exact impl_ThreeOk.mono _ _ _ _ _ _
   | exact impl_Three_evictMain.mono _ _ _ _ _ _
   | exact LeO.none _
   | refine LeO.ite ?_ ?_
   | refine LeO.bind ?_ (fun _ => ?_)
set_option maxHeartbeats 8000000 in
set_option maxRecDepth 100000 in
theorem impl_evicted.calls (k : Nat) (a0_0 : Int) (a0_1 : Int) (A0_2 : Option Addr) (c0_2 : Nat) (l0_2 : List (S68)) (A0_3 : Option Addr) (c0_3 : Nat) (l0_3 : List (S68)) (A0_4 : Option Addr) (c0_4 : Nat) (l0_4 : List Int) (r1 : Int) (r2 : Int) (r3 : List (S68)) (r4 : List (S68)) (r5 : List Int) (r6 : ByteArray) (r7 : Bool) (w : World) (hr0_2 : Kd.C k68 w A0_2 l0_2.length l0_2) (hc0_2 : l0_2.length ≤ c0_2) (hr0_3 : Kd.C k68 w A0_3 l0_3.length l0_3) (hc0_3 : l0_3.length ≤ c0_3) (hr0_4 : Kd.C (Kd.int .i64) w A0_4 l0_4.length l0_4) (hc0_4 : l0_4.length ≤ c0_4) (h : impl_evicted.f k a0_0 a0_1 l0_2 l0_3 l0_4 = some (r1, r2, r3, r4, r5, r6, r7)) :
  Calls Try.prog 84 #[.agg #[.int .i64 a0_0, .int .i64 a0_1, .slice A0_2 l0_2.length c0_2, .slice A0_3 l0_3.length c0_3, .slice A0_4 l0_4.length c0_4], .func (.func 85) #[] #[]] w fun e w' => ∃ v2_ v3_ v4_ : Value, e = .returned (.tuple #[.agg #[.int .i64 r1, .int .i64 r2, v2_, v3_, v4_], .string r6, .bool r7]) ∧ Kd.R k68 68 w' w.heap.size (fun k_ => some k_ ≠ (v3_ : Value).ownBlock) v2_ r3 ∧ Kd.R k68 68 w' w.heap.size (fun k_ => some k_ ≠ (v2_ : Value).ownBlock) v3_ r4 ∧ Kd.R (Kd.int .i64) 3 w' w.heap.size (fun _ => True) v4_ r5 ∧ Below w.heap.size w w' := by
 have hu30 := Try.underlying30
 have HR0_2 := Aside0.mk hr0_2
 have HC0_2 := Aside0.mk hc0_2
 clear hr0_2 hc0_2
 have HR0_3 := Aside0.mk hr0_3
 have HC0_3 := Aside0.mk hc0_3
 clear hr0_3 hc0_3
 have HR0_4 := Aside0.mk hr0_4
 have HC0_4 := Aside0.mk hc0_4
 clear hr0_4 hc0_4
 have HB := Aside0.mk (Below.refl w.heap.size w)
 have H : ((impl_ThreeOk.f k a0_0 a0_1 l0_2 l0_3 l0_4).bind fun t315 => (if t315 = true then ((impl_copyThree.f a0_0 a0_1 l0_2 l0_3 l0_4).bind fun bt316 => ((impl_Three_evictMain.f k bt316.1 bt316.2.1 bt316.2.2.1 bt316.2.2.2.1 bt316.2.2.2.2).bind fun bt328 => ((impl_copyThree.f bt328.2.2.1 bt328.2.2.2.1 bt328.2.2.2.2.1 bt328.2.2.2.2.2.1 bt328.2.2.2.2.2.2).bind fun bt341 => (some (bt341.1, bt341.2.1, bt341.2.2.1, bt341.2.2.2.1, bt341.2.2.2.2, bt328.1, bt328.2.1))))) else (some (0, 0, ([] : List (S68)), ([] : List (S68)), ([] : List Int), (⟨#[]⟩ : ByteArray), false)))) = some (r1, r2, r3, r4, r5, r6, r7) := h
 clear h
 replace H := Option.bind_eq_some_iff.mp H
 obtain ⟨t315, A20, H⟩ := H
 replace H : (if t315 = true then ((impl_copyThree.f a0_0 a0_1 l0_2 l0_3 l0_4).bind fun bt316 => ((impl_Three_evictMain.f k bt316.1 bt316.2.1 bt316.2.2.1 bt316.2.2.2.1 bt316.2.2.2.2).bind fun bt328 => ((impl_copyThree.f bt328.2.2.1 bt328.2.2.2.1 bt328.2.2.2.2.1 bt328.2.2.2.2.2.1 bt328.2.2.2.2.2.2).bind fun bt341 => (some (bt341.1, bt341.2.1, bt341.2.2.1, bt341.2.2.2.1, bt341.2.2.2.2, bt328.1, bt328.2.1))))) else (some (0, 0, ([] : List (S68)), ([] : List (S68)), ([] : List Int), (⟨#[]⟩ : ByteArray), false))) = some (r1, r2, r3, r4, r5, r6, r7) := H
 have A2 := Aside0.mk A20
 clear A20
 by_cases c3 : t315 = true
 ·subst c3
  have H1 : ((impl_copyThree.f a0_0 a0_1 l0_2 l0_3 l0_4).bind fun bt316 => ((impl_Three_evictMain.f k bt316.1 bt316.2.1 bt316.2.2.1 bt316.2.2.2.1 bt316.2.2.2.2).bind fun bt328 => ((impl_copyThree.f bt328.2.2.1 bt328.2.2.2.1 bt328.2.2.2.2.1 bt328.2.2.2.2.2.1 bt328.2.2.2.2.2.2).bind fun bt341 => (some (bt341.1, bt341.2.1, bt341.2.2.1, bt341.2.2.2.1, bt341.2.2.2.2, bt328.1, bt328.2.1))))) = some (r1, r2, r3, r4, r5, r6, r7) := by rw [if_pos rfl] at H; exact H
  clear H
  have H := H1
  clear H1
  replace H := Option.bind_eq_some_iff.mp H
  obtain ⟨⟨t316, t317, t318, t321, t324⟩, A40, H⟩ := H
  replace H : ((impl_Three_evictMain.f k t316 t317 t318 t321 t324).bind fun bt328 => ((impl_copyThree.f bt328.2.2.1 bt328.2.2.2.1 bt328.2.2.2.2.1 bt328.2.2.2.2.2.1 bt328.2.2.2.2.2.2).bind fun bt341 => (some (bt341.1, bt341.2.1, bt341.2.2.1, bt341.2.2.2.1, bt341.2.2.2.2, bt328.1, bt328.2.1)))) = some (r1, r2, r3, r4, r5, r6, r7) := H
  have A4 := Aside0.mk A40
  clear A40
  replace H := Option.bind_eq_some_iff.mp H
  obtain ⟨⟨t328, t329, t330, t331, t332, t335, t338⟩, A50, H⟩ := H
  replace H : ((impl_copyThree.f t330 t331 t332 t335 t338).bind fun bt341 => (some (bt341.1, bt341.2.1, bt341.2.2.1, bt341.2.2.2.1, bt341.2.2.2.2, t328, t329))) = some (r1, r2, r3, r4, r5, r6, r7) := H
  have A5 := Aside0.mk A50
  clear A50
  replace H := Option.bind_eq_some_iff.mp H
  obtain ⟨⟨t341, t342, t343, t346, t349⟩, A60, H⟩ := H
  replace H : (some (t341, t342, t343, t346, t349, t328, t329)) = some (r1, r2, r3, r4, r5, r6, r7) := H
  have A6 := Aside0.mk A60
  clear A60
  simp only [Option.some.injEq, Prod.mk.injEq] at H
  obtain ⟨rfl, rfl, rfl, rfl, rfl, rfl, rfl⟩ := H
  go_enter Try.func84, Try.ntmps84
  go_wp2_with (first | ((with_reducible refine gate_dst (N := 2) rfl ?_); refine bx 2 #[.int .i64 a0_0, .int .i64 a0_1, .slice A0_2 l0_2.length c0_2, .slice A0_3 l0_3.length c0_3, .slice A0_4 l0_4.length c0_4] 30 ?_; intro gb313 hg w7 hbox hb; have BK313 := am hbox; have GW313 := gs0 hg HB; have GE313 := gs0 hg HB; replace HB := s0 HB hb; clear hb hbox hg) | ((with_reducible refine gate_dst (N := 4) rfl ?_); refine bx 4 #[.int .i64 0, .int .i64 0, .slice none 0 0, .slice none 0 0, .slice none 0 0] 30 ?_; intro gb314 hg w8 hbox hb; have BK314 := am hbox; have GW314 := gs1 hg HB GE313; have GE314 := gs1 hg HB GE313; replace HB := Aside0.mk (below_step (be1 HB GE313) hb); have NB313_314 := Aside0.mk ((by rw [hg]; exact Nat.ne_of_lt (bl BK313) : gb313 ≠ gb314)); have NB314_313 := Aside0.mk ((by rw [hg]; exact Nat.ne_of_gt (bl BK313) : gb314 ≠ gb313)); replace BK313 := bb BK313 hb; clear hb hbox hg; have hnb9 := NB313_314.out; have hnc9 := NB314_313.out; have hcz10_0 := bz5 BK313) | ((with_reducible refine gate_callee (f := 19) rfl ?_); refine gl 11 Try.func19 #[.agg #[.int .i64 a0_0, .int .i64 a0_1, .slice A0_2 l0_2.length c0_2, .slice A0_3 l0_3.length c0_3, .slice A0_4 l0_4.length c0_4]] ?_; (with_reducible refine (impl_ThreeOk.calls k a0_0 a0_1 _ _ l0_2 _ _ l0_3 _ _ l0_4 true _ (cb HR0_2 HB) HC0_2.out (cb HR0_3 HB) HC0_3.out (cb HR0_4 HB) HC0_4.out A2.out).mono ?_); rintro e w11 ⟨rfl, hb⟩; refine ⟨_, rfl, ?_⟩; replace BK313 := bb BK313 hb; replace BK314 := bb BK314 hb; replace HB := Aside0.mk (below_step (be2 HB GE313 GE314) hb); (try clear hb); have hcz12_0 := bz5 BK313) | ((with_reducible refine gate_callee (f := 87) rfl ?_); refine gl 15 Try.func87 #[.agg #[.int .i64 a0_0, .int .i64 a0_1, .slice A0_2 l0_2.length c0_2, .slice A0_3 l0_3.length c0_3, .slice A0_4 l0_4.length c0_4]] ?_; (with_reducible refine (impl_copyThree.calls a0_0 a0_1 _ _ l0_2 _ _ l0_3 _ _ l0_4 t316 t317 t318 t321 t324 _ (cb HR0_2 HB) HC0_2.out (cb HR0_3 HB) HC0_3.out (cb HR0_4 HB) HC0_4.out A4.out).mono ?_); rintro e w13 ⟨v319, v322, v325, rfl, ho0, ho1, ho2, hb⟩; refine ⟨_, rfl, ?_⟩; have HO320 := Aside0.mk (Kd.R_lower ho0 (below_size (be2 HB GE313 GE314))); have HO323 := Aside0.mk (Kd.R_lower ho1 (below_size (be2 HB GE313 GE314))); have HO326 := Aside0.mk (Kd.R_lower ho2 (below_size (be2 HB GE313 GE314))); replace BK313 := bb BK313 hb; replace BK314 := bb BK314 hb; replace HB := Aside0.mk (below_step (be2 HB GE313 GE314) hb); (try clear hb); (try clear ho0); (try clear ho1); (try clear ho2)) | ((with_reducible refine gate_dst (N := 7) rfl ?_); refine bx 7 #[.int .i64 0, .int .i64 0, .slice none 0 0, .slice none 0 0, .slice none 0 0] 30 ?_; intro gb327 hg w14 hbox hb; replace HO320 := rb HO320 hb; replace HO323 := rb HO323 hb; replace HO326 := rb HO326 hb; have BK327 := am hbox; have GW327 := gs2 hg HB GE313 GE314; have GE327 := gs2 hg HB GE313 GE314; replace HB := Aside0.mk (below_step (be2 HB GE313 GE314) hb); have NB313_327 := Aside0.mk ((by rw [hg]; exact Nat.ne_of_lt (bl BK313) : gb313 ≠ gb327)); have NB327_313 := Aside0.mk ((by rw [hg]; exact Nat.ne_of_gt (bl BK313) : gb327 ≠ gb313)); replace BK313 := bb BK313 hb; have NB314_327 := Aside0.mk ((by rw [hg]; exact Nat.ne_of_lt (bl BK314) : gb314 ≠ gb327)); have NB327_314 := Aside0.mk ((by rw [hg]; exact Nat.ne_of_gt (bl BK314) : gb327 ≠ gb314)); replace BK314 := bb BK314 hb; clear hb hbox hg; have hnb15 := NB327_313.out; have hnc15 := NB313_327.out; have hnb16 := NB327_314.out; have hnc16 := NB314_327.out; have hcz17_0 := bz5 BK327; obtain ⟨Ao18, co18, eo18⟩ := Kd.R_slice HO320.out; subst eo18; obtain ⟨Ao19, co19, eo19⟩ := Kd.R_slice HO323.out; subst eo19; obtain ⟨Ao20, co20, eo20⟩ := Kd.R_slice HO326.out; subst eo20) | ((with_reducible refine gate_store (t := 30) (p := 7) rfl ?_); refine store_event (t := 30) (p := 7) (v := ?vo_w21) (w1 := (((((w14.setCell ⟨gb327, 0, none⟩ (.int .i64 t316)).setCell ⟨gb327, 1, none⟩ (.int .i64 t317)).setCell ⟨gb327, 2, none⟩ (.slice Ao18 t318.length co18)).setCell ⟨gb327, 3, none⟩ (.slice Ao19 t321.length co19)).setCell ⟨gb327, 4, none⟩ (.slice Ao20 t324.length co20))) ?hg ?ho ?hn ?hr ?_; (case ho => rfl); (case hg => rfl); (case hn => rfl); (case hr => first | (go_simp; done) | (go_simp; rfl)); intro w21 hw; have n0_ : Aside0 (Kd.R k68 68 w21 w.heap.size (fun k_ => nb k_ Ao19 t321.length co19) (.slice Ao18 t318.length co18) t318) := ⟨(by rw [hw]; exact (by (with_reducible repeat (first | apply Kd.R_alloc | apply Kd.R_drewN | apply Kd.R_drew)); exact Kd.R_mono (Kd.R_far (p := ⟨gb327, 4, none⟩) (Kd.R_far (p := ⟨gb327, 3, none⟩) (Kd.R_far (p := ⟨gb327, 2, none⟩) (Kd.R_far (p := ⟨gb327, 1, none⟩) (Kd.R_far (p := ⟨gb327, 0, none⟩) (Kd.R_types HO320.out BK327.out (by decide)) (fun _ hk => hk.2) (.int .i64 t316)) (fun _ hk => hk.2) (.int .i64 t317)) (fun _ hk => hk.2) (.slice Ao18 t318.length co18)) (fun _ hk => hk.2) (.slice Ao19 t321.length co19)) (fun _ hk => hk.2) (.slice Ao20 t324.length co20)) (fun _ hk => hk.1)))⟩; have n1_ : Aside0 (Kd.R k68 68 w21 w.heap.size (fun k_ => nb k_ Ao18 t318.length co18) (.slice Ao19 t321.length co19) t321) := ⟨(by rw [hw]; exact (by (with_reducible repeat (first | apply Kd.R_alloc | apply Kd.R_drewN | apply Kd.R_drew)); exact Kd.R_mono (Kd.R_far (p := ⟨gb327, 4, none⟩) (Kd.R_far (p := ⟨gb327, 3, none⟩) (Kd.R_far (p := ⟨gb327, 2, none⟩) (Kd.R_far (p := ⟨gb327, 1, none⟩) (Kd.R_far (p := ⟨gb327, 0, none⟩) (Kd.R_types HO323.out BK327.out (by decide)) (fun _ hk => hk.2) (.int .i64 t316)) (fun _ hk => hk.2) (.int .i64 t317)) (fun _ hk => hk.2) (.slice Ao18 t318.length co18)) (fun _ hk => hk.2) (.slice Ao19 t321.length co19)) (fun _ hk => hk.2) (.slice Ao20 t324.length co20)) (fun _ hk => hk.1)))⟩; have n2_ : Aside0 (Kd.R (Kd.int .i64) 3 w21 w.heap.size (fun _ => True) (.slice Ao20 t324.length co20) t324) := ⟨(by rw [hw]; exact (by (with_reducible repeat (first | apply Kd.R_alloc | apply Kd.R_drewN | apply Kd.R_drew)); exact Kd.R_mono (Kd.R_far (p := ⟨gb327, 4, none⟩) (Kd.R_far (p := ⟨gb327, 3, none⟩) (Kd.R_far (p := ⟨gb327, 2, none⟩) (Kd.R_far (p := ⟨gb327, 1, none⟩) (Kd.R_far (p := ⟨gb327, 0, none⟩) (Kd.R_types HO326.out BK327.out (by decide)) (fun _ hk => hk.2) (.int .i64 t316)) (fun _ hk => hk.2) (.int .i64 t317)) (fun _ hk => hk.2) (.slice Ao18 t318.length co18)) (fun _ hk => hk.2) (.slice Ao19 t321.length co19)) (fun _ hk => hk.2) (.slice Ao20 t324.length co20)) (fun _ hk => trivial)))⟩; have n3_ : Aside0 (w21.heap[gb313]? = some (.cells #[.int .i64 a0_0, .int .i64 a0_1, .slice A0_2 l0_2.length c0_2, .slice A0_3 l0_3.length c0_3, .slice A0_4 l0_4.length c0_4] 30 (0, 0))) := ⟨(by rw [hw]; exact (bf1 BK313 NB313_327))⟩; have n4_ : Aside0 (w21.heap[gb314]? = some (.cells #[.int .i64 0, .int .i64 0, .slice none 0 0, .slice none 0 0, .slice none 0 0] 30 (0, 0))) := ⟨(by rw [hw]; exact (bf1 BK314 NB314_327))⟩; have n5_ : Aside0 (w21.heap[gb327]? = some (.cells #[.int .i64 t316, .int .i64 t317, .slice Ao18 t318.length co18, .slice Ao19 t321.length co19, .slice Ao20 t324.length co20] 30 (0, 0))) := ⟨(by rw [hw]; exact (by (with_reducible repeat (first | refine blk_drewN ?_ _ | refine blk_drew ?_ | refine blk_alloc ?_ _)); refine blk_put (cs := #[.int .i64 t316, .int .i64 t317, .slice Ao18 t318.length co18, .slice Ao19 t321.length co19, .slice none 0 0]) ?_ 4 _ rfl; (with_reducible repeat (first | refine blk_drewN ?_ _ | refine blk_drew ?_ | refine blk_alloc ?_ _)); refine blk_put (cs := #[.int .i64 t316, .int .i64 t317, .slice Ao18 t318.length co18, .slice none 0 0, .slice none 0 0]) ?_ 3 _ rfl; (with_reducible repeat (first | refine blk_drewN ?_ _ | refine blk_drew ?_ | refine blk_alloc ?_ _)); refine blk_put (cs := #[.int .i64 t316, .int .i64 t317, .slice none 0 0, .slice none 0 0, .slice none 0 0]) ?_ 2 _ rfl; (with_reducible repeat (first | refine blk_drewN ?_ _ | refine blk_drew ?_ | refine blk_alloc ?_ _)); refine blk_put (cs := #[.int .i64 t316, .int .i64 0, .slice none 0 0, .slice none 0 0, .slice none 0 0]) ?_ 1 _ rfl; (with_reducible repeat (first | refine blk_drewN ?_ _ | refine blk_drew ?_ | refine blk_alloc ?_ _)); refine blk_put (cs := #[.int .i64 0, .int .i64 0, .slice none 0 0, .slice none 0 0, .slice none 0 0]) ?_ 0 _ rfl; (with_reducible repeat (first | refine blk_drewN ?_ _ | refine blk_drew ?_ | refine blk_alloc ?_ _)); exact BK327.out))⟩; have n6_ : Aside0 (Below w.heap.size w w21) := ⟨(by rw [hw]; exact (be3 HB GE313 GE314 GE327))⟩; clear hw; clear HO320; clear HO323; clear HO326; clear BK313; clear BK314; clear BK327; clear HB; have HO320 := n0_; have HO323 := n1_; have HO326 := n2_; have BK313 := n3_; have BK314 := n4_; have BK327 := n5_; have HB := n6_; clear n0_ n1_ n2_ n3_ n4_ n5_ n6_; have hcz22_0 := bz5 BK327) | (go_at_call 85; (with_reducible refine (impl_Three_evictMain.calls k t316 t317 (fun k_ => some k_ = (.slice Ao18 t318.length co18 : Value).ownBlock) (.slice Ao18 t318.length co18) t318 (fun k_ => some k_ = (.slice Ao19 t321.length co19 : Value).ownBlock) (.slice Ao19 t321.length co19) t321 (fun k_ => some k_ = (.slice Ao20 t324.length co20 : Value).ownBlock) (.slice Ao20 t324.length co20) t324 gb327 t328 t329 t330 t331 t332 t335 t338 w _ ?sideP ?sideW ?side1 ?side2 ?side3 ?side4 ?side5 ?side6 A5.out).mono ?_); (case sideP => exact bk BK327); (case sideW => exact GE327.out); (case side1 => repeat (first | (with_reducible first | exact HB.out | apply below_alloc | apply pw_below_drewN | apply below_drew1 | refine below_set ?_ GE313.out | refine below_set ?_ GE314.out | refine below_set ?_ GE327.out) | exact HB.out)); (case side2 => exact Kd.R_tight rfl HO320.out); (case side3 => exact fun k_ e_ => (HO320.out.1 k_ e_.symm)); (case side4 => exact Kd.R_tight rfl HO323.out); (case side5 => exact fun k_ e_ => (HO323.out.1 k_ e_.symm)); (case side6 => exact Kd.R_tight rfl HO326.out); rintro e w23 ⟨v333, v336, v339, rfl, hblk, ho0, ho1, ho2, hb, hkp⟩; replace BK313 := Aside0.mk (blk_kept (bk BK313) hkp (fun hs_ => Or.elim hs_ (fun hs_ => Or.elim hs_ (fun e_ => (fun e_ => (Kd.R_ne HO320.out BK313.out (by decide)) e_) e_) (fun e_ => Or.elim e_ (fun e_ => (fun e_ => (Kd.R_ne HO323.out BK313.out (by decide)) e_) e_) (fun e_ => (fun e_ => (Kd.R_ne HO326.out BK313.out (by decide)) e_) e_))) (fun e_ => NB313_327.out e_))); replace BK314 := Aside0.mk (blk_kept (bk BK314) hkp (fun hs_ => Or.elim hs_ (fun hs_ => Or.elim hs_ (fun e_ => (fun e_ => (Kd.R_ne HO320.out BK314.out (by decide)) e_) e_) (fun e_ => Or.elim e_ (fun e_ => (fun e_ => (Kd.R_ne HO323.out BK314.out (by decide)) e_) e_) (fun e_ => (fun e_ => (Kd.R_ne HO326.out BK314.out (by decide)) e_) e_))) (fun e_ => NB314_327.out e_))); replace BK327 := Aside0.mk hblk; have HO334 := Aside0.mk (Kd.R_mono (ok' := fun k_ => some k_ ≠ (v336 : Value).ownBlock) ho0 cj); have HO337 := Aside0.mk (Kd.Q_mono (ok' := fun k_ => some k_ ≠ (v333 : Value).ownBlock) ho1 cj); have HO340 := Aside0.mk (Kd.R_mono (ok' := fun k_ => True) ho2 (fun k_ hk_ => trivial)); replace HB := Aside0.mk (hb); clear HO320; clear HO323; clear HO326; (try clear hb); (try clear hkp); (try clear ho0); (try clear ho1); (try clear ho2); have hcz24_0 := bz5 BK327; obtain ⟨Ao25, co25, eo25⟩ := Kd.R_slice HO334.out; subst eo25; obtain ⟨Ao26, co26, eo26, _⟩ := Kd.Q_slice HO337.out; subst eo26; obtain ⟨Ao27, co27, eo27⟩ := Kd.R_slice HO340.out; subst eo27; (try clear hblk)) | ((with_reducible refine gate_callee (f := 87) rfl ?_); refine gl 22 Try.func87 #[.agg #[.int .i64 t330, .int .i64 t331, .slice Ao25 t332.length co25, .slice Ao26 t335.length co26, .slice Ao27 t338.length co27]] ?_; (with_reducible refine (impl_copyThree.calls t330 t331 _ _ t332 _ _ t335 _ _ t338 t341 t342 t343 t346 t349 _ ?side1 ((Kd.R_reads' HO334.out).2.1) ?side3 ?side4 ?side5 ((Kd.R_reads' HO340.out).2.1) A6.out).mono ?_); (case side1 => exact rfr _ HO334 BK327); (case side3 => refine (Kd.Q_reads' (e := 68) (base := w.heap.size) (ok := fun k_ => nb k_ Ao25 t332.length co25) (n := t335.length) (c := co26) ?_).2.2; exact (by (with_reducible repeat (first | apply Kd.Q_alloc | apply Kd.Q_drewN | apply Kd.Q_drew)); exact HO337.out)); (case side4 => exact (Kd.Q_reads' HO337.out).2.1); (case side5 => exact rfr _ HO340 BK327); rintro e w28 ⟨v344, v347, v350, rfl, ho0, ho1, ho2, hb⟩; refine ⟨_, rfl, ?_⟩; have HO345 := Aside0.mk (Kd.R_lower (Kd.R_new' (Kd.R_new' ho0 (Kd.R_lt (rf HO334 BK327))) (Kd.Q_lt (by (with_reducible repeat (first | apply Kd.Q_alloc | apply Kd.Q_drewN | apply Kd.Q_drew)); exact HO337.out))) (below_size (be3 HB GE313 GE314 GE327))); have HO348 := Aside0.mk (Kd.R_lower (Kd.R_new' (Kd.R_new' ho1 (Kd.R_lt (rf HO334 BK327))) (Kd.Q_lt (by (with_reducible repeat (first | apply Kd.Q_alloc | apply Kd.Q_drewN | apply Kd.Q_drew)); exact HO337.out))) (below_size (be3 HB GE313 GE314 GE327))); replace HO334 := td2 (rf HO334 BK327) hb ho0 ho1; replace HO337 := Aside0.mk (Kd.Q_mono (Kd.Q_told (Kd.Q_told (Kd.Q_old (by (with_reducible repeat (first | apply Kd.Q_alloc | apply Kd.Q_drewN | apply Kd.Q_drew)); exact HO337.out) hb) (Kd.R_base ho0)) (Kd.R_base ho1)) (fun _ h_ => h_.1)); have HO351 := Aside0.mk (Kd.R_lower (Kd.R_new' ho2 (Kd.R_lt (rf HO340 BK327))) (below_size (be3 HB GE313 GE314 GE327))); replace HO340 := Aside0.mk (Kd.R_elder' (rf HO340 BK327) (Kd.R_base ho2) hb); replace BK313 := Aside0.mk (blk_below (g := gb313) (o := .cells #[.int .i64 a0_0, .int .i64 a0_1, .slice A0_2 l0_2.length c0_2, .slice A0_3 l0_3.length c0_3, .slice A0_4 l0_4.length c0_4] 30 (0, 0)) (bf1 BK313 NB313_327) hb); replace BK314 := Aside0.mk (blk_below (g := gb314) (o := .cells #[.int .i64 0, .int .i64 0, .slice none 0 0, .slice none 0 0, .slice none 0 0] 30 (0, 0)) (bf1 BK314 NB314_327) hb); replace BK327 := Aside0.mk (blk_below (g := gb327) (o := .cells #[.int .i64 t330, .int .i64 t331, .slice Ao25 t332.length co25, .slice Ao26 t335.length co26, .slice Ao27 t338.length co27] 30 (0, 0)) (bk BK327) hb); replace HB := Aside0.mk (below_step (be3 HB GE313 GE314 GE327) hb); (try clear hb); (try clear ho0); (try clear ho1); (try clear ho2); have hcz29_0 := bz5 BK314; obtain ⟨Ao30, co30, eo30⟩ := Kd.R_slice HO345.out; subst eo30; obtain ⟨Ao31, co31, eo31⟩ := Kd.R_slice HO348.out; subst eo31; obtain ⟨Ao32, co32, eo32⟩ := Kd.R_slice HO351.out; subst eo32))
  refine bodyPost_ret (results_ctt rfl _ _ gb314 30 #[.int .i64 t341, .int .i64 t342, .slice Ao30 t343.length co30, .slice Ao31 t346.length co31, .slice Ao32 t349.length co32] (0, 0) _ rfl (by (with_reducible repeat (first | refine blk_drewN ?_ _ | refine blk_drew ?_ | refine blk_alloc ?_ _)); refine blk_put (cs := #[.int .i64 t341, .int .i64 t342, .slice Ao30 t343.length co30, .slice Ao31 t346.length co31, .slice none 0 0]) ?_ 4 _ rfl; (with_reducible repeat (first | refine blk_drewN ?_ _ | refine blk_drew ?_ | refine blk_alloc ?_ _)); refine blk_put (cs := #[.int .i64 t341, .int .i64 t342, .slice Ao30 t343.length co30, .slice none 0 0, .slice none 0 0]) ?_ 3 _ rfl; (with_reducible repeat (first | refine blk_drewN ?_ _ | refine blk_drew ?_ | refine blk_alloc ?_ _)); refine blk_put (cs := #[.int .i64 t341, .int .i64 t342, .slice none 0 0, .slice none 0 0, .slice none 0 0]) ?_ 2 _ rfl; (with_reducible repeat (first | refine blk_drewN ?_ _ | refine blk_drew ?_ | refine blk_alloc ?_ _)); refine blk_put (cs := #[.int .i64 t341, .int .i64 0, .slice none 0 0, .slice none 0 0, .slice none 0 0]) ?_ 1 _ rfl; (with_reducible repeat (first | refine blk_drewN ?_ _ | refine blk_drew ?_ | refine blk_alloc ?_ _)); refine blk_put (cs := #[.int .i64 0, .int .i64 0, .slice none 0 0, .slice none 0 0, .slice none 0 0]) ?_ 0 _ rfl; (with_reducible repeat (first | refine blk_drewN ?_ _ | refine blk_drew ?_ | refine blk_alloc ?_ _)); exact BK314.out) Try.underlying30 rfl (by kernel_rfl)) rfl ?_
  exact ⟨_, _, _, er, by (with_reducible repeat (first | apply Kd.R_alloc | apply Kd.R_drewN | apply Kd.R_drew)); exact Kd.R_mono (Kd.R_far (p := ⟨gb314, 4, none⟩) (Kd.R_far (p := ⟨gb314, 3, none⟩) (Kd.R_far (p := ⟨gb314, 2, none⟩) (Kd.R_far (p := ⟨gb314, 1, none⟩) (Kd.R_far (p := ⟨gb314, 0, none⟩) (Kd.R_types HO345.out BK314.out (by decide)) (fun _ hk => hk.2) (.int .i64 t341)) (fun _ hk => hk.2) (.int .i64 t342)) (fun _ hk => hk.2) (.slice Ao30 t343.length co30)) (fun _ hk => hk.2) (.slice Ao31 t346.length co31)) (fun _ hk => hk.2) (.slice Ao32 t349.length co32)) (fun _ hk => hk.1.1.1), by (with_reducible repeat (first | apply Kd.R_alloc | apply Kd.R_drewN | apply Kd.R_drew)); exact Kd.R_mono (Kd.R_far (p := ⟨gb314, 4, none⟩) (Kd.R_far (p := ⟨gb314, 3, none⟩) (Kd.R_far (p := ⟨gb314, 2, none⟩) (Kd.R_far (p := ⟨gb314, 1, none⟩) (Kd.R_far (p := ⟨gb314, 0, none⟩) (Kd.R_types HO348.out BK314.out (by decide)) (fun _ hk => hk.2) (.int .i64 t341)) (fun _ hk => hk.2) (.int .i64 t342)) (fun _ hk => hk.2) (.slice Ao30 t343.length co30)) (fun _ hk => hk.2) (.slice Ao31 t346.length co31)) (fun _ hk => hk.2) (.slice Ao32 t349.length co32)) (fun _ hk => hk.1.1.1), by (with_reducible repeat (first | apply Kd.R_alloc | apply Kd.R_drewN | apply Kd.R_drew)); exact Kd.R_mono (Kd.R_far (p := ⟨gb314, 4, none⟩) (Kd.R_far (p := ⟨gb314, 3, none⟩) (Kd.R_far (p := ⟨gb314, 2, none⟩) (Kd.R_far (p := ⟨gb314, 1, none⟩) (Kd.R_far (p := ⟨gb314, 0, none⟩) (Kd.R_types HO351.out BK314.out (by decide)) (fun _ hk => hk.2) (.int .i64 t341)) (fun _ hk => hk.2) (.int .i64 t342)) (fun _ hk => hk.2) (.slice Ao30 t343.length co30)) (fun _ hk => hk.2) (.slice Ao31 t346.length co31)) (fun _ hk => hk.2) (.slice Ao32 t349.length co32)) (fun _ hk => trivial), be3 HB GE313 GE314 GE327⟩
 replace c3 := Bool.eq_false_iff.mpr c3
 subst c3
 have H1 : (some (0, 0, ([] : List (S68)), ([] : List (S68)), ([] : List Int), (⟨#[]⟩ : ByteArray), false)) = some (r1, r2, r3, r4, r5, r6, r7) := by rw [if_neg (show ¬ (false = true) by decide)] at H; exact H
 clear H
 have H := H1
 clear H1
 simp only [Option.some.injEq, Prod.mk.injEq] at H
 obtain ⟨rfl, rfl, rfl, rfl, rfl, rfl, rfl⟩ := H
 go_enter Try.func84, Try.ntmps84
 go_wp2_with (first | ((with_reducible refine gate_dst (N := 2) rfl ?_); refine bx 2 #[.int .i64 a0_0, .int .i64 a0_1, .slice A0_2 l0_2.length c0_2, .slice A0_3 l0_3.length c0_3, .slice A0_4 l0_4.length c0_4] 30 ?_; intro gb313 hg w33 hbox hb; have BK313 := am hbox; have GW313 := gs0 hg HB; have GE313 := gs0 hg HB; replace HB := s0 HB hb; clear hb hbox hg) | ((with_reducible refine gate_dst (N := 4) rfl ?_); refine bx 4 #[.int .i64 0, .int .i64 0, .slice none 0 0, .slice none 0 0, .slice none 0 0] 30 ?_; intro gb314 hg w34 hbox hb; have BK314 := am hbox; have GW314 := gs1 hg HB GE313; have GE314 := gs1 hg HB GE313; replace HB := Aside0.mk (below_step (be1 HB GE313) hb); have NB313_314 := Aside0.mk ((by rw [hg]; exact Nat.ne_of_lt (bl BK313) : gb313 ≠ gb314)); have NB314_313 := Aside0.mk ((by rw [hg]; exact Nat.ne_of_gt (bl BK313) : gb314 ≠ gb313)); replace BK313 := bb BK313 hb; clear hb hbox hg; have hnb35 := NB313_314.out; have hnc35 := NB314_313.out; have hcz36_0 := bz5 BK313) | ((with_reducible refine gate_callee (f := 19) rfl ?_); refine gl 11 Try.func19 #[.agg #[.int .i64 a0_0, .int .i64 a0_1, .slice A0_2 l0_2.length c0_2, .slice A0_3 l0_3.length c0_3, .slice A0_4 l0_4.length c0_4]] ?_; (with_reducible refine (impl_ThreeOk.calls k a0_0 a0_1 _ _ l0_2 _ _ l0_3 _ _ l0_4 false _ (cb HR0_2 HB) HC0_2.out (cb HR0_3 HB) HC0_3.out (cb HR0_4 HB) HC0_4.out A2.out).mono ?_); rintro e w37 ⟨rfl, hb⟩; refine ⟨_, rfl, ?_⟩; replace BK313 := bb BK313 hb; replace BK314 := bb BK314 hb; replace HB := Aside0.mk (below_step (be2 HB GE313 GE314) hb); (try clear hb); have hcz38_0 := bz5 BK314))
 refine bodyPost_ret (results_ctt rfl _ _ gb314 30 #[.int .i64 0, .int .i64 0, .slice none 0 0, .slice none 0 0, .slice none 0 0] (0, 0) _ rfl (by (with_reducible repeat (first | refine blk_drewN ?_ _ | refine blk_drew ?_ | refine blk_alloc ?_ _)); refine blk_put (cs := #[.int .i64 0, .int .i64 0, .slice none 0 0, .slice none 0 0, .slice none 0 0]) ?_ 4 _ rfl; (with_reducible repeat (first | refine blk_drewN ?_ _ | refine blk_drew ?_ | refine blk_alloc ?_ _)); refine blk_put (cs := #[.int .i64 0, .int .i64 0, .slice none 0 0, .slice none 0 0, .slice none 0 0]) ?_ 3 _ rfl; (with_reducible repeat (first | refine blk_drewN ?_ _ | refine blk_drew ?_ | refine blk_alloc ?_ _)); refine blk_put (cs := #[.int .i64 0, .int .i64 0, .slice none 0 0, .slice none 0 0, .slice none 0 0]) ?_ 2 _ rfl; (with_reducible repeat (first | refine blk_drewN ?_ _ | refine blk_drew ?_ | refine blk_alloc ?_ _)); refine blk_put (cs := #[.int .i64 0, .int .i64 0, .slice none 0 0, .slice none 0 0, .slice none 0 0]) ?_ 1 _ rfl; (with_reducible repeat (first | refine blk_drewN ?_ _ | refine blk_drew ?_ | refine blk_alloc ?_ _)); refine blk_put (cs := #[.int .i64 0, .int .i64 0, .slice none 0 0, .slice none 0 0, .slice none 0 0]) ?_ 0 _ rfl; (with_reducible repeat (first | refine blk_drewN ?_ _ | refine blk_drew ?_ | refine blk_alloc ?_ _)); exact BK314.out) Try.underlying30 rfl (by kernel_rfl)) rfl ?_
 exact ⟨_, _, _, er, by first | exact Kd.R_nil _ _ _ _ _ | exact Kd.N_nil _ _ _ _ _ | exact Kd.V_nil _ _ _ _ _ | exact Kd.Q_nil _ _ _ _ _ | exact Kd.S_nil _ _ _ _ _, by first | exact Kd.R_nil _ _ _ _ _ | exact Kd.N_nil _ _ _ _ _ | exact Kd.V_nil _ _ _ _ _ | exact Kd.Q_nil _ _ _ _ _ | exact Kd.S_nil _ _ _ _ _, by first | exact Kd.R_nil _ _ _ _ _ | exact Kd.N_nil _ _ _ _ _ | exact Kd.V_nil _ _ _ _ _ | exact Kd.Q_nil _ _ _ _ _ | exact Kd.S_nil _ _ _ _ _, be2 HB GE313 GE314⟩

/-! ### impl_EvictMain: function 32 -/
def impl_EvictMain.f (k : Nat) (a0_0 : Int) (a0_1 : Int) (l0_2 : List (S68)) (l0_3 : List (S68)) (l0_4 : List Int) : Option (Int × Int × (List (S68)) × (List (S68)) × List Int × ByteArray × Bool) := (impl_evicted.f k a0_0 a0_1 l0_2 l0_3 l0_4).bind fun bt354 => (some (bt354.1, bt354.2.1, bt354.2.2.1, bt354.2.2.2.1, bt354.2.2.2.2.1, bt354.2.2.2.2.2.1, bt354.2.2.2.2.2.2))
theorem impl_EvictMain.mono : ∀ a0 a1 a2 a3 a4 k, LeO (impl_EvictMain.f k a0 a1 a2 a3 a4) (impl_EvictMain.f (k + 1) a0 a1 a2 a3 a4) := by
 intro a0 a1 a2 a3 a4 k
 unfold impl_EvictMain.f
 repeat' first
   | (with_reducible exact impl_evicted.mono _ _ _ _ _ _)
   | (with_reducible exact LeO.refl _)
   | (with_reducible exact LeO.none _)
   | (with_reducible refine LeO.ite ?_ ?_)
   | (with_reducible refine LeO.bind ?_ (fun _ => ?_))
   | exact impl_evicted.mono _ _ _ _ _ _
   | exact LeO.none _
   | refine LeO.ite ?_ ?_
   | refine LeO.bind ?_ (fun _ => ?_)
set_option maxHeartbeats 8000000 in
set_option maxRecDepth 100000 in
theorem impl_EvictMain.calls (k : Nat) (a0_0 : Int) (a0_1 : Int) (A0_2 : Option Addr) (c0_2 : Nat) (l0_2 : List (S68)) (A0_3 : Option Addr) (c0_3 : Nat) (l0_3 : List (S68)) (A0_4 : Option Addr) (c0_4 : Nat) (l0_4 : List Int) (r1 : Int) (r2 : Int) (r3 : List (S68)) (r4 : List (S68)) (r5 : List Int) (r6 : ByteArray) (r7 : Bool) (w : World) (hr0_2 : Kd.C k68 w A0_2 l0_2.length l0_2) (hc0_2 : l0_2.length ≤ c0_2) (hr0_3 : Kd.C k68 w A0_3 l0_3.length l0_3) (hc0_3 : l0_3.length ≤ c0_3) (hr0_4 : Kd.C (Kd.int .i64) w A0_4 l0_4.length l0_4) (hc0_4 : l0_4.length ≤ c0_4) (h : impl_EvictMain.f k a0_0 a0_1 l0_2 l0_3 l0_4 = some (r1, r2, r3, r4, r5, r6, r7)) :
  Calls Try.prog 32 #[.agg #[.int .i64 a0_0, .int .i64 a0_1, .slice A0_2 l0_2.length c0_2, .slice A0_3 l0_3.length c0_3, .slice A0_4 l0_4.length c0_4]] w fun e w' => ∃ v2_ v3_ v4_ : Value, e = .returned (.tuple #[.agg #[.int .i64 r1, .int .i64 r2, v2_, v3_, v4_], .string r6, .bool r7]) ∧ Kd.R k68 68 w' w.heap.size (fun k_ => some k_ ≠ (v3_ : Value).ownBlock) v2_ r3 ∧ Kd.R k68 68 w' w.heap.size (fun k_ => some k_ ≠ (v2_ : Value).ownBlock) v3_ r4 ∧ Kd.R (Kd.int .i64) 3 w' w.heap.size (fun _ => True) v4_ r5 ∧ Below w.heap.size w w' := by
 have hu30 := Try.underlying30
 have HR0_2 := Aside0.mk hr0_2
 have HC0_2 := Aside0.mk hc0_2
 clear hr0_2 hc0_2
 have HR0_3 := Aside0.mk hr0_3
 have HC0_3 := Aside0.mk hc0_3
 clear hr0_3 hc0_3
 have HR0_4 := Aside0.mk hr0_4
 have HC0_4 := Aside0.mk hc0_4
 clear hr0_4 hc0_4
 have HB := Aside0.mk (Below.refl w.heap.size w)
 have H : ((impl_evicted.f k a0_0 a0_1 l0_2 l0_3 l0_4).bind fun bt354 => (some (bt354.1, bt354.2.1, bt354.2.2.1, bt354.2.2.2.1, bt354.2.2.2.2.1, bt354.2.2.2.2.2.1, bt354.2.2.2.2.2.2))) = some (r1, r2, r3, r4, r5, r6, r7) := h
 clear h
 replace H := Option.bind_eq_some_iff.mp H
 obtain ⟨⟨t354, t355, t356, t359, t362, t365, t366⟩, A20, H⟩ := H
 replace H : (some (t354, t355, t356, t359, t362, t365, t366)) = some (r1, r2, r3, r4, r5, r6, r7) := H
 have A2 := Aside0.mk A20
 clear A20
 simp only [Option.some.injEq, Prod.mk.injEq] at H
 obtain ⟨rfl, rfl, rfl, rfl, rfl, rfl, rfl⟩ := H
 go_enter Try.func32, Try.ntmps32
 go_wp2_with (first | ((with_reducible refine gate_dst (N := 1) rfl ?_); refine bx 1 #[.int .i64 a0_0, .int .i64 a0_1, .slice A0_2 l0_2.length c0_2, .slice A0_3 l0_3.length c0_3, .slice A0_4 l0_4.length c0_4] 30 ?_; intro gb352 hg w3 hbox hb; have BK352 := am hbox; have GW352 := gs0 hg HB; have GE352 := gs0 hg HB; replace HB := s0 HB hb; clear hb hbox hg) | ((with_reducible refine gate_dst (N := 2) rfl ?_); refine bx 2 #[.int .i64 0, .int .i64 0, .slice none 0 0, .slice none 0 0, .slice none 0 0] 30 ?_; intro gb353 hg w4 hbox hb; have BK353 := am hbox; have GW353 := gs1 hg HB GE352; have GE353 := gs1 hg HB GE352; replace HB := Aside0.mk (below_step (be1 HB GE352) hb); have NB352_353 := Aside0.mk ((by rw [hg]; exact Nat.ne_of_lt (bl BK352) : gb352 ≠ gb353)); have NB353_352 := Aside0.mk ((by rw [hg]; exact Nat.ne_of_gt (bl BK352) : gb353 ≠ gb352)); replace BK352 := bb BK352 hb; clear hb hbox hg; have hnb5 := NB352_353.out; have hnc5 := NB353_352.out; have hcz6_0 := bz5 BK352) | ((with_reducible refine gate_callee (f := 84) rfl ?_); refine gl 6 Try.func84 #[.agg #[.int .i64 a0_0, .int .i64 a0_1, .slice A0_2 l0_2.length c0_2, .slice A0_3 l0_3.length c0_3, .slice A0_4 l0_4.length c0_4], .func (.func 85) #[] #[]] ?_; (with_reducible refine (impl_evicted.calls k a0_0 a0_1 _ _ l0_2 _ _ l0_3 _ _ l0_4 t354 t355 t356 t359 t362 t365 t366 _ (cb HR0_2 HB) HC0_2.out (cb HR0_3 HB) HC0_3.out (cb HR0_4 HB) HC0_4.out A2.out).mono ?_); rintro e w7 ⟨v357, v360, v363, rfl, ho0, ho1, ho2, hb⟩; refine ⟨_, rfl, ?_⟩; have HO358 := Aside0.mk (Kd.R_lower ho0 (below_size (be2 HB GE352 GE353))); have HO361 := Aside0.mk (Kd.R_lower ho1 (below_size (be2 HB GE352 GE353))); have HO364 := Aside0.mk (Kd.R_lower ho2 (below_size (be2 HB GE352 GE353))); replace BK352 := bb BK352 hb; replace BK353 := bb BK353 hb; replace HB := Aside0.mk (below_step (be2 HB GE352 GE353) hb); (try clear hb); (try clear ho0); (try clear ho1); (try clear ho2); have hcz8_0 := bz5 BK353; obtain ⟨Ao9, co9, eo9⟩ := Kd.R_slice HO358.out; subst eo9; obtain ⟨Ao10, co10, eo10⟩ := Kd.R_slice HO361.out; subst eo10; obtain ⟨Ao11, co11, eo11⟩ := Kd.R_slice HO364.out; subst eo11))
 refine bodyPost_ret (results_ctt rfl _ _ gb353 30 #[.int .i64 t354, .int .i64 t355, .slice Ao9 t356.length co9, .slice Ao10 t359.length co10, .slice Ao11 t362.length co11] (0, 0) _ rfl (by (with_reducible repeat (first | refine blk_drewN ?_ _ | refine blk_drew ?_ | refine blk_alloc ?_ _)); refine blk_put (cs := #[.int .i64 t354, .int .i64 t355, .slice Ao9 t356.length co9, .slice Ao10 t359.length co10, .slice none 0 0]) ?_ 4 _ rfl; (with_reducible repeat (first | refine blk_drewN ?_ _ | refine blk_drew ?_ | refine blk_alloc ?_ _)); refine blk_put (cs := #[.int .i64 t354, .int .i64 t355, .slice Ao9 t356.length co9, .slice none 0 0, .slice none 0 0]) ?_ 3 _ rfl; (with_reducible repeat (first | refine blk_drewN ?_ _ | refine blk_drew ?_ | refine blk_alloc ?_ _)); refine blk_put (cs := #[.int .i64 t354, .int .i64 t355, .slice none 0 0, .slice none 0 0, .slice none 0 0]) ?_ 2 _ rfl; (with_reducible repeat (first | refine blk_drewN ?_ _ | refine blk_drew ?_ | refine blk_alloc ?_ _)); refine blk_put (cs := #[.int .i64 t354, .int .i64 0, .slice none 0 0, .slice none 0 0, .slice none 0 0]) ?_ 1 _ rfl; (with_reducible repeat (first | refine blk_drewN ?_ _ | refine blk_drew ?_ | refine blk_alloc ?_ _)); refine blk_put (cs := #[.int .i64 0, .int .i64 0, .slice none 0 0, .slice none 0 0, .slice none 0 0]) ?_ 0 _ rfl; (with_reducible repeat (first | refine blk_drewN ?_ _ | refine blk_drew ?_ | refine blk_alloc ?_ _)); exact BK353.out) Try.underlying30 rfl (by kernel_rfl)) rfl ?_
 exact ⟨_, _, _, er, by (with_reducible repeat (first | apply Kd.R_alloc | apply Kd.R_drewN | apply Kd.R_drew)); exact Kd.R_mono (Kd.R_far (p := ⟨gb353, 4, none⟩) (Kd.R_far (p := ⟨gb353, 3, none⟩) (Kd.R_far (p := ⟨gb353, 2, none⟩) (Kd.R_far (p := ⟨gb353, 1, none⟩) (Kd.R_far (p := ⟨gb353, 0, none⟩) (Kd.R_types HO358.out BK353.out (by decide)) (fun _ hk => hk.2) (.int .i64 t354)) (fun _ hk => hk.2) (.int .i64 t355)) (fun _ hk => hk.2) (.slice Ao9 t356.length co9)) (fun _ hk => hk.2) (.slice Ao10 t359.length co10)) (fun _ hk => hk.2) (.slice Ao11 t362.length co11)) (fun _ hk => hk.1), by (with_reducible repeat (first | apply Kd.R_alloc | apply Kd.R_drewN | apply Kd.R_drew)); exact Kd.R_mono (Kd.R_far (p := ⟨gb353, 4, none⟩) (Kd.R_far (p := ⟨gb353, 3, none⟩) (Kd.R_far (p := ⟨gb353, 2, none⟩) (Kd.R_far (p := ⟨gb353, 1, none⟩) (Kd.R_far (p := ⟨gb353, 0, none⟩) (Kd.R_types HO361.out BK353.out (by decide)) (fun _ hk => hk.2) (.int .i64 t354)) (fun _ hk => hk.2) (.int .i64 t355)) (fun _ hk => hk.2) (.slice Ao9 t356.length co9)) (fun _ hk => hk.2) (.slice Ao10 t359.length co10)) (fun _ hk => hk.2) (.slice Ao11 t362.length co11)) (fun _ hk => hk.1), by (with_reducible repeat (first | apply Kd.R_alloc | apply Kd.R_drewN | apply Kd.R_drew)); exact Kd.R_mono (Kd.R_far (p := ⟨gb353, 4, none⟩) (Kd.R_far (p := ⟨gb353, 3, none⟩) (Kd.R_far (p := ⟨gb353, 2, none⟩) (Kd.R_far (p := ⟨gb353, 1, none⟩) (Kd.R_far (p := ⟨gb353, 0, none⟩) (Kd.R_types HO364.out BK353.out (by decide)) (fun _ hk => hk.2) (.int .i64 t354)) (fun _ hk => hk.2) (.int .i64 t355)) (fun _ hk => hk.2) (.slice Ao9 t356.length co9)) (fun _ hk => hk.2) (.slice Ao10 t359.length co10)) (fun _ hk => hk.2) (.slice Ao11 t362.length co11)) (fun _ hk => trivial), be2 HB GE352 GE353⟩

end Go.Proofs.Ytfjhkediaholmaa.QFnExactEvictMain
