-- made by a program of this session (myprint.py)
import Derived.Test.YtfjhkediaholmaaDel4
import Derived.Test.YtfjhkediaholmaaOw
import Derived.Test.YtfjhkediaholmaaQFnSweepx0
namespace Go.Proofs.Ytfjhkediaholmaa.QFnSweep
open Go.RowKit Go.Proofs.YtfjhkediaholmaaW.PrintWords Go.Proofs.YtfjhkediaholmaaW.PrintLast Go.Proofs.YtfjhkediaholmaaW.PrintMore
attribute [local go_sem] max2_int min2_int max_two min_two max_three min_three max_four min_four   -- for this text's walks alone
set_option linter.unusedVariables false
set_option linter.unusedSimpArgs false

/-! ### impl_Three_evictMain: function 85 -/
def impl_Three_evictMain.l0 : Nat → Int → Int → List (S68) → List (S68) → List Int → Option (ByteArray × Bool × Int × Int × (List (S68)) × (List (S68)) × List Int)
 | 0, _, _, _, _, _ => none
 | k + 1, x180000, x180001, x180002, x180003, x180004 => if (x180003.length : Int) > 0 then (if 0 < (x180003.length : Int) then (if 1 ≤ (x180003.length : Int) then ((some (x180003.drop (1 : Int).toNat : List (S68))).bind fun y182 => (if ((rd_T68 x180003 0).f2) = 0 then (some ((rd_T68 x180003 0).f0, true, x180000, x180001, x180002, y182, x180004)) else (if y182.length < 3518437208883 then (impl_Three_evictMain.l0 k x180000 x180001 x180002 (y182 ++ [(⟨(rd_T68 x180003 0).f0, (rd_T68 x180003 0).f1, wrap64 (((rd_T68 x180003 0).f2) - 1)⟩ : S68)]) x180004) else (none)))) else (none)) else (none)) else (some ((⟨#[]⟩ : ByteArray), false, x180000, x180001, x180002, x180003, x180004))
def impl_Three_evictMain.f (k : Nat) (a0_0 : Int) (a0_1 : Int) (l0_2 : List (S68)) (l0_3 : List (S68)) (l0_4 : List Int) : Option (ByteArray × Bool × Int × Int × (List (S68)) × (List (S68)) × List Int) := impl_Three_evictMain.l0 k a0_0 a0_1 l0_2 l0_3 l0_4
theorem impl_Three_evictMain.mono_l : ∀ k, (∀ y0 y1 y2 y3 y4, LeO (impl_Three_evictMain.l0 k y0 y1 y2 y3 y4) (impl_Three_evictMain.l0 (k + 1) y0 y1 y2 y3 y4))
 | 0 => fun _ _ _ _ _ r h => by simp [impl_Three_evictMain.l0] at h
 | k + 1 => by
  have ih0 := impl_Three_evictMain.mono_l k
  ·intro y0 y1 y2 y3 y4
   unfold impl_Three_evictMain.l0
   repeat' first
   | (with_reducible exact ih0 _ _ _ _ _)
   | (with_reducible exact LeO.refl _)
   | (with_reducible exact LeO.none _)
   | (with_reducible refine LeO.ite ?_ ?_)
   | (with_reducible refine LeO.bind ?_ (fun _ => ?_))
   | exact ih0 _ _ _ _ _
   | exact LeO.none _
   | refine LeO.ite ?_ ?_
   | refine LeO.bind ?_ (fun _ => ?_)
theorem impl_Three_evictMain.mono : ∀ a0 a1 a2 a3 a4 k, LeO (impl_Three_evictMain.f k a0 a1 a2 a3 a4) (impl_Three_evictMain.f (k + 1) a0 a1 a2 a3 a4) := by
 intro a0 a1 a2 a3 a4 k
 have ih0 := impl_Three_evictMain.mono_l k
 unfold impl_Three_evictMain.f
 repeat' first
   | (with_reducible exact ih0 _ _ _ _ _)
   | (with_reducible exact LeO.refl _)
   | (with_reducible exact LeO.none _)
   | (with_reducible refine LeO.ite ?_ ?_)
   | (with_reducible refine LeO.bind ?_ (fun _ => ?_))
   | exact ih0 _ _ _ _ _
   | exact LeO.none _
   | refine LeO.ite ?_ ?_
   | refine LeO.bind ?_ (fun _ => ?_)
def impl_Three_evictMain.T7 : Bool × List (List Nat × List Nat) := (true, [([], []), ([], []), ([1], [1]), ([2], [2]), ([3], [3]), ([], []), ([5], [5]), ([4, 6], [4, 6]), ([0, 0, 1, 2, 3, 4, 5, 6, 7], [0]), ([8, 0, 1, 2, 3, 4, 5, 6, 7], [8]), ([9, 7, 7, 0, 1, 2, 3, 4, 5, 6, 7], [7, 9])])
def impl_Three_evictMain.B7 : List Nat := [0, 0, 2, 6, 14, 0, 32, 126, 255, 511, 1023]
theorem impl_Three_evictMain.tab7 : rtab .any (opsOf Try.f85 7) = impl_Three_evictMain.T7 := by kernel_rfl
theorem impl_Three_evictMain.bits7 : waitsOk impl_Three_evictMain.T7.2 impl_Three_evictMain.B7 = true := by kernel_rfl
set_option maxHeartbeats 8000000 in
set_option maxRecDepth 100000 in
theorem impl_Three_evictMain.calls (k : Nat) (a0_0 : Int) (a0_1 : Int) (P0_2_ : Nat → Prop) (u9000_ : Value) (l0_2 : List (S68)) (P0_3_ : Nat → Prop) (u9001_ : Value) (l0_3 : List (S68)) (P0_4_ : Nat → Prop) (u9002_ : Value) (l0_4 : List Int) (gb179 : Nat) (r1 : ByteArray) (r2 : Bool) (r3 : Int) (r4 : Int) (r5 : List (S68)) (r6 : List (S68)) (r7 : List Int) (w0 w : World) (hP : w.heap[gb179]? = some (.cells #[.int .i64 a0_0, .int .i64 a0_1, u9000_, u9001_, u9002_] 30 (0, 0))) (hW : w0.heap.size ≤ gb179) (hB : Below w0.heap.size w0 w) (ho0_2 : Kd.Q k68 68 w w0.heap.size P0_2_ u9000_ l0_2) (hp0_2_0_3 : ∀ k_, P0_2_ k_ → ¬ P0_3_ k_) (ho0_3 : Kd.Q k68 68 w w0.heap.size P0_3_ u9001_ l0_3) (hp0_3_0_2 : ∀ k_, P0_3_ k_ → ¬ P0_2_ k_) (ho0_4 : Kd.Q (Kd.int .i64) 3 w w0.heap.size P0_4_ u9002_ l0_4) (h : impl_Three_evictMain.f k a0_0 a0_1 l0_2 l0_3 l0_4 = some (r1, r2, r3, r4, r5, r6, r7)) :
  Calls Try.prog 85 #[.pointer (some ⟨gb179, 0, none⟩)] w fun e w' => ∃ v4_ v5_ v6_ : Value, e = .returned (.tuple #[.string r1, .bool r2]) ∧ w'.heap[gb179]? = some (.cells #[.int .i64 r3, .int .i64 r4, v4_, v5_, v6_] 30 (0, 0)) ∧ Kd.Q k68 68 w' w0.heap.size (fun k_ => ((P0_2_ k_ ∨ P0_3_ k_ ∨ P0_4_ k_) ∨ w.heap.size ≤ k_) ∧ some k_ ≠ (v5_ : Value).ownBlock) v4_ r5 ∧ Kd.Q k68 68 w' w0.heap.size (fun k_ => ((P0_2_ k_ ∨ P0_3_ k_ ∨ P0_4_ k_) ∨ w.heap.size ≤ k_) ∧ some k_ ≠ (v4_ : Value).ownBlock) v5_ r6 ∧ Kd.Q (Kd.int .i64) 3 w' w0.heap.size (fun k_ => ((P0_2_ k_ ∨ P0_3_ k_ ∨ P0_4_ k_) ∨ w.heap.size ≤ k_)) v6_ r7 ∧ Below w0.heap.size w0 w' ∧ Kept w w' (fun k_ => (P0_2_ k_ ∨ P0_3_ k_ ∨ P0_4_ k_) ∨ k_ = gb179) := by
 have hu30 := Try.underlying30
 have hu68 := Try.underlying68
 have HO0_2 := Aside0.mk (show Kd.Q k68 68 w w0.heap.size (fun k_ => ((P0_2_ k_ ∨ P0_3_ k_ ∨ P0_4_ k_) ∨ w.heap.size ≤ k_) ∧ some k_ ≠ (u9001_ : Value).ownBlock) u9000_ l0_2 from Kd.Q_mono ho0_2 (fun k_ hk => ⟨(.inl (.inl hk)), fun e_ => hp0_2_0_3 k_ hk (ho0_3.1 k_ e_.symm)⟩))
 have HO0_3 := Aside0.mk (show Kd.Q k68 68 w w0.heap.size (fun k_ => ((P0_2_ k_ ∨ P0_3_ k_ ∨ P0_4_ k_) ∨ w.heap.size ≤ k_) ∧ some k_ ≠ (u9000_ : Value).ownBlock) u9001_ l0_3 from Kd.Q_mono ho0_3 (fun k_ hk => ⟨(.inl (.inr (.inl hk))), fun e_ => hp0_3_0_2 k_ hk (ho0_2.1 k_ e_.symm)⟩))
 have HO0_4 := Aside0.mk (show Kd.Q (Kd.int .i64) 3 w w0.heap.size (fun k_ => ((P0_2_ k_ ∨ P0_3_ k_ ∨ P0_4_ k_) ∨ w.heap.size ≤ k_)) u9002_ l0_4 from Kd.Q_mono ho0_4 (fun k_ hk => (.inl (.inr (.inr hk)))))
 have HK := Aside0.mk (Kept.refl w (fun k_ => (P0_2_ k_ ∨ P0_3_ k_ ∨ P0_4_ k_) ∨ k_ = gb179))
 have HW0 := Aside0.mk hB.size
 have HB := Aside0.mk hB
 clear hB
 have BK179 := Aside0.mk hP
 have GE179 := Aside0.mk hW
 clear hP hW
 have H : (impl_Three_evictMain.l0 k a0_0 a0_1 l0_2 l0_3 l0_4) = some (r1, r2, r3, r4, r5, r6, r7) := h
 clear h
 have H' := Aside0.mk H
 clear H
 obtain ⟨Ao2, co2, eo2, _⟩ := Kd.Q_slice HO0_2.out
 subst eo2
 obtain ⟨Ao3, co3, eo3, _⟩ := Kd.Q_slice HO0_3.out
 subst eo3
 obtain ⟨Ao4, co4, eo4, _⟩ := Kd.Q_slice HO0_4.out
 subst eo4
 go_enter Try.func85, Try.ntmps85
 go_wp2
 go_loopg [] k (fun kq w' => ∃ (x180003_1 : List (S68)) (u180003 : Value), Aside0 (impl_Three_evictMain.l0 kq a0_0 a0_1 l0_2 x180003_1 l0_4 = some (r1, r2, r3, r4, r5, r6, r7)) ∧ Aside0 (kq ≤ k) ∧ Aside0 (Kd.Q k68 68 w' w0.heap.size (fun k_ => ((P0_2_ k_ ∨ P0_3_ k_ ∨ P0_4_ k_) ∨ w.heap.size ≤ k_) ∧ some k_ ≠ (u180003 : Value).ownBlock) (.slice Ao2 l0_2.length co2) l0_2) ∧ Aside0 (Kd.Q k68 68 w' w0.heap.size (fun k_ => ((P0_2_ k_ ∨ P0_3_ k_ ∨ P0_4_ k_) ∨ w.heap.size ≤ k_) ∧ nb k_ Ao2 l0_2.length co2) u180003 x180003_1) ∧ Aside0 (Kd.Q (Kd.int .i64) 3 w' w0.heap.size (fun k_ => ((P0_2_ k_ ∨ P0_3_ k_ ∨ P0_4_ k_) ∨ w.heap.size ≤ k_)) (.slice Ao4 l0_4.length co4) l0_4) ∧ Aside0 (w'.heap[gb179]? = some (.cells #[.int .i64 a0_0, .int .i64 a0_1, (.slice Ao2 l0_2.length co2), u180003, (.slice Ao4 l0_4.length co4)] 30 (0, 0))) ∧ Aside0 (Kept w w' (fun k_ => (P0_2_ k_ ∨ P0_3_ k_ ∨ P0_4_ k_) ∨ k_ = gb179)) ∧ Aside0 (Below w0.heap.size w0 w'))
 case atStart => exact ⟨(l0_3), (.slice Ao3 l0_3.length co3), H', ⟨Nat.le_refl _⟩, ⟨(qo HO0_2)⟩, ⟨(qo HO0_3)⟩, ⟨(qo HO0_4)⟩, ⟨bk BK179⟩, ⟨(kr HK)⟩, ⟨be1 HB GE179⟩⟩
 case round =>
  clear H'
  try clear p2
  obtain ⟨x180003_1, u180003, HA, HK1, HO_180002, HO_180003, HO_180004, BK179, HK, HB⟩ := hrel
  cases gk with
  | zero => exact absurd HA.out (by simp [impl_Three_evictMain.l0])
  | succ k1 =>
   have H := HA.out
   clear HA
   simp only [impl_Three_evictMain.l0] at H
   by_cases c6 : (x180003_1.length : Int) > 0
   ·rw [if_pos c6] at H
    have c6b0 : decide (0 < (x180003_1.length : Int)) = true := decide_eq_true c6
    have c6b1 : decide (0 < x180003_1.length) = true := decide_eq_true (by omega)
    clear c6
    by_cases c7 : 0 < (x180003_1.length : Int)
    ·rw [if_pos c7] at H
     have c7b0 : decide (0 < (x180003_1.length : Int)) = true := decide_eq_true c7
     have c7b1 : decide (0 < x180003_1.length) = true := decide_eq_true (by omega)
     clear c7
     by_cases c8 : 1 ≤ (x180003_1.length : Int)
     ·rw [if_pos c8] at H
      have c8b0 := eq_true c8
      have c8b1 : decide (1 ≤ (x180003_1.length : Int)) = true := decide_eq_true c8
      clear c8
      obtain ⟨y182, hy182⟩ : ∃ y_ : List (S68), y_ = (x180003_1.drop (1 : Int).toNat) := ⟨_, rfl⟩
      replace H : (if ((rd_T68 x180003_1 0).f2) = 0 then (some ((rd_T68 x180003_1 0).f0, true, a0_0, a0_1, l0_2, y182, l0_4)) else (if y182.length < 3518437208883 then (impl_Three_evictMain.l0 k1 a0_0 a0_1 l0_2 (y182 ++ [(⟨(rd_T68 x180003_1 0).f0, (rd_T68 x180003_1 0).f1, wrap64 (((rd_T68 x180003_1 0).f2) - 1)⟩ : S68)]) l0_4) else (none))) = some (r1, r2, r3, r4, r5, r6, r7) := by first | (rw [hy182]; with_reducible exact H) | (have H2_ := (Option.bind_some _ _).symm.trans H; rw [hy182]; with_reducible exact H2_) | (have H2_ := (Option.bind_some _ _).symm.trans H; with_reducible exact H2_) | with_reducible exact H | (rw [hy182]; exact H) | exact H
      have Ny182 := Aside0.mk hy182
      clear hy182
      by_cases c9 : ((rd_T68 x180003_1 0).f2) = 0
      ·rw [if_pos c9] at H
       have c9b0 : (((rd_T68 x180003_1 0).f2) == 0) = true := beq_iff_eq.mpr c9
       have c9b1 : (((rd_T68 x180003_1 0).f2) != 0) = false := bne_eq_false_iff_eq.mpr c9
       clear c9
       simp only [Option.some.injEq, Prod.mk.injEq] at H
       obtain ⟨rfl, rfl, rfl, rfl, rfl, rfl, rfl⟩ := H
       have hcz10_0 := bz5 BK179
       obtain ⟨Ao11, co11, eo11, _⟩ := Kd.Q_slice HO_180003.out
       subst eo11
       have p180 : 0 ≤ (0 : Int) := (by omega)
       have q180 : 0 < (x180003_1.length : Int) := od
       obtain ⟨ad180, e180, hx180_0, hx180_1, hx180_2⟩ := at_T68 (Kd.Q_reads' HO_180003.out).2.2 0 p180 q180
       cases e180
       have qi180 : (0 < x180003_1.length) = True := eq_true (by omega)
       (try rw [show ((0 : Int)).toNat = 0 from rfl] at hx180_0)
       (try rw [show 0 * 3 = 0 from rfl] at hx180_0)
       (try rw [Addr.add_zero'] at hx180_0)
       (try rw [show ((0 : Int)).toNat = 0 from rfl] at hx180_1)
       (try rw [show 0 * 3 = 0 from rfl] at hx180_1)
       (try rw [Addr.add_zero'] at hx180_1)
       (try rw [show ((0 : Int)).toNat = 0 from rfl] at hx180_2)
       (try rw [show 0 * 3 = 0 from rfl] at hx180_2)
       (try rw [Addr.add_zero'] at hx180_2)
       replace p180 := eq_true p180
       replace q180 := eq_true q180
       go_wp2_with (first | ((with_reducible refine gate_dst (N := 4) rfl ?_); refine bx 4 #[.string (⟨#[]⟩ : ByteArray), .string (⟨#[]⟩ : ByteArray), .int .i64 0] 68 ?_; intro gb181 hg w12 hbox hb; replace HO_180002 := Aside0.mk (Kd.Q_below (Kd.Q_elderB (qo HO_180002) gb181 (Nat.le_of_eq hg.symm)) hb); replace HO_180003 := Aside0.mk (Kd.Q_below (Kd.Q_elderB (qo HO_180003) gb181 (Nat.le_of_eq hg.symm)) hb); replace HO_180004 := Aside0.mk (Kd.Q_below (qo HO_180004) hb); have BK181 := am hbox; have GW181 := Aside0.mk ((by rw [hg]; exact (by first | exact HK.out.1 | exact (show Kept w _ (fun k_ => (P0_2_ k_ ∨ P0_3_ k_ ∨ P0_4_ k_) ∨ k_ = gb179) from (kr HK)).1) : w.heap.size ≤ gb181)); replace HK := Aside0.mk (Kept.below (w := w) (S := (fun k_ => (P0_2_ k_ ∨ P0_3_ k_ ∨ P0_4_ k_) ∨ k_ = gb179)) (kr HK) hb); have GE181 := Aside0.mk ((by rw [hg]; exact (below_size (be1 HB GE179)) : w0.heap.size ≤ gb181)); replace HB := Aside0.mk (below_step (be1 HB GE179) hb); have NB179_181 := nl hg BK179; have NB181_179 := ng hg BK179; replace BK179 := bb BK179 hb; clear hb hbox hg; have hnb13 := NB181_179.out; have hnc13 := NB179_181.out; have hcz14_0 := bz3 BK181) | ((with_reducible refine gate_store (t := 68) (p := 4) rfl ?_); refine store_event (t := 68) (p := 4) (v := ?vo_w15) (w1 := (((w12.setCell ⟨gb181, 0, none⟩ (.string ((rd_T68 x180003_1 0).f0))).setCell ⟨gb181, 1, none⟩ (.string ((rd_T68 x180003_1 0).f1))).setCell ⟨gb181, 2, none⟩ (.int .i64 ((rd_T68 x180003_1 0).f2)))) ?hg ?ho ?hn ?hr ?_; (case ho => rfl); (case hg => rfl); (case hn => rfl); (case hr => first | (go_simp; done) | (go_simp; rfl)); intro w15 hw; have n0_ : Aside0 (Kd.Q k68 68 w15 w0.heap.size (fun k_ => ((P0_2_ k_ ∨ P0_3_ k_ ∨ P0_4_ k_) ∨ w.heap.size ≤ k_) ∧ some k_ ≠ (.slice (some ad180) x180003_1.length co11 : Value).ownBlock ∧ k_ ≠ gb181) (.slice Ao2 l0_2.length co2) l0_2) := ⟨(by rw [hw]; exact (qg gb181 HO_180002))⟩; have n1_ : Aside0 (Kd.Q k68 68 w15 w0.heap.size (fun k_ => ((P0_2_ k_ ∨ P0_3_ k_ ∨ P0_4_ k_) ∨ w.heap.size ≤ k_) ∧ nb k_ Ao2 l0_2.length co2 ∧ k_ ≠ gb181) (.slice (some ad180) x180003_1.length co11) x180003_1) := ⟨(by rw [hw]; exact (qg gb181 HO_180003))⟩; have n2_ : Aside0 (Kd.Q (Kd.int .i64) 3 w15 w0.heap.size (fun k_ => ((P0_2_ k_ ∨ P0_3_ k_ ∨ P0_4_ k_) ∨ w.heap.size ≤ k_)) (.slice Ao4 l0_4.length co4) l0_4) := ⟨(by rw [hw]; exact (qf HO_180004 BK181))⟩; have n3_ : Aside0 (w15.heap[gb179]? = some (.cells #[.int .i64 a0_0, .int .i64 a0_1, .slice Ao2 l0_2.length co2, .slice (some ad180) x180003_1.length co11, .slice Ao4 l0_4.length co4] 30 (0, 0))) := ⟨(by rw [hw]; exact (bf1 BK179 NB179_181))⟩; have n4_ : Aside0 (w15.heap[gb181]? = some (.cells #[.string ((rd_T68 x180003_1 0).f0), .string ((rd_T68 x180003_1 0).f1), .int .i64 ((rd_T68 x180003_1 0).f2)] 68 (0, 0))) := ⟨(by rw [hw]; exact (bp BK181))⟩; have n5_ : Aside0 (Kept w w15 (fun k_ => (P0_2_ k_ ∨ P0_3_ k_ ∨ P0_4_ k_) ∨ k_ = gb179)) := ⟨(by rw [hw]; exact (kr1 HK GW181))⟩; have n6_ : Aside0 (Below w0.heap.size w0 w15) := ⟨(by rw [hw]; exact (be2 HB GE179 GE181))⟩; clear hw; clear HO_180002; clear HO_180003; clear HO_180004; clear BK179; clear BK181; clear HK; clear HB; have HO_180002 := n0_; have HO_180003 := n1_; have HO_180004 := n2_; have BK179 := n3_; have BK181 := n4_; have HK := n5_; have HB := n6_; clear n0_ n1_ n2_ n3_ n4_ n5_ n6_; have hcz16_0 := bz5 BK179; have q17 : (1 : Int) ≤ ((x180003_1.length : Int) : Int) := od; obtain ⟨i017, hi017, _, hsz17, _⟩ := info_parts info68; have hcut17 := cut_from (P := Try.prog) 28 68 .i64 Try.underlying28 hi017 3 hsz17 (some ad180) x180003_1.length co11 1 (by omega) q17; have hr17 := Kd.Q_drop (k := (1 : Int).toNat) HO_180003.out (by omega); obtain ⟨A17, hA17⟩ : ∃ A1, A1 = (if co11 = (1 : Int).toNat then (some ad180) else ((some ad180) : Option Addr).map (·.add ((1 : Int).toNat * 3))) := ⟨_, rfl⟩; obtain ⟨c17, hc17⟩ : ∃ c1, c1 = co11 - (1 : Int).toNat := ⟨_, rfl⟩; have hy17 : y182.length = x180003_1.length - (1 : Int).toNat := (by rw [Ny182.out, List.length_drop]); rw [← Ny182.out] at hr17; rw [← hy17, ← hA17, ← hc17] at hcut17; replace hr17 : Kd.Q k68 68 w15 w0.heap.size (fun k_ => ((P0_2_ k_ ∨ P0_3_ k_ ∨ P0_4_ k_) ∨ w.heap.size ≤ k_) ∧ nb k_ Ao2 l0_2.length co2 ∧ k_ ≠ gb181) (.slice A17 y182.length c17) y182 := (by rw [hA17, hc17, hy17]; exact hr17); have HE17 : Aside0 ((Value.slice A17 y182.length c17).ownBlock = (.slice (some ad180) x180003_1.length co11 : Value).ownBlock) := ⟨by rw [hA17]; split <;> (cases ((some ad180) : Option Addr) <;> rfl)⟩; clear hy17 hi017 hsz17 HO_180003 hA17 hc17; have HO184 := Aside0.mk hr17; clear hr17; replace q17 := eq_true q17; have n_ := Aside0.mk (Kd.Q_mono (ok' := fun k_ => ((((P0_2_ k_ ∨ P0_3_ k_ ∨ P0_4_ k_) ∨ w.heap.size ≤ k_)) ∧ (nb k_ A17 y182.length c17 ∧ k_ ≠ gb181))) HO_180002.out (fun k_ hk => ⟨hk.1, ⟨(fun e_ => hk.2.1 (e_.trans HE17.out)), hk.2.2⟩⟩)); clear HO_180002; have HO_180002 := n_; clear n_; have hcz18_0 := bz3 BK181))
       go_ret2
       exact ⟨_, _, _, er, (bp BK179), by (with_reducible repeat (first | apply Kd.Q_alloc | apply Kd.Q_drewN | apply Kd.Q_drew)); exact Kd.Q_mono (Kd.Q_far (p := ⟨gb179, 3, none⟩) (Kd.Q_types HO_180002.out BK179.out (by decide)) (fun _ hk => hk.2) (.slice A17 y182.length c17)) (fun _ hk => ⟨hk.1.1, hk.1.2.1⟩), by (with_reducible repeat (first | apply Kd.Q_alloc | apply Kd.Q_drewN | apply Kd.Q_drew)); exact Kd.Q_mono (Kd.Q_far (p := ⟨gb179, 3, none⟩) (Kd.Q_types HO184.out BK179.out (by decide)) (fun _ hk => hk.2) (.slice A17 y182.length c17)) (fun _ hk => ⟨hk.1.1, hk.1.2.1⟩), (qf HO_180004 BK179), be2 HB GE179 GE181, (kr1 HK GW181)⟩
      rw [if_neg c9] at H
      have c9b0 : (((rd_T68 x180003_1 0).f2) == 0) = false := beq_eq_false_iff_ne.mpr c9
      have c9b1 : (((rd_T68 x180003_1 0).f2) != 0) = true := bne_iff_ne.mpr c9
      by_cases c19 : y182.length < 3518437208883
      ·rw [if_pos c19] at H
       have LMc19 := Aside0.mk c19
       clear c19
       obtain ⟨y185, hy185⟩ : ∃ y_ : List (S68), y_ = (y182 ++ [(⟨(rd_T68 x180003_1 0).f0, (rd_T68 x180003_1 0).f1, wrap64 (((rd_T68 x180003_1 0).f2) - 1)⟩ : S68)]) := ⟨_, rfl⟩
       replace H : (impl_Three_evictMain.l0 k1 a0_0 a0_1 l0_2 y185 l0_4) = some (r1, r2, r3, r4, r5, r6, r7) := by first | (rw [hy185]; with_reducible exact H) | (have H2_ := (Option.bind_some _ _).symm.trans H; rw [hy185]; with_reducible exact H2_) | (have H2_ := (Option.bind_some _ _).symm.trans H; with_reducible exact H2_) | with_reducible exact H | (rw [hy185]; exact H) | exact H
       have Ny185 := Aside0.mk hy185
       clear hy185
       have H' := Aside0.mk H
       clear H
       have hcz20_0 := bz5 BK179
       obtain ⟨Ao21, co21, eo21, _⟩ := Kd.Q_slice HO_180003.out
       subst eo21
       have p180 : 0 ≤ (0 : Int) := (by omega)
       have q180 : 0 < (x180003_1.length : Int) := od
       obtain ⟨ad180, e180, hx180_0, hx180_1, hx180_2⟩ := at_T68 (Kd.Q_reads' HO_180003.out).2.2 0 p180 q180
       cases e180
       have qi180 : (0 < x180003_1.length) = True := eq_true (by omega)
       (try rw [show ((0 : Int)).toNat = 0 from rfl] at hx180_0)
       (try rw [show 0 * 3 = 0 from rfl] at hx180_0)
       (try rw [Addr.add_zero'] at hx180_0)
       (try rw [show ((0 : Int)).toNat = 0 from rfl] at hx180_1)
       (try rw [show 0 * 3 = 0 from rfl] at hx180_1)
       (try rw [Addr.add_zero'] at hx180_1)
       (try rw [show ((0 : Int)).toNat = 0 from rfl] at hx180_2)
       (try rw [show 0 * 3 = 0 from rfl] at hx180_2)
       (try rw [Addr.add_zero'] at hx180_2)
       replace p180 := eq_true p180
       replace q180 := eq_true q180
       try go_wp2_with (first | ((with_reducible refine gate_dst (N := 4) rfl ?_); refine bx 4 #[.string (⟨#[]⟩ : ByteArray), .string (⟨#[]⟩ : ByteArray), .int .i64 0] 68 ?_; intro gb181 hg w22 hbox hb; replace HO_180002 := Aside0.mk (Kd.Q_below (Kd.Q_elderB (qo HO_180002) gb181 (Nat.le_of_eq hg.symm)) hb); replace HO_180003 := Aside0.mk (Kd.Q_below (Kd.Q_elderB (qo HO_180003) gb181 (Nat.le_of_eq hg.symm)) hb); replace HO_180004 := Aside0.mk (Kd.Q_below (qo HO_180004) hb); have BK181 := am hbox; have GW181 := Aside0.mk ((by rw [hg]; exact (by first | exact HK.out.1 | exact (show Kept w _ (fun k_ => (P0_2_ k_ ∨ P0_3_ k_ ∨ P0_4_ k_) ∨ k_ = gb179) from (kr HK)).1) : w.heap.size ≤ gb181)); replace HK := Aside0.mk (Kept.below (w := w) (S := (fun k_ => (P0_2_ k_ ∨ P0_3_ k_ ∨ P0_4_ k_) ∨ k_ = gb179)) (kr HK) hb); have GE181 := Aside0.mk ((by rw [hg]; exact (below_size (be1 HB GE179)) : w0.heap.size ≤ gb181)); replace HB := Aside0.mk (below_step (be1 HB GE179) hb); have NB179_181 := nl hg BK179; have NB181_179 := ng hg BK179; replace BK179 := bb BK179 hb; clear hb hbox hg; have hnb23 := NB181_179.out; have hnc23 := NB179_181.out; have hcz24_0 := bz3 BK181) | ((with_reducible refine gate_store (t := 68) (p := 4) rfl ?_); refine store_event (t := 68) (p := 4) (v := ?vo_w25) (w1 := (((w22.setCell ⟨gb181, 0, none⟩ (.string ((rd_T68 x180003_1 0).f0))).setCell ⟨gb181, 1, none⟩ (.string ((rd_T68 x180003_1 0).f1))).setCell ⟨gb181, 2, none⟩ (.int .i64 ((rd_T68 x180003_1 0).f2)))) ?hg ?ho ?hn ?hr ?_; (case ho => rfl); (case hg => rfl); (case hn => rfl); (case hr => first | (go_simp; done) | (go_simp; rfl)); intro w25 hw; have n0_ : Aside0 (Kd.Q k68 68 w25 w0.heap.size (fun k_ => ((P0_2_ k_ ∨ P0_3_ k_ ∨ P0_4_ k_) ∨ w.heap.size ≤ k_) ∧ some k_ ≠ (.slice (some ad180) x180003_1.length co21 : Value).ownBlock ∧ k_ ≠ gb181) (.slice Ao2 l0_2.length co2) l0_2) := ⟨(by rw [hw]; exact (qg gb181 HO_180002))⟩; have n1_ : Aside0 (Kd.Q k68 68 w25 w0.heap.size (fun k_ => ((P0_2_ k_ ∨ P0_3_ k_ ∨ P0_4_ k_) ∨ w.heap.size ≤ k_) ∧ nb k_ Ao2 l0_2.length co2 ∧ k_ ≠ gb181) (.slice (some ad180) x180003_1.length co21) x180003_1) := ⟨(by rw [hw]; exact (qg gb181 HO_180003))⟩; have n2_ : Aside0 (Kd.Q (Kd.int .i64) 3 w25 w0.heap.size (fun k_ => ((P0_2_ k_ ∨ P0_3_ k_ ∨ P0_4_ k_) ∨ w.heap.size ≤ k_)) (.slice Ao4 l0_4.length co4) l0_4) := ⟨(by rw [hw]; exact (qf HO_180004 BK181))⟩; have n3_ : Aside0 (w25.heap[gb179]? = some (.cells #[.int .i64 a0_0, .int .i64 a0_1, .slice Ao2 l0_2.length co2, .slice (some ad180) x180003_1.length co21, .slice Ao4 l0_4.length co4] 30 (0, 0))) := ⟨(by rw [hw]; exact (bf1 BK179 NB179_181))⟩; have n4_ : Aside0 (w25.heap[gb181]? = some (.cells #[.string ((rd_T68 x180003_1 0).f0), .string ((rd_T68 x180003_1 0).f1), .int .i64 ((rd_T68 x180003_1 0).f2)] 68 (0, 0))) := ⟨(by rw [hw]; exact (bp BK181))⟩; have n5_ : Aside0 (Kept w w25 (fun k_ => (P0_2_ k_ ∨ P0_3_ k_ ∨ P0_4_ k_) ∨ k_ = gb179)) := ⟨(by rw [hw]; exact (kr1 HK GW181))⟩; have n6_ : Aside0 (Below w0.heap.size w0 w25) := ⟨(by rw [hw]; exact (be2 HB GE179 GE181))⟩; clear hw; clear HO_180002; clear HO_180003; clear HO_180004; clear BK179; clear BK181; clear HK; clear HB; have HO_180002 := n0_; have HO_180003 := n1_; have HO_180004 := n2_; have BK179 := n3_; have BK181 := n4_; have HK := n5_; have HB := n6_; clear n0_ n1_ n2_ n3_ n4_ n5_ n6_; have hcz26_0 := bz5 BK179; have q27 : (1 : Int) ≤ ((x180003_1.length : Int) : Int) := od; obtain ⟨i027, hi027, _, hsz27, _⟩ := info_parts info68; have hcut27 := cut_from (P := Try.prog) 28 68 .i64 Try.underlying28 hi027 3 hsz27 (some ad180) x180003_1.length co21 1 (by omega) q27; have hr27 := Kd.Q_drop (k := (1 : Int).toNat) HO_180003.out (by omega); obtain ⟨A27, hA27⟩ : ∃ A1, A1 = (if co21 = (1 : Int).toNat then (some ad180) else ((some ad180) : Option Addr).map (·.add ((1 : Int).toNat * 3))) := ⟨_, rfl⟩; obtain ⟨c27, hc27⟩ : ∃ c1, c1 = co21 - (1 : Int).toNat := ⟨_, rfl⟩; have hy27 : y182.length = x180003_1.length - (1 : Int).toNat := (by rw [Ny182.out, List.length_drop]); rw [← Ny182.out] at hr27; rw [← hy27, ← hA27, ← hc27] at hcut27; replace hr27 : Kd.Q k68 68 w25 w0.heap.size (fun k_ => ((P0_2_ k_ ∨ P0_3_ k_ ∨ P0_4_ k_) ∨ w.heap.size ≤ k_) ∧ nb k_ Ao2 l0_2.length co2 ∧ k_ ≠ gb181) (.slice A27 y182.length c27) y182 := (by rw [hA27, hc27, hy27]; exact hr27); have HE27 : Aside0 ((Value.slice A27 y182.length c27).ownBlock = (.slice (some ad180) x180003_1.length co21 : Value).ownBlock) := ⟨by rw [hA27]; split <;> (cases ((some ad180) : Option Addr) <;> rfl)⟩; clear hy27 hi027 hsz27 HO_180003 hA27 hc27; have HO184 := Aside0.mk hr27; clear hr27; replace q27 := eq_true q27; have n_ := Aside0.mk (Kd.Q_mono (ok' := fun k_ => ((((P0_2_ k_ ∨ P0_3_ k_ ∨ P0_4_ k_) ∨ w.heap.size ≤ k_)) ∧ (nb k_ A27 y182.length c27 ∧ k_ ≠ gb181))) HO_180002.out (fun k_ hk => ⟨hk.1, ⟨(fun e_ => hk.2.1 (e_.trans HE27.out)), hk.2.2⟩⟩)); clear HO_180002; have HO_180002 := n_; clear n_; have hcz28_0 := bz3 BK181))
       have n0_ : Aside0 (Kd.Q k68 68 ((w25.setCell ⟨gb179, 3, none⟩ (.slice A27 y182.length c27)).setCell ⟨gb181, 2, none⟩ (.int .i64 (wrap64 (((rd_T68 x180003_1 0).f2) - 1)))) w0.heap.size (fun k_ => ((P0_2_ k_ ∨ P0_3_ k_ ∨ P0_4_ k_) ∨ w.heap.size ≤ k_) ∧ nb k_ A27 y182.length c27 ∧ k_ ≠ gb181) (.slice Ao2 l0_2.length co2) l0_2) := ⟨by (with_reducible repeat (first | apply Kd.Q_alloc | apply Kd.Q_drewN | apply Kd.Q_drew)); exact Kd.Q_mono (Kd.Q_far (p := ⟨gb181, 2, none⟩) (Kd.Q_far (p := ⟨gb179, 3, none⟩) (Kd.Q_mono (Kd.Q_types HO_180002.out BK179.out (by decide)) (fun k_ hk => (⟨hk, hk.1.2.2⟩ : _ ∧ k_ ≠ gb181))) (fun _ hk => hk.1.2) (.slice A27 y182.length c27)) (fun _ hk => hk.2) (.int .i64 (wrap64 (((rd_T68 x180003_1 0).f2) - 1)))) (fun _ hk => ⟨hk.1.1.1, ⟨hk.1.1.2.1, hk.1.1.2.2⟩⟩)⟩
       have n1_ : Aside0 (Kd.Q k68 68 ((w25.setCell ⟨gb179, 3, none⟩ (.slice A27 y182.length c27)).setCell ⟨gb181, 2, none⟩ (.int .i64 (wrap64 (((rd_T68 x180003_1 0).f2) - 1)))) w0.heap.size (fun k_ => ((P0_2_ k_ ∨ P0_3_ k_ ∨ P0_4_ k_) ∨ w.heap.size ≤ k_) ∧ nb k_ Ao2 l0_2.length co2 ∧ k_ ≠ gb181) (.slice A27 y182.length c27) y182) := ⟨by (with_reducible repeat (first | apply Kd.Q_alloc | apply Kd.Q_drewN | apply Kd.Q_drew)); exact Kd.Q_mono (Kd.Q_far (p := ⟨gb181, 2, none⟩) (Kd.Q_far (p := ⟨gb179, 3, none⟩) (Kd.Q_mono (Kd.Q_types HO184.out BK179.out (by decide)) (fun k_ hk => (⟨hk, hk.1.2.2⟩ : _ ∧ k_ ≠ gb181))) (fun _ hk => hk.1.2) (.slice A27 y182.length c27)) (fun _ hk => hk.2) (.int .i64 (wrap64 (((rd_T68 x180003_1 0).f2) - 1)))) (fun _ hk => ⟨hk.1.1.1, ⟨hk.1.1.2.1, hk.1.1.2.2⟩⟩)⟩
       have n2_ : Aside0 (Kd.Q (Kd.int .i64) 3 ((w25.setCell ⟨gb179, 3, none⟩ (.slice A27 y182.length c27)).setCell ⟨gb181, 2, none⟩ (.int .i64 (wrap64 (((rd_T68 x180003_1 0).f2) - 1)))) w0.heap.size (fun k_ => ((P0_2_ k_ ∨ P0_3_ k_ ∨ P0_4_ k_) ∨ w.heap.size ≤ k_)) (.slice Ao4 l0_4.length co4) l0_4) := ⟨by (with_reducible repeat (first | apply Kd.Q_alloc | apply Kd.Q_drewN | apply Kd.Q_drew)); exact Kd.Q_mono (Kd.Q_far (p := ⟨gb181, 2, none⟩) (Kd.Q_far (p := ⟨gb179, 3, none⟩) (Kd.Q_types (Kd.Q_types HO_180004.out BK179.out (by decide)) BK181.out (by decide)) (fun _ hk => hk.1.2) (.slice A27 y182.length c27)) (fun _ hk => hk.2) (.int .i64 (wrap64 (((rd_T68 x180003_1 0).f2) - 1)))) (fun _ hk => hk.1.1)⟩
       have n3_ : Aside0 (((w25.setCell ⟨gb179, 3, none⟩ (.slice A27 y182.length c27)).setCell ⟨gb181, 2, none⟩ (.int .i64 (wrap64 (((rd_T68 x180003_1 0).f2) - 1)))).heap[gb179]? = some (.cells #[.int .i64 a0_0, .int .i64 a0_1, .slice Ao2 l0_2.length co2, .slice A27 y182.length c27, .slice Ao4 l0_4.length co4] 30 (0, 0))) := ⟨(bp1 BK179 NB179_181)⟩
       have n4_ : Aside0 (((w25.setCell ⟨gb179, 3, none⟩ (.slice A27 y182.length c27)).setCell ⟨gb181, 2, none⟩ (.int .i64 (wrap64 (((rd_T68 x180003_1 0).f2) - 1)))).heap[gb181]? = some (.cells #[.string ((rd_T68 x180003_1 0).f0), .string ((rd_T68 x180003_1 0).f1), .int .i64 (wrap64 (((rd_T68 x180003_1 0).f2) - 1))] 68 (0, 0))) := ⟨(bp1 BK181 NB181_179)⟩
       have n5_ : Aside0 (Kept w ((w25.setCell ⟨gb179, 3, none⟩ (.slice A27 y182.length c27)).setCell ⟨gb181, 2, none⟩ (.int .i64 (wrap64 (((rd_T68 x180003_1 0).f2) - 1)))) (fun k_ => (P0_2_ k_ ∨ P0_3_ k_ ∨ P0_4_ k_) ∨ k_ = gb179)) := ⟨(kr1 HK GW181)⟩
       have n6_ : Aside0 (Below w0.heap.size w0 ((w25.setCell ⟨gb179, 3, none⟩ (.slice A27 y182.length c27)).setCell ⟨gb181, 2, none⟩ (.int .i64 (wrap64 (((rd_T68 x180003_1 0).f2) - 1))))) := ⟨be2 HB GE179 GE181⟩
       (try clear HO_180002)
       (try clear HO184)
       (try clear HO_180004)
       (try clear BK179)
       (try clear BK181)
       (try clear HK)
       (try clear HB)
       generalize ((w25.setCell ⟨gb179, 3, none⟩ (.slice A27 y182.length c27)).setCell ⟨gb181, 2, none⟩ (.int .i64 (wrap64 (((rd_T68 x180003_1 0).f2) - 1)))) = w29 at n0_ n1_ n2_ n3_ n4_ n5_ n6_ ⊢
       have HO_180002 := n0_
       have HO184 := n1_
       have HO_180004 := n2_
       have BK179 := n3_
       have BK181 := n4_
       have HK := n5_
       have HB := n6_
       clear n0_ n1_ n2_ n3_ n4_ n5_ n6_
       have n0_ := Aside0.mk (Kd.Q_drew HO_180002.out)
       have n1_ := Aside0.mk (Kd.Q_drew HO184.out)
       have n2_ := Aside0.mk (Kd.Q_drew HO_180004.out)
       have n3_ := Aside0.mk (blk_drew BK179.out)
       have n4_ := Aside0.mk (blk_drew BK181.out)
       have n5_ := Aside0.mk (Kept.drew HK.out)
       have n6_ := Aside0.mk (below_drew1 HB.out)
       clear HO_180002
       clear HO184
       clear HO_180004
       clear BK179
       clear BK181
       clear HK
       clear HB
       have HO_180002 := n0_
       have HO184 := n1_
       have HO_180004 := n2_
       have BK179 := n3_
       have BK181 := n4_
       have HK := n5_
       have HB := n6_
       clear n0_ n1_ n2_ n3_ n4_ n5_ n6_
       refine start_ (n := 11) (S := fun w' => w'.cell? ⟨gb179, 0, none⟩ = some (.int .i64 a0_0) ∧ w'.cell? ⟨gb179, 1, none⟩ = some (.int .i64 a0_1) ∧ w'.cell? ⟨gb179, 2, none⟩ = some (.slice Ao2 l0_2.length co2) ∧ w'.cell? ⟨gb179, 3, none⟩ = some (.slice A27 y182.length c27) ∧ w'.cell? ⟨gb179, 4, none⟩ = some (.slice Ao4 l0_4.length co4) ∧ w'.cell? ⟨gb181, 0, none⟩ = some (.string ((rd_T68 x180003_1 0).f0)) ∧ w'.cell? ⟨gb181, 1, none⟩ = some (.string ((rd_T68 x180003_1 0).f1)) ∧ w'.cell? ⟨gb181, 2, none⟩ = some (.int .i64 (wrap64 (((rd_T68 x180003_1 0).f2) - 1)))) (ds := [10]) (bv 11 0x0) (by kernel_rfl) rfl rfl ⟨bc0 BK179, bc1 BK179, bc2 BK179, bc3 BK179, bc4 BK179, bc0 BK181, bc1 BK181, bc2 BK181⟩ (fun hHeld => ?_); refine with_tabW impl_Three_evictMain.tab7 impl_Three_evictMain.bits7 (fun HT_ HW_ => ?_)
       generalize w29.drew = w30 at HO_180002 HO184 HO_180004 BK179 BK181 HK HB hHeld ⊢
       refine py HT_ 0 34 (bv 11 0x1) ?_
       refine py HT_ 1 35 (bv 11 0x3) ?_
       refine py HT_ 2 36 (bv 11 0x7) ?_
       refine py HT_ 3 37 (bv 11 0xf) ?_
       refine tk HT_ HW_ hHeld 4 38 (bv 11 0x1f) ?_
       refine tk HT_ HW_ hHeld 5 39 (bv 11 0x3f) ?_
       refine one_ (i := 6) (N := some 40) (bv 11 0x7f) rfl rfl (one_of HT_.out (by kernel_rfl)) (by decide) (fun K hK => ?_)
       refine value_ (w1 := ?_) (v := ?_) (by rfl) rfl ?_ ?_
       rotate_left 2
       ·go_simp
        constructor
        ·rfl
        ·rfl
       refine hK.out _ _ ⟨(blk_cell (blk_alloc BK179.out _) 0).trans rfl, (blk_cell (blk_alloc BK179.out _) 1).trans rfl, (blk_cell (blk_alloc BK179.out _) 2).trans rfl, (blk_cell (blk_alloc BK179.out _) 3).trans rfl, (blk_cell (blk_alloc BK179.out _) 4).trans rfl, (blk_cell (blk_alloc BK181.out _) 0).trans rfl, (blk_cell (blk_alloc BK181.out _) 1).trans rfl, (blk_cell (blk_alloc BK181.out _) 2).trans rfl⟩ (fun hHeld => ?_)
       clear hK K
       refine norm_ (a' := ?_) ?_ ?_
       rotate_left
       ·show Act.put _ (some 40) _ = _
        simp only [aP]
        rfl
       refine one_ (i := 7) (N := some 41) (bv 11 0xff) rfl rfl (one_of HT_.out (by kernel_rfl)) (by decide) (fun K hK => ?_)
       refine Kd.Q_append_step k68 (w0 := w0) w0.heap.size (by rfl) (.tmp 38) (.tmp 40) 28 68 (.agg #[(.string ⟨#[]⟩), (.string ⟨#[]⟩), (.int .i64 0)]) 40 rfl Try.underlying28 info68 rfl (by decide) (by omega) (.slice A27 y182.length c27) y182 (⟨(rd_T68 x180003_1 0).f0, (rd_T68 x180003_1 0).f1, wrap64 (((rd_T68 x180003_1 0).f2) - 1)⟩ : S68) [.string ((rd_T68 x180003_1 0).f0), .string ((rd_T68 x180003_1 0).f1), .int .i64 (wrap64 (((rd_T68 x180003_1 0).f2) - 1))] (fun k_ => ((P0_2_ k_ ∨ P0_3_ k_ ∨ P0_4_ k_) ∨ w.heap.size ≤ k_) ∧ nb k_ Ao2 l0_2.length co2 ∧ k_ ≠ gb181) (fun _ => False) rfl rfl ?aP (fun _ hk => hk.elim) ?aF ?aO ?aB ?aS ?aL ?_
       (case aP => exact k68_mkM _ _ _ (⟨(rd_T68 x180003_1 0).f0, (rd_T68 x180003_1 0).f1, wrap64 (((rd_T68 x180003_1 0).f2) - 1)⟩ : S68))
       (case aB => exact (be2 HB GE179 GE181))
       (case aF => exact (fun k_ hk => ⟨(.inr (Nat.le_trans (by first | exact HK.out.1 | exact (show Kept w _ (fun k_ => (P0_2_ k_ ∨ P0_3_ k_ ∨ P0_4_ k_) ∨ k_ = gb179) from (kr1 HK GW181)).1) hk)), Kd.fresh' (Kd.Q_lt (qo HO_180002)) k_ hk, Kd.freshB (g := gb181) (o := .cells #[.string ((rd_T68 x180003_1 0).f0), .string ((rd_T68 x180003_1 0).f1), .int .i64 (wrap64 (((rd_T68 x180003_1 0).f2) - 1))] 68 (0, 0)) (bk BK181) k_ hk⟩))
       (case aO => exact (qo HO184))
       (case aS => exact (below_size (be2 HB GE179 GE181)))
       (case aL => have := LMc19.out; omega)
       intro v186 w31 ho hb hg hat
       rw [← Ny185.out] at ho
       have n0_ := Aside0.mk (Kd.Q_after (ok := (fun k_ => ((P0_2_ k_ ∨ P0_3_ k_ ∨ P0_4_ k_) ∨ w.heap.size ≤ k_) ∧ k_ ≠ gb181)) (by (with_reducible repeat (first | apply Kd.Q_alloc | apply Kd.Q_drewN | apply Kd.Q_drew)); exact Kd.Q_mono HO_180002.out (fun _ hk => ⟨⟨hk.1, hk.2.2⟩, hk.2.1⟩)) hg hat)
       have n1_ := Aside0.mk (Kd.Q_over' (qo HO_180004) (Kd.Q_typed (qo HO184)) (by decide) hg)
       have n2_ := Aside0.mk (blk_grown (g := gb179) (o := .cells #[.int .i64 a0_0, .int .i64 a0_1, .slice Ao2 l0_2.length co2, .slice A27 y182.length c27, .slice Ao4 l0_4.length co4] 30 (0, 0)) (bk BK179) hg (Kd.Q_ne HO184.out BK179.out (by decide)))
       have n3_ := Aside0.mk (blk_grown (g := gb181) (o := .cells #[.string ((rd_T68 x180003_1 0).f0), .string ((rd_T68 x180003_1 0).f1), .int .i64 (wrap64 (((rd_T68 x180003_1 0).f2) - 1))] 68 (0, 0)) (bk BK181) hg (Kd.Q_away HO184.out (fun _ hk => hk.2.2)))
       have n4_ := Aside0.mk (hb)
       have n5_ := Aside0.mk (Kept.of_grown (S := (fun k_ => (P0_2_ k_ ∨ P0_3_ k_ ∨ P0_4_ k_) ∨ k_ = gb179)) hg (kr1 HK GW181) (fun k_ e_ => Or.imp_left Or.inl ((HO184.out.1 k_ e_).1)))
       have n6_ := Aside0.mk (ho)
       clear HO_180002
       clear HO_180004
       clear BK179
       clear BK181
       clear HB
       clear HK
       clear HO184
       have HO_180002 := n0_
       have HO_180004 := n1_
       have BK179 := n2_
       have BK181 := n3_
       have HB := n4_
       have HK := n5_
       have HO187 := n6_
       clear n0_ n1_ n2_ n3_ n4_ n5_ n6_
       clear ho hb hg hat
       obtain ⟨Ao32, co32, eo32, _⟩ := Kd.Q_slice HO187.out
       (first | subst eo32 | (injection eo32 with f1_ f2_ f3_; have f4_ := f1_.symm; have f5_ := f3_.symm; clear f1_ f2_ f3_; subst f4_; subst f5_))
       refine hK.out _ _ ⟨bc0 BK179, bc1 BK179, bc2 BK179, bc3 BK179, bc4 BK179, bc0 BK181, bc1 BK181, bc2 BK181⟩ (fun hHeld => ?_)
       clear hK K
       refine norm_ (a' := ?_) ?_ ?_
       rotate_left
       ·show Act.put _ (some 41) _ = _
        simp only [aP]
        rfl
       refine py HT_ 8 42 (bv 11 0x1ff) ?_
       refine py HT_ 9 43 (bv 11 0x3ff) ?_
       refine last_ (i := 10) (N := none) (bv 11 0x7ff) rfl rfl (one_of HT_.out (by kernel_rfl)) (by decide) (fun K hK => ?_)
       have hs33 : w31.cell? ⟨gb179, 3, none⟩ = some (.slice A27 y182.length c27) := bc3 BK179
       have hfs33 := blk_frozen BK179.out 3
       have hns33_1 := NB181_179.out
       have hms33_1 := NB179_181.out
       refine skip_ (w1 := ?_) (by rfl) rfl ?_ ?_
       rotate_left
       ·go_simp
        rfl
       refine hK.out _ _ ?_
       clear hK K
       refine done_ (done_of HT_.out (by kernel_rfl)) ?_
       try go_wp2
       go_roundg k1
       case measure => have := HK1.out; omega
       case rel => exact ⟨(y185), (.slice Ao32 y185.length co32), H', ⟨by have := HK1.out; omega⟩, ⟨(qfn HO_180002 BK179)⟩, ⟨(qfn HO187 BK179)⟩, ⟨(qf HO_180004 BK179)⟩, ⟨(bp BK179)⟩, ⟨(kr1 HK GW181)⟩, ⟨be2 HB GE179 GE181⟩⟩
      rw [if_neg c19] at H
      exact absurd H (by simp)
     rw [if_neg c8] at H
     exact absurd H (by simp)
    rw [if_neg c7] at H
    exact absurd H (by simp)
   rw [if_neg c6] at H
   have c6b0 : decide (0 < (x180003_1.length : Int)) = false := decide_eq_false c6
   have c6b1 : decide (0 < x180003_1.length) = false := decide_eq_false (by omega)
   clear c6
   simp only [Option.some.injEq, Prod.mk.injEq] at H
   obtain ⟨rfl, rfl, rfl, rfl, rfl, rfl, rfl⟩ := H
   have hcz34_0 := bz5 BK179
   obtain ⟨Ao35, co35, eo35, _⟩ := Kd.Q_slice HO_180003.out
   subst eo35
   go_wp2
   go_ret2
   exact ⟨_, _, _, er, (bk BK179), (qo HO_180002), (qo HO_180003), (qo HO_180004), be1 HB GE179, (kr HK)⟩

/-! ### slices_DeleteFunc_int_int: function 98 -/
def slices_DeleteFunc_int_int.f (l0 : List Int) (a1 : Int) : Option (List Int) := if 0 < l0.length then some (l0.filter fun x => !decide (x = a1)) else some l0
theorem idx_noneI (A : Option Addr) (c B : Nat) (w : World) : Calls Try.prog 120 #[.slice A 0 c, .func (.func 118) #[] #[.pointer (some ⟨B, 0, none⟩)]] w fun e w' => e = .returned (.int .i64 (-1)) ∧ Below w.heap.size w w' := by
 have HB := Aside0.mk (Below.refl w.heap.size w)
 go_enter Try.func120, Try.ntmps120
 go_wp2
 go_loopg [5, 8] 0 (fun gg _ v8 wr => v8 = .int .i64 0 ∧ Aside0 (Below w.heap.size w wr))
 case atStart => exact ⟨rfl, HB⟩
 case round =>
  obtain ⟨rfl, HB⟩ := hrel
  go_wp2
  go_ret
  exact ⟨rfl, HB.out⟩
theorem del_noneI (A : Option Addr) (n c B : Nat) (w : World) (hn : n = 0) : Calls Try.prog 98 #[.slice A n c, .func (.func 118) #[] #[.pointer (some ⟨B, 0, none⟩)]] w fun e w' => e = .returned (.slice A n c) ∧ Below w.heap.size w w' := by
 subst hn
 have hI := idx_noneI A c B w
 go_enter Try.func98, Try.ntmps98
 go_wp2_with (go_at_call 120; refine hI.mono ?_; rintro e w1 ⟨rfl, hb⟩; have HB := Aside0.mk hb; clear hb)
 go_ret
 exact ⟨rfl, HB.out⟩
set_option maxHeartbeats 8000000 in
set_option maxRecDepth 100000 in
theorem slices_DeleteFunc_int_int.calls (P0_ : Nat → Prop) (u9000_ : Value) (l0 : List Int) (a1 : Int) (gP : Nat) (r : List Int) (w0 w : World) (hP : w.heap[gP]? = some (.cells #[.int .i64 a1] 3 (0, 0))) (hN : ∀ k, u9000_.ownBlock = some k → k ≠ gP) (hB : Below w0.heap.size w0 w) (ho0 : Kd.R (Kd.int .i64) 3 w w0.heap.size P0_ u9000_ l0) (h : slices_DeleteFunc_int_int.f l0 a1 = some r) :
  Calls Try.prog 98 #[u9000_, .func (.func 118) #[] #[.pointer (some ⟨gP, 0, none⟩)]] w fun e w' => ∃ v0_ : Value, e = .returned (v0_) ∧ Kd.R (Kd.int .i64) 3 w' w0.heap.size (fun k_ => (P0_ k_ ∨ w.heap.size ≤ k_)) v0_ r ∧ Below w0.heap.size w0 w' ∧ Kept w w' (fun k_ => P0_ k_) := by
 have h' : (if 0 < l0.length then some (l0.filter fun x => !decide (x = a1)) else some l0) = some r := h
 clear h
 by_cases hn : 0 < l0.length
 case neg =>
  rw [if_neg hn] at h'
  obtain rfl := Option.some.inj h'
  obtain ⟨A, c, rfl⟩ := Kd.R_slice ho0
  refine (del_noneI A l0.length c gP w (by omega)).mono ?_
  rintro e w' ⟨rfl, hb⟩
  exact ⟨_, rfl, Kd.R_mono (Kd.R_below ho0 hb) (fun _ hk => .inl hk), below_step hB hb, Kept.below (S := fun k_ => P0_ k_) (Kept.refl w _) hb⟩
 rw [if_pos hn] at h'
 obtain rfl := Option.some.inj h'
 clear h'
 obtain ⟨g, cap, cur, rfl, hg, hh, hc1, hc2, hs, ht, hok⟩ := Ow.opened ho0 hn
 have hm : cap ≤ 9223372036854775807 := hc2
 have hH := Go.holds_of_blockI hh ht
 refine (Del4.calls a1 gP g 0 cap l0.toArray w (blk_lt hP) (fun e => hN g rfl e.symm) ((blk_cell hP 0).trans rfl) hH (by simp; omega) (by simpa using hc1)).mono ?_
 rintro e w' ⟨rfl, q, rfl⟩
 have hF := List.length_filter_le (fun x => !decide (x = a1)) l0
 simp only [List.size_toArray, List.toList_toArray]
 generalize (l0.filter fun x => !decide (x = a1)) = F at hF ⊢
 have hy : (F ++ List.replicate (l0.length - F.length) (0 : Int)).length = l0.length := by simp; omega
 rw [Go.Lib.putRow_eq_setCells (Value.int .i64) w g 0 l0.toArray _ q hH (by rw [hy]; simp)]
 obtain ⟨cur', h1, h2, h3⟩ := Ow.heap_setCells g 3 ((F ++ List.replicate (l0.length - F.length) (0 : Int)).map (Value.int .i64)) 0 (w.drewN q) cur hh (by rw [List.length_map, hy]; omega)
 refine ⟨_, rfl, ?_, Ow.below_setCells hg _ _ _ (pw_below_drewN hB q), Ow.kept_setCells (W := w.drewN q) hok _ _ _ (Kept.refl w _)⟩
 refine Ow.made (.inl hok) hg h1 (by omega) hc2 (by omega) ?_
 rw [h3, List.take_zero, List.nil_append, List.map_append, List.append_assoc, List.take_append_of_le_length (by simp), List.take_of_length_le (by simp)]


