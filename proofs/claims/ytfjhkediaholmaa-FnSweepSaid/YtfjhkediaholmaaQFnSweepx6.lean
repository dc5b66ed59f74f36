-- made by a program of this session (myprint.py)
import Derived.Test.YtfjhkediaholmaaDel4
import Derived.Test.YtfjhkediaholmaaDel5
import Derived.Test.YtfjhkediaholmaaOw
import Derived.Test.YtfjhkediaholmaaQFnSweepx0
import Derived.Test.YtfjhkediaholmaaQFnSweepx4
import Derived.Test.YtfjhkediaholmaaQFnSweepx5
namespace Go.Proofs.Ytfjhkediaholmaa.QFnSweep
open Go.RowKit Go.Proofs.YtfjhkediaholmaaW.PrintWords Go.Proofs.YtfjhkediaholmaaW.PrintLast Go.Proofs.YtfjhkediaholmaaW.PrintMore
attribute [local go_sem] max2_int min2_int max_two min_two max_three min_three max_four min_four   -- for this text's walks alone
set_option linter.unusedVariables false
set_option linter.unusedSimpArgs false

/-! ### impl_Three_evict: function 95 -/
def impl_Three_evict.j0 : Nat → Bool → Int → Int → List (S68) → List (S68) → List Int → Option (ByteArray × Bool × Int × Int × (List (S68)) × (List (S68)) × List Int)
 | 0, _, _, _, _, _, _ => none
 | k + 1, x23, x227000, x227001, x227002, x227003, x227004 => if x23 = true then ((impl_Three_evictSmall.f k x227000 x227001 x227002 x227003 x227004).bind fun bt227 => (if bt227.2.1 = true then (some (bt227.1, true, bt227.2.2.1, bt227.2.2.2.1, bt227.2.2.2.2.1, bt227.2.2.2.2.2.1, bt227.2.2.2.2.2.2)) else ((impl_Three_evictMain.f k bt227.2.2.1 bt227.2.2.2.1 bt227.2.2.2.2.1 bt227.2.2.2.2.2.1 bt227.2.2.2.2.2.2).bind fun bt240 => (some (bt240.1, bt240.2.1, bt240.2.2.1, bt240.2.2.2.1, bt240.2.2.2.2.1, bt240.2.2.2.2.2.1, bt240.2.2.2.2.2.2))))) else ((impl_Three_evictMain.f k x227000 x227001 x227002 x227003 x227004).bind fun bt253 => (some (bt253.1, bt253.2.1, bt253.2.2.1, bt253.2.2.2.1, bt253.2.2.2.2.1, bt253.2.2.2.2.2.1, bt253.2.2.2.2.2.2)))
def impl_Three_evict.f (k : Nat) (a0_0 : Int) (a0_1 : Int) (l0_2 : List (S68)) (l0_3 : List (S68)) (l0_4 : List Int) : Option (ByteArray × Bool × Int × Int × (List (S68)) × (List (S68)) × List Int) := if (l0_2.length : Int) ≥ a0_1 then (impl_Three_evict.j0 k true a0_0 a0_1 l0_2 l0_3 l0_4) else (impl_Three_evict.j0 k ((l0_3.length : Int) == 0) a0_0 a0_1 l0_2 l0_3 l0_4)
theorem impl_Three_evict.mono_l : ∀ k, (∀ y0 y1 y2 y3 y4 y5, LeO (impl_Three_evict.j0 k y0 y1 y2 y3 y4 y5) (impl_Three_evict.j0 (k + 1) y0 y1 y2 y3 y4 y5))
 | 0 => fun _ _ _ _ _ _ r h => by simp [impl_Three_evict.j0] at h
 | k + 1 => by
  have ih0 := impl_Three_evict.mono_l k
  ·intro y0 y1 y2 y3 y4 y5
   unfold impl_Three_evict.j0
   repeat' first
   | (with_reducible exact ih0 _ _ _ _ _ _)
   | (with_reducible exact impl_Three_evictMain.mono _ _ _ _ _ _)
   | (with_reducible exact impl_Three_evictSmall.mono _ _ _ _ _ _)
   | (with_reducible exact LeO.refl _)
   | (with_reducible exact LeO.none _)
   | (with_reducible refine LeO.ite ?_ ?_)
   | (with_reducible refine LeO.bind ?_ (fun _ => ?_))
   | exact ih0 _ _ _ _ _ _
   | exact impl_Three_evictMain.mono _ _ _ _ _ _
   | exact impl_Three_evictSmall.mono _ _ _ _ _ _
   | exact LeO.none _
   | refine LeO.ite ?_ ?_
   | refine LeO.bind ?_ (fun _ => ?_)
theorem impl_Three_evict.mono : ∀ a0 a1 a2 a3 a4 k, LeO (impl_Three_evict.f k a0 a1 a2 a3 a4) (impl_Three_evict.f (k + 1) a0 a1 a2 a3 a4) := by
 intro a0 a1 a2 a3 a4 k
 have ih0 := impl_Three_evict.mono_l k
 unfold impl_Three_evict.f
 repeat' first
   | (with_reducible exact ih0 _ _ _ _ _ _)
   | (with_reducible exact impl_Three_evictMain.mono _ _ _ _ _ _)
   | (with_reducible exact impl_Three_evictSmall.mono _ _ _ _ _ _)
   | (with_reducible exact LeO.refl _)
   | (with_reducible exact LeO.none _)
   | (with_reducible refine LeO.ite ?_ ?_)
   | (with_reducible refine LeO.bind ?_ (fun _ => ?_))
   | exact ih0 _ _ _ _ _ _
   | exact impl_Three_evictMain.mono _ _ _ _ _ _
   | exact impl_Three_evictSmall.mono _ _ _ _ _ _
   | exact LeO.none _
   | refine LeO.ite ?_ ?_
   | refine LeO.bind ?_ (fun _ => ?_)
set_option maxHeartbeats 8000000 in
set_option maxRecDepth 100000 in
theorem impl_Three_evict.calls (k : Nat) (a0_0 : Int) (a0_1 : Int) (P0_2_ : Nat → Prop) (u9000_ : Value) (l0_2 : List (S68)) (P0_3_ : Nat → Prop) (u9001_ : Value) (l0_3 : List (S68)) (P0_4_ : Nat → Prop) (u9002_ : Value) (l0_4 : List Int) (gb226 : Nat) (r1 : ByteArray) (r2 : Bool) (r3 : Int) (r4 : Int) (r5 : List (S68)) (r6 : List (S68)) (r7 : List Int) (w0 w : World) (hP : w.heap[gb226]? = some (.cells #[.int .i64 a0_0, .int .i64 a0_1, u9000_, u9001_, u9002_] 30 (0, 0))) (hW : w0.heap.size ≤ gb226) (hB : Below w0.heap.size w0 w) (ho0_2 : Kd.R k68 68 w w0.heap.size P0_2_ u9000_ l0_2) (hp0_2_0_3 : ∀ k_, P0_2_ k_ → ¬ P0_3_ k_) (ho0_3 : Kd.R k68 68 w w0.heap.size P0_3_ u9001_ l0_3) (hp0_3_0_2 : ∀ k_, P0_3_ k_ → ¬ P0_2_ k_) (ho0_4 : Kd.R (Kd.int .i64) 3 w w0.heap.size P0_4_ u9002_ l0_4) (h : impl_Three_evict.f k a0_0 a0_1 l0_2 l0_3 l0_4 = some (r1, r2, r3, r4, r5, r6, r7)) :
  Calls Try.prog 95 #[.pointer (some ⟨gb226, 0, none⟩)] w fun e w' => ∃ v4_ v5_ v6_ : Value, e = .returned (.tuple #[.string r1, .bool r2]) ∧ w'.heap[gb226]? = some (.cells #[.int .i64 r3, .int .i64 r4, v4_, v5_, v6_] 30 (0, 0)) ∧ Kd.Q k68 68 w' w0.heap.size (fun k_ => ((P0_2_ k_ ∨ P0_3_ k_ ∨ P0_4_ k_) ∨ w.heap.size ≤ k_) ∧ some k_ ≠ (v5_ : Value).ownBlock) v4_ r5 ∧ Kd.Q k68 68 w' w0.heap.size (fun k_ => ((P0_2_ k_ ∨ P0_3_ k_ ∨ P0_4_ k_) ∨ w.heap.size ≤ k_) ∧ some k_ ≠ (v4_ : Value).ownBlock) v5_ r6 ∧ Kd.Q (Kd.int .i64) 3 w' w0.heap.size (fun k_ => ((P0_2_ k_ ∨ P0_3_ k_ ∨ P0_4_ k_) ∨ w.heap.size ≤ k_)) v6_ r7 ∧ Below w0.heap.size w0 w' ∧ Kept w w' (fun k_ => (P0_2_ k_ ∨ P0_3_ k_ ∨ P0_4_ k_) ∨ k_ = gb226) := by
 have hu30 := Try.underlying30
 have HO0_2 := Aside0.mk (show Kd.R k68 68 w w0.heap.size (fun k_ => ((P0_2_ k_ ∨ P0_3_ k_ ∨ P0_4_ k_) ∨ w.heap.size ≤ k_) ∧ some k_ ≠ (u9001_ : Value).ownBlock) u9000_ l0_2 from Kd.R_mono ho0_2 (fun k_ hk => ⟨(.inl (.inl hk)), fun e_ => hp0_2_0_3 k_ hk (ho0_3.1 k_ e_.symm)⟩))
 have HO0_3 := Aside0.mk (show Kd.R k68 68 w w0.heap.size (fun k_ => ((P0_2_ k_ ∨ P0_3_ k_ ∨ P0_4_ k_) ∨ w.heap.size ≤ k_) ∧ some k_ ≠ (u9000_ : Value).ownBlock) u9001_ l0_3 from Kd.R_mono ho0_3 (fun k_ hk => ⟨(.inl (.inr (.inl hk))), fun e_ => hp0_3_0_2 k_ hk (ho0_2.1 k_ e_.symm)⟩))
 have HO0_4 := Aside0.mk (show Kd.R (Kd.int .i64) 3 w w0.heap.size (fun k_ => ((P0_2_ k_ ∨ P0_3_ k_ ∨ P0_4_ k_) ∨ w.heap.size ≤ k_)) u9002_ l0_4 from Kd.R_mono ho0_4 (fun k_ hk => (.inl (.inr (.inr hk)))))
 have HK := Aside0.mk (Kept.refl w (fun k_ => (P0_2_ k_ ∨ P0_3_ k_ ∨ P0_4_ k_) ∨ k_ = gb226))
 have HW0 := Aside0.mk hB.size
 have HB := Aside0.mk hB
 clear hB
 have BK226 := Aside0.mk hP
 have GE226 := Aside0.mk hW
 clear hP hW
 have H : (if (l0_2.length : Int) ≥ a0_1 then (impl_Three_evict.j0 k true a0_0 a0_1 l0_2 l0_3 l0_4) else (impl_Three_evict.j0 k ((l0_3.length : Int) == 0) a0_0 a0_1 l0_2 l0_3 l0_4)) = some (r1, r2, r3, r4, r5, r6, r7) := h
 clear h
 have HC2 := Aside0.mk H
 clear H
 obtain ⟨Ao3, co3, eo3⟩ := Kd.R_slice HO0_2.out
 subst eo3
 obtain ⟨Ao4, co4, eo4⟩ := Kd.R_slice HO0_3.out
 subst eo4
 obtain ⟨Ao5, co5, eo5⟩ := Kd.R_slice HO0_4.out
 subst eo5
 go_enter Try.func95, Try.ntmps95
 go_wp2
 go_wp2
 (try simp only [Act.put, List.setIfInBounds_toArray, List.set_cons_zero, List.set_cons_succ])
 go_cut [23] (fun v23 wc => ∃ (kq : Nat) (x23_1 : Bool), v23 = .bool x23_1 ∧ Aside0 (impl_Three_evict.j0 kq x23_1 a0_0 a0_1 l0_2 l0_3 l0_4 = some (r1, r2, r3, r4, r5, r6, r7)) ∧ Aside0 (kq ≤ k) ∧ Aside0 (Kd.R k68 68 wc w0.heap.size (fun k_ => ((P0_2_ k_ ∨ P0_3_ k_ ∨ P0_4_ k_) ∨ w.heap.size ≤ k_) ∧ nb k_ Ao4 l0_3.length co4) (.slice Ao3 l0_2.length co3) l0_2) ∧ Aside0 (Kd.R k68 68 wc w0.heap.size (fun k_ => ((P0_2_ k_ ∨ P0_3_ k_ ∨ P0_4_ k_) ∨ w.heap.size ≤ k_) ∧ nb k_ Ao3 l0_2.length co3) (.slice Ao4 l0_3.length co4) l0_3) ∧ Aside0 (Kd.R (Kd.int .i64) 3 wc w0.heap.size (fun k_ => ((P0_2_ k_ ∨ P0_3_ k_ ∨ P0_4_ k_) ∨ w.heap.size ≤ k_)) (.slice Ao5 l0_4.length co5) l0_4) ∧ Aside0 (wc.heap[gb226]? = some (.cells #[.int .i64 a0_0, .int .i64 a0_1, (.slice Ao3 l0_2.length co3), (.slice Ao4 l0_3.length co4), (.slice Ao5 l0_4.length co5)] 30 (0, 0))) ∧ Aside0 (Kept w wc (fun k_ => (P0_2_ k_ ∨ P0_3_ k_ ∨ P0_4_ k_) ∨ k_ = gb226)) ∧ Aside0 (Below w0.heap.size w0 wc))
 case first =>
  have H := HC2.out
  clear HC2
  by_cases c7 : (l0_2.length : Int) ≥ a0_1
  ·rw [if_pos c7] at H
   have c7b0 : decide (a0_1 ≤ (l0_2.length : Int)) = true := decide_eq_true c7
   clear c7
   (first | rw [c7b0] | (simp only [i64_w, i32_w]; rw [c7b0]) | skip)
   have H' := Aside0.mk H
   clear H
   have hcz8_0 := bz5 BK226
   go_wp2
   repeat (go_quiet (fail); try go_wp2)
   go_meet
   case rel => exact ⟨_, (true), rs, H', ⟨by first | omega | exact Nat.le_refl _⟩, ⟨ro HO0_2⟩, ⟨ro HO0_3⟩, ⟨ro HO0_4⟩, ⟨bk BK226⟩, ⟨(kr HK)⟩, ⟨be1 HB GE226⟩⟩
  rw [if_neg c7] at H
  have c7b0 : decide (a0_1 ≤ (l0_2.length : Int)) = false := decide_eq_false c7
  clear c7
  (first | rw [c7b0] | (simp only [i64_w, i32_w]; rw [c7b0]) | skip)
  have H' := Aside0.mk H
  clear H
  have hcz9_0 := bz5 BK226
  go_wp2
  repeat (go_quiet (fail); try go_wp2)
  go_meet
  case rel => exact ⟨_, (((l0_3.length : Int) == 0)), rs, H', ⟨by first | omega | exact Nat.le_refl _⟩, ⟨ro HO0_2⟩, ⟨ro HO0_3⟩, ⟨ro HO0_4⟩, ⟨bk BK226⟩, ⟨(kr HK)⟩, ⟨be1 HB GE226⟩⟩
 case rest =>
  clear HC2
  try clear p2; try clear c7; try clear c7b0; try clear c9; try clear hcz8_0; try clear hcz9_0
  obtain ⟨kq, x23_1, rfl, HA, HJ1, HO_227002, HO_227003, HO_227004, BK226, HK, HB⟩ := hcut
  cases kq with
  | zero => exact absurd HA.out (by simp [impl_Three_evict.j0])
  | succ kj1 =>
   have H := HA.out
   clear HA
   simp only [impl_Three_evict.j0] at H
   by_cases c10 : x23_1 = true
   ·subst c10
    have H1 : ((impl_Three_evictSmall.f kj1 a0_0 a0_1 l0_2 l0_3 l0_4).bind fun bt227 => (if bt227.2.1 = true then (some (bt227.1, true, bt227.2.2.1, bt227.2.2.2.1, bt227.2.2.2.2.1, bt227.2.2.2.2.2.1, bt227.2.2.2.2.2.2)) else ((impl_Three_evictMain.f kj1 bt227.2.2.1 bt227.2.2.2.1 bt227.2.2.2.2.1 bt227.2.2.2.2.2.1 bt227.2.2.2.2.2.2).bind fun bt240 => (some (bt240.1, bt240.2.1, bt240.2.2.1, bt240.2.2.2.1, bt240.2.2.2.2.1, bt240.2.2.2.2.2.1, bt240.2.2.2.2.2.2))))) = some (r1, r2, r3, r4, r5, r6, r7) := by rw [if_pos rfl] at H; exact H
    clear H
    have H := H1
    clear H1
    replace H := Option.bind_eq_some_iff.mp H
    obtain ⟨⟨t227, t228, t229, t230, t231, t234, t237⟩, A110, H⟩ := H
    replace H : (if t228 = true then (some (t227, true, t229, t230, t231, t234, t237)) else ((impl_Three_evictMain.f kj1 t229 t230 t231 t234 t237).bind fun bt240 => (some (bt240.1, bt240.2.1, bt240.2.2.1, bt240.2.2.2.1, bt240.2.2.2.2.1, bt240.2.2.2.2.2.1, bt240.2.2.2.2.2.2)))) = some (r1, r2, r3, r4, r5, r6, r7) := H
    have A11 := Aside0.mk A110
    clear A110
    by_cases c12 : t228 = true
    ·subst c12
     have H1 : (some (t227, true, t229, t230, t231, t234, t237)) = some (r1, r2, r3, r4, r5, r6, r7) := by rw [if_pos rfl] at H; exact H
     clear H
     have H := H1
     clear H1
     simp only [Option.some.injEq, Prod.mk.injEq] at H
     obtain ⟨rfl, rfl, rfl, rfl, rfl, rfl, rfl⟩ := H
     have hcz13_0 := bz5 BK226
     go_wp2_with (first | (go_at_call 94; (with_reducible refine (impl_Three_evictSmall.calls kj1 a0_0 a0_1 (fun k_ => some k_ = (.slice Ao3 l0_2.length co3 : Value).ownBlock) (.slice Ao3 l0_2.length co3) l0_2 (fun k_ => some k_ = (.slice Ao4 l0_3.length co4 : Value).ownBlock) (.slice Ao4 l0_3.length co4) l0_3 (fun k_ => some k_ = (.slice Ao5 l0_4.length co5 : Value).ownBlock) (.slice Ao5 l0_4.length co5) l0_4 gb226 t227 true t229 t230 t231 t234 t237 w0 _ ?sideP ?sideW ?side1 ?side2 ?side3 ?side4 ?side5 ?side6 A11.out).mono ?_); (case sideP => exact bk BK226); (case sideW => exact GE226.out); (case side1 => repeat (first | (with_reducible first | exact HB.out | apply below_alloc | apply pw_below_drewN | apply below_drew1 | refine below_set ?_ GE226.out) | exact HB.out)); (case side2 => exact Kd.R_tight rfl HO_227002.out); (case side3 => exact fun k_ e_ => (HO_227002.out.1 k_ e_.symm).2); (case side4 => exact Kd.R_tight rfl HO_227003.out); (case side5 => exact fun k_ e_ => (HO_227003.out.1 k_ e_.symm).2); (case side6 => exact Kd.R_tight rfl HO_227004.out); rintro e w14 ⟨v232, v235, v238, rfl, hblk, ho0, ho1, ho2, hb, hkp⟩; replace BK226 := Aside0.mk hblk; have HO233 := Aside0.mk (Kd.Q_mono (ok' := fun k_ => ((P0_2_ k_ ∨ P0_3_ k_ ∨ P0_4_ k_) ∨ w.heap.size ≤ k_) ∧ some k_ ≠ (v235 : Value).ownBlock) ho0 (fun k_ hk_ => ⟨Or.elim hk_.1 (fun hs_ => Or.elim hs_ (fun hs_ => (HO_227002.out.1 k_ (hs_).symm).1) (fun hs_ => Or.elim hs_ (fun hs_ => (HO_227003.out.1 k_ (hs_).symm).1) (fun hs_ => (HO_227004.out.1 k_ (hs_).symm)))) (fun hn_ => (.inr (Nat.le_trans (by first | exact HK.out.1 | exact (show Kept w _ (fun k_ => (P0_2_ k_ ∨ P0_3_ k_ ∨ P0_4_ k_) ∨ k_ = gb226) from (kr HK)).1) hn_))), hk_.2⟩)); have HO236 := Aside0.mk (Kd.R_mono (ok' := fun k_ => ((P0_2_ k_ ∨ P0_3_ k_ ∨ P0_4_ k_) ∨ w.heap.size ≤ k_) ∧ some k_ ≠ (v232 : Value).ownBlock) ho1 (fun k_ hk_ => ⟨Or.elim hk_.1 (fun hs_ => Or.elim hs_ (fun hs_ => (HO_227002.out.1 k_ (hs_).symm).1) (fun hs_ => Or.elim hs_ (fun hs_ => (HO_227003.out.1 k_ (hs_).symm).1) (fun hs_ => (HO_227004.out.1 k_ (hs_).symm)))) (fun hn_ => (.inr (Nat.le_trans (by first | exact HK.out.1 | exact (show Kept w _ (fun k_ => (P0_2_ k_ ∨ P0_3_ k_ ∨ P0_4_ k_) ∨ k_ = gb226) from (kr HK)).1) hn_))), hk_.2⟩)); have HO239 := Aside0.mk (Kd.Q_mono (ok' := fun k_ => ((P0_2_ k_ ∨ P0_3_ k_ ∨ P0_4_ k_) ∨ w.heap.size ≤ k_)) ho2 (fun k_ hk_ => Or.elim hk_ (fun hs_ => Or.elim hs_ (fun hs_ => (HO_227002.out.1 k_ (hs_).symm).1) (fun hs_ => Or.elim hs_ (fun hs_ => (HO_227003.out.1 k_ (hs_).symm).1) (fun hs_ => (HO_227004.out.1 k_ (hs_).symm)))) (fun hn_ => (.inr (Nat.le_trans (by first | exact HK.out.1 | exact (show Kept w _ (fun k_ => (P0_2_ k_ ∨ P0_3_ k_ ∨ P0_4_ k_) ∨ k_ = gb226) from (kr HK)).1) hn_))))); replace HK := Aside0.mk (Kept.then_ (S := (fun k_ => (P0_2_ k_ ∨ P0_3_ k_ ∨ P0_4_ k_) ∨ k_ = gb226)) (kr HK) hkp (fun k_ hs_ => Or.elim hs_ (fun hs_ => Or.imp_left Or.inl (Or.elim hs_ (fun e_ => (fun e_ => (HO_227002.out.1 k_ e_.symm).1) e_) (fun e_ => Or.elim e_ (fun e_ => (fun e_ => (HO_227003.out.1 k_ e_.symm).1) e_) (fun e_ => (fun e_ => (HO_227004.out.1 k_ e_.symm)) e_)))) (fun e_ => .inl (.inr e_)))); replace HB := Aside0.mk (hb); clear HO_227002; clear HO_227003; clear HO_227004; (try clear hb); (try clear hkp); (try clear ho0); (try clear ho1); (try clear ho2); have hcz15_0 := bz5 BK226; obtain ⟨Ao16, co16, eo16, _⟩ := Kd.Q_slice HO233.out; subst eo16; obtain ⟨Ao17, co17, eo17⟩ := Kd.R_slice HO236.out; subst eo17; obtain ⟨Ao18, co18, eo18, _⟩ := Kd.Q_slice HO239.out; subst eo18; (try clear hblk)))
     go_ret2
     exact ⟨_, _, _, er, (bk BK226), (qo HO233), Kd.Q_of_R (ro HO236), (qo HO239), be1 HB GE226, (kr HK)⟩
    replace c12 := Bool.eq_false_iff.mpr c12
    subst c12
    have H1 : ((impl_Three_evictMain.f kj1 t229 t230 t231 t234 t237).bind fun bt240 => (some (bt240.1, bt240.2.1, bt240.2.2.1, bt240.2.2.2.1, bt240.2.2.2.2.1, bt240.2.2.2.2.2.1, bt240.2.2.2.2.2.2))) = some (r1, r2, r3, r4, r5, r6, r7) := by rw [if_neg (show ¬ (false = true) by decide)] at H; exact H
    clear H
    have H := H1
    clear H1
    replace H := Option.bind_eq_some_iff.mp H
    obtain ⟨⟨t240, t241, t242, t243, t244, t247, t250⟩, A190, H⟩ := H
    replace H : (some (t240, t241, t242, t243, t244, t247, t250)) = some (r1, r2, r3, r4, r5, r6, r7) := H
    have A19 := Aside0.mk A190
    clear A190
    simp only [Option.some.injEq, Prod.mk.injEq] at H
    obtain ⟨rfl, rfl, rfl, rfl, rfl, rfl, rfl⟩ := H
    have hcz20_0 := bz5 BK226
    go_wp2_with (first | (go_at_call 94; (with_reducible refine (impl_Three_evictSmall.calls kj1 a0_0 a0_1 (fun k_ => some k_ = (.slice Ao3 l0_2.length co3 : Value).ownBlock) (.slice Ao3 l0_2.length co3) l0_2 (fun k_ => some k_ = (.slice Ao4 l0_3.length co4 : Value).ownBlock) (.slice Ao4 l0_3.length co4) l0_3 (fun k_ => some k_ = (.slice Ao5 l0_4.length co5 : Value).ownBlock) (.slice Ao5 l0_4.length co5) l0_4 gb226 t227 false t229 t230 t231 t234 t237 w0 _ ?sideP ?sideW ?side1 ?side2 ?side3 ?side4 ?side5 ?side6 A11.out).mono ?_); (case sideP => exact bk BK226); (case sideW => exact GE226.out); (case side1 => repeat (first | (with_reducible first | exact HB.out | apply below_alloc | apply pw_below_drewN | apply below_drew1 | refine below_set ?_ GE226.out) | exact HB.out)); (case side2 => exact Kd.R_tight rfl HO_227002.out); (case side3 => exact fun k_ e_ => (HO_227002.out.1 k_ e_.symm).2); (case side4 => exact Kd.R_tight rfl HO_227003.out); (case side5 => exact fun k_ e_ => (HO_227003.out.1 k_ e_.symm).2); (case side6 => exact Kd.R_tight rfl HO_227004.out); rintro e w21 ⟨v232, v235, v238, rfl, hblk, ho0, ho1, ho2, hb, hkp⟩; replace BK226 := Aside0.mk hblk; have HO233 := Aside0.mk (Kd.Q_mono (ok' := fun k_ => ((P0_2_ k_ ∨ P0_3_ k_ ∨ P0_4_ k_) ∨ w.heap.size ≤ k_) ∧ some k_ ≠ (v235 : Value).ownBlock) ho0 (fun k_ hk_ => ⟨Or.elim hk_.1 (fun hs_ => Or.elim hs_ (fun hs_ => (HO_227002.out.1 k_ (hs_).symm).1) (fun hs_ => Or.elim hs_ (fun hs_ => (HO_227003.out.1 k_ (hs_).symm).1) (fun hs_ => (HO_227004.out.1 k_ (hs_).symm)))) (fun hn_ => (.inr (Nat.le_trans (by first | exact HK.out.1 | exact (show Kept w _ (fun k_ => (P0_2_ k_ ∨ P0_3_ k_ ∨ P0_4_ k_) ∨ k_ = gb226) from (kr HK)).1) hn_))), hk_.2⟩)); have HO236 := Aside0.mk (Kd.R_mono (ok' := fun k_ => ((P0_2_ k_ ∨ P0_3_ k_ ∨ P0_4_ k_) ∨ w.heap.size ≤ k_) ∧ some k_ ≠ (v232 : Value).ownBlock) ho1 (fun k_ hk_ => ⟨Or.elim hk_.1 (fun hs_ => Or.elim hs_ (fun hs_ => (HO_227002.out.1 k_ (hs_).symm).1) (fun hs_ => Or.elim hs_ (fun hs_ => (HO_227003.out.1 k_ (hs_).symm).1) (fun hs_ => (HO_227004.out.1 k_ (hs_).symm)))) (fun hn_ => (.inr (Nat.le_trans (by first | exact HK.out.1 | exact (show Kept w _ (fun k_ => (P0_2_ k_ ∨ P0_3_ k_ ∨ P0_4_ k_) ∨ k_ = gb226) from (kr HK)).1) hn_))), hk_.2⟩)); have HO239 := Aside0.mk (Kd.Q_mono (ok' := fun k_ => ((P0_2_ k_ ∨ P0_3_ k_ ∨ P0_4_ k_) ∨ w.heap.size ≤ k_)) ho2 (fun k_ hk_ => Or.elim hk_ (fun hs_ => Or.elim hs_ (fun hs_ => (HO_227002.out.1 k_ (hs_).symm).1) (fun hs_ => Or.elim hs_ (fun hs_ => (HO_227003.out.1 k_ (hs_).symm).1) (fun hs_ => (HO_227004.out.1 k_ (hs_).symm)))) (fun hn_ => (.inr (Nat.le_trans (by first | exact HK.out.1 | exact (show Kept w _ (fun k_ => (P0_2_ k_ ∨ P0_3_ k_ ∨ P0_4_ k_) ∨ k_ = gb226) from (kr HK)).1) hn_))))); replace HK := Aside0.mk (Kept.then_ (S := (fun k_ => (P0_2_ k_ ∨ P0_3_ k_ ∨ P0_4_ k_) ∨ k_ = gb226)) (kr HK) hkp (fun k_ hs_ => Or.elim hs_ (fun hs_ => Or.imp_left Or.inl (Or.elim hs_ (fun e_ => (fun e_ => (HO_227002.out.1 k_ e_.symm).1) e_) (fun e_ => Or.elim e_ (fun e_ => (fun e_ => (HO_227003.out.1 k_ e_.symm).1) e_) (fun e_ => (fun e_ => (HO_227004.out.1 k_ e_.symm)) e_)))) (fun e_ => .inl (.inr e_)))); replace HB := Aside0.mk (hb); clear HO_227002; clear HO_227003; clear HO_227004; (try clear hb); (try clear hkp); (try clear ho0); (try clear ho1); (try clear ho2); have hcz22_0 := bz5 BK226; obtain ⟨Ao23, co23, eo23, _⟩ := Kd.Q_slice HO233.out; subst eo23; obtain ⟨Ao24, co24, eo24⟩ := Kd.R_slice HO236.out; subst eo24; obtain ⟨Ao25, co25, eo25, _⟩ := Kd.Q_slice HO239.out; subst eo25; (try clear hblk)) | ((with_reducible refine gate_store (t := 30) (p := 39) rfl ?_); (try (rw [drewN_self w21]; generalize hq_ : World.drewN w21 _ = w21; have n0_ := Aside0.mk (Kd.Q_at hq_ HO233.out); have n1_ := Aside0.mk (Kd.R_at hq_ HO236.out); have n2_ := Aside0.mk (Kd.Q_at hq_ HO239.out); have n3_ := Aside0.mk (blk_at hq_ BK226.out); have n4_ := Aside0.mk (kept_at hq_ HK.out); have n5_ := Aside0.mk (below_at hq_ HB.out); clear hq_ HO233 HO236 HO239 BK226 HK HB; have HO233 := n0_; have HO236 := n1_; have HO239 := n2_; have BK226 := n3_; have HK := n4_; have HB := n5_; clear n0_ n1_ n2_ n3_ n4_ n5_)); refine store_event (t := 30) (p := 39) (v := ?vo_w26) (w1 := (((((w21.setCell ⟨gb226, 0, none⟩ (.int .i64 t229)).setCell ⟨gb226, 1, none⟩ (.int .i64 t230)).setCell ⟨gb226, 2, none⟩ (.slice Ao23 t231.length co23)).setCell ⟨gb226, 3, none⟩ (.slice Ao24 t234.length co24)).setCell ⟨gb226, 4, none⟩ (.slice Ao25 t237.length co25))) ?hg ?ho ?hn ?hr ?_; (case ho => rfl); (case hg => rfl); (case hn => rfl); (case hr => first | (go_simp; done) | (go_simp; rfl)); intro w26 hw; have n0_ : Aside0 (Kd.Q k68 68 w26 w0.heap.size (fun k_ => ((P0_2_ k_ ∨ P0_3_ k_ ∨ P0_4_ k_) ∨ w.heap.size ≤ k_) ∧ nb k_ Ao24 t234.length co24) (.slice Ao23 t231.length co23) t231) := ⟨(by rw [hw]; exact (qo HO233))⟩; have n1_ : Aside0 (Kd.R k68 68 w26 w0.heap.size (fun k_ => ((P0_2_ k_ ∨ P0_3_ k_ ∨ P0_4_ k_) ∨ w.heap.size ≤ k_) ∧ nb k_ Ao23 t231.length co23) (.slice Ao24 t234.length co24) t234) := ⟨(by rw [hw]; exact (ro HO236))⟩; have n2_ : Aside0 (Kd.Q (Kd.int .i64) 3 w26 w0.heap.size (fun k_ => ((P0_2_ k_ ∨ P0_3_ k_ ∨ P0_4_ k_) ∨ w.heap.size ≤ k_)) (.slice Ao25 t237.length co25) t237) := ⟨(by rw [hw]; exact (qo HO239))⟩; have n3_ : Aside0 (w26.heap[gb226]? = some (.cells #[.int .i64 t229, .int .i64 t230, .slice Ao23 t231.length co23, .slice Ao24 t234.length co24, .slice Ao25 t237.length co25] 30 (0, 0))) := ⟨(by rw [hw]; exact (bk BK226))⟩; have n4_ : Aside0 (Kept w w26 (fun k_ => (P0_2_ k_ ∨ P0_3_ k_ ∨ P0_4_ k_) ∨ k_ = gb226)) := ⟨(by rw [hw]; exact (kr HK))⟩; have n5_ : Aside0 (Below w0.heap.size w0 w26) := ⟨(by rw [hw]; exact (be1 HB GE226))⟩; clear hw; clear HO233; clear HO236; clear HO239; clear BK226; clear HK; clear HB; have HO233 := n0_; have HO236 := n1_; have HO239 := n2_; have BK226 := n3_; have HK := n4_; have HB := n5_; clear n0_ n1_ n2_ n3_ n4_ n5_; have hcz27_0 := bz5 BK226) | (go_at_call 85; (with_reducible refine (impl_Three_evictMain.calls kj1 t229 t230 (fun k_ => some k_ = (.slice Ao23 t231.length co23 : Value).ownBlock) (.slice Ao23 t231.length co23) t231 (fun k_ => some k_ = (.slice Ao24 t234.length co24 : Value).ownBlock) (.slice Ao24 t234.length co24) t234 (fun k_ => some k_ = (.slice Ao25 t237.length co25 : Value).ownBlock) (.slice Ao25 t237.length co25) t237 gb226 t240 t241 t242 t243 t244 t247 t250 w0 _ ?sideP ?sideW ?side1 ?side2 ?side3 ?side4 ?side5 ?side6 A19.out).mono ?_); (case sideP => exact bk BK226); (case sideW => exact GE226.out); (case side1 => repeat (first | (with_reducible first | exact HB.out | apply below_alloc | apply pw_below_drewN | apply below_drew1 | refine below_set ?_ GE226.out) | exact HB.out)); (case side2 => exact Kd.Q_tight rfl HO233.out); (case side3 => exact fun k_ e_ => (HO233.out.1 k_ e_.symm).2); (case side4 => exact Kd.Q_of_R (Kd.R_tight rfl HO236.out)); (case side5 => exact fun k_ e_ => (HO236.out.1 k_ e_.symm).2); (case side6 => exact Kd.Q_tight rfl HO239.out); rintro e w28 ⟨v245, v248, v251, rfl, hblk, ho0, ho1, ho2, hb, hkp⟩; replace BK226 := Aside0.mk hblk; have HO246 := Aside0.mk (Kd.Q_mono (ok' := fun k_ => ((P0_2_ k_ ∨ P0_3_ k_ ∨ P0_4_ k_) ∨ w.heap.size ≤ k_) ∧ some k_ ≠ (v248 : Value).ownBlock) ho0 (fun k_ hk_ => ⟨Or.elim hk_.1 (fun hs_ => Or.elim hs_ (fun hs_ => (HO233.out.1 k_ (hs_).symm).1) (fun hs_ => Or.elim hs_ (fun hs_ => (HO236.out.1 k_ (hs_).symm).1) (fun hs_ => (HO239.out.1 k_ (hs_).symm)))) (fun hn_ => (.inr (Nat.le_trans (by first | exact HK.out.1 | exact (show Kept w _ (fun k_ => (P0_2_ k_ ∨ P0_3_ k_ ∨ P0_4_ k_) ∨ k_ = gb226) from (kr HK)).1) hn_))), hk_.2⟩)); have HO249 := Aside0.mk (Kd.Q_mono (ok' := fun k_ => ((P0_2_ k_ ∨ P0_3_ k_ ∨ P0_4_ k_) ∨ w.heap.size ≤ k_) ∧ some k_ ≠ (v245 : Value).ownBlock) ho1 (fun k_ hk_ => ⟨Or.elim hk_.1 (fun hs_ => Or.elim hs_ (fun hs_ => (HO233.out.1 k_ (hs_).symm).1) (fun hs_ => Or.elim hs_ (fun hs_ => (HO236.out.1 k_ (hs_).symm).1) (fun hs_ => (HO239.out.1 k_ (hs_).symm)))) (fun hn_ => (.inr (Nat.le_trans (by first | exact HK.out.1 | exact (show Kept w _ (fun k_ => (P0_2_ k_ ∨ P0_3_ k_ ∨ P0_4_ k_) ∨ k_ = gb226) from (kr HK)).1) hn_))), hk_.2⟩)); have HO252 := Aside0.mk (Kd.Q_mono (ok' := fun k_ => ((P0_2_ k_ ∨ P0_3_ k_ ∨ P0_4_ k_) ∨ w.heap.size ≤ k_)) ho2 (fun k_ hk_ => Or.elim hk_ (fun hs_ => Or.elim hs_ (fun hs_ => (HO233.out.1 k_ (hs_).symm).1) (fun hs_ => Or.elim hs_ (fun hs_ => (HO236.out.1 k_ (hs_).symm).1) (fun hs_ => (HO239.out.1 k_ (hs_).symm)))) (fun hn_ => (.inr (Nat.le_trans (by first | exact HK.out.1 | exact (show Kept w _ (fun k_ => (P0_2_ k_ ∨ P0_3_ k_ ∨ P0_4_ k_) ∨ k_ = gb226) from (kr HK)).1) hn_))))); replace HK := Aside0.mk (Kept.then_ (S := (fun k_ => (P0_2_ k_ ∨ P0_3_ k_ ∨ P0_4_ k_) ∨ k_ = gb226)) (kr HK) hkp (fun k_ hs_ => Or.elim hs_ (fun hs_ => Or.imp_left Or.inl (Or.elim hs_ (fun e_ => (fun e_ => (HO233.out.1 k_ e_.symm).1) e_) (fun e_ => Or.elim e_ (fun e_ => (fun e_ => (HO236.out.1 k_ e_.symm).1) e_) (fun e_ => (fun e_ => (HO239.out.1 k_ e_.symm)) e_)))) (fun e_ => .inl (.inr e_)))); replace HB := Aside0.mk (hb); clear HO233; clear HO236; clear HO239; (try clear hb); (try clear hkp); (try clear ho0); (try clear ho1); (try clear ho2); have hcz29_0 := bz5 BK226; obtain ⟨Ao30, co30, eo30, _⟩ := Kd.Q_slice HO246.out; subst eo30; obtain ⟨Ao31, co31, eo31, _⟩ := Kd.Q_slice HO249.out; subst eo31; obtain ⟨Ao32, co32, eo32, _⟩ := Kd.Q_slice HO252.out; subst eo32; (try clear hblk)))
    go_ret2
    exact ⟨_, _, _, er, (bk BK226), (qo HO246), (qo HO249), (qo HO252), be1 HB GE226, (kr HK)⟩
   replace c10 := Bool.eq_false_iff.mpr c10
   subst c10
   have H1 : ((impl_Three_evictMain.f kj1 a0_0 a0_1 l0_2 l0_3 l0_4).bind fun bt253 => (some (bt253.1, bt253.2.1, bt253.2.2.1, bt253.2.2.2.1, bt253.2.2.2.2.1, bt253.2.2.2.2.2.1, bt253.2.2.2.2.2.2))) = some (r1, r2, r3, r4, r5, r6, r7) := by rw [if_neg (show ¬ (false = true) by decide)] at H; exact H
   clear H
   have H := H1
   clear H1
   replace H := Option.bind_eq_some_iff.mp H
   obtain ⟨⟨t253, t254, t255, t256, t257, t260, t263⟩, A330, H⟩ := H
   replace H : (some (t253, t254, t255, t256, t257, t260, t263)) = some (r1, r2, r3, r4, r5, r6, r7) := H
   have A33 := Aside0.mk A330
   clear A330
   simp only [Option.some.injEq, Prod.mk.injEq] at H
   obtain ⟨rfl, rfl, rfl, rfl, rfl, rfl, rfl⟩ := H
   have hcz34_0 := bz5 BK226
   go_wp2_with (first | (go_at_call 85; (with_reducible refine (impl_Three_evictMain.calls kj1 a0_0 a0_1 (fun k_ => some k_ = (.slice Ao3 l0_2.length co3 : Value).ownBlock) (.slice Ao3 l0_2.length co3) l0_2 (fun k_ => some k_ = (.slice Ao4 l0_3.length co4 : Value).ownBlock) (.slice Ao4 l0_3.length co4) l0_3 (fun k_ => some k_ = (.slice Ao5 l0_4.length co5 : Value).ownBlock) (.slice Ao5 l0_4.length co5) l0_4 gb226 t253 t254 t255 t256 t257 t260 t263 w0 _ ?sideP ?sideW ?side1 ?side2 ?side3 ?side4 ?side5 ?side6 A33.out).mono ?_); (case sideP => exact bk BK226); (case sideW => exact GE226.out); (case side1 => repeat (first | (with_reducible first | exact HB.out | apply below_alloc | apply pw_below_drewN | apply below_drew1 | refine below_set ?_ GE226.out) | exact HB.out)); (case side2 => exact Kd.Q_of_R (Kd.R_tight rfl HO_227002.out)); (case side3 => exact fun k_ e_ => (HO_227002.out.1 k_ e_.symm).2); (case side4 => exact Kd.Q_of_R (Kd.R_tight rfl HO_227003.out)); (case side5 => exact fun k_ e_ => (HO_227003.out.1 k_ e_.symm).2); (case side6 => exact Kd.Q_of_R (Kd.R_tight rfl HO_227004.out)); rintro e w35 ⟨v258, v261, v264, rfl, hblk, ho0, ho1, ho2, hb, hkp⟩; replace BK226 := Aside0.mk hblk; have HO259 := Aside0.mk (Kd.Q_mono (ok' := fun k_ => ((P0_2_ k_ ∨ P0_3_ k_ ∨ P0_4_ k_) ∨ w.heap.size ≤ k_) ∧ some k_ ≠ (v261 : Value).ownBlock) ho0 (fun k_ hk_ => ⟨Or.elim hk_.1 (fun hs_ => Or.elim hs_ (fun hs_ => (HO_227002.out.1 k_ (hs_).symm).1) (fun hs_ => Or.elim hs_ (fun hs_ => (HO_227003.out.1 k_ (hs_).symm).1) (fun hs_ => (HO_227004.out.1 k_ (hs_).symm)))) (fun hn_ => (.inr (Nat.le_trans (by first | exact HK.out.1 | exact (show Kept w _ (fun k_ => (P0_2_ k_ ∨ P0_3_ k_ ∨ P0_4_ k_) ∨ k_ = gb226) from (kr HK)).1) hn_))), hk_.2⟩)); have HO262 := Aside0.mk (Kd.Q_mono (ok' := fun k_ => ((P0_2_ k_ ∨ P0_3_ k_ ∨ P0_4_ k_) ∨ w.heap.size ≤ k_) ∧ some k_ ≠ (v258 : Value).ownBlock) ho1 (fun k_ hk_ => ⟨Or.elim hk_.1 (fun hs_ => Or.elim hs_ (fun hs_ => (HO_227002.out.1 k_ (hs_).symm).1) (fun hs_ => Or.elim hs_ (fun hs_ => (HO_227003.out.1 k_ (hs_).symm).1) (fun hs_ => (HO_227004.out.1 k_ (hs_).symm)))) (fun hn_ => (.inr (Nat.le_trans (by first | exact HK.out.1 | exact (show Kept w _ (fun k_ => (P0_2_ k_ ∨ P0_3_ k_ ∨ P0_4_ k_) ∨ k_ = gb226) from (kr HK)).1) hn_))), hk_.2⟩)); have HO265 := Aside0.mk (Kd.Q_mono (ok' := fun k_ => ((P0_2_ k_ ∨ P0_3_ k_ ∨ P0_4_ k_) ∨ w.heap.size ≤ k_)) ho2 (fun k_ hk_ => Or.elim hk_ (fun hs_ => Or.elim hs_ (fun hs_ => (HO_227002.out.1 k_ (hs_).symm).1) (fun hs_ => Or.elim hs_ (fun hs_ => (HO_227003.out.1 k_ (hs_).symm).1) (fun hs_ => (HO_227004.out.1 k_ (hs_).symm)))) (fun hn_ => (.inr (Nat.le_trans (by first | exact HK.out.1 | exact (show Kept w _ (fun k_ => (P0_2_ k_ ∨ P0_3_ k_ ∨ P0_4_ k_) ∨ k_ = gb226) from (kr HK)).1) hn_))))); replace HK := Aside0.mk (Kept.then_ (S := (fun k_ => (P0_2_ k_ ∨ P0_3_ k_ ∨ P0_4_ k_) ∨ k_ = gb226)) (kr HK) hkp (fun k_ hs_ => Or.elim hs_ (fun hs_ => Or.imp_left Or.inl (Or.elim hs_ (fun e_ => (fun e_ => (HO_227002.out.1 k_ e_.symm).1) e_) (fun e_ => Or.elim e_ (fun e_ => (fun e_ => (HO_227003.out.1 k_ e_.symm).1) e_) (fun e_ => (fun e_ => (HO_227004.out.1 k_ e_.symm)) e_)))) (fun e_ => .inl (.inr e_)))); replace HB := Aside0.mk (hb); clear HO_227002; clear HO_227003; clear HO_227004; (try clear hb); (try clear hkp); (try clear ho0); (try clear ho1); (try clear ho2); have hcz36_0 := bz5 BK226; obtain ⟨Ao37, co37, eo37, _⟩ := Kd.Q_slice HO259.out; subst eo37; obtain ⟨Ao38, co38, eo38, _⟩ := Kd.Q_slice HO262.out; subst eo38; obtain ⟨Ao39, co39, eo39, _⟩ := Kd.Q_slice HO265.out; subst eo39; (try clear hblk)))
   go_ret2
   exact ⟨_, _, _, er, (bk BK226), (qo HO259), (qo HO262), (qo HO265), be1 HB GE226, (kr HK)⟩

/-! ### impl_Put_1: function 99 -/
def impl_Put_1.f (l0 : List Int) (a1 : Int) : Option (List Int) := if 0 < l0.length then some (l0.filter fun x => !decide (x = a1)) else some l0
theorem idx_noneP (A : Option Addr) (c B : Nat) (w : World) : Calls Try.prog 120 #[.slice A 0 c, .func (.func 99) #[] #[.pointer (some ⟨B, 0, none⟩)]] w fun e w' => e = .returned (.int .i64 (-1)) ∧ Below w.heap.size w w' := by
 have HB := Aside0.mk (Below.refl w.heap.size w)
 go_enter Try.func120, Try.ntmps120
 go_wp2
 go_loopg [5, 8] 0 (fun gg _ v8 wr => v8 = .int .i64 0 ∧ Aside0 (Below w.heap.size w wr))
 case atStart => exact ⟨rfl, HB⟩
 case round =>
  obtain ⟨rfl, HB⟩ := hrel
  go_wp2
  go_ret
  exact ⟨rfl, HB.out⟩
theorem del_noneP (A : Option Addr) (n c B : Nat) (w : World) (hn : n = 0) : Calls Try.prog 98 #[.slice A n c, .func (.func 99) #[] #[.pointer (some ⟨B, 0, none⟩)]] w fun e w' => e = .returned (.slice A n c) ∧ Below w.heap.size w w' := by
 subst hn
 have hI := idx_noneP A c B w
 go_enter Try.func98, Try.ntmps98
 go_wp2_with (go_at_call 120; refine hI.mono ?_; rintro e w1 ⟨rfl, hb⟩; have HB := Aside0.mk hb; clear hb)
 go_ret
 exact ⟨rfl, HB.out⟩
set_option maxHeartbeats 8000000 in
set_option maxRecDepth 100000 in
theorem impl_Put_1.calls (P0_ : Nat → Prop) (u9000_ : Value) (l0 : List Int) (a1 : Int) (gP : Nat) (r : List Int) (w0 w : World) (hP : w.heap[gP]? = some (.cells #[.int .i64 a1] 3 (0, 0))) (hN : ∀ k, u9000_.ownBlock = some k → k ≠ gP) (hB : Below w0.heap.size w0 w) (ho0 : Kd.Q (Kd.int .i64) 3 w w0.heap.size P0_ u9000_ l0) (h : impl_Put_1.f l0 a1 = some r) :
  Calls Try.prog 98 #[u9000_, .func (.func 99) #[] #[.pointer (some ⟨gP, 0, none⟩)]] w fun e w' => ∃ v0_ : Value, e = .returned (v0_) ∧ Kd.Q (Kd.int .i64) 3 w' w0.heap.size (fun k_ => (P0_ k_ ∨ w.heap.size ≤ k_)) v0_ r ∧ Below w0.heap.size w0 w' ∧ Kept w w' (fun k_ => P0_ k_) := by
 have h' : (if 0 < l0.length then some (l0.filter fun x => !decide (x = a1)) else some l0) = some r := h
 clear h
 by_cases hn : 0 < l0.length
 case neg =>
  rw [if_neg hn] at h'
  obtain rfl := Option.some.inj h'
  obtain ⟨A, c, rfl, _⟩ := Kd.Q_slice ho0
  refine (del_noneP A l0.length c gP w (by omega)).mono ?_
  rintro e w' ⟨rfl, hb⟩
  exact ⟨_, rfl, Kd.Q_mono (Kd.Q_below ho0 hb) (fun _ hk => .inl hk), below_step hB hb, Kept.below (S := fun k_ => P0_ k_) (Kept.refl w _) hb⟩
 rw [if_pos hn] at h'
 obtain rfl := Option.some.inj h'
 clear h'
 obtain ⟨g, off, cap, cur, rfl, hg, hh, hc1, hc2, hs, hok, hH⟩ := Del5.opened ho0 hn
 have hm : off + cap ≤ 9223372036854775807 := hc2
 refine (Del5.calls a1 gP g off cap l0.toArray w (blk_lt hP) (fun e => hN g rfl e.symm) ((blk_cell hP 0).trans rfl) hH (by simp; omega) (by simpa using hc1)).mono ?_
 rintro e w' ⟨rfl, q, rfl⟩
 have hF := List.length_filter_le (fun x => !decide (x = a1)) l0
 simp only [List.size_toArray, List.toList_toArray]
 generalize (l0.filter fun x => !decide (x = a1)) = F at hF ⊢
 have hy : (F ++ List.replicate (l0.length - F.length) (0 : Int)).length = l0.length := by simp; omega
 rw [Go.Lib.putRow_eq_setCells (Value.int .i64) w g off l0.toArray _ q hH (by rw [hy]; simp)]
 obtain ⟨cur', h1, h2, h3⟩ := Ow.heap_setCells g 3 ((F ++ List.replicate (l0.length - F.length) (0 : Int)).map (Value.int .i64)) off (w.drewN q) cur hh (by rw [List.length_map, hy]; omega)
 refine ⟨_, rfl, ?_, Ow.below_setCells hg _ _ _ (pw_below_drewN hB q), Ow.kept_setCells (W := w.drewN q) hok _ _ _ (Kept.refl w _)⟩
 refine Del5.made (.inl hok) hg h1 (by omega) hc2 (by omega) ?_
 have hlt : off ≤ cur.toList.length := by rw [Array.length_toList]; omega
 rw [h3, List.append_assoc, List.drop_append_of_le_length (by rw [List.length_take]; omega), List.drop_of_length_le (by rw [List.length_take]; omega), List.nil_append, List.map_append, List.append_assoc, List.take_append_of_le_length (by simp), List.take_of_length_le (by simp)]


