-- made by a program of this session (myprint.py)
import Derived.Test.YtfjhkediaholmaaQFnExactEvictx0
import Derived.Test.YtfjhkediaholmaaQFnExactEvictx12
import Derived.Test.YtfjhkediaholmaaQFnExactEvictx13
import Derived.Test.YtfjhkediaholmaaQFnExactEvictx14
namespace Go.Proofs.Ytfjhkediaholmaa.QFnExactEvict
open Go.RowKit Go.Proofs.YtfjhkediaholmaaW.PrintWords Go.Proofs.YtfjhkediaholmaaW.PrintLast Go.Proofs.YtfjhkediaholmaaW.PrintMore
attribute [local go_sem] max2_int min2_int max_two min_two max_three min_three max_four min_four   -- for this text's walks alone
set_option linter.unusedVariables false
set_option linter.unusedSimpArgs false

/-! ### impl_Three_evict: function 95 -/
def impl_Three_evict.j0 : Nat → Bool → Int → Int → List (S68) → List (S68) → List Int → Option (ByteArray × Bool × Int × Int × (List (S68)) × (List (S68)) × List Int)
 | 0, _, _, _, _, _, _ => none
 | k + 1, x23, x457000, x457001, x457002, x457003, x457004 => if x23 = true then ((impl_Three_evictSmall.f k x457000 x457001 x457002 x457003 x457004).bind fun bt457 => (if bt457.2.1 = true then (some (bt457.1, true, bt457.2.2.1, bt457.2.2.2.1, bt457.2.2.2.2.1, bt457.2.2.2.2.2.1, bt457.2.2.2.2.2.2)) else ((impl_Three_evictMain.f k bt457.2.2.1 bt457.2.2.2.1 bt457.2.2.2.2.1 bt457.2.2.2.2.2.1 bt457.2.2.2.2.2.2).bind fun bt470 => (some (bt470.1, bt470.2.1, bt470.2.2.1, bt470.2.2.2.1, bt470.2.2.2.2.1, bt470.2.2.2.2.2.1, bt470.2.2.2.2.2.2))))) else ((impl_Three_evictMain.f k x457000 x457001 x457002 x457003 x457004).bind fun bt483 => (some (bt483.1, bt483.2.1, bt483.2.2.1, bt483.2.2.2.1, bt483.2.2.2.2.1, bt483.2.2.2.2.2.1, bt483.2.2.2.2.2.2)))
def impl_Three_evict.f (k : Nat) (a0_0 : Int) (a0_1 : Int) (l0_2 : List (S68)) (l0_3 : List (S68)) (l0_4 : List Int) : Option (ByteArray × Bool × Int × Int × (List (S68)) × (List (S68)) × List Int) := if (l0_2.length : Int) ≥ a0_1 then (impl_Three_evict.j0 k true a0_0 a0_1 l0_2 l0_3 l0_4) else (impl_Three_evict.j0 k ((l0_3.length : Int) == 0) a0_0 a0_1 l0_2 l0_3 l0_4)
theorem impl_Three_evict.mono_l : ∀ k, (∀ y0 y1 y2 y3 y4 y5, LeO (impl_Three_evict.j0 k y0 y1 y2 y3 y4 y5) (impl_Three_evict.j0 (k + 1) y0 y1 y2 y3 y4 y5))
 | 0 => fun _ _ _ _ _ _ r h => by simp [impl_Three_evict.j0] at h
 | k + 1 => by
  have ih0 := impl_Three_evict.mono_l k
  ·intro y0 y1 y2 y3 y4 y5
   unfold impl_Three_evict.j0
   repeat' first
   | (with_reducible exact ih0 _ _ _ _ _ _)
   | (with_reducible exact impl_Three_evictMain.mono _ _ _ _ _ _)
   | (with_reducible exact impl_Three_evictSmall.mono _ _ _ _ _ _)
   | (with_reducible exact LeO.refl _)
   | (with_reducible exact LeO.none _)
   | (with_reducible refine LeO.ite ?_ ?_)
   | (with_reducible refine LeO.bind ?_ (fun _ => ?_))
   | exact ih0 _ _ _ _ _ _
   | exact impl_Three_evictMain.mono _ _ _ _ _ _
   | exact impl_Three_evictSmall.mono _ _ _ _ _ _
   | exact LeO.none _
   | refine LeO.ite ?_ ?_
   | refine LeO.bind ?_ (fun _ => ?_)
theorem impl_Three_evict.mono : ∀ a0 a1 a2 a3 a4 k, LeO (impl_Three_evict.f k a0 a1 a2 a3 a4) (impl_Three_evict.f (k + 1) a0 a1 a2 a3 a4) := by
 intro a0 a1 a2 a3 a4 k
 have ih0 := impl_Three_evict.mono_l k
 unfold impl_Three_evict.f
 repeat' first
   | (with_reducible exact ih0 _ _ _ _ _ _)
   | (with_reducible exact impl_Three_evictMain.mono _ _ _ _ _ _)
   | (with_reducible exact impl_Three_evictSmall.mono _ _ _ _ _ _)
   | (with_reducible exact LeO.refl _)
   | (with_reducible exact LeO.none _)
   | (with_reducible refine LeO.ite ?_ ?_)
   | (with_reducible refine LeO.bind ?_ (fun _ => ?_))
   | exact ih0 _ _ _ _ _ _
   | exact impl_Three_evictMain.mono _ _ _ _ _ _
   | exact impl_Three_evictSmall.mono _ _ _ _ _ _
   | exact LeO.none _
   | refine LeO.ite ?_ ?_
   | refine LeO.bind ?_ (fun _ => ?_)
set_option maxHeartbeats 8000000 in
set_option maxRecDepth 100000 in
theorem impl_Three_evict.calls (k : Nat) (a0_0 : Int) (a0_1 : Int) (P0_2_ : Nat → Prop) (u9000_ : Value) (l0_2 : List (S68)) (P0_3_ : Nat → Prop) (u9001_ : Value) (l0_3 : List (S68)) (P0_4_ : Nat → Prop) (u9002_ : Value) (l0_4 : List Int) (gb456 : Nat) (r1 : ByteArray) (r2 : Bool) (r3 : Int) (r4 : Int) (r5 : List (S68)) (r6 : List (S68)) (r7 : List Int) (w0 w : World) (hP : w.heap[gb456]? = some (.cells #[.int .i64 a0_0, .int .i64 a0_1, u9000_, u9001_, u9002_] 30 (0, 0))) (hW : w0.heap.size ≤ gb456) (hB : Below w0.heap.size w0 w) (ho0_2 : Kd.R k68 68 w w0.heap.size P0_2_ u9000_ l0_2) (hp0_2_0_3 : ∀ k_, P0_2_ k_ → ¬ P0_3_ k_) (ho0_3 : Kd.R k68 68 w w0.heap.size P0_3_ u9001_ l0_3) (hp0_3_0_2 : ∀ k_, P0_3_ k_ → ¬ P0_2_ k_) (ho0_4 : Kd.R (Kd.int .i64) 3 w w0.heap.size P0_4_ u9002_ l0_4) (h : impl_Three_evict.f k a0_0 a0_1 l0_2 l0_3 l0_4 = some (r1, r2, r3, r4, r5, r6, r7)) :
  Calls Try.prog 95 #[.pointer (some ⟨gb456, 0, none⟩)] w fun e w' => ∃ v4_ v5_ v6_ : Value, e = .returned (.tuple #[.string r1, .bool r2]) ∧ w'.heap[gb456]? = some (.cells #[.int .i64 r3, .int .i64 r4, v4_, v5_, v6_] 30 (0, 0)) ∧ Kd.Q k68 68 w' w0.heap.size (fun k_ => ((P0_2_ k_ ∨ P0_3_ k_ ∨ P0_4_ k_) ∨ w.heap.size ≤ k_) ∧ some k_ ≠ (v5_ : Value).ownBlock) v4_ r5 ∧ Kd.Q k68 68 w' w0.heap.size (fun k_ => ((P0_2_ k_ ∨ P0_3_ k_ ∨ P0_4_ k_) ∨ w.heap.size ≤ k_) ∧ some k_ ≠ (v4_ : Value).ownBlock) v5_ r6 ∧ Kd.Q (Kd.int .i64) 3 w' w0.heap.size (fun k_ => ((P0_2_ k_ ∨ P0_3_ k_ ∨ P0_4_ k_) ∨ w.heap.size ≤ k_)) v6_ r7 ∧ Below w0.heap.size w0 w' ∧ Kept w w' (fun k_ => (P0_2_ k_ ∨ P0_3_ k_ ∨ P0_4_ k_) ∨ k_ = gb456) := by
 have hu30 := Try.underlying30
 have HO0_2 := Aside0.mk (show Kd.R k68 68 w w0.heap.size (fun k_ => ((P0_2_ k_ ∨ P0_3_ k_ ∨ P0_4_ k_) ∨ w.heap.size ≤ k_) ∧ some k_ ≠ (u9001_ : Value).ownBlock) u9000_ l0_2 from Kd.R_mono ho0_2 (fun k_ hk => ⟨(.inl (.inl hk)), fun e_ => hp0_2_0_3 k_ hk (ho0_3.1 k_ e_.symm)⟩))
 have HO0_3 := Aside0.mk (show Kd.R k68 68 w w0.heap.size (fun k_ => ((P0_2_ k_ ∨ P0_3_ k_ ∨ P0_4_ k_) ∨ w.heap.size ≤ k_) ∧ some k_ ≠ (u9000_ : Value).ownBlock) u9001_ l0_3 from Kd.R_mono ho0_3 (fun k_ hk => ⟨(.inl (.inr (.inl hk))), fun e_ => hp0_3_0_2 k_ hk (ho0_2.1 k_ e_.symm)⟩))
 have HO0_4 := Aside0.mk (show Kd.R (Kd.int .i64) 3 w w0.heap.size (fun k_ => ((P0_2_ k_ ∨ P0_3_ k_ ∨ P0_4_ k_) ∨ w.heap.size ≤ k_)) u9002_ l0_4 from Kd.R_mono ho0_4 (fun k_ hk => (.inl (.inr (.inr hk)))))
 have HK := Aside0.mk (Kept.refl w (fun k_ => (P0_2_ k_ ∨ P0_3_ k_ ∨ P0_4_ k_) ∨ k_ = gb456))
 have HW0 := Aside0.mk hB.size
 have HB := Aside0.mk hB
 clear hB
 have BK456 := Aside0.mk hP
 have GE456 := Aside0.mk hW
 clear hP hW
 have H : (if (l0_2.length : Int) ≥ a0_1 then (impl_Three_evict.j0 k true a0_0 a0_1 l0_2 l0_3 l0_4) else (impl_Three_evict.j0 k ((l0_3.length : Int) == 0) a0_0 a0_1 l0_2 l0_3 l0_4)) = some (r1, r2, r3, r4, r5, r6, r7) := h
 clear h
 have HC2 := Aside0.mk H
 clear H
 obtain ⟨Ao3, co3, eo3⟩ := Kd.R_slice HO0_2.out
 subst eo3
 obtain ⟨Ao4, co4, eo4⟩ := Kd.R_slice HO0_3.out
 subst eo4
 obtain ⟨Ao5, co5, eo5⟩ := Kd.R_slice HO0_4.out
 subst eo5
 go_enter Try.func95, Try.ntmps95
 go_wp2
 go_wp2
 (try simp only [Act.put, List.setIfInBounds_toArray, List.set_cons_zero, List.set_cons_succ])
 go_cut [23] (fun v23 wc => ∃ (kq : Nat) (x23_1 : Bool), v23 = .bool x23_1 ∧ Aside0 (impl_Three_evict.j0 kq x23_1 a0_0 a0_1 l0_2 l0_3 l0_4 = some (r1, r2, r3, r4, r5, r6, r7)) ∧ Aside0 (kq ≤ k) ∧ Aside0 (Kd.R k68 68 wc w0.heap.size (fun k_ => ((P0_2_ k_ ∨ P0_3_ k_ ∨ P0_4_ k_) ∨ w.heap.size ≤ k_) ∧ nb k_ Ao4 l0_3.length co4) (.slice Ao3 l0_2.length co3) l0_2) ∧ Aside0 (Kd.R k68 68 wc w0.heap.size (fun k_ => ((P0_2_ k_ ∨ P0_3_ k_ ∨ P0_4_ k_) ∨ w.heap.size ≤ k_) ∧ nb k_ Ao3 l0_2.length co3) (.slice Ao4 l0_3.length co4) l0_3) ∧ Aside0 (Kd.R (Kd.int .i64) 3 wc w0.heap.size (fun k_ => ((P0_2_ k_ ∨ P0_3_ k_ ∨ P0_4_ k_) ∨ w.heap.size ≤ k_)) (.slice Ao5 l0_4.length co5) l0_4) ∧ Aside0 (wc.heap[gb456]? = some (.cells #[.int .i64 a0_0, .int .i64 a0_1, (.slice Ao3 l0_2.length co3), (.slice Ao4 l0_3.length co4), (.slice Ao5 l0_4.length co5)] 30 (0, 0))) ∧ Aside0 (Kept w wc (fun k_ => (P0_2_ k_ ∨ P0_3_ k_ ∨ P0_4_ k_) ∨ k_ = gb456)) ∧ Aside0 (Below w0.heap.size w0 wc))
 case first =>
  have H := HC2.out
  clear HC2
  by_cases c7 : (l0_2.length : Int) ≥ a0_1
  ·rw [if_pos c7] at H
   have c7b0 : decide (a0_1 ≤ (l0_2.length : Int)) = true := decide_eq_true c7
   clear c7
   (first | rw [c7b0] | (simp only [i64_w, i32_w]; rw [c7b0]) | skip)
   have H' := Aside0.mk H
   clear H
   have hcz8_0 := bz5 BK456
   go_wp2
   repeat (go_quiet (fail); try go_wp2)
   go_meet
   case rel => exact ⟨_, (true), rs, H', ⟨by first | omega | exact Nat.le_refl _⟩, ⟨ro HO0_2⟩, ⟨ro HO0_3⟩, ⟨ro HO0_4⟩, ⟨bk BK456⟩, ⟨(kr HK)⟩, ⟨be1 HB GE456⟩⟩
  rw [if_neg c7] at H
  have c7b0 : decide (a0_1 ≤ (l0_2.length : Int)) = false := decide_eq_false c7
  clear c7
  (first | rw [c7b0] | (simp only [i64_w, i32_w]; rw [c7b0]) | skip)
  have H' := Aside0.mk H
  clear H
  have hcz9_0 := bz5 BK456
  go_wp2
  repeat (go_quiet (fail); try go_wp2)
  go_meet
  case rel => exact ⟨_, (((l0_3.length : Int) == 0)), rs, H', ⟨by first | omega | exact Nat.le_refl _⟩, ⟨ro HO0_2⟩, ⟨ro HO0_3⟩, ⟨ro HO0_4⟩, ⟨bk BK456⟩, ⟨(kr HK)⟩, ⟨be1 HB GE456⟩⟩
 case rest =>
  clear HC2
  try clear p2; try clear c7; try clear c7b0; try clear c9; try clear hcz8_0; try clear hcz9_0
  obtain ⟨kq, x23_1, rfl, HA, HJ1, HO_457002, HO_457003, HO_457004, BK456, HK, HB⟩ := hcut
  cases kq with
  | zero => exact absurd HA.out (by simp [impl_Three_evict.j0])
  | succ kj1 =>
   have H := HA.out
   clear HA
   simp only [impl_Three_evict.j0] at H
   by_cases c10 : x23_1 = true
   ·subst c10
    have H1 : ((impl_Three_evictSmall.f kj1 a0_0 a0_1 l0_2 l0_3 l0_4).bind fun bt457 => (if bt457.2.1 = true then (some (bt457.1, true, bt457.2.2.1, bt457.2.2.2.1, bt457.2.2.2.2.1, bt457.2.2.2.2.2.1, bt457.2.2.2.2.2.2)) else ((impl_Three_evictMain.f kj1 bt457.2.2.1 bt457.2.2.2.1 bt457.2.2.2.2.1 bt457.2.2.2.2.2.1 bt457.2.2.2.2.2.2).bind fun bt470 => (some (bt470.1, bt470.2.1, bt470.2.2.1, bt470.2.2.2.1, bt470.2.2.2.2.1, bt470.2.2.2.2.2.1, bt470.2.2.2.2.2.2))))) = some (r1, r2, r3, r4, r5, r6, r7) := by rw [if_pos rfl] at H; exact H
    clear H
    have H := H1
    clear H1
    replace H := Option.bind_eq_some_iff.mp H
    obtain ⟨⟨t457, t458, t459, t460, t461, t464, t467⟩, A110, H⟩ := H
    replace H : (if t458 = true then (some (t457, true, t459, t460, t461, t464, t467)) else ((impl_Three_evictMain.f kj1 t459 t460 t461 t464 t467).bind fun bt470 => (some (bt470.1, bt470.2.1, bt470.2.2.1, bt470.2.2.2.1, bt470.2.2.2.2.1, bt470.2.2.2.2.2.1, bt470.2.2.2.2.2.2)))) = some (r1, r2, r3, r4, r5, r6, r7) := H
    have A11 := Aside0.mk A110
    clear A110
    by_cases c12 : t458 = true
    ·subst c12
     have H1 : (some (t457, true, t459, t460, t461, t464, t467)) = some (r1, r2, r3, r4, r5, r6, r7) := by rw [if_pos rfl] at H; exact H
     clear H
     have H := H1
     clear H1
     simp only [Option.some.injEq, Prod.mk.injEq] at H
     obtain ⟨rfl, rfl, rfl, rfl, rfl, rfl, rfl⟩ := H
     have hcz13_0 := bz5 BK456
     go_wp2_with (first | (go_at_call 94; (with_reducible refine (impl_Three_evictSmall.calls kj1 a0_0 a0_1 (fun k_ => some k_ = (.slice Ao3 l0_2.length co3 : Value).ownBlock) (.slice Ao3 l0_2.length co3) l0_2 (fun k_ => some k_ = (.slice Ao4 l0_3.length co4 : Value).ownBlock) (.slice Ao4 l0_3.length co4) l0_3 (fun k_ => some k_ = (.slice Ao5 l0_4.length co5 : Value).ownBlock) (.slice Ao5 l0_4.length co5) l0_4 gb456 t457 true t459 t460 t461 t464 t467 w0 _ ?sideP ?sideW ?side1 ?side2 ?side3 ?side4 ?side5 ?side6 A11.out).mono ?_); (case sideP => exact bk BK456); (case sideW => exact GE456.out); (case side1 => repeat (first | (with_reducible first | exact HB.out | apply below_alloc | apply pw_below_drewN | apply below_drew1 | refine below_set ?_ GE456.out) | exact HB.out)); (case side2 => exact Kd.R_tight rfl HO_457002.out); (case side3 => exact fun k_ e_ => (HO_457002.out.1 k_ e_.symm).2); (case side4 => exact Kd.R_tight rfl HO_457003.out); (case side5 => exact fun k_ e_ => (HO_457003.out.1 k_ e_.symm).2); (case side6 => exact Kd.R_tight rfl HO_457004.out); rintro e w14 ⟨v462, v465, v468, rfl, hblk, ho0, ho1, ho2, hb, hkp⟩; replace BK456 := Aside0.mk hblk; have HO463 := Aside0.mk (Kd.Q_mono (ok' := fun k_ => ((P0_2_ k_ ∨ P0_3_ k_ ∨ P0_4_ k_) ∨ w.heap.size ≤ k_) ∧ some k_ ≠ (v465 : Value).ownBlock) ho0 (fun k_ hk_ => ⟨Or.elim hk_.1 (fun hs_ => Or.elim hs_ (fun hs_ => (HO_457002.out.1 k_ (hs_).symm).1) (fun hs_ => Or.elim hs_ (fun hs_ => (HO_457003.out.1 k_ (hs_).symm).1) (fun hs_ => (HO_457004.out.1 k_ (hs_).symm)))) (fun hn_ => (.inr (Nat.le_trans (by first | exact HK.out.1 | exact (show Kept w _ (fun k_ => (P0_2_ k_ ∨ P0_3_ k_ ∨ P0_4_ k_) ∨ k_ = gb456) from (kr HK)).1) hn_))), hk_.2⟩)); have HO466 := Aside0.mk (Kd.R_mono (ok' := fun k_ => ((P0_2_ k_ ∨ P0_3_ k_ ∨ P0_4_ k_) ∨ w.heap.size ≤ k_) ∧ some k_ ≠ (v462 : Value).ownBlock) ho1 (fun k_ hk_ => ⟨Or.elim hk_.1 (fun hs_ => Or.elim hs_ (fun hs_ => (HO_457002.out.1 k_ (hs_).symm).1) (fun hs_ => Or.elim hs_ (fun hs_ => (HO_457003.out.1 k_ (hs_).symm).1) (fun hs_ => (HO_457004.out.1 k_ (hs_).symm)))) (fun hn_ => (.inr (Nat.le_trans (by first | exact HK.out.1 | exact (show Kept w _ (fun k_ => (P0_2_ k_ ∨ P0_3_ k_ ∨ P0_4_ k_) ∨ k_ = gb456) from (kr HK)).1) hn_))), hk_.2⟩)); have HO469 := Aside0.mk (Kd.Q_mono (ok' := fun k_ => ((P0_2_ k_ ∨ P0_3_ k_ ∨ P0_4_ k_) ∨ w.heap.size ≤ k_)) ho2 (fun k_ hk_ => Or.elim hk_ (fun hs_ => Or.elim hs_ (fun hs_ => (HO_457002.out.1 k_ (hs_).symm).1) (fun hs_ => Or.elim hs_ (fun hs_ => (HO_457003.out.1 k_ (hs_).symm).1) (fun hs_ => (HO_457004.out.1 k_ (hs_).symm)))) (fun hn_ => (.inr (Nat.le_trans (by first | exact HK.out.1 | exact (show Kept w _ (fun k_ => (P0_2_ k_ ∨ P0_3_ k_ ∨ P0_4_ k_) ∨ k_ = gb456) from (kr HK)).1) hn_))))); replace HK := Aside0.mk (Kept.then_ (S := (fun k_ => (P0_2_ k_ ∨ P0_3_ k_ ∨ P0_4_ k_) ∨ k_ = gb456)) (kr HK) hkp (fun k_ hs_ => Or.elim hs_ (fun hs_ => Or.imp_left Or.inl (Or.elim hs_ (fun e_ => (fun e_ => (HO_457002.out.1 k_ e_.symm).1) e_) (fun e_ => Or.elim e_ (fun e_ => (fun e_ => (HO_457003.out.1 k_ e_.symm).1) e_) (fun e_ => (fun e_ => (HO_457004.out.1 k_ e_.symm)) e_)))) (fun e_ => .inl (.inr e_)))); replace HB := Aside0.mk (hb); clear HO_457002; clear HO_457003; clear HO_457004; (try clear hb); (try clear hkp); (try clear ho0); (try clear ho1); (try clear ho2); have hcz15_0 := bz5 BK456; obtain ⟨Ao16, co16, eo16, _⟩ := Kd.Q_slice HO463.out; subst eo16; obtain ⟨Ao17, co17, eo17⟩ := Kd.R_slice HO466.out; subst eo17; obtain ⟨Ao18, co18, eo18, _⟩ := Kd.Q_slice HO469.out; subst eo18; (try clear hblk)))
     go_ret2
     exact ⟨_, _, _, er, (bk BK456), (qo HO463), Kd.Q_of_R (ro HO466), (qo HO469), be1 HB GE456, (kr HK)⟩
    replace c12 := Bool.eq_false_iff.mpr c12
    subst c12
    have H1 : ((impl_Three_evictMain.f kj1 t459 t460 t461 t464 t467).bind fun bt470 => (some (bt470.1, bt470.2.1, bt470.2.2.1, bt470.2.2.2.1, bt470.2.2.2.2.1, bt470.2.2.2.2.2.1, bt470.2.2.2.2.2.2))) = some (r1, r2, r3, r4, r5, r6, r7) := by rw [if_neg (show ¬ (false = true) by decide)] at H; exact H
    clear H
    have H := H1
    clear H1
    replace H := Option.bind_eq_some_iff.mp H
    obtain ⟨⟨t470, t471, t472, t473, t474, t477, t480⟩, A190, H⟩ := H
    replace H : (some (t470, t471, t472, t473, t474, t477, t480)) = some (r1, r2, r3, r4, r5, r6, r7) := H
    have A19 := Aside0.mk A190
    clear A190
    simp only [Option.some.injEq, Prod.mk.injEq] at H
    obtain ⟨rfl, rfl, rfl, rfl, rfl, rfl, rfl⟩ := H
    have hcz20_0 := bz5 BK456
    go_wp2_with (first | (go_at_call 94; (with_reducible refine (impl_Three_evictSmall.calls kj1 a0_0 a0_1 (fun k_ => some k_ = (.slice Ao3 l0_2.length co3 : Value).ownBlock) (.slice Ao3 l0_2.length co3) l0_2 (fun k_ => some k_ = (.slice Ao4 l0_3.length co4 : Value).ownBlock) (.slice Ao4 l0_3.length co4) l0_3 (fun k_ => some k_ = (.slice Ao5 l0_4.length co5 : Value).ownBlock) (.slice Ao5 l0_4.length co5) l0_4 gb456 t457 false t459 t460 t461 t464 t467 w0 _ ?sideP ?sideW ?side1 ?side2 ?side3 ?side4 ?side5 ?side6 A11.out).mono ?_); (case sideP => exact bk BK456); (case sideW => exact GE456.out); (case side1 => repeat (first | (with_reducible first | exact HB.out | apply below_alloc | apply pw_below_drewN | apply below_drew1 | refine below_set ?_ GE456.out) | exact HB.out)); (case side2 => exact Kd.R_tight rfl HO_457002.out); (case side3 => exact fun k_ e_ => (HO_457002.out.1 k_ e_.symm).2); (case side4 => exact Kd.R_tight rfl HO_457003.out); (case side5 => exact fun k_ e_ => (HO_457003.out.1 k_ e_.symm).2); (case side6 => exact Kd.R_tight rfl HO_457004.out); rintro e w21 ⟨v462, v465, v468, rfl, hblk, ho0, ho1, ho2, hb, hkp⟩; replace BK456 := Aside0.mk hblk; have HO463 := Aside0.mk (Kd.Q_mono (ok' := fun k_ => ((P0_2_ k_ ∨ P0_3_ k_ ∨ P0_4_ k_) ∨ w.heap.size ≤ k_) ∧ some k_ ≠ (v465 : Value).ownBlock) ho0 (fun k_ hk_ => ⟨Or.elim hk_.1 (fun hs_ => Or.elim hs_ (fun hs_ => (HO_457002.out.1 k_ (hs_).symm).1) (fun hs_ => Or.elim hs_ (fun hs_ => (HO_457003.out.1 k_ (hs_).symm).1) (fun hs_ => (HO_457004.out.1 k_ (hs_).symm)))) (fun hn_ => (.inr (Nat.le_trans (by first | exact HK.out.1 | exact (show Kept w _ (fun k_ => (P0_2_ k_ ∨ P0_3_ k_ ∨ P0_4_ k_) ∨ k_ = gb456) from (kr HK)).1) hn_))), hk_.2⟩)); have HO466 := Aside0.mk (Kd.R_mono (ok' := fun k_ => ((P0_2_ k_ ∨ P0_3_ k_ ∨ P0_4_ k_) ∨ w.heap.size ≤ k_) ∧ some k_ ≠ (v462 : Value).ownBlock) ho1 (fun k_ hk_ => ⟨Or.elim hk_.1 (fun hs_ => Or.elim hs_ (fun hs_ => (HO_457002.out.1 k_ (hs_).symm).1) (fun hs_ => Or.elim hs_ (fun hs_ => (HO_457003.out.1 k_ (hs_).symm).1) (fun hs_ => (HO_457004.out.1 k_ (hs_).symm)))) (fun hn_ => (.inr (Nat.le_trans (by first | exact HK.out.1 | exact (show Kept w _ (fun k_ => (P0_2_ k_ ∨ P0_3_ k_ ∨ P0_4_ k_) ∨ k_ = gb456) from (kr HK)).1) hn_))), hk_.2⟩)); have HO469 := Aside0.mk (Kd.Q_mono (ok' := fun k_ => ((P0_2_ k_ ∨ P0_3_ k_ ∨ P0_4_ k_) ∨ w.heap.size ≤ k_)) ho2 (fun k_ hk_ => Or.elim hk_ (fun hs_ => Or.elim hs_ (fun hs_ => (HO_457002.out.1 k_ (hs_).symm).1) (fun hs_ => Or.elim hs_ (fun hs_ => (HO_457003.out.1 k_ (hs_).symm).1) (fun hs_ => (HO_457004.out.1 k_ (hs_).symm)))) (fun hn_ => (.inr (Nat.le_trans (by first | exact HK.out.1 | exact (show Kept w _ (fun k_ => (P0_2_ k_ ∨ P0_3_ k_ ∨ P0_4_ k_) ∨ k_ = gb456) from (kr HK)).1) hn_))))); replace HK := Aside0.mk (Kept.then_ (S := (fun k_ => (P0_2_ k_ ∨ P0_3_ k_ ∨ P0_4_ k_) ∨ k_ = gb456)) (kr HK) hkp (fun k_ hs_ => Or.elim hs_ (fun hs_ => Or.imp_left Or.inl (Or.elim hs_ (fun e_ => (fun e_ => (HO_457002.out.1 k_ e_.symm).1) e_) (fun e_ => Or.elim e_ (fun e_ => (fun e_ => (HO_457003.out.1 k_ e_.symm).1) e_) (fun e_ => (fun e_ => (HO_457004.out.1 k_ e_.symm)) e_)))) (fun e_ => .inl (.inr e_)))); replace HB := Aside0.mk (hb); clear HO_457002; clear HO_457003; clear HO_457004; (try clear hb); (try clear hkp); (try clear ho0); (try clear ho1); (try clear ho2); have hcz22_0 := bz5 BK456; obtain ⟨Ao23, co23, eo23, _⟩ := Kd.Q_slice HO463.out; subst eo23; obtain ⟨Ao24, co24, eo24⟩ := Kd.R_slice HO466.out; subst eo24; obtain ⟨Ao25, co25, eo25, _⟩ := Kd.Q_slice HO469.out; subst eo25; (try clear hblk)) | ((with_reducible refine gate_store (t := 30) (p := 39) rfl ?_); (try (rw [drewN_self w21]; generalize hq_ : World.drewN w21 _ = w21; have n0_ := Aside0.mk (Kd.Q_at hq_ HO463.out); have n1_ := Aside0.mk (Kd.R_at hq_ HO466.out); have n2_ := Aside0.mk (Kd.Q_at hq_ HO469.out); have n3_ := Aside0.mk (blk_at hq_ BK456.out); have n4_ := Aside0.mk (kept_at hq_ HK.out); have n5_ := Aside0.mk (below_at hq_ HB.out); clear hq_ HO463 HO466 HO469 BK456 HK HB; have HO463 := n0_; have HO466 := n1_; have HO469 := n2_; have BK456 := n3_; have HK := n4_; have HB := n5_; clear n0_ n1_ n2_ n3_ n4_ n5_)); refine store_event (t := 30) (p := 39) (v := ?vo_w26) (w1 := (((((w21.setCell ⟨gb456, 0, none⟩ (.int .i64 t459)).setCell ⟨gb456, 1, none⟩ (.int .i64 t460)).setCell ⟨gb456, 2, none⟩ (.slice Ao23 t461.length co23)).setCell ⟨gb456, 3, none⟩ (.slice Ao24 t464.length co24)).setCell ⟨gb456, 4, none⟩ (.slice Ao25 t467.length co25))) ?hg ?ho ?hn ?hr ?_; (case ho => rfl); (case hg => rfl); (case hn => rfl); (case hr => first | (go_simp; done) | (go_simp; rfl)); intro w26 hw; have n0_ : Aside0 (Kd.Q k68 68 w26 w0.heap.size (fun k_ => ((P0_2_ k_ ∨ P0_3_ k_ ∨ P0_4_ k_) ∨ w.heap.size ≤ k_) ∧ nb k_ Ao24 t464.length co24) (.slice Ao23 t461.length co23) t461) := ⟨(by rw [hw]; exact (qo HO463))⟩; have n1_ : Aside0 (Kd.R k68 68 w26 w0.heap.size (fun k_ => ((P0_2_ k_ ∨ P0_3_ k_ ∨ P0_4_ k_) ∨ w.heap.size ≤ k_) ∧ nb k_ Ao23 t461.length co23) (.slice Ao24 t464.length co24) t464) := ⟨(by rw [hw]; exact (ro HO466))⟩; have n2_ : Aside0 (Kd.Q (Kd.int .i64) 3 w26 w0.heap.size (fun k_ => ((P0_2_ k_ ∨ P0_3_ k_ ∨ P0_4_ k_) ∨ w.heap.size ≤ k_)) (.slice Ao25 t467.length co25) t467) := ⟨(by rw [hw]; exact (qo HO469))⟩; have n3_ : Aside0 (w26.heap[gb456]? = some (.cells #[.int .i64 t459, .int .i64 t460, .slice Ao23 t461.length co23, .slice Ao24 t464.length co24, .slice Ao25 t467.length co25] 30 (0, 0))) := ⟨(by rw [hw]; exact (bk BK456))⟩; have n4_ : Aside0 (Kept w w26 (fun k_ => (P0_2_ k_ ∨ P0_3_ k_ ∨ P0_4_ k_) ∨ k_ = gb456)) := ⟨(by rw [hw]; exact (kr HK))⟩; have n5_ : Aside0 (Below w0.heap.size w0 w26) := ⟨(by rw [hw]; exact (be1 HB GE456))⟩; clear hw; clear HO463; clear HO466; clear HO469; clear BK456; clear HK; clear HB; have HO463 := n0_; have HO466 := n1_; have HO469 := n2_; have BK456 := n3_; have HK := n4_; have HB := n5_; clear n0_ n1_ n2_ n3_ n4_ n5_; have hcz27_0 := bz5 BK456) | (go_at_call 85; (with_reducible refine (impl_Three_evictMain.calls kj1 t459 t460 (fun k_ => some k_ = (.slice Ao23 t461.length co23 : Value).ownBlock) (.slice Ao23 t461.length co23) t461 (fun k_ => some k_ = (.slice Ao24 t464.length co24 : Value).ownBlock) (.slice Ao24 t464.length co24) t464 (fun k_ => some k_ = (.slice Ao25 t467.length co25 : Value).ownBlock) (.slice Ao25 t467.length co25) t467 gb456 t470 t471 t472 t473 t474 t477 t480 w0 _ ?sideP ?sideW ?side1 ?side2 ?side3 ?side4 ?side5 ?side6 A19.out).mono ?_); (case sideP => exact bk BK456); (case sideW => exact GE456.out); (case side1 => repeat (first | (with_reducible first | exact HB.out | apply below_alloc | apply pw_below_drewN | apply below_drew1 | refine below_set ?_ GE456.out) | exact HB.out)); (case side2 => exact Kd.Q_tight rfl HO463.out); (case side3 => exact fun k_ e_ => (HO463.out.1 k_ e_.symm).2); (case side4 => exact Kd.Q_of_R (Kd.R_tight rfl HO466.out)); (case side5 => exact fun k_ e_ => (HO466.out.1 k_ e_.symm).2); (case side6 => exact Kd.Q_tight rfl HO469.out); rintro e w28 ⟨v475, v478, v481, rfl, hblk, ho0, ho1, ho2, hb, hkp⟩; replace BK456 := Aside0.mk hblk; have HO476 := Aside0.mk (Kd.Q_mono (ok' := fun k_ => ((P0_2_ k_ ∨ P0_3_ k_ ∨ P0_4_ k_) ∨ w.heap.size ≤ k_) ∧ some k_ ≠ (v478 : Value).ownBlock) ho0 (fun k_ hk_ => ⟨Or.elim hk_.1 (fun hs_ => Or.elim hs_ (fun hs_ => (HO463.out.1 k_ (hs_).symm).1) (fun hs_ => Or.elim hs_ (fun hs_ => (HO466.out.1 k_ (hs_).symm).1) (fun hs_ => (HO469.out.1 k_ (hs_).symm)))) (fun hn_ => (.inr (Nat.le_trans (by first | exact HK.out.1 | exact (show Kept w _ (fun k_ => (P0_2_ k_ ∨ P0_3_ k_ ∨ P0_4_ k_) ∨ k_ = gb456) from (kr HK)).1) hn_))), hk_.2⟩)); have HO479 := Aside0.mk (Kd.Q_mono (ok' := fun k_ => ((P0_2_ k_ ∨ P0_3_ k_ ∨ P0_4_ k_) ∨ w.heap.size ≤ k_) ∧ some k_ ≠ (v475 : Value).ownBlock) ho1 (fun k_ hk_ => ⟨Or.elim hk_.1 (fun hs_ => Or.elim hs_ (fun hs_ => (HO463.out.1 k_ (hs_).symm).1) (fun hs_ => Or.elim hs_ (fun hs_ => (HO466.out.1 k_ (hs_).symm).1) (fun hs_ => (HO469.out.1 k_ (hs_).symm)))) (fun hn_ => (.inr (Nat.le_trans (by first | exact HK.out.1 | exact (show Kept w _ (fun k_ => (P0_2_ k_ ∨ P0_3_ k_ ∨ P0_4_ k_) ∨ k_ = gb456) from (kr HK)).1) hn_))), hk_.2⟩)); have HO482 := Aside0.mk (Kd.Q_mono (ok' := fun k_ => ((P0_2_ k_ ∨ P0_3_ k_ ∨ P0_4_ k_) ∨ w.heap.size ≤ k_)) ho2 (fun k_ hk_ => Or.elim hk_ (fun hs_ => Or.elim hs_ (fun hs_ => (HO463.out.1 k_ (hs_).symm).1) (fun hs_ => Or.elim hs_ (fun hs_ => (HO466.out.1 k_ (hs_).symm).1) (fun hs_ => (HO469.out.1 k_ (hs_).symm)))) (fun hn_ => (.inr (Nat.le_trans (by first | exact HK.out.1 | exact (show Kept w _ (fun k_ => (P0_2_ k_ ∨ P0_3_ k_ ∨ P0_4_ k_) ∨ k_ = gb456) from (kr HK)).1) hn_))))); replace HK := Aside0.mk (Kept.then_ (S := (fun k_ => (P0_2_ k_ ∨ P0_3_ k_ ∨ P0_4_ k_) ∨ k_ = gb456)) (kr HK) hkp (fun k_ hs_ => Or.elim hs_ (fun hs_ => Or.imp_left Or.inl (Or.elim hs_ (fun e_ => (fun e_ => (HO463.out.1 k_ e_.symm).1) e_) (fun e_ => Or.elim e_ (fun e_ => (fun e_ => (HO466.out.1 k_ e_.symm).1) e_) (fun e_ => (fun e_ => (HO469.out.1 k_ e_.symm)) e_)))) (fun e_ => .inl (.inr e_)))); replace HB := Aside0.mk (hb); clear HO463; clear HO466; clear HO469; (try clear hb); (try clear hkp); (try clear ho0); (try clear ho1); (try clear ho2); have hcz29_0 := bz5 BK456; obtain ⟨Ao30, co30, eo30, _⟩ := Kd.Q_slice HO476.out; subst eo30; obtain ⟨Ao31, co31, eo31, _⟩ := Kd.Q_slice HO479.out; subst eo31; obtain ⟨Ao32, co32, eo32, _⟩ := Kd.Q_slice HO482.out; subst eo32; (try clear hblk)))
    go_ret2
    exact ⟨_, _, _, er, (bk BK456), (qo HO476), (qo HO479), (qo HO482), be1 HB GE456, (kr HK)⟩
   replace c10 := Bool.eq_false_iff.mpr c10
   subst c10
   have H1 : ((impl_Three_evictMain.f kj1 a0_0 a0_1 l0_2 l0_3 l0_4).bind fun bt483 => (some (bt483.1, bt483.2.1, bt483.2.2.1, bt483.2.2.2.1, bt483.2.2.2.2.1, bt483.2.2.2.2.2.1, bt483.2.2.2.2.2.2))) = some (r1, r2, r3, r4, r5, r6, r7) := by rw [if_neg (show ¬ (false = true) by decide)] at H; exact H
   clear H
   have H := H1
   clear H1
   replace H := Option.bind_eq_some_iff.mp H
   obtain ⟨⟨t483, t484, t485, t486, t487, t490, t493⟩, A330, H⟩ := H
   replace H : (some (t483, t484, t485, t486, t487, t490, t493)) = some (r1, r2, r3, r4, r5, r6, r7) := H
   have A33 := Aside0.mk A330
   clear A330
   simp only [Option.some.injEq, Prod.mk.injEq] at H
   obtain ⟨rfl, rfl, rfl, rfl, rfl, rfl, rfl⟩ := H
   have hcz34_0 := bz5 BK456
   go_wp2_with (first | (go_at_call 85; (with_reducible refine (impl_Three_evictMain.calls kj1 a0_0 a0_1 (fun k_ => some k_ = (.slice Ao3 l0_2.length co3 : Value).ownBlock) (.slice Ao3 l0_2.length co3) l0_2 (fun k_ => some k_ = (.slice Ao4 l0_3.length co4 : Value).ownBlock) (.slice Ao4 l0_3.length co4) l0_3 (fun k_ => some k_ = (.slice Ao5 l0_4.length co5 : Value).ownBlock) (.slice Ao5 l0_4.length co5) l0_4 gb456 t483 t484 t485 t486 t487 t490 t493 w0 _ ?sideP ?sideW ?side1 ?side2 ?side3 ?side4 ?side5 ?side6 A33.out).mono ?_); (case sideP => exact bk BK456); (case sideW => exact GE456.out); (case side1 => repeat (first | (with_reducible first | exact HB.out | apply below_alloc | apply pw_below_drewN | apply below_drew1 | refine below_set ?_ GE456.out) | exact HB.out)); (case side2 => exact Kd.Q_of_R (Kd.R_tight rfl HO_457002.out)); (case side3 => exact fun k_ e_ => (HO_457002.out.1 k_ e_.symm).2); (case side4 => exact Kd.Q_of_R (Kd.R_tight rfl HO_457003.out)); (case side5 => exact fun k_ e_ => (HO_457003.out.1 k_ e_.symm).2); (case side6 => exact Kd.Q_of_R (Kd.R_tight rfl HO_457004.out)); rintro e w35 ⟨v488, v491, v494, rfl, hblk, ho0, ho1, ho2, hb, hkp⟩; replace BK456 := Aside0.mk hblk; have HO489 := Aside0.mk (Kd.Q_mono (ok' := fun k_ => ((P0_2_ k_ ∨ P0_3_ k_ ∨ P0_4_ k_) ∨ w.heap.size ≤ k_) ∧ some k_ ≠ (v491 : Value).ownBlock) ho0 (fun k_ hk_ => ⟨Or.elim hk_.1 (fun hs_ => Or.elim hs_ (fun hs_ => (HO_457002.out.1 k_ (hs_).symm).1) (fun hs_ => Or.elim hs_ (fun hs_ => (HO_457003.out.1 k_ (hs_).symm).1) (fun hs_ => (HO_457004.out.1 k_ (hs_).symm)))) (fun hn_ => (.inr (Nat.le_trans (by first | exact HK.out.1 | exact (show Kept w _ (fun k_ => (P0_2_ k_ ∨ P0_3_ k_ ∨ P0_4_ k_) ∨ k_ = gb456) from (kr HK)).1) hn_))), hk_.2⟩)); have HO492 := Aside0.mk (Kd.Q_mono (ok' := fun k_ => ((P0_2_ k_ ∨ P0_3_ k_ ∨ P0_4_ k_) ∨ w.heap.size ≤ k_) ∧ some k_ ≠ (v488 : Value).ownBlock) ho1 (fun k_ hk_ => ⟨Or.elim hk_.1 (fun hs_ => Or.elim hs_ (fun hs_ => (HO_457002.out.1 k_ (hs_).symm).1) (fun hs_ => Or.elim hs_ (fun hs_ => (HO_457003.out.1 k_ (hs_).symm).1) (fun hs_ => (HO_457004.out.1 k_ (hs_).symm)))) (fun hn_ => (.inr (Nat.le_trans (by first | exact HK.out.1 | exact (show Kept w _ (fun k_ => (P0_2_ k_ ∨ P0_3_ k_ ∨ P0_4_ k_) ∨ k_ = gb456) from (kr HK)).1) hn_))), hk_.2⟩)); have HO495 := Aside0.mk (Kd.Q_mono (ok' := fun k_ => ((P0_2_ k_ ∨ P0_3_ k_ ∨ P0_4_ k_) ∨ w.heap.size ≤ k_)) ho2 (fun k_ hk_ => Or.elim hk_ (fun hs_ => Or.elim hs_ (fun hs_ => (HO_457002.out.1 k_ (hs_).symm).1) (fun hs_ => Or.elim hs_ (fun hs_ => (HO_457003.out.1 k_ (hs_).symm).1) (fun hs_ => (HO_457004.out.1 k_ (hs_).symm)))) (fun hn_ => (.inr (Nat.le_trans (by first | exact HK.out.1 | exact (show Kept w _ (fun k_ => (P0_2_ k_ ∨ P0_3_ k_ ∨ P0_4_ k_) ∨ k_ = gb456) from (kr HK)).1) hn_))))); replace HK := Aside0.mk (Kept.then_ (S := (fun k_ => (P0_2_ k_ ∨ P0_3_ k_ ∨ P0_4_ k_) ∨ k_ = gb456)) (kr HK) hkp (fun k_ hs_ => Or.elim hs_ (fun hs_ => Or.imp_left Or.inl (Or.elim hs_ (fun e_ => (fun e_ => (HO_457002.out.1 k_ e_.symm).1) e_) (fun e_ => Or.elim e_ (fun e_ => (fun e_ => (HO_457003.out.1 k_ e_.symm).1) e_) (fun e_ => (fun e_ => (HO_457004.out.1 k_ e_.symm)) e_)))) (fun e_ => .inl (.inr e_)))); replace HB := Aside0.mk (hb); clear HO_457002; clear HO_457003; clear HO_457004; (try clear hb); (try clear hkp); (try clear ho0); (try clear ho1); (try clear ho2); have hcz36_0 := bz5 BK456; obtain ⟨Ao37, co37, eo37, _⟩ := Kd.Q_slice HO489.out; subst eo37; obtain ⟨Ao38, co38, eo38, _⟩ := Kd.Q_slice HO492.out; subst eo38; obtain ⟨Ao39, co39, eo39, _⟩ := Kd.Q_slice HO495.out; subst eo39; (try clear hblk)))
   go_ret2
   exact ⟨_, _, _, er, (bk BK456), (qo HO489), (qo HO492), (qo HO495), be1 HB GE456, (kr HK)⟩

/-! ### impl_evicted: function 84 -/
def impl_evicted.f (k : Nat) (a0_0 : Int) (a0_1 : Int) (l0_2 : List (S68)) (l0_3 : List (S68)) (l0_4 : List Int) : Option (Int × Int × (List (S68)) × (List (S68)) × List Int × ByteArray × Bool) := (impl_ThreeOk.f k a0_0 a0_1 l0_2 l0_3 l0_4).bind fun t498 => (if t498 = true then ((impl_copyThree.f a0_0 a0_1 l0_2 l0_3 l0_4).bind fun bt499 => ((impl_Three_evict.f k bt499.1 bt499.2.1 bt499.2.2.1 bt499.2.2.2.1 bt499.2.2.2.2).bind fun bt511 => ((impl_copyThree.f bt511.2.2.1 bt511.2.2.2.1 bt511.2.2.2.2.1 bt511.2.2.2.2.2.1 bt511.2.2.2.2.2.2).bind fun bt524 => (some (bt524.1, bt524.2.1, bt524.2.2.1, bt524.2.2.2.1, bt524.2.2.2.2, bt511.1, bt511.2.1))))) else (some (0, 0, ([] : List (S68)), ([] : List (S68)), ([] : List Int), (⟨#[]⟩ : ByteArray), false)))
theorem impl_evicted.mono : ∀ a0 a1 a2 a3 a4 k, LeO (impl_evicted.f k a0 a1 a2 a3 a4) (impl_evicted.f (k + 1) a0 a1 a2 a3 a4) := by
 intro a0 a1 a2 a3 a4 k
 unfold impl_evicted.f
 repeat' first
   | (with_reducible exact impl_ThreeOk.mono _ _ _ _ _ _)
   | (with_reducible exact impl_Three_evict.mono _ _ _ _ _ _)
   | (with_reducible exact LeO.refl _)
   | (with_reducible exact LeO.none _)
   | (with_reducible refine LeO.ite ?_ ?_)
   | (with_reducible refine LeO.bind ?_ (fun _ => ?_))
   | exact impl_ThreeOk.mono _ _ _ _ _ _
   | exact impl_Three_evict.mono _ _ _ _ _ _
   | exact LeO.none _
   | refine LeO.ite ?_ ?_
   | refine LeO.bind ?_ (fun _ => ?_)
set_option maxHeartbeats 8000000 in
set_option maxRecDepth 100000 in
theorem impl_evicted.calls (k : Nat) (a0_0 : Int) (a0_1 : Int) (A0_2 : Option Addr) (c0_2 : Nat) (l0_2 : List (S68)) (A0_3 : Option Addr) (c0_3 : Nat) (l0_3 : List (S68)) (A0_4 : Option Addr) (c0_4 : Nat) (l0_4 : List Int) (r1 : Int) (r2 : Int) (r3 : List (S68)) (r4 : List (S68)) (r5 : List Int) (r6 : ByteArray) (r7 : Bool) (w : World) (hr0_2 : Kd.C k68 w A0_2 l0_2.length l0_2) (hc0_2 : l0_2.length ≤ c0_2) (hr0_3 : Kd.C k68 w A0_3 l0_3.length l0_3) (hc0_3 : l0_3.length ≤ c0_3) (hr0_4 : Kd.C (Kd.int .i64) w A0_4 l0_4.length l0_4) (hc0_4 : l0_4.length ≤ c0_4) (h : impl_evicted.f k a0_0 a0_1 l0_2 l0_3 l0_4 = some (r1, r2, r3, r4, r5, r6, r7)) :
  Calls Try.prog 84 #[.agg #[.int .i64 a0_0, .int .i64 a0_1, .slice A0_2 l0_2.length c0_2, .slice A0_3 l0_3.length c0_3, .slice A0_4 l0_4.length c0_4], .func (.func 95) #[] #[]] w fun e w' => ∃ v2_ v3_ v4_ : Value, e = .returned (.tuple #[.agg #[.int .i64 r1, .int .i64 r2, v2_, v3_, v4_], .string r6, .bool r7]) ∧ Kd.R k68 68 w' w.heap.size (fun k_ => some k_ ≠ (v3_ : Value).ownBlock) v2_ r3 ∧ Kd.R k68 68 w' w.heap.size (fun k_ => some k_ ≠ (v2_ : Value).ownBlock) v3_ r4 ∧ Kd.R (Kd.int .i64) 3 w' w.heap.size (fun _ => True) v4_ r5 ∧ Below w.heap.size w w' := by
 have hu30 := Try.underlying30
 have HR0_2 := Aside0.mk hr0_2
 have HC0_2 := Aside0.mk hc0_2
 clear hr0_2 hc0_2
 have HR0_3 := Aside0.mk hr0_3
 have HC0_3 := Aside0.mk hc0_3
 clear hr0_3 hc0_3
 have HR0_4 := Aside0.mk hr0_4
 have HC0_4 := Aside0.mk hc0_4
 clear hr0_4 hc0_4
 have HB := Aside0.mk (Below.refl w.heap.size w)
 have H : ((impl_ThreeOk.f k a0_0 a0_1 l0_2 l0_3 l0_4).bind fun t498 => (if t498 = true then ((impl_copyThree.f a0_0 a0_1 l0_2 l0_3 l0_4).bind fun bt499 => ((impl_Three_evict.f k bt499.1 bt499.2.1 bt499.2.2.1 bt499.2.2.2.1 bt499.2.2.2.2).bind fun bt511 => ((impl_copyThree.f bt511.2.2.1 bt511.2.2.2.1 bt511.2.2.2.2.1 bt511.2.2.2.2.2.1 bt511.2.2.2.2.2.2).bind fun bt524 => (some (bt524.1, bt524.2.1, bt524.2.2.1, bt524.2.2.2.1, bt524.2.2.2.2, bt511.1, bt511.2.1))))) else (some (0, 0, ([] : List (S68)), ([] : List (S68)), ([] : List Int), (⟨#[]⟩ : ByteArray), false)))) = some (r1, r2, r3, r4, r5, r6, r7) := h
 clear h
 replace H := Option.bind_eq_some_iff.mp H
 obtain ⟨t498, A20, H⟩ := H
 replace H : (if t498 = true then ((impl_copyThree.f a0_0 a0_1 l0_2 l0_3 l0_4).bind fun bt499 => ((impl_Three_evict.f k bt499.1 bt499.2.1 bt499.2.2.1 bt499.2.2.2.1 bt499.2.2.2.2).bind fun bt511 => ((impl_copyThree.f bt511.2.2.1 bt511.2.2.2.1 bt511.2.2.2.2.1 bt511.2.2.2.2.2.1 bt511.2.2.2.2.2.2).bind fun bt524 => (some (bt524.1, bt524.2.1, bt524.2.2.1, bt524.2.2.2.1, bt524.2.2.2.2, bt511.1, bt511.2.1))))) else (some (0, 0, ([] : List (S68)), ([] : List (S68)), ([] : List Int), (⟨#[]⟩ : ByteArray), false))) = some (r1, r2, r3, r4, r5, r6, r7) := H
 have A2 := Aside0.mk A20
 clear A20
 by_cases c3 : t498 = true
 ·subst c3
  have H1 : ((impl_copyThree.f a0_0 a0_1 l0_2 l0_3 l0_4).bind fun bt499 => ((impl_Three_evict.f k bt499.1 bt499.2.1 bt499.2.2.1 bt499.2.2.2.1 bt499.2.2.2.2).bind fun bt511 => ((impl_copyThree.f bt511.2.2.1 bt511.2.2.2.1 bt511.2.2.2.2.1 bt511.2.2.2.2.2.1 bt511.2.2.2.2.2.2).bind fun bt524 => (some (bt524.1, bt524.2.1, bt524.2.2.1, bt524.2.2.2.1, bt524.2.2.2.2, bt511.1, bt511.2.1))))) = some (r1, r2, r3, r4, r5, r6, r7) := by rw [if_pos rfl] at H; exact H
  clear H
  have H := H1
  clear H1
  replace H := Option.bind_eq_some_iff.mp H
  obtain ⟨⟨t499, t500, t501, t504, t507⟩, A40, H⟩ := H
  replace H : ((impl_Three_evict.f k t499 t500 t501 t504 t507).bind fun bt511 => ((impl_copyThree.f bt511.2.2.1 bt511.2.2.2.1 bt511.2.2.2.2.1 bt511.2.2.2.2.2.1 bt511.2.2.2.2.2.2).bind fun bt524 => (some (bt524.1, bt524.2.1, bt524.2.2.1, bt524.2.2.2.1, bt524.2.2.2.2, bt511.1, bt511.2.1)))) = some (r1, r2, r3, r4, r5, r6, r7) := H
  have A4 := Aside0.mk A40
  clear A40
  replace H := Option.bind_eq_some_iff.mp H
  obtain ⟨⟨t511, t512, t513, t514, t515, t518, t521⟩, A50, H⟩ := H
  replace H : ((impl_copyThree.f t513 t514 t515 t518 t521).bind fun bt524 => (some (bt524.1, bt524.2.1, bt524.2.2.1, bt524.2.2.2.1, bt524.2.2.2.2, t511, t512))) = some (r1, r2, r3, r4, r5, r6, r7) := H
  have A5 := Aside0.mk A50
  clear A50
  replace H := Option.bind_eq_some_iff.mp H
  obtain ⟨⟨t524, t525, t526, t529, t532⟩, A60, H⟩ := H
  replace H : (some (t524, t525, t526, t529, t532, t511, t512)) = some (r1, r2, r3, r4, r5, r6, r7) := H
  have A6 := Aside0.mk A60
  clear A60
  simp only [Option.some.injEq, Prod.mk.injEq] at H
  obtain ⟨rfl, rfl, rfl, rfl, rfl, rfl, rfl⟩ := H
  go_enter Try.func84, Try.ntmps84
  go_wp2_with (first | ((with_reducible refine gate_dst (N := 2) rfl ?_); refine bx 2 #[.int .i64 a0_0, .int .i64 a0_1, .slice A0_2 l0_2.length c0_2, .slice A0_3 l0_3.length c0_3, .slice A0_4 l0_4.length c0_4] 30 ?_; intro gb496 hg w7 hbox hb; have BK496 := am hbox; have GW496 := gs0 hg HB; have GE496 := gs0 hg HB; replace HB := s0 HB hb; clear hb hbox hg) | ((with_reducible refine gate_dst (N := 4) rfl ?_); refine bx 4 #[.int .i64 0, .int .i64 0, .slice none 0 0, .slice none 0 0, .slice none 0 0] 30 ?_; intro gb497 hg w8 hbox hb; have BK497 := am hbox; have GW497 := gs1 hg HB GE496; have GE497 := gs1 hg HB GE496; replace HB := Aside0.mk (below_step (be1 HB GE496) hb); have NB496_497 := nl hg BK496; have NB497_496 := ng hg BK496; replace BK496 := bb BK496 hb; clear hb hbox hg; have hnb9 := NB496_497.out; have hnc9 := NB497_496.out; have hcz10_0 := bz5 BK496) | ((with_reducible refine gate_callee (f := 19) rfl ?_); refine gl 11 Try.func19 #[.agg #[.int .i64 a0_0, .int .i64 a0_1, .slice A0_2 l0_2.length c0_2, .slice A0_3 l0_3.length c0_3, .slice A0_4 l0_4.length c0_4]] ?_; (with_reducible refine (impl_ThreeOk.calls k a0_0 a0_1 _ _ l0_2 _ _ l0_3 _ _ l0_4 true _ (cb HR0_2 HB) HC0_2.out (cb HR0_3 HB) HC0_3.out (cb HR0_4 HB) HC0_4.out A2.out).mono ?_); rintro e w11 ⟨rfl, hb⟩; refine ⟨_, rfl, ?_⟩; replace BK496 := bb BK496 hb; replace BK497 := bb BK497 hb; replace HB := Aside0.mk (below_step (be2 HB GE496 GE497) hb); (try clear hb); have hcz12_0 := bz5 BK496) | ((with_reducible refine gate_callee (f := 87) rfl ?_); refine gl 15 Try.func87 #[.agg #[.int .i64 a0_0, .int .i64 a0_1, .slice A0_2 l0_2.length c0_2, .slice A0_3 l0_3.length c0_3, .slice A0_4 l0_4.length c0_4]] ?_; (with_reducible refine (impl_copyThree.calls a0_0 a0_1 _ _ l0_2 _ _ l0_3 _ _ l0_4 t499 t500 t501 t504 t507 _ (cb HR0_2 HB) HC0_2.out (cb HR0_3 HB) HC0_3.out (cb HR0_4 HB) HC0_4.out A4.out).mono ?_); rintro e w13 ⟨v502, v505, v508, rfl, ho0, ho1, ho2, hb⟩; refine ⟨_, rfl, ?_⟩; have HO503 := Aside0.mk (Kd.R_lower ho0 (below_size (be2 HB GE496 GE497))); have HO506 := Aside0.mk (Kd.R_lower ho1 (below_size (be2 HB GE496 GE497))); have HO509 := Aside0.mk (Kd.R_lower ho2 (below_size (be2 HB GE496 GE497))); replace BK496 := bb BK496 hb; replace BK497 := bb BK497 hb; replace HB := Aside0.mk (below_step (be2 HB GE496 GE497) hb); (try clear hb); (try clear ho0); (try clear ho1); (try clear ho2)) | ((with_reducible refine gate_dst (N := 7) rfl ?_); refine bx 7 #[.int .i64 0, .int .i64 0, .slice none 0 0, .slice none 0 0, .slice none 0 0] 30 ?_; intro gb510 hg w14 hbox hb; replace HO503 := rb HO503 hb; replace HO506 := rb HO506 hb; replace HO509 := rb HO509 hb; have BK510 := am hbox; have GW510 := gs2 hg HB GE496 GE497; have GE510 := gs2 hg HB GE496 GE497; replace HB := Aside0.mk (below_step (be2 HB GE496 GE497) hb); have NB496_510 := nl hg BK496; have NB510_496 := ng hg BK496; replace BK496 := bb BK496 hb; have NB497_510 := nl hg BK497; have NB510_497 := ng hg BK497; replace BK497 := bb BK497 hb; clear hb hbox hg; have hnb15 := NB510_496.out; have hnc15 := NB496_510.out; have hnb16 := NB510_497.out; have hnc16 := NB497_510.out; have hcz17_0 := bz5 BK510; obtain ⟨Ao18, co18, eo18⟩ := Kd.R_slice HO503.out; subst eo18; obtain ⟨Ao19, co19, eo19⟩ := Kd.R_slice HO506.out; subst eo19; obtain ⟨Ao20, co20, eo20⟩ := Kd.R_slice HO509.out; subst eo20) | ((with_reducible refine gate_store (t := 30) (p := 7) rfl ?_); refine store_event (t := 30) (p := 7) (v := ?vo_w21) (w1 := (((((w14.setCell ⟨gb510, 0, none⟩ (.int .i64 t499)).setCell ⟨gb510, 1, none⟩ (.int .i64 t500)).setCell ⟨gb510, 2, none⟩ (.slice Ao18 t501.length co18)).setCell ⟨gb510, 3, none⟩ (.slice Ao19 t504.length co19)).setCell ⟨gb510, 4, none⟩ (.slice Ao20 t507.length co20))) ?hg ?ho ?hn ?hr ?_; (case ho => rfl); (case hg => rfl); (case hn => rfl); (case hr => first | (go_simp; done) | (go_simp; rfl)); intro w21 hw; have n0_ : Aside0 (Kd.R k68 68 w21 w.heap.size (fun k_ => nb k_ Ao19 t504.length co19) (.slice Ao18 t501.length co18) t501) := ⟨(by rw [hw]; exact (rf HO503 BK510))⟩; have n1_ : Aside0 (Kd.R k68 68 w21 w.heap.size (fun k_ => nb k_ Ao18 t501.length co18) (.slice Ao19 t504.length co19) t504) := ⟨(by rw [hw]; exact (rf HO506 BK510))⟩; have n2_ : Aside0 (Kd.R (Kd.int .i64) 3 w21 w.heap.size (fun _ => True) (.slice Ao20 t507.length co20) t507) := ⟨(by rw [hw]; exact (rfn HO509 BK510))⟩; have n3_ : Aside0 (w21.heap[gb496]? = some (.cells #[.int .i64 a0_0, .int .i64 a0_1, .slice A0_2 l0_2.length c0_2, .slice A0_3 l0_3.length c0_3, .slice A0_4 l0_4.length c0_4] 30 (0, 0))) := ⟨(by rw [hw]; exact (bf1 BK496 NB496_510))⟩; have n4_ : Aside0 (w21.heap[gb497]? = some (.cells #[.int .i64 0, .int .i64 0, .slice none 0 0, .slice none 0 0, .slice none 0 0] 30 (0, 0))) := ⟨(by rw [hw]; exact (bf1 BK497 NB497_510))⟩; have n5_ : Aside0 (w21.heap[gb510]? = some (.cells #[.int .i64 t499, .int .i64 t500, .slice Ao18 t501.length co18, .slice Ao19 t504.length co19, .slice Ao20 t507.length co20] 30 (0, 0))) := ⟨(by rw [hw]; exact (bp BK510))⟩; have n6_ : Aside0 (Below w.heap.size w w21) := ⟨(by rw [hw]; exact (be3 HB GE496 GE497 GE510))⟩; clear hw; clear HO503; clear HO506; clear HO509; clear BK496; clear BK497; clear BK510; clear HB; have HO503 := n0_; have HO506 := n1_; have HO509 := n2_; have BK496 := n3_; have BK497 := n4_; have BK510 := n5_; have HB := n6_; clear n0_ n1_ n2_ n3_ n4_ n5_ n6_; have hcz22_0 := bz5 BK510) | (go_at_call 95; (with_reducible refine (impl_Three_evict.calls k t499 t500 (fun k_ => some k_ = (.slice Ao18 t501.length co18 : Value).ownBlock) (.slice Ao18 t501.length co18) t501 (fun k_ => some k_ = (.slice Ao19 t504.length co19 : Value).ownBlock) (.slice Ao19 t504.length co19) t504 (fun k_ => some k_ = (.slice Ao20 t507.length co20 : Value).ownBlock) (.slice Ao20 t507.length co20) t507 gb510 t511 t512 t513 t514 t515 t518 t521 w _ ?sideP ?sideW ?side1 ?side2 ?side3 ?side4 ?side5 ?side6 A5.out).mono ?_); (case sideP => exact bk BK510); (case sideW => exact GE510.out); (case side1 => repeat (first | (with_reducible first | exact HB.out | apply below_alloc | apply pw_below_drewN | apply below_drew1 | refine below_set ?_ GE496.out | refine below_set ?_ GE497.out | refine below_set ?_ GE510.out) | exact HB.out)); (case side2 => exact Kd.R_tight rfl HO503.out); (case side3 => exact fun k_ e_ => (HO503.out.1 k_ e_.symm)); (case side4 => exact Kd.R_tight rfl HO506.out); (case side5 => exact fun k_ e_ => (HO506.out.1 k_ e_.symm)); (case side6 => exact Kd.R_tight rfl HO509.out); rintro e w23 ⟨v516, v519, v522, rfl, hblk, ho0, ho1, ho2, hb, hkp⟩; replace BK496 := Aside0.mk (blk_kept (bk BK496) hkp (fun hs_ => Or.elim hs_ (fun hs_ => Or.elim hs_ (fun e_ => (fun e_ => (Kd.R_ne HO503.out BK496.out (by decide)) e_) e_) (fun e_ => Or.elim e_ (fun e_ => (fun e_ => (Kd.R_ne HO506.out BK496.out (by decide)) e_) e_) (fun e_ => (fun e_ => (Kd.R_ne HO509.out BK496.out (by decide)) e_) e_))) (fun e_ => NB496_510.out e_))); replace BK497 := Aside0.mk (blk_kept (bk BK497) hkp (fun hs_ => Or.elim hs_ (fun hs_ => Or.elim hs_ (fun e_ => (fun e_ => (Kd.R_ne HO503.out BK497.out (by decide)) e_) e_) (fun e_ => Or.elim e_ (fun e_ => (fun e_ => (Kd.R_ne HO506.out BK497.out (by decide)) e_) e_) (fun e_ => (fun e_ => (Kd.R_ne HO509.out BK497.out (by decide)) e_) e_))) (fun e_ => NB497_510.out e_))); replace BK510 := Aside0.mk hblk; have HO517 := Aside0.mk (Kd.Q_mono (ok' := fun k_ => some k_ ≠ (v519 : Value).ownBlock) ho0 cj); have HO520 := Aside0.mk (Kd.Q_mono (ok' := fun k_ => some k_ ≠ (v516 : Value).ownBlock) ho1 cj); have HO523 := Aside0.mk (Kd.Q_mono (ok' := fun k_ => True) ho2 (fun k_ hk_ => trivial)); replace HB := Aside0.mk (hb); clear HO503; clear HO506; clear HO509; (try clear hb); (try clear hkp); (try clear ho0); (try clear ho1); (try clear ho2); have hcz24_0 := bz5 BK510; obtain ⟨Ao25, co25, eo25, _⟩ := Kd.Q_slice HO517.out; subst eo25; obtain ⟨Ao26, co26, eo26, _⟩ := Kd.Q_slice HO520.out; subst eo26; obtain ⟨Ao27, co27, eo27, _⟩ := Kd.Q_slice HO523.out; subst eo27; (try clear hblk)) | ((with_reducible refine gate_callee (f := 87) rfl ?_); refine gl 22 Try.func87 #[.agg #[.int .i64 t513, .int .i64 t514, .slice Ao25 t515.length co25, .slice Ao26 t518.length co26, .slice Ao27 t521.length co27]] ?_; (with_reducible refine (impl_copyThree.calls t513 t514 _ _ t515 _ _ t518 _ _ t521 t524 t525 t526 t529 t532 _ ?side1 ?side2 ?side3 ?side4 ?side5 ?side6 A6.out).mono ?_); (case side1 => refine (Kd.Q_reads' (e := 68) (base := w.heap.size) (ok := fun k_ => nb k_ Ao26 t518.length co26) (n := t515.length) (c := co25) ?_).2.2; exact (qo HO517)); (case side2 => exact (Kd.Q_reads' HO517.out).2.1); (case side3 => refine (Kd.Q_reads' (e := 68) (base := w.heap.size) (ok := fun k_ => nb k_ Ao25 t515.length co25) (n := t518.length) (c := co26) ?_).2.2; exact (qo HO520)); (case side4 => exact (Kd.Q_reads' HO520.out).2.1); (case side5 => refine (Kd.Q_reads' (e := 3) (base := w.heap.size) (ok := fun k_ => True) (n := t521.length) (c := co27) ?_).2.2; exact (qo HO523)); (case side6 => exact (Kd.Q_reads' HO523.out).2.1); rintro e w28 ⟨v527, v530, v533, rfl, ho0, ho1, ho2, hb⟩; refine ⟨_, rfl, ?_⟩; have HO528 := Aside0.mk (Kd.R_lower (Kd.R_new' (Kd.R_new' ho0 (Kd.Q_lt (qo HO517))) (Kd.Q_lt (qo HO520))) (below_size (be3 HB GE496 GE497 GE510))); have HO531 := Aside0.mk (Kd.R_lower (Kd.R_new' (Kd.R_new' ho1 (Kd.Q_lt (qo HO517))) (Kd.Q_lt (qo HO520))) (below_size (be3 HB GE496 GE497 GE510))); replace HO517 := Aside0.mk (Kd.Q_mono (Kd.Q_told (Kd.Q_told (Kd.Q_old (qo HO517) hb) (Kd.R_base ho0)) (Kd.R_base ho1)) (fun _ h_ => h_.1)); replace HO520 := Aside0.mk (Kd.Q_mono (Kd.Q_told (Kd.Q_told (Kd.Q_old (qo HO520) hb) (Kd.R_base ho0)) (Kd.R_base ho1)) (fun _ h_ => h_.1)); have HO534 := Aside0.mk (Kd.R_lower (Kd.R_new' ho2 (Kd.Q_lt (qo HO523))) (below_size (be3 HB GE496 GE497 GE510))); replace HO523 := Aside0.mk (Kd.Q_elder' (qo HO523) (Kd.R_base ho2) hb); replace BK496 := Aside0.mk (blk_below (g := gb496) (o := .cells #[.int .i64 a0_0, .int .i64 a0_1, .slice A0_2 l0_2.length c0_2, .slice A0_3 l0_3.length c0_3, .slice A0_4 l0_4.length c0_4] 30 (0, 0)) (bf1 BK496 NB496_510) hb); replace BK497 := Aside0.mk (blk_below (g := gb497) (o := .cells #[.int .i64 0, .int .i64 0, .slice none 0 0, .slice none 0 0, .slice none 0 0] 30 (0, 0)) (bf1 BK497 NB497_510) hb); replace BK510 := Aside0.mk (blk_below (g := gb510) (o := .cells #[.int .i64 t513, .int .i64 t514, .slice Ao25 t515.length co25, .slice Ao26 t518.length co26, .slice Ao27 t521.length co27] 30 (0, 0)) (bk BK510) hb); replace HB := Aside0.mk (below_step (be3 HB GE496 GE497 GE510) hb); (try clear hb); (try clear ho0); (try clear ho1); (try clear ho2); have hcz29_0 := bz5 BK497; obtain ⟨Ao30, co30, eo30⟩ := Kd.R_slice HO528.out; subst eo30; obtain ⟨Ao31, co31, eo31⟩ := Kd.R_slice HO531.out; subst eo31; obtain ⟨Ao32, co32, eo32⟩ := Kd.R_slice HO534.out; subst eo32))
  refine bodyPost_ret (results_ctt rfl _ _ gb497 30 #[.int .i64 t524, .int .i64 t525, .slice Ao30 t526.length co30, .slice Ao31 t529.length co31, .slice Ao32 t532.length co32] (0, 0) _ rfl (bp BK497) Try.underlying30 rfl (by kernel_rfl)) rfl ?_
  exact ⟨_, _, _, er, by (with_reducible repeat (first | apply Kd.R_alloc | apply Kd.R_drewN | apply Kd.R_drew)); exact Kd.R_mono (Kd.R_far (p := ⟨gb497, 4, none⟩) (Kd.R_far (p := ⟨gb497, 3, none⟩) (Kd.R_far (p := ⟨gb497, 2, none⟩) (Kd.R_far (p := ⟨gb497, 1, none⟩) (Kd.R_far (p := ⟨gb497, 0, none⟩) (Kd.R_types HO528.out BK497.out (by decide)) (fun _ hk => hk.2) (.int .i64 t524)) (fun _ hk => hk.2) (.int .i64 t525)) (fun _ hk => hk.2) (.slice Ao30 t526.length co30)) (fun _ hk => hk.2) (.slice Ao31 t529.length co31)) (fun _ hk => hk.2) (.slice Ao32 t532.length co32)) (fun _ hk => hk.1.1.1), by (with_reducible repeat (first | apply Kd.R_alloc | apply Kd.R_drewN | apply Kd.R_drew)); exact Kd.R_mono (Kd.R_far (p := ⟨gb497, 4, none⟩) (Kd.R_far (p := ⟨gb497, 3, none⟩) (Kd.R_far (p := ⟨gb497, 2, none⟩) (Kd.R_far (p := ⟨gb497, 1, none⟩) (Kd.R_far (p := ⟨gb497, 0, none⟩) (Kd.R_types HO531.out BK497.out (by decide)) (fun _ hk => hk.2) (.int .i64 t524)) (fun _ hk => hk.2) (.int .i64 t525)) (fun _ hk => hk.2) (.slice Ao30 t526.length co30)) (fun _ hk => hk.2) (.slice Ao31 t529.length co31)) (fun _ hk => hk.2) (.slice Ao32 t532.length co32)) (fun _ hk => hk.1.1.1), by (with_reducible repeat (first | apply Kd.R_alloc | apply Kd.R_drewN | apply Kd.R_drew)); exact Kd.R_mono (Kd.R_far (p := ⟨gb497, 4, none⟩) (Kd.R_far (p := ⟨gb497, 3, none⟩) (Kd.R_far (p := ⟨gb497, 2, none⟩) (Kd.R_far (p := ⟨gb497, 1, none⟩) (Kd.R_far (p := ⟨gb497, 0, none⟩) (Kd.R_types HO534.out BK497.out (by decide)) (fun _ hk => hk.2) (.int .i64 t524)) (fun _ hk => hk.2) (.int .i64 t525)) (fun _ hk => hk.2) (.slice Ao30 t526.length co30)) (fun _ hk => hk.2) (.slice Ao31 t529.length co31)) (fun _ hk => hk.2) (.slice Ao32 t532.length co32)) (fun _ hk => trivial), be3 HB GE496 GE497 GE510⟩
 replace c3 := Bool.eq_false_iff.mpr c3
 subst c3
 have H1 : (some (0, 0, ([] : List (S68)), ([] : List (S68)), ([] : List Int), (⟨#[]⟩ : ByteArray), false)) = some (r1, r2, r3, r4, r5, r6, r7) := by rw [if_neg (show ¬ (false = true) by decide)] at H; exact H
 clear H
 have H := H1
 clear H1
 simp only [Option.some.injEq, Prod.mk.injEq] at H
 obtain ⟨rfl, rfl, rfl, rfl, rfl, rfl, rfl⟩ := H
 go_enter Try.func84, Try.ntmps84
 go_wp2_with (first | ((with_reducible refine gate_dst (N := 2) rfl ?_); refine bx 2 #[.int .i64 a0_0, .int .i64 a0_1, .slice A0_2 l0_2.length c0_2, .slice A0_3 l0_3.length c0_3, .slice A0_4 l0_4.length c0_4] 30 ?_; intro gb496 hg w33 hbox hb; have BK496 := am hbox; have GW496 := gs0 hg HB; have GE496 := gs0 hg HB; replace HB := s0 HB hb; clear hb hbox hg) | ((with_reducible refine gate_dst (N := 4) rfl ?_); refine bx 4 #[.int .i64 0, .int .i64 0, .slice none 0 0, .slice none 0 0, .slice none 0 0] 30 ?_; intro gb497 hg w34 hbox hb; have BK497 := am hbox; have GW497 := gs1 hg HB GE496; have GE497 := gs1 hg HB GE496; replace HB := Aside0.mk (below_step (be1 HB GE496) hb); have NB496_497 := nl hg BK496; have NB497_496 := ng hg BK496; replace BK496 := bb BK496 hb; clear hb hbox hg; have hnb35 := NB496_497.out; have hnc35 := NB497_496.out; have hcz36_0 := bz5 BK496) | ((with_reducible refine gate_callee (f := 19) rfl ?_); refine gl 11 Try.func19 #[.agg #[.int .i64 a0_0, .int .i64 a0_1, .slice A0_2 l0_2.length c0_2, .slice A0_3 l0_3.length c0_3, .slice A0_4 l0_4.length c0_4]] ?_; (with_reducible refine (impl_ThreeOk.calls k a0_0 a0_1 _ _ l0_2 _ _ l0_3 _ _ l0_4 false _ (cb HR0_2 HB) HC0_2.out (cb HR0_3 HB) HC0_3.out (cb HR0_4 HB) HC0_4.out A2.out).mono ?_); rintro e w37 ⟨rfl, hb⟩; refine ⟨_, rfl, ?_⟩; replace BK496 := bb BK496 hb; replace BK497 := bb BK497 hb; replace HB := Aside0.mk (below_step (be2 HB GE496 GE497) hb); (try clear hb); have hcz38_0 := bz5 BK497))
 refine bodyPost_ret (results_ctt rfl _ _ gb497 30 #[.int .i64 0, .int .i64 0, .slice none 0 0, .slice none 0 0, .slice none 0 0] (0, 0) _ rfl (bp BK497) Try.underlying30 rfl (by kernel_rfl)) rfl ?_
 exact ⟨_, _, _, er, by first | exact Kd.R_nil _ _ _ _ _ | exact Kd.N_nil _ _ _ _ _ | exact Kd.V_nil _ _ _ _ _ | exact Kd.Q_nil _ _ _ _ _ | exact Kd.S_nil _ _ _ _ _, by first | exact Kd.R_nil _ _ _ _ _ | exact Kd.N_nil _ _ _ _ _ | exact Kd.V_nil _ _ _ _ _ | exact Kd.Q_nil _ _ _ _ _ | exact Kd.S_nil _ _ _ _ _, by first | exact Kd.R_nil _ _ _ _ _ | exact Kd.N_nil _ _ _ _ _ | exact Kd.V_nil _ _ _ _ _ | exact Kd.Q_nil _ _ _ _ _ | exact Kd.S_nil _ _ _ _ _, be2 HB GE496 GE497⟩

/-! ### impl_Evict: function 40 -/
def impl_Evict.f (k : Nat) (a0_0 : Int) (a0_1 : Int) (l0_2 : List (S68)) (l0_3 : List (S68)) (l0_4 : List Int) : Option (Int × Int × (List (S68)) × (List (S68)) × List Int × ByteArray × Bool) := (impl_evicted.f k a0_0 a0_1 l0_2 l0_3 l0_4).bind fun bt537 => (some (bt537.1, bt537.2.1, bt537.2.2.1, bt537.2.2.2.1, bt537.2.2.2.2.1, bt537.2.2.2.2.2.1, bt537.2.2.2.2.2.2))
theorem impl_Evict.mono : ∀ a0 a1 a2 a3 a4 k, LeO (impl_Evict.f k a0 a1 a2 a3 a4) (impl_Evict.f (k + 1) a0 a1 a2 a3 a4) := by
 intro a0 a1 a2 a3 a4 k
 unfold impl_Evict.f
 repeat' first
   | (with_reducible exact impl_evicted.mono _ _ _ _ _ _)
   | (with_reducible exact LeO.refl _)
   | (with_reducible exact LeO.none _)
   | (with_reducible refine LeO.ite ?_ ?_)
   | (with_reducible refine LeO.bind ?_ (fun _ => ?_))
   | exact impl_evicted.mono _ _ _ _ _ _
   | exact LeO.none _
   | refine LeO.ite ?_ ?_
   | refine LeO.bind ?_ (fun _ => ?_)
set_option maxHeartbeats 8000000 in
set_option maxRecDepth 100000 in
theorem impl_Evict.calls (k : Nat) (a0_0 : Int) (a0_1 : Int) (A0_2 : Option Addr) (c0_2 : Nat) (l0_2 : List (S68)) (A0_3 : Option Addr) (c0_3 : Nat) (l0_3 : List (S68)) (A0_4 : Option Addr) (c0_4 : Nat) (l0_4 : List Int) (r1 : Int) (r2 : Int) (r3 : List (S68)) (r4 : List (S68)) (r5 : List Int) (r6 : ByteArray) (r7 : Bool) (w : World) (hr0_2 : Kd.C k68 w A0_2 l0_2.length l0_2) (hc0_2 : l0_2.length ≤ c0_2) (hr0_3 : Kd.C k68 w A0_3 l0_3.length l0_3) (hc0_3 : l0_3.length ≤ c0_3) (hr0_4 : Kd.C (Kd.int .i64) w A0_4 l0_4.length l0_4) (hc0_4 : l0_4.length ≤ c0_4) (h : impl_Evict.f k a0_0 a0_1 l0_2 l0_3 l0_4 = some (r1, r2, r3, r4, r5, r6, r7)) :
  Calls Try.prog 40 #[.agg #[.int .i64 a0_0, .int .i64 a0_1, .slice A0_2 l0_2.length c0_2, .slice A0_3 l0_3.length c0_3, .slice A0_4 l0_4.length c0_4]] w fun e w' => ∃ v2_ v3_ v4_ : Value, e = .returned (.tuple #[.agg #[.int .i64 r1, .int .i64 r2, v2_, v3_, v4_], .string r6, .bool r7]) ∧ Kd.R k68 68 w' w.heap.size (fun k_ => some k_ ≠ (v3_ : Value).ownBlock) v2_ r3 ∧ Kd.R k68 68 w' w.heap.size (fun k_ => some k_ ≠ (v2_ : Value).ownBlock) v3_ r4 ∧ Kd.R (Kd.int .i64) 3 w' w.heap.size (fun _ => True) v4_ r5 ∧ Below w.heap.size w w' := by
 have hu30 := Try.underlying30
 have HR0_2 := Aside0.mk hr0_2
 have HC0_2 := Aside0.mk hc0_2
 clear hr0_2 hc0_2
 have HR0_3 := Aside0.mk hr0_3
 have HC0_3 := Aside0.mk hc0_3
 clear hr0_3 hc0_3
 have HR0_4 := Aside0.mk hr0_4
 have HC0_4 := Aside0.mk hc0_4
 clear hr0_4 hc0_4
 have HB := Aside0.mk (Below.refl w.heap.size w)
 have H : ((impl_evicted.f k a0_0 a0_1 l0_2 l0_3 l0_4).bind fun bt537 => (some (bt537.1, bt537.2.1, bt537.2.2.1, bt537.2.2.2.1, bt537.2.2.2.2.1, bt537.2.2.2.2.2.1, bt537.2.2.2.2.2.2))) = some (r1, r2, r3, r4, r5, r6, r7) := h
 clear h
 replace H := Option.bind_eq_some_iff.mp H
 obtain ⟨⟨t537, t538, t539, t542, t545, t548, t549⟩, A20, H⟩ := H
 replace H : (some (t537, t538, t539, t542, t545, t548, t549)) = some (r1, r2, r3, r4, r5, r6, r7) := H
 have A2 := Aside0.mk A20
 clear A20
 simp only [Option.some.injEq, Prod.mk.injEq] at H
 obtain ⟨rfl, rfl, rfl, rfl, rfl, rfl, rfl⟩ := H
 go_enter Try.func40, Try.ntmps40
 go_wp2_with (first | ((with_reducible refine gate_dst (N := 1) rfl ?_); refine bx 1 #[.int .i64 a0_0, .int .i64 a0_1, .slice A0_2 l0_2.length c0_2, .slice A0_3 l0_3.length c0_3, .slice A0_4 l0_4.length c0_4] 30 ?_; intro gb535 hg w3 hbox hb; have BK535 := am hbox; have GW535 := gs0 hg HB; have GE535 := gs0 hg HB; replace HB := s0 HB hb; clear hb hbox hg) | ((with_reducible refine gate_dst (N := 2) rfl ?_); refine bx 2 #[.int .i64 0, .int .i64 0, .slice none 0 0, .slice none 0 0, .slice none 0 0] 30 ?_; intro gb536 hg w4 hbox hb; have BK536 := am hbox; have GW536 := gs1 hg HB GE535; have GE536 := gs1 hg HB GE535; replace HB := Aside0.mk (below_step (be1 HB GE535) hb); have NB535_536 := nl hg BK535; have NB536_535 := ng hg BK535; replace BK535 := bb BK535 hb; clear hb hbox hg; have hnb5 := NB535_536.out; have hnc5 := NB536_535.out; have hcz6_0 := bz5 BK535) | ((with_reducible refine gate_callee (f := 84) rfl ?_); refine gl 6 Try.func84 #[.agg #[.int .i64 a0_0, .int .i64 a0_1, .slice A0_2 l0_2.length c0_2, .slice A0_3 l0_3.length c0_3, .slice A0_4 l0_4.length c0_4], .func (.func 95) #[] #[]] ?_; (with_reducible refine (impl_evicted.calls k a0_0 a0_1 _ _ l0_2 _ _ l0_3 _ _ l0_4 t537 t538 t539 t542 t545 t548 t549 _ (cb HR0_2 HB) HC0_2.out (cb HR0_3 HB) HC0_3.out (cb HR0_4 HB) HC0_4.out A2.out).mono ?_); rintro e w7 ⟨v540, v543, v546, rfl, ho0, ho1, ho2, hb⟩; refine ⟨_, rfl, ?_⟩; have HO541 := Aside0.mk (Kd.R_lower ho0 (below_size (be2 HB GE535 GE536))); have HO544 := Aside0.mk (Kd.R_lower ho1 (below_size (be2 HB GE535 GE536))); have HO547 := Aside0.mk (Kd.R_lower ho2 (below_size (be2 HB GE535 GE536))); replace BK535 := bb BK535 hb; replace BK536 := bb BK536 hb; replace HB := Aside0.mk (below_step (be2 HB GE535 GE536) hb); (try clear hb); (try clear ho0); (try clear ho1); (try clear ho2); have hcz8_0 := bz5 BK536; obtain ⟨Ao9, co9, eo9⟩ := Kd.R_slice HO541.out; subst eo9; obtain ⟨Ao10, co10, eo10⟩ := Kd.R_slice HO544.out; subst eo10; obtain ⟨Ao11, co11, eo11⟩ := Kd.R_slice HO547.out; subst eo11))
 refine bodyPost_ret (results_ctt rfl _ _ gb536 30 #[.int .i64 t537, .int .i64 t538, .slice Ao9 t539.length co9, .slice Ao10 t542.length co10, .slice Ao11 t545.length co11] (0, 0) _ rfl (bp BK536) Try.underlying30 rfl (by kernel_rfl)) rfl ?_
 exact ⟨_, _, _, er, (rf HO541 BK536), (rf HO544 BK536), by (with_reducible repeat (first | apply Kd.R_alloc | apply Kd.R_drewN | apply Kd.R_drew)); exact Kd.R_mono (Kd.R_far (p := ⟨gb536, 4, none⟩) (Kd.R_far (p := ⟨gb536, 3, none⟩) (Kd.R_far (p := ⟨gb536, 2, none⟩) (Kd.R_far (p := ⟨gb536, 1, none⟩) (Kd.R_far (p := ⟨gb536, 0, none⟩) (Kd.R_types HO547.out BK536.out (by decide)) (fun _ hk => hk.2) (.int .i64 t537)) (fun _ hk => hk.2) (.int .i64 t538)) (fun _ hk => hk.2) (.slice Ao9 t539.length co9)) (fun _ hk => hk.2) (.slice Ao10 t542.length co10)) (fun _ hk => hk.2) (.slice Ao11 t545.length co11)) (fun _ hk => trivial), be2 HB GE535 GE536⟩

end Go.Proofs.Ytfjhkediaholmaa.QFnExactEvict
