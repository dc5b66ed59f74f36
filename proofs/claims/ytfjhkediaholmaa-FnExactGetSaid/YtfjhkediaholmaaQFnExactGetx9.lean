-- made by a program of this session (myprint.py)
import Derived.Test.YtfjhkediaholmaaQFnExactGetx0
import Derived.Test.YtfjhkediaholmaaQFnExactGetx5
import Derived.Test.YtfjhkediaholmaaQFnExactGetx8
namespace Go.Proofs.Ytfjhkediaholmaa.QFnExactGet
open Go.RowKit Go.Proofs.YtfjhkediaholmaaW.PrintWords Go.Proofs.YtfjhkediaholmaaW.PrintLast Go.Proofs.YtfjhkediaholmaaW.PrintMore
attribute [local go_sem] max2_int min2_int max_two min_two max_three min_three max_four min_four   -- for this text's walks alone
set_option linter.unusedVariables false
set_option linter.unusedSimpArgs false

/-! ### spec_l10Touch: function 90 -/
mutual
def spec_l10Touch.j0 : Nat → Bool → ByteArray → Int → Int → Int → Int → List (S68) → List (S68) → List Int → ByteArray → ByteArray → Int → Option (Int × Int × (List (S68)) × (List (S68)) × List Int × ByteArray × Bool)
 | 0, _, _, _, _, _, _, _, _, _, _, _, _ => none
 | k + 1, x2, x3, x11, x12, x224000, x224001, x224002, x224003, x224004, x228000, x228001, x228002 => if x12 ≥ 0 then (if 0 ≤ x12 then (if x12 < (x224003.length : Int) then (spec_l10Touch.j1 k x2 x3 x11 x12 x224000 x224001 x224002 x224003 x224004 ((rd_T68 x224003 x12).f0) ((rd_T68 x224003 x12).f1) ((rd_T68 x224003 x12).f2)) else (none)) else (none)) else (spec_l10Touch.j1 k x2 x3 x11 x12 x224000 x224001 x224002 x224003 x224004 x228000 x228001 x228002)
def spec_l10Touch.j1 : Nat → Bool → ByteArray → Int → Int → Int → Int → List (S68) → List (S68) → List Int → ByteArray → ByteArray → Int → Option (Int × Int × (List (S68)) × (List (S68)) × List Int × ByteArray × Bool)
 | 0, _, _, _, _, _, _, _, _, _, _, _, _ => none
 | k + 1, x2, x3, x11, x12, x224000, x224001, x224002, x224003, x224004, x228000, x228001, x228002 => if x11 < 0 then (spec_l10Touch.j2 k x2 x3 x11 x12 (decide (x12 < 0)) x224000 x224001 x224002 x224003 x224004 x228000 x228001 x228002) else (spec_l10Touch.j2 k x2 x3 x11 x12 false x224000 x224001 x224002 x224003 x224004 x228000 x228001 x228002)
def spec_l10Touch.j2 : Nat → Bool → ByteArray → Int → Int → Bool → Int → Int → List (S68) → List (S68) → List Int → ByteArray → ByteArray → Int → Option (Int × Int × (List (S68)) × (List (S68)) × List Int × ByteArray × Bool)
 | 0, _, _, _, _, _, _, _, _, _, _, _, _, _ => none
 | k + 1, x2, x3, x11, x12, x42, x224000, x224001, x224002, x224003, x224004, x228000, x228001, x228002 => if x42 = true then (some (x224000, x224001, x224002, x224003, x224004, (⟨#[]⟩ : ByteArray), false)) else ((spec_l10More.f x228002).bind fun t230 => (if x2 = true then (if x11 ≥ 0 then (if 0 ≤ x11 then (if x11 < (x224002.length : Int) then (some (x224000, x224001, (x224002.set (x11 : Int).toNat (⟨x228000, x3, t230⟩ : S68)), x224003, x224004, x3, true)) else (none)) else (none)) else (if 0 ≤ x12 then (if x12 < (x224003.length : Int) then (some (x224000, x224001, x224002, (x224003.set (x12 : Int).toNat (⟨x228000, x3, t230⟩ : S68)), x224004, x3, true)) else (none)) else (none))) else (if x11 ≥ 0 then (if 0 ≤ x11 then (if x11 < (x224002.length : Int) then (some (x224000, x224001, (x224002.set (x11 : Int).toNat (⟨x228000, x228001, t230⟩ : S68)), x224003, x224004, x228001, true)) else (none)) else (none)) else (if 0 ≤ x12 then (if x12 < (x224003.length : Int) then (some (x224000, x224001, x224002, (x224003.set (x12 : Int).toNat (⟨x228000, x228001, t230⟩ : S68)), x224004, x228001, true)) else (none)) else (none)))))
end
def spec_l10Touch.f (k : Nat) (a0_0 : Int) (a0_1 : Int) (l0_2 : List (S68)) (l0_3 : List (S68)) (l0_4 : List Int) (a1 : ByteArray) (a2 : Bool) (a3 : ByteArray) : Option (Int × Int × (List (S68)) × (List (S68)) × List Int × ByteArray × Bool) := (spec_l10At.f k l0_2 a1).bind fun t225 => ((spec_l10At.f k l0_3 a1).bind fun t226 => (if t225 ≥ 0 then (if 0 ≤ t225 then (if t225 < (l0_2.length : Int) then (spec_l10Touch.j0 k a2 a3 t225 t226 a0_0 a0_1 l0_2 l0_3 l0_4 ((rd_T68 l0_2 t225).f0) ((rd_T68 l0_2 t225).f1) ((rd_T68 l0_2 t225).f2)) else (none)) else (none)) else (spec_l10Touch.j0 k a2 a3 t225 t226 a0_0 a0_1 l0_2 l0_3 l0_4 (⟨#[]⟩ : ByteArray) (⟨#[]⟩ : ByteArray) 0)))
theorem spec_l10Touch.mono_l : ∀ k, (∀ y0 y1 y2 y3 y4 y5 y6 y7 y8 y9 y10 y11, LeO (spec_l10Touch.j0 k y0 y1 y2 y3 y4 y5 y6 y7 y8 y9 y10 y11) (spec_l10Touch.j0 (k + 1) y0 y1 y2 y3 y4 y5 y6 y7 y8 y9 y10 y11)) ∧ (∀ y0 y1 y2 y3 y4 y5 y6 y7 y8 y9 y10 y11, LeO (spec_l10Touch.j1 k y0 y1 y2 y3 y4 y5 y6 y7 y8 y9 y10 y11) (spec_l10Touch.j1 (k + 1) y0 y1 y2 y3 y4 y5 y6 y7 y8 y9 y10 y11)) ∧ (∀ y0 y1 y2 y3 y4 y5 y6 y7 y8 y9 y10 y11 y12, LeO (spec_l10Touch.j2 k y0 y1 y2 y3 y4 y5 y6 y7 y8 y9 y10 y11 y12) (spec_l10Touch.j2 (k + 1) y0 y1 y2 y3 y4 y5 y6 y7 y8 y9 y10 y11 y12))
 | 0 => ⟨fun _ _ _ _ _ _ _ _ _ _ _ _ r h => by simp [spec_l10Touch.j0] at h, fun _ _ _ _ _ _ _ _ _ _ _ _ r h => by simp [spec_l10Touch.j1] at h, fun _ _ _ _ _ _ _ _ _ _ _ _ _ r h => by simp [spec_l10Touch.j2] at h⟩
 | k + 1 => by
  obtain ⟨ih0, ih1, ih2⟩ := spec_l10Touch.mono_l k
  refine ⟨?_, ?_, ?_⟩
  ·intro y0 y1 y2 y3 y4 y5 y6 y7 y8 y9 y10 y11
   unfold spec_l10Touch.j0
   repeat' first
   | (with_reducible exact ih0 _ _ _ _ _ _ _ _ _ _ _ _)
   | (with_reducible exact ih1 _ _ _ _ _ _ _ _ _ _ _ _)
   | (with_reducible exact ih2 _ _ _ _ _ _ _ _ _ _ _ _ _)
   | (with_reducible exact spec_l10At.mono _ _ _)
   | (with_reducible exact LeO.refl _)
   | (with_reducible exact LeO.none _)
   | (with_reducible refine LeO.ite ?_ ?_)
   | (with_reducible refine LeO.bind ?_ (fun _ => ?_))
   | exact ih0 _ _ _ _ _ _ _ _ _ _ _ _
   | exact ih1 _ _ _ _ _ _ _ _ _ _ _ _
   | exact ih2 _ _ _ _ _ _ _ _ _ _ _ _ _
   | exact spec_l10At.mono _ _ _
   | exact LeO.none _
   | refine LeO.ite ?_ ?_
   | refine LeO.bind ?_ (fun _ => ?_)
  ·intro y0 y1 y2 y3 y4 y5 y6 y7 y8 y9 y10 y11
   unfold spec_l10Touch.j1
   repeat' first
   | (with_reducible exact ih0 _ _ _ _ _ _ _ _ _ _ _ _)
   | (with_reducible exact ih1 _ _ _ _ _ _ _ _ _ _ _ _)
   | (with_reducible exact ih2 _ _ _ _ _ _ _ _ _ _ _ _ _)
   | (with_reducible exact spec_l10At.mono _ _ _)
   | (with_reducible exact LeO.refl _)
   | (with_reducible exact LeO.none _)
   | (with_reducible refine LeO.ite ?_ ?_)
   | (with_reducible refine LeO.bind ?_ (fun _ => ?_))
   | exact ih0 _ _ _ _ _ _ _ _ _ _ _ _
   | exact ih1 _ _ _ _ _ _ _ _ _ _ _ _
   | exact ih2 _ _ _ _ _ _ _ _ _ _ _ _ _
   | exact spec_l10At.mono _ _ _
   | exact LeO.none _
   | refine LeO.ite ?_ ?_
   | refine LeO.bind ?_ (fun _ => ?_)
  intro y0 y1 y2 y3 y4 y5 y6 y7 y8 y9 y10 y11 y12
  unfold spec_l10Touch.j2
  repeat' first
  | (with_reducible exact ih0 _ _ _ _ _ _ _ _ _ _ _ _)
  | (with_reducible exact ih1 _ _ _ _ _ _ _ _ _ _ _ _)
  | (with_reducible exact ih2 _ _ _ _ _ _ _ _ _ _ _ _ _)
  | (with_reducible exact spec_l10At.mono _ _ _)
  | (with_reducible exact LeO.refl _)
  | (with_reducible exact LeO.none _)
  | (with_reducible refine LeO.ite ?_ ?_)
  | (with_reducible refine LeO.bind ?_ (fun _ => ?_))
  | exact ih0 _ _ _ _ _ _ _ _ _ _ _ _
  | exact ih1 _ _ _ _ _ _ _ _ _ _ _ _
  | exact ih2 _ _ _ _ _ _ _ _ _ _ _ _ _
  | exact spec_l10At.mono _ _ _
  | exact LeO.none _
  | refine LeO.ite ?_ ?_
  | refine LeO.bind ?_ (fun _ => ?_)
theorem spec_l10Touch.mono : ∀ a0 a1 a2 a3 a4 a5 a6 a7 k, LeO (spec_l10Touch.f k a0 a1 a2 a3 a4 a5 a6 a7) (spec_l10Touch.f (k + 1) a0 a1 a2 a3 a4 a5 a6 a7) := by
 intro a0 a1 a2 a3 a4 a5 a6 a7 k
 obtain ⟨ih0, ih1, ih2⟩ := spec_l10Touch.mono_l k
 unfold spec_l10Touch.f
 repeat' first
   | (with_reducible exact ih0 _ _ _ _ _ _ _ _ _ _ _ _)
   | (with_reducible exact ih1 _ _ _ _ _ _ _ _ _ _ _ _)
   | (with_reducible exact ih2 _ _ _ _ _ _ _ _ _ _ _ _ _)
   | (with_reducible exact spec_l10At.mono _ _ _)
   | (with_reducible exact LeO.refl _)
   | (with_reducible exact LeO.none _)
   | (with_reducible refine LeO.ite ?_ ?_)
   | (with_reducible refine LeO.bind ?_ (fun _ => ?_))
   | exact ih0 _ _ _ _ _ _ _ _ _ _ _ _
   | exact ih1 _ _ _ _ _ _ _ _ _ _ _ _
   | exact ih2 _ _ _ _ _ _ _ _ _ _ _ _ _
   | exact spec_l10At.mono _ _ _
   | exact LeO.none _
   | refine LeO.ite ?_ ?_
   | refine LeO.bind ?_ (fun _ => ?_)
set_option maxHeartbeats 8000000 in
set_option maxRecDepth 100000 in
theorem spec_l10Touch.calls (k : Nat) (a0_0 : Int) (a0_1 : Int) (P0_2_ : Nat → Prop) (u9000_ : Value) (l0_2 : List (S68)) (P0_3_ : Nat → Prop) (u9001_ : Value) (l0_3 : List (S68)) (P0_4_ : Nat → Prop) (u9002_ : Value) (l0_4 : List Int) (a1 : ByteArray) (a2 : Bool) (a3 : ByteArray) (r1 : Int) (r2 : Int) (r3 : List (S68)) (r4 : List (S68)) (r5 : List Int) (r6 : ByteArray) (r7 : Bool) (w0 w : World) (hB : Below w0.heap.size w0 w) (ho0_2 : Kd.R k68 68 w w0.heap.size P0_2_ u9000_ l0_2) (hp0_2_0_3 : ∀ k_, P0_2_ k_ → ¬ P0_3_ k_) (ho0_3 : Kd.R k68 68 w w0.heap.size P0_3_ u9001_ l0_3) (hp0_3_0_2 : ∀ k_, P0_3_ k_ → ¬ P0_2_ k_) (ho0_4 : Kd.R (Kd.int .i64) 3 w w0.heap.size P0_4_ u9002_ l0_4) (h : spec_l10Touch.f k a0_0 a0_1 l0_2 l0_3 l0_4 a1 a2 a3 = some (r1, r2, r3, r4, r5, r6, r7)) :
  Calls Try.prog 90 #[.agg #[.int .i64 a0_0, .int .i64 a0_1, u9000_, u9001_, u9002_], .string a1, .bool a2, .string a3] w fun e w' => ∃ v2_ v3_ v4_ : Value, e = .returned (.tuple #[.agg #[.int .i64 r1, .int .i64 r2, v2_, v3_, v4_], .string r6, .bool r7]) ∧ Kd.R k68 68 w' w0.heap.size (fun k_ => ((P0_2_ k_ ∨ P0_3_ k_ ∨ P0_4_ k_) ∨ w.heap.size ≤ k_) ∧ some k_ ≠ (v3_ : Value).ownBlock) v2_ r3 ∧ Kd.R k68 68 w' w0.heap.size (fun k_ => ((P0_2_ k_ ∨ P0_3_ k_ ∨ P0_4_ k_) ∨ w.heap.size ≤ k_) ∧ some k_ ≠ (v2_ : Value).ownBlock) v3_ r4 ∧ Kd.R (Kd.int .i64) 3 w' w0.heap.size (fun k_ => ((P0_2_ k_ ∨ P0_3_ k_ ∨ P0_4_ k_) ∨ w.heap.size ≤ k_)) v4_ r5 ∧ Below w0.heap.size w0 w' ∧ Kept w w' (fun k_ => P0_2_ k_ ∨ P0_3_ k_ ∨ P0_4_ k_) := by
 have hu30 := Try.underlying30
 have hu68 := Try.underlying68
 have HO0_2 := Aside0.mk (show Kd.R k68 68 w w0.heap.size (fun k_ => ((P0_2_ k_ ∨ P0_3_ k_ ∨ P0_4_ k_) ∨ w.heap.size ≤ k_) ∧ some k_ ≠ (u9001_ : Value).ownBlock) u9000_ l0_2 from Kd.R_mono ho0_2 (fun k_ hk => ⟨(.inl (.inl hk)), fun e_ => hp0_2_0_3 k_ hk (ho0_3.1 k_ e_.symm)⟩))
 have HO0_3 := Aside0.mk (show Kd.R k68 68 w w0.heap.size (fun k_ => ((P0_2_ k_ ∨ P0_3_ k_ ∨ P0_4_ k_) ∨ w.heap.size ≤ k_) ∧ some k_ ≠ (u9000_ : Value).ownBlock) u9001_ l0_3 from Kd.R_mono ho0_3 (fun k_ hk => ⟨(.inl (.inr (.inl hk))), fun e_ => hp0_3_0_2 k_ hk (ho0_2.1 k_ e_.symm)⟩))
 have HO0_4 := Aside0.mk (show Kd.R (Kd.int .i64) 3 w w0.heap.size (fun k_ => ((P0_2_ k_ ∨ P0_3_ k_ ∨ P0_4_ k_) ∨ w.heap.size ≤ k_)) u9002_ l0_4 from Kd.R_mono ho0_4 (fun k_ hk => (.inl (.inr (.inr hk)))))
 have HK := Aside0.mk (Kept.refl w (fun k_ => P0_2_ k_ ∨ P0_3_ k_ ∨ P0_4_ k_))
 have HW0 := Aside0.mk hB.size
 have HB := Aside0.mk hB
 clear hB
 have H : ((spec_l10At.f k l0_2 a1).bind fun t225 => ((spec_l10At.f k l0_3 a1).bind fun t226 => (if t225 ≥ 0 then (if 0 ≤ t225 then (if t225 < (l0_2.length : Int) then (spec_l10Touch.j0 k a2 a3 t225 t226 a0_0 a0_1 l0_2 l0_3 l0_4 ((rd_T68 l0_2 t225).f0) ((rd_T68 l0_2 t225).f1) ((rd_T68 l0_2 t225).f2)) else (none)) else (none)) else (spec_l10Touch.j0 k a2 a3 t225 t226 a0_0 a0_1 l0_2 l0_3 l0_4 (⟨#[]⟩ : ByteArray) (⟨#[]⟩ : ByteArray) 0)))) = some (r1, r2, r3, r4, r5, r6, r7) := h
 clear h
 replace H := Option.bind_eq_some_iff.mp H
 obtain ⟨t225, A50, H⟩ := H
 replace H : ((spec_l10At.f k l0_3 a1).bind fun t226 => (if t225 ≥ 0 then (if 0 ≤ t225 then (if t225 < (l0_2.length : Int) then (spec_l10Touch.j0 k a2 a3 t225 t226 a0_0 a0_1 l0_2 l0_3 l0_4 ((rd_T68 l0_2 t225).f0) ((rd_T68 l0_2 t225).f1) ((rd_T68 l0_2 t225).f2)) else (none)) else (none)) else (spec_l10Touch.j0 k a2 a3 t225 t226 a0_0 a0_1 l0_2 l0_3 l0_4 (⟨#[]⟩ : ByteArray) (⟨#[]⟩ : ByteArray) 0))) = some (r1, r2, r3, r4, r5, r6, r7) := H
 have A5 := Aside0.mk A50
 clear A50
 replace H := Option.bind_eq_some_iff.mp H
 obtain ⟨t226, A60, H⟩ := H
 replace H : (if t225 ≥ 0 then (if 0 ≤ t225 then (if t225 < (l0_2.length : Int) then (spec_l10Touch.j0 k a2 a3 t225 t226 a0_0 a0_1 l0_2 l0_3 l0_4 ((rd_T68 l0_2 t225).f0) ((rd_T68 l0_2 t225).f1) ((rd_T68 l0_2 t225).f2)) else (none)) else (none)) else (spec_l10Touch.j0 k a2 a3 t225 t226 a0_0 a0_1 l0_2 l0_3 l0_4 (⟨#[]⟩ : ByteArray) (⟨#[]⟩ : ByteArray) 0)) = some (r1, r2, r3, r4, r5, r6, r7) := H
 have A6 := Aside0.mk A60
 clear A60
 have HC7 := Aside0.mk H
 clear H
 obtain ⟨Ao8, co8, eo8⟩ := Kd.R_slice HO0_2.out
 subst eo8
 obtain ⟨Ao9, co9, eo9⟩ := Kd.R_slice HO0_3.out
 subst eo9
 obtain ⟨Ao10, co10, eo10⟩ := Kd.R_slice HO0_4.out
 subst eo10
 go_enter Try.func90, Try.ntmps90
 go_upto_if 24 with (first | ((with_reducible refine gate_dst (N := 4) rfl ?_); refine bx 4 #[.int .i64 a0_0, .int .i64 a0_1, .slice Ao8 l0_2.length co8, .slice Ao9 l0_3.length co9, .slice Ao10 l0_4.length co10] 30 ?_; intro gb223 hg w11 hbox hb; replace HO0_2 := rb HO0_2 hb; replace HO0_3 := rb HO0_3 hb; replace HO0_4 := rb HO0_4 hb; have BK223 := am hbox; have GW223 := Aside0.mk ((by rw [hg]; exact (by first | exact HK.out.1 | exact (show Kept w _ (fun k_ => P0_2_ k_ ∨ P0_3_ k_ ∨ P0_4_ k_) from by repeat (first | (with_reducible first | exact HK.out | apply Kept.alloc | apply Kept.drewN | apply Kept.drew) | exact HK.out)).1) : w.heap.size ≤ gb223)); replace HK := Aside0.mk (Kept.below (S := (fun k_ => P0_2_ k_ ∨ P0_3_ k_ ∨ P0_4_ k_)) (by repeat (first | (with_reducible first | exact HK.out | apply Kept.alloc | apply Kept.drewN | apply Kept.drew) | exact HK.out)) hb); have GE223 := Aside0.mk ((by rw [hg]; exact (below_size (be HB)) : w0.heap.size ≤ gb223)); replace HB := s0 HB hb; clear hb hbox hg) | ((with_reducible refine gate_dst (N := 8) rfl ?_); refine bx 8 #[.int .i64 0, .int .i64 0, .slice none 0 0, .slice none 0 0, .slice none 0 0] 30 ?_; intro gb224 hg w12 hbox hb; replace HO0_2 := rb HO0_2 hb; replace HO0_3 := rb HO0_3 hb; replace HO0_4 := rb HO0_4 hb; have BK224 := am hbox; have GW224 := Aside0.mk ((by rw [hg]; exact (by first | exact HK.out.1 | exact (show Kept w _ (fun k_ => P0_2_ k_ ∨ P0_3_ k_ ∨ P0_4_ k_) from by repeat (first | (with_reducible first | exact HK.out | apply Kept.alloc | apply Kept.drewN | apply Kept.drew | refine Kept.setCell ?_ (.inr GW223.out) _) | exact HK.out)).1) : w.heap.size ≤ gb224)); replace HK := Aside0.mk (Kept.below (S := (fun k_ => P0_2_ k_ ∨ P0_3_ k_ ∨ P0_4_ k_)) (by repeat (first | (with_reducible first | exact HK.out | apply Kept.alloc | apply Kept.drewN | apply Kept.drew | refine Kept.setCell ?_ (.inr GW223.out) _) | exact HK.out)) hb); have GE224 := Aside0.mk ((by rw [hg]; exact (below_size (be1 HB GE223)) : w0.heap.size ≤ gb224)); replace HB := Aside0.mk (below_step (be1 HB GE223) hb); have NB223_224 := Aside0.mk ((by rw [hg]; exact Nat.ne_of_lt (bl BK223) : gb223 ≠ gb224)); have NB224_223 := Aside0.mk ((by rw [hg]; exact Nat.ne_of_gt (bl BK223) : gb224 ≠ gb223)); replace BK223 := bb BK223 hb; clear hb hbox hg; have hnb13 := NB223_224.out; have hnc13 := NB224_223.out; have hcz14_0 := bz5 BK223) | ((with_reducible refine gate_callee (f := 59) rfl ?_); refine gl 17 Try.func59 #[.slice Ao8 l0_2.length co8, .string a1] ?_; (with_reducible refine (spec_l10At.calls k _ _ l0_2 a1 t225 _ (cr HO0_2) ((Kd.R_reads' HO0_2.out).2.1) A5.out).mono ?_); rintro e w15 ⟨rfl, hb⟩; refine ⟨_, rfl, ?_⟩; replace HO0_2 := rb HO0_2 hb; replace HO0_3 := rb HO0_3 hb; replace HO0_4 := rb HO0_4 hb; replace BK223 := bb BK223 hb; replace BK224 := bb BK224 hb; replace HK := Aside0.mk (Kept.below (S := (fun k_ => P0_2_ k_ ∨ P0_3_ k_ ∨ P0_4_ k_)) (by repeat (first | (with_reducible first | exact HK.out | apply Kept.alloc | apply Kept.drewN | apply Kept.drew | refine Kept.setCell ?_ (.inr GW223.out) _ | refine Kept.setCell ?_ (.inr GW224.out) _) | exact HK.out)) hb); replace HB := Aside0.mk (below_step (be2 HB GE223 GE224) hb); (try clear hb); have hcz16_0 := bz5 BK223) | ((with_reducible refine gate_callee (f := 59) rfl ?_); refine gl 21 Try.func59 #[.slice Ao9 l0_3.length co9, .string a1] ?_; (with_reducible refine (spec_l10At.calls k _ _ l0_3 a1 t226 _ (cr HO0_3) ((Kd.R_reads' HO0_3.out).2.1) A6.out).mono ?_); rintro e w17 ⟨rfl, hb⟩; refine ⟨_, rfl, ?_⟩; replace HO0_2 := rb HO0_2 hb; replace HO0_3 := rb HO0_3 hb; replace HO0_4 := rb HO0_4 hb; replace BK223 := bb BK223 hb; replace BK224 := bb BK224 hb; replace HK := Aside0.mk (Kept.below (S := (fun k_ => P0_2_ k_ ∨ P0_3_ k_ ∨ P0_4_ k_)) (by repeat (first | (with_reducible first | exact HK.out | apply Kept.alloc | apply Kept.drewN | apply Kept.drew | refine Kept.setCell ?_ (.inr GW223.out) _ | refine Kept.setCell ?_ (.inr GW224.out) _) | exact HK.out)) hb); replace HB := Aside0.mk (below_step (be2 HB GE223 GE224) hb); (try clear hb)) | ((with_reducible refine gate_dst (N := 13) rfl ?_); refine bx 13 #[.string (⟨#[]⟩ : ByteArray), .string (⟨#[]⟩ : ByteArray), .int .i64 0] 68 ?_; intro gb227 hg w18 hbox hb; replace HO0_2 := Aside0.mk (Kd.R_below (Kd.R_elderB (ro HO0_2) gb227 (Nat.le_of_eq hg.symm)) hb); replace HO0_3 := Aside0.mk (Kd.R_below (Kd.R_elderB (ro HO0_3) gb227 (Nat.le_of_eq hg.symm)) hb); replace HO0_4 := rb HO0_4 hb; have BK227 := am hbox; have GW227 := Aside0.mk ((by rw [hg]; exact (by first | exact HK.out.1 | exact (show Kept w _ (fun k_ => P0_2_ k_ ∨ P0_3_ k_ ∨ P0_4_ k_) from by repeat (first | (with_reducible first | exact HK.out | apply Kept.alloc | apply Kept.drewN | apply Kept.drew | refine Kept.setCell ?_ (.inr GW223.out) _ | refine Kept.setCell ?_ (.inr GW224.out) _) | exact HK.out)).1) : w.heap.size ≤ gb227)); replace HK := Aside0.mk (Kept.below (S := (fun k_ => P0_2_ k_ ∨ P0_3_ k_ ∨ P0_4_ k_)) (by repeat (first | (with_reducible first | exact HK.out | apply Kept.alloc | apply Kept.drewN | apply Kept.drew | refine Kept.setCell ?_ (.inr GW223.out) _ | refine Kept.setCell ?_ (.inr GW224.out) _) | exact HK.out)) hb); have GE227 := Aside0.mk ((by rw [hg]; exact (below_size (be2 HB GE223 GE224)) : w0.heap.size ≤ gb227)); replace HB := Aside0.mk (below_step (be2 HB GE223 GE224) hb); have NB223_227 := Aside0.mk ((by rw [hg]; exact Nat.ne_of_lt (bl BK223) : gb223 ≠ gb227)); have NB227_223 := Aside0.mk ((by rw [hg]; exact Nat.ne_of_gt (bl BK223) : gb227 ≠ gb223)); replace BK223 := bb BK223 hb; have NB224_227 := Aside0.mk ((by rw [hg]; exact Nat.ne_of_lt (bl BK224) : gb224 ≠ gb227)); have NB227_224 := Aside0.mk ((by rw [hg]; exact Nat.ne_of_gt (bl BK224) : gb227 ≠ gb224)); replace BK224 := bb BK224 hb; clear hb hbox hg; have hnb19 := NB227_223.out; have hnc19 := NB223_227.out; have hnb20 := NB227_224.out; have hnc20 := NB224_227.out; have hcz21_0 := bz3 BK227; have hys126_1 := st3 BK227 (.string (⟨#[]⟩ : ByteArray)) (.string (⟨#[]⟩ : ByteArray)) (.int .i64 0)))
 (try simp only [Act.put, List.setIfInBounds_toArray, List.set_cons_zero, List.set_cons_succ])
 go_cut [] (fun wc => ∃ (kq : Nat) (x228000_6 : ByteArray) (x228001_6 : ByteArray) (x228002_6 : Int), Aside0 (spec_l10Touch.j0 kq a2 a3 t225 t226 a0_0 a0_1 l0_2 l0_3 l0_4 x228000_6 x228001_6 x228002_6 = some (r1, r2, r3, r4, r5, r6, r7)) ∧ Aside0 (kq ≤ k) ∧ Aside0 (Kd.R k68 68 wc w0.heap.size (fun k_ => ((P0_2_ k_ ∨ P0_3_ k_ ∨ P0_4_ k_) ∨ w.heap.size ≤ k_) ∧ nb k_ Ao9 l0_3.length co9 ∧ k_ ≠ gb227) (.slice Ao8 l0_2.length co8) l0_2) ∧ Aside0 (Kd.R k68 68 wc w0.heap.size (fun k_ => ((P0_2_ k_ ∨ P0_3_ k_ ∨ P0_4_ k_) ∨ w.heap.size ≤ k_) ∧ nb k_ Ao8 l0_2.length co8 ∧ k_ ≠ gb227) (.slice Ao9 l0_3.length co9) l0_3) ∧ Aside0 (Kd.R (Kd.int .i64) 3 wc w0.heap.size (fun k_ => ((P0_2_ k_ ∨ P0_3_ k_ ∨ P0_4_ k_) ∨ w.heap.size ≤ k_)) (.slice Ao10 l0_4.length co10) l0_4) ∧ Aside0 (wc.heap[gb223]? = some (.cells #[.int .i64 a0_0, .int .i64 a0_1, (.slice Ao8 l0_2.length co8), (.slice Ao9 l0_3.length co9), (.slice Ao10 l0_4.length co10)] 30 (0, 0))) ∧ Aside0 (wc.heap[gb224]? = some (.cells #[.int .i64 0, .int .i64 0, (.slice none 0 0), (.slice none 0 0), (.slice none 0 0)] 30 (0, 0))) ∧ Aside0 (wc.heap[gb227]? = some (.cells #[.string x228000_6, .string x228001_6, .int .i64 x228002_6] 68 (0, 0))) ∧ Aside0 (Kept w wc (fun k_ => P0_2_ k_ ∨ P0_3_ k_ ∨ P0_4_ k_)) ∧ Aside0 (Below w0.heap.size w0 wc))
 case first =>
  have H := HC7.out
  clear HC7
  by_cases c22 : t225 ≥ 0
  ·rw [if_pos c22] at H
   have c22b0 : decide (0 ≤ t225) = true := decide_eq_true c22
   clear c22
   (first | rw [c22b0] | (simp only [i64_w, i32_w]; rw [c22b0]) | skip)
   by_cases c23 : 0 ≤ t225
   ·rw [if_pos c23] at H
    have c23b0 : decide (0 ≤ t225) = true := decide_eq_true c23
    clear c23
    by_cases c24 : t225 < (l0_2.length : Int)
    ·rw [if_pos c24] at H
     have c24b0 : decide (t225 < (l0_2.length : Int)) = true := decide_eq_true c24
     clear c24
     have H' := Aside0.mk H
     clear H
     have hnb25 := NB223_224.out
     have hnc25 := NB224_223.out
     have hnb26 := NB223_227.out
     have hnc26 := NB227_223.out
     have hcz27_0 := bz5 BK223
     have p228 : 0 ≤ (t225 : Int) := od
     have q228 : t225 < (l0_2.length : Int) := od
     obtain ⟨ad228, e228, hx228_0, hx228_1, hx228_2⟩ := at_T68 (Kd.R_reads' HO0_2.out).2.2 t225 p228 q228
     cases e228
     have hn228_0 : ad228.block ≠ gb227 := Kd.own_blk (Kd.R_away HO0_2.out (fun _ hk => hk.2))
     have hn228_1 : ad228.block ≠ gb227 := Kd.own_blk (Kd.R_away HO0_2.out (fun _ hk => hk.2))
     have hn228_2 : ad228.block ≠ gb227 := Kd.own_blk (Kd.R_away HO0_2.out (fun _ hk => hk.2))
     replace hx228_0 := (cell_far (p := ⟨gb227, 0, none⟩) (by first | (with_reducible exact hn228_0) | (rw [add_block]; exact hn228_0) | (show (Addr.add _ _).block ≠ _; rw [add_block]; exact hn228_0) | exact hn228_0) (.string (⟨#[]⟩ : ByteArray))).trans hx228_0
     replace hx228_1 := (cell_far (p := ⟨gb227, 0, none⟩) (by first | (with_reducible exact hn228_0) | (rw [add_block]; exact hn228_0) | (show (Addr.add _ _).block ≠ _; rw [add_block]; exact hn228_0) | exact hn228_0) (.string (⟨#[]⟩ : ByteArray))).trans hx228_1
     replace hx228_2 := (cell_far (p := ⟨gb227, 0, none⟩) (by first | (with_reducible exact hn228_0) | (rw [add_block]; exact hn228_0) | (show (Addr.add _ _).block ≠ _; rw [add_block]; exact hn228_0) | exact hn228_0) (.string (⟨#[]⟩ : ByteArray))).trans hx228_2
     replace hx228_0 := (cell_far (p := ⟨gb227, 1, none⟩) (by first | (with_reducible exact hn228_1) | (rw [add_block]; exact hn228_1) | (show (Addr.add _ _).block ≠ _; rw [add_block]; exact hn228_1) | exact hn228_1) (.string (⟨#[]⟩ : ByteArray))).trans hx228_0
     replace hx228_1 := (cell_far (p := ⟨gb227, 1, none⟩) (by first | (with_reducible exact hn228_1) | (rw [add_block]; exact hn228_1) | (show (Addr.add _ _).block ≠ _; rw [add_block]; exact hn228_1) | exact hn228_1) (.string (⟨#[]⟩ : ByteArray))).trans hx228_1
     replace hx228_2 := (cell_far (p := ⟨gb227, 1, none⟩) (by first | (with_reducible exact hn228_1) | (rw [add_block]; exact hn228_1) | (show (Addr.add _ _).block ≠ _; rw [add_block]; exact hn228_1) | exact hn228_1) (.string (⟨#[]⟩ : ByteArray))).trans hx228_2
     replace hx228_0 := (cell_far (p := ⟨gb227, 2, none⟩) (by first | (with_reducible exact hn228_2) | (rw [add_block]; exact hn228_2) | (show (Addr.add _ _).block ≠ _; rw [add_block]; exact hn228_2) | exact hn228_2) (.int .i64 0)).trans hx228_0
     replace hx228_1 := (cell_far (p := ⟨gb227, 2, none⟩) (by first | (with_reducible exact hn228_2) | (rw [add_block]; exact hn228_2) | (show (Addr.add _ _).block ≠ _; rw [add_block]; exact hn228_2) | exact hn228_2) (.int .i64 0)).trans hx228_1
     replace hx228_2 := (cell_far (p := ⟨gb227, 2, none⟩) (by first | (with_reducible exact hn228_2) | (rw [add_block]; exact hn228_2) | (show (Addr.add _ _).block ≠ _; rw [add_block]; exact hn228_2) | exact hn228_2) (.int .i64 0)).trans hx228_2
     clear hn228_0
     clear hn228_1
     clear hn228_2
     replace p228 := eq_true p228
     replace q228 := eq_true q228
     have hnb28 := NB227_224.out
     have hnc28 := NB224_227.out
     have hcz29_0 := bz3 BK227
     go_wp2
     go_meet
     case rel => exact ⟨_, ((rd_T68 l0_2 t225).f0), ((rd_T68 l0_2 t225).f1), ((rd_T68 l0_2 t225).f2), H', ⟨by first | omega | exact Nat.le_refl _⟩, ⟨by (with_reducible repeat (first | apply Kd.R_alloc | apply Kd.R_drewN | apply Kd.R_drew)); exact Kd.R_mono (Kd.R_far (p := ⟨gb227, 2, none⟩) (Kd.R_far (p := ⟨gb227, 1, none⟩) (Kd.R_far (p := ⟨gb227, 0, none⟩) (Kd.R_far (p := ⟨gb227, 2, none⟩) (Kd.R_far (p := ⟨gb227, 1, none⟩) (Kd.R_far (p := ⟨gb227, 0, none⟩) (Kd.R_mono HO0_2.out (fun k_ hk => (⟨hk, hk.2⟩ : _ ∧ k_ ≠ gb227))) (fun _ hk => hk.2) (.string (⟨#[]⟩ : ByteArray))) (fun _ hk => hk.2) (.string (⟨#[]⟩ : ByteArray))) (fun _ hk => hk.2) (.int .i64 0)) (fun _ hk => hk.2) (.string ((rd_T68 l0_2 t225).f0))) (fun _ hk => hk.2) (.string ((rd_T68 l0_2 t225).f1))) (fun _ hk => hk.2) (.int .i64 ((rd_T68 l0_2 t225).f2))) (fun _ hk => ⟨hk.1.1.1, ⟨hk.1.1.2, hk.1.2⟩⟩)⟩, ⟨by (with_reducible repeat (first | apply Kd.R_alloc | apply Kd.R_drewN | apply Kd.R_drew)); exact Kd.R_mono (Kd.R_far (p := ⟨gb227, 2, none⟩) (Kd.R_far (p := ⟨gb227, 1, none⟩) (Kd.R_far (p := ⟨gb227, 0, none⟩) (Kd.R_far (p := ⟨gb227, 2, none⟩) (Kd.R_far (p := ⟨gb227, 1, none⟩) (Kd.R_far (p := ⟨gb227, 0, none⟩) (Kd.R_mono HO0_3.out (fun k_ hk => (⟨hk, hk.2⟩ : _ ∧ k_ ≠ gb227))) (fun _ hk => hk.2) (.string (⟨#[]⟩ : ByteArray))) (fun _ hk => hk.2) (.string (⟨#[]⟩ : ByteArray))) (fun _ hk => hk.2) (.int .i64 0)) (fun _ hk => hk.2) (.string ((rd_T68 l0_2 t225).f0))) (fun _ hk => hk.2) (.string ((rd_T68 l0_2 t225).f1))) (fun _ hk => hk.2) (.int .i64 ((rd_T68 l0_2 t225).f2))) (fun _ hk => ⟨hk.1.1.1, ⟨hk.1.1.2, hk.1.2⟩⟩)⟩, ⟨by (with_reducible repeat (first | apply Kd.R_alloc | apply Kd.R_drewN | apply Kd.R_drew)); exact Kd.R_mono (Kd.R_far (p := ⟨gb227, 2, none⟩) (Kd.R_far (p := ⟨gb227, 1, none⟩) (Kd.R_far (p := ⟨gb227, 0, none⟩) (Kd.R_far (p := ⟨gb227, 2, none⟩) (Kd.R_far (p := ⟨gb227, 1, none⟩) (Kd.R_far (p := ⟨gb227, 0, none⟩) (Kd.R_types HO0_4.out BK227.out (by decide)) (fun _ hk => hk.2) (.string (⟨#[]⟩ : ByteArray))) (fun _ hk => hk.2) (.string (⟨#[]⟩ : ByteArray))) (fun _ hk => hk.2) (.int .i64 0)) (fun _ hk => hk.2) (.string ((rd_T68 l0_2 t225).f0))) (fun _ hk => hk.2) (.string ((rd_T68 l0_2 t225).f1))) (fun _ hk => hk.2) (.int .i64 ((rd_T68 l0_2 t225).f2))) (fun _ hk => hk.1)⟩, ⟨by (with_reducible repeat (first | refine blk_drewN ?_ _ | refine blk_drew ?_ | refine blk_alloc ?_ _)); refine blk_far ?_ NB223_227.out _; (with_reducible repeat (first | refine blk_drewN ?_ _ | refine blk_drew ?_ | refine blk_alloc ?_ _)); refine blk_far ?_ NB223_227.out _; (with_reducible repeat (first | refine blk_drewN ?_ _ | refine blk_drew ?_ | refine blk_alloc ?_ _)); refine blk_far ?_ NB223_227.out _; (with_reducible repeat (first | refine blk_drewN ?_ _ | refine blk_drew ?_ | refine blk_alloc ?_ _)); refine blk_far ?_ NB223_227.out _; (with_reducible repeat (first | refine blk_drewN ?_ _ | refine blk_drew ?_ | refine blk_alloc ?_ _)); refine blk_far ?_ NB223_227.out _; (with_reducible repeat (first | refine blk_drewN ?_ _ | refine blk_drew ?_ | refine blk_alloc ?_ _)); refine blk_far ?_ NB223_227.out _; (with_reducible repeat (first | refine blk_drewN ?_ _ | refine blk_drew ?_ | refine blk_alloc ?_ _)); exact BK223.out⟩, ⟨by (with_reducible repeat (first | refine blk_drewN ?_ _ | refine blk_drew ?_ | refine blk_alloc ?_ _)); refine blk_far ?_ NB224_227.out _; (with_reducible repeat (first | refine blk_drewN ?_ _ | refine blk_drew ?_ | refine blk_alloc ?_ _)); refine blk_far ?_ NB224_227.out _; (with_reducible repeat (first | refine blk_drewN ?_ _ | refine blk_drew ?_ | refine blk_alloc ?_ _)); refine blk_far ?_ NB224_227.out _; (with_reducible repeat (first | refine blk_drewN ?_ _ | refine blk_drew ?_ | refine blk_alloc ?_ _)); refine blk_far ?_ NB224_227.out _; (with_reducible repeat (first | refine blk_drewN ?_ _ | refine blk_drew ?_ | refine blk_alloc ?_ _)); refine blk_far ?_ NB224_227.out _; (with_reducible repeat (first | refine blk_drewN ?_ _ | refine blk_drew ?_ | refine blk_alloc ?_ _)); refine blk_far ?_ NB224_227.out _; (with_reducible repeat (first | refine blk_drewN ?_ _ | refine blk_drew ?_ | refine blk_alloc ?_ _)); exact BK224.out⟩, ⟨by (with_reducible repeat (first | refine blk_drewN ?_ _ | refine blk_drew ?_ | refine blk_alloc ?_ _)); refine blk_put (cs := #[.string ((rd_T68 l0_2 t225).f0), .string ((rd_T68 l0_2 t225).f1), .int .i64 0]) ?_ 2 _ rfl; (with_reducible repeat (first | refine blk_drewN ?_ _ | refine blk_drew ?_ | refine blk_alloc ?_ _)); refine blk_put (cs := #[.string ((rd_T68 l0_2 t225).f0), .string (⟨#[]⟩ : ByteArray), .int .i64 0]) ?_ 1 _ rfl; (with_reducible repeat (first | refine blk_drewN ?_ _ | refine blk_drew ?_ | refine blk_alloc ?_ _)); refine blk_put (cs := #[.string (⟨#[]⟩ : ByteArray), .string (⟨#[]⟩ : ByteArray), .int .i64 0]) ?_ 0 _ rfl; (with_reducible repeat (first | refine blk_drewN ?_ _ | refine blk_drew ?_ | refine blk_alloc ?_ _)); refine blk_put (cs := #[.string (⟨#[]⟩ : ByteArray), .string (⟨#[]⟩ : ByteArray), .int .i64 0]) ?_ 2 _ rfl; (with_reducible repeat (first | refine blk_drewN ?_ _ | refine blk_drew ?_ | refine blk_alloc ?_ _)); refine blk_put (cs := #[.string (⟨#[]⟩ : ByteArray), .string (⟨#[]⟩ : ByteArray), .int .i64 0]) ?_ 1 _ rfl; (with_reducible repeat (first | refine blk_drewN ?_ _ | refine blk_drew ?_ | refine blk_alloc ?_ _)); refine blk_put (cs := #[.string (⟨#[]⟩ : ByteArray), .string (⟨#[]⟩ : ByteArray), .int .i64 0]) ?_ 0 _ rfl; (with_reducible repeat (first | refine blk_drewN ?_ _ | refine blk_drew ?_ | refine blk_alloc ?_ _)); exact BK227.out⟩, ⟨by repeat (first | (with_reducible first | exact HK.out | apply Kept.alloc | apply Kept.drewN | apply Kept.drew | refine Kept.setCell ?_ (.inr GW223.out) _ | refine Kept.setCell ?_ (.inr GW224.out) _ | refine Kept.setCell ?_ (.inr GW227.out) _) | exact HK.out)⟩, ⟨be3 HB GE223 GE224 GE227⟩⟩
    rw [if_neg c24] at H
    exact absurd H (by simp)
   rw [if_neg c23] at H
   exact absurd H (by simp)
  rw [if_neg c22] at H
  have c22b0 : decide (0 ≤ t225) = false := decide_eq_false c22
  clear c22
  (first | rw [c22b0] | (simp only [i64_w, i32_w]; rw [c22b0]) | skip)
  have H' := Aside0.mk H
  clear H
  go_wp2
  go_meet
  case rel => exact ⟨_, ((⟨#[]⟩ : ByteArray)), ((⟨#[]⟩ : ByteArray)), (0), H', ⟨by first | omega | exact Nat.le_refl _⟩, ⟨by (with_reducible repeat (first | apply Kd.R_alloc | apply Kd.R_drewN | apply Kd.R_drew)); exact Kd.R_mono (Kd.R_far (p := ⟨gb227, 2, none⟩) (Kd.R_far (p := ⟨gb227, 1, none⟩) (Kd.R_far (p := ⟨gb227, 0, none⟩) (Kd.R_mono HO0_2.out (fun k_ hk => (⟨hk, hk.2⟩ : _ ∧ k_ ≠ gb227))) (fun _ hk => hk.2) (.string (⟨#[]⟩ : ByteArray))) (fun _ hk => hk.2) (.string (⟨#[]⟩ : ByteArray))) (fun _ hk => hk.2) (.int .i64 0)) (fun _ hk => ⟨hk.1.1.1, ⟨hk.1.1.2, hk.1.2⟩⟩)⟩, ⟨by (with_reducible repeat (first | apply Kd.R_alloc | apply Kd.R_drewN | apply Kd.R_drew)); exact Kd.R_mono (Kd.R_far (p := ⟨gb227, 2, none⟩) (Kd.R_far (p := ⟨gb227, 1, none⟩) (Kd.R_far (p := ⟨gb227, 0, none⟩) (Kd.R_mono HO0_3.out (fun k_ hk => (⟨hk, hk.2⟩ : _ ∧ k_ ≠ gb227))) (fun _ hk => hk.2) (.string (⟨#[]⟩ : ByteArray))) (fun _ hk => hk.2) (.string (⟨#[]⟩ : ByteArray))) (fun _ hk => hk.2) (.int .i64 0)) (fun _ hk => ⟨hk.1.1.1, ⟨hk.1.1.2, hk.1.2⟩⟩)⟩, ⟨by (with_reducible repeat (first | apply Kd.R_alloc | apply Kd.R_drewN | apply Kd.R_drew)); exact Kd.R_mono (Kd.R_far (p := ⟨gb227, 2, none⟩) (Kd.R_far (p := ⟨gb227, 1, none⟩) (Kd.R_far (p := ⟨gb227, 0, none⟩) (Kd.R_types HO0_4.out BK227.out (by decide)) (fun _ hk => hk.2) (.string (⟨#[]⟩ : ByteArray))) (fun _ hk => hk.2) (.string (⟨#[]⟩ : ByteArray))) (fun _ hk => hk.2) (.int .i64 0)) (fun _ hk => hk.1)⟩, ⟨by (with_reducible repeat (first | refine blk_drewN ?_ _ | refine blk_drew ?_ | refine blk_alloc ?_ _)); refine blk_far ?_ NB223_227.out _; (with_reducible repeat (first | refine blk_drewN ?_ _ | refine blk_drew ?_ | refine blk_alloc ?_ _)); refine blk_far ?_ NB223_227.out _; (with_reducible repeat (first | refine blk_drewN ?_ _ | refine blk_drew ?_ | refine blk_alloc ?_ _)); refine blk_far ?_ NB223_227.out _; (with_reducible repeat (first | refine blk_drewN ?_ _ | refine blk_drew ?_ | refine blk_alloc ?_ _)); exact BK223.out⟩, ⟨by (with_reducible repeat (first | refine blk_drewN ?_ _ | refine blk_drew ?_ | refine blk_alloc ?_ _)); refine blk_far ?_ NB224_227.out _; (with_reducible repeat (first | refine blk_drewN ?_ _ | refine blk_drew ?_ | refine blk_alloc ?_ _)); refine blk_far ?_ NB224_227.out _; (with_reducible repeat (first | refine blk_drewN ?_ _ | refine blk_drew ?_ | refine blk_alloc ?_ _)); refine blk_far ?_ NB224_227.out _; (with_reducible repeat (first | refine blk_drewN ?_ _ | refine blk_drew ?_ | refine blk_alloc ?_ _)); exact BK224.out⟩, ⟨by (with_reducible repeat (first | refine blk_drewN ?_ _ | refine blk_drew ?_ | refine blk_alloc ?_ _)); refine blk_put (cs := #[.string (⟨#[]⟩ : ByteArray), .string (⟨#[]⟩ : ByteArray), .int .i64 0]) ?_ 2 _ rfl; (with_reducible repeat (first | refine blk_drewN ?_ _ | refine blk_drew ?_ | refine blk_alloc ?_ _)); refine blk_put (cs := #[.string (⟨#[]⟩ : ByteArray), .string (⟨#[]⟩ : ByteArray), .int .i64 0]) ?_ 1 _ rfl; (with_reducible repeat (first | refine blk_drewN ?_ _ | refine blk_drew ?_ | refine blk_alloc ?_ _)); refine blk_put (cs := #[.string (⟨#[]⟩ : ByteArray), .string (⟨#[]⟩ : ByteArray), .int .i64 0]) ?_ 0 _ rfl; (with_reducible repeat (first | refine blk_drewN ?_ _ | refine blk_drew ?_ | refine blk_alloc ?_ _)); exact BK227.out⟩, ⟨by repeat (first | (with_reducible first | exact HK.out | apply Kept.alloc | apply Kept.drewN | apply Kept.drew | refine Kept.setCell ?_ (.inr GW223.out) _ | refine Kept.setCell ?_ (.inr GW224.out) _ | refine Kept.setCell ?_ (.inr GW227.out) _) | exact HK.out)⟩, ⟨be3 HB GE223 GE224 GE227⟩⟩
 case rest =>
  clear HC7
  try clear c1; try clear c2; try clear p2; try clear q2; try clear hx2; try clear c5; try clear c9; try clear c13; try clear c19; try clear c20; try clear c22; try clear c22b0; try clear p22; try clear q22; try clear hx22; try clear c23; try clear c23b0; try clear c24; try clear c24b0; try clear c25; try clear c26; try clear c28; try clear hcz14_0; try clear hcz16_0; try clear hcz21_0; try clear hcz27_0; try clear hcz29_0; try clear hx228_0; try clear hx228_1; try clear hx228_2; try clear p228; try clear q228
  obtain ⟨kq, x228000_6, x228001_6, x228002_6, HA, HJ6, HO_224002, HO_224003, HO_224004, BK223, BK224, BK227, HK, HB⟩ := hcut
  cases kq with
  | zero => exact absurd HA.out (by simp [spec_l10Touch.j0])
  | succ kj6 =>
   have H := HA.out
   clear HA
   simp only [spec_l10Touch.j0] at H
   have HC30 := Aside0.mk H
   clear H
   go_upto_if 31 with (fail)
   go_cut [] (fun wc => ∃ (kq : Nat) (x228000_29 : ByteArray) (x228001_29 : ByteArray) (x228002_29 : Int), Aside0 (spec_l10Touch.j1 kq a2 a3 t225 t226 a0_0 a0_1 l0_2 l0_3 l0_4 x228000_29 x228001_29 x228002_29 = some (r1, r2, r3, r4, r5, r6, r7)) ∧ Aside0 (kq ≤ kj6) ∧ Aside0 (Kd.R k68 68 wc w0.heap.size (fun k_ => ((P0_2_ k_ ∨ P0_3_ k_ ∨ P0_4_ k_) ∨ w.heap.size ≤ k_) ∧ nb k_ Ao9 l0_3.length co9 ∧ k_ ≠ gb227) (.slice Ao8 l0_2.length co8) l0_2) ∧ Aside0 (Kd.R k68 68 wc w0.heap.size (fun k_ => ((P0_2_ k_ ∨ P0_3_ k_ ∨ P0_4_ k_) ∨ w.heap.size ≤ k_) ∧ nb k_ Ao8 l0_2.length co8 ∧ k_ ≠ gb227) (.slice Ao9 l0_3.length co9) l0_3) ∧ Aside0 (Kd.R (Kd.int .i64) 3 wc w0.heap.size (fun k_ => ((P0_2_ k_ ∨ P0_3_ k_ ∨ P0_4_ k_) ∨ w.heap.size ≤ k_)) (.slice Ao10 l0_4.length co10) l0_4) ∧ Aside0 (wc.heap[gb223]? = some (.cells #[.int .i64 a0_0, .int .i64 a0_1, (.slice Ao8 l0_2.length co8), (.slice Ao9 l0_3.length co9), (.slice Ao10 l0_4.length co10)] 30 (0, 0))) ∧ Aside0 (wc.heap[gb224]? = some (.cells #[.int .i64 0, .int .i64 0, (.slice none 0 0), (.slice none 0 0), (.slice none 0 0)] 30 (0, 0))) ∧ Aside0 (wc.heap[gb227]? = some (.cells #[.string x228000_29, .string x228001_29, .int .i64 x228002_29] 68 (0, 0))) ∧ Aside0 (Kept w wc (fun k_ => P0_2_ k_ ∨ P0_3_ k_ ∨ P0_4_ k_)) ∧ Aside0 (Below w0.heap.size w0 wc))
   case first =>
    have H := HC30.out
    clear HC30
    by_cases c31 : t226 ≥ 0
    ·rw [if_pos c31] at H
     have c31b0 : decide (0 ≤ t226) = true := decide_eq_true c31
     clear c31
     (first | rw [c31b0] | (simp only [i64_w, i32_w]; rw [c31b0]) | skip)
     by_cases c32 : 0 ≤ t226
     ·rw [if_pos c32] at H
      have c32b0 : decide (0 ≤ t226) = true := decide_eq_true c32
      clear c32
      by_cases c33 : t226 < (l0_3.length : Int)
      ·rw [if_pos c33] at H
       have c33b0 : decide (t226 < (l0_3.length : Int)) = true := decide_eq_true c33
       clear c33
       have H' := Aside0.mk H
       clear H
       have hnb34 := NB223_224.out
       have hnc34 := NB224_223.out
       have hnb35 := NB223_227.out
       have hnc35 := NB227_223.out
       have hcz36_0 := bz5 BK223
       have p229 : 0 ≤ (t226 : Int) := od
       have q229 : t226 < (l0_3.length : Int) := od
       obtain ⟨ad229, e229, hx229_0, hx229_1, hx229_2⟩ := at_T68 (Kd.R_reads' HO_224003.out).2.2 t226 p229 q229
       cases e229
       replace p229 := eq_true p229
       replace q229 := eq_true q229
       have hnb37 := NB227_224.out
       have hnc37 := NB224_227.out
       have hcz38_0 := bz3 BK227
       go_wp2
       go_meet
       case rel => exact ⟨_, ((rd_T68 l0_3 t226).f0), ((rd_T68 l0_3 t226).f1), ((rd_T68 l0_3 t226).f2), H', ⟨by have := HJ6.out; first | omega | exact Nat.le_refl _⟩, ⟨by (with_reducible repeat (first | apply Kd.R_alloc | apply Kd.R_drewN | apply Kd.R_drew)); exact Kd.R_mono (Kd.R_far (p := ⟨gb227, 2, none⟩) (Kd.R_far (p := ⟨gb227, 1, none⟩) (Kd.R_far (p := ⟨gb227, 0, none⟩) (Kd.R_mono HO_224002.out (fun k_ hk => (⟨hk, hk.2.2⟩ : _ ∧ k_ ≠ gb227))) (fun _ hk => hk.2) (.string ((rd_T68 l0_3 t226).f0))) (fun _ hk => hk.2) (.string ((rd_T68 l0_3 t226).f1))) (fun _ hk => hk.2) (.int .i64 ((rd_T68 l0_3 t226).f2))) (fun _ hk => ⟨hk.1.1, ⟨hk.1.2.1, hk.1.2.2⟩⟩)⟩, ⟨by (with_reducible repeat (first | apply Kd.R_alloc | apply Kd.R_drewN | apply Kd.R_drew)); exact Kd.R_mono (Kd.R_far (p := ⟨gb227, 2, none⟩) (Kd.R_far (p := ⟨gb227, 1, none⟩) (Kd.R_far (p := ⟨gb227, 0, none⟩) (Kd.R_mono HO_224003.out (fun k_ hk => (⟨hk, hk.2.2⟩ : _ ∧ k_ ≠ gb227))) (fun _ hk => hk.2) (.string ((rd_T68 l0_3 t226).f0))) (fun _ hk => hk.2) (.string ((rd_T68 l0_3 t226).f1))) (fun _ hk => hk.2) (.int .i64 ((rd_T68 l0_3 t226).f2))) (fun _ hk => ⟨hk.1.1, ⟨hk.1.2.1, hk.1.2.2⟩⟩)⟩, ⟨by (with_reducible repeat (first | apply Kd.R_alloc | apply Kd.R_drewN | apply Kd.R_drew)); exact Kd.R_mono (Kd.R_far (p := ⟨gb227, 2, none⟩) (Kd.R_far (p := ⟨gb227, 1, none⟩) (Kd.R_far (p := ⟨gb227, 0, none⟩) (Kd.R_types HO_224004.out BK227.out (by decide)) (fun _ hk => hk.2) (.string ((rd_T68 l0_3 t226).f0))) (fun _ hk => hk.2) (.string ((rd_T68 l0_3 t226).f1))) (fun _ hk => hk.2) (.int .i64 ((rd_T68 l0_3 t226).f2))) (fun _ hk => hk.1)⟩, ⟨by (with_reducible repeat (first | refine blk_drewN ?_ _ | refine blk_drew ?_ | refine blk_alloc ?_ _)); refine blk_far ?_ NB223_227.out _; (with_reducible repeat (first | refine blk_drewN ?_ _ | refine blk_drew ?_ | refine blk_alloc ?_ _)); refine blk_far ?_ NB223_227.out _; (with_reducible repeat (first | refine blk_drewN ?_ _ | refine blk_drew ?_ | refine blk_alloc ?_ _)); refine blk_far ?_ NB223_227.out _; (with_reducible repeat (first | refine blk_drewN ?_ _ | refine blk_drew ?_ | refine blk_alloc ?_ _)); exact BK223.out⟩, ⟨by (with_reducible repeat (first | refine blk_drewN ?_ _ | refine blk_drew ?_ | refine blk_alloc ?_ _)); refine blk_far ?_ NB224_227.out _; (with_reducible repeat (first | refine blk_drewN ?_ _ | refine blk_drew ?_ | refine blk_alloc ?_ _)); refine blk_far ?_ NB224_227.out _; (with_reducible repeat (first | refine blk_drewN ?_ _ | refine blk_drew ?_ | refine blk_alloc ?_ _)); refine blk_far ?_ NB224_227.out _; (with_reducible repeat (first | refine blk_drewN ?_ _ | refine blk_drew ?_ | refine blk_alloc ?_ _)); exact BK224.out⟩, ⟨by (with_reducible repeat (first | refine blk_drewN ?_ _ | refine blk_drew ?_ | refine blk_alloc ?_ _)); refine blk_put (cs := #[.string ((rd_T68 l0_3 t226).f0), .string ((rd_T68 l0_3 t226).f1), .int .i64 x228002_6]) ?_ 2 _ rfl; (with_reducible repeat (first | refine blk_drewN ?_ _ | refine blk_drew ?_ | refine blk_alloc ?_ _)); refine blk_put (cs := #[.string ((rd_T68 l0_3 t226).f0), .string x228001_6, .int .i64 x228002_6]) ?_ 1 _ rfl; (with_reducible repeat (first | refine blk_drewN ?_ _ | refine blk_drew ?_ | refine blk_alloc ?_ _)); refine blk_put (cs := #[.string x228000_6, .string x228001_6, .int .i64 x228002_6]) ?_ 0 _ rfl; (with_reducible repeat (first | refine blk_drewN ?_ _ | refine blk_drew ?_ | refine blk_alloc ?_ _)); exact BK227.out⟩, ⟨by repeat (first | (with_reducible first | exact HK.out | apply Kept.alloc | apply Kept.drewN | apply Kept.drew | refine Kept.setCell ?_ (.inr GW223.out) _ | refine Kept.setCell ?_ (.inr GW224.out) _ | refine Kept.setCell ?_ (.inr GW227.out) _) | exact HK.out)⟩, ⟨be3 HB GE223 GE224 GE227⟩⟩
      rw [if_neg c33] at H
      exact absurd H (by simp)
     rw [if_neg c32] at H
     exact absurd H (by simp)
    rw [if_neg c31] at H
    have c31b0 : decide (0 ≤ t226) = false := decide_eq_false c31
    clear c31
    (first | rw [c31b0] | (simp only [i64_w, i32_w]; rw [c31b0]) | skip)
    have H' := Aside0.mk H
    clear H
    go_wp2
    go_meet
    case rel => exact ⟨_, (x228000_6), (x228001_6), (x228002_6), H', ⟨by have := HJ6.out; first | omega | exact Nat.le_refl _⟩, ⟨ro HO_224002⟩, ⟨ro HO_224003⟩, ⟨ro HO_224004⟩, ⟨bk BK223⟩, ⟨bk BK224⟩, ⟨bk BK227⟩, ⟨by repeat (first | (with_reducible first | exact HK.out | apply Kept.alloc | apply Kept.drewN | apply Kept.drew | refine Kept.setCell ?_ (.inr GW223.out) _ | refine Kept.setCell ?_ (.inr GW224.out) _ | refine Kept.setCell ?_ (.inr GW227.out) _) | exact HK.out)⟩, ⟨be3 HB GE223 GE224 GE227⟩⟩
   case rest =>
    clear HC30
    try clear c1; try clear c2; try clear p2; try clear q2; try clear hx2; try clear c3; try clear c5; try clear c9; try clear c13; try clear c19; try clear c20; try clear c22; try clear c22b0; try clear p22; try clear q22; try clear hx22; try clear c23; try clear c23b0; try clear c24; try clear c24b0; try clear c25; try clear c26; try clear c28; try clear c31; try clear c31b0; try clear c32; try clear c32b0; try clear c33; try clear c33b0; try clear c34; try clear c35; try clear c37; try clear hcz14_0; try clear hcz16_0; try clear hcz21_0; try clear hcz27_0; try clear hcz29_0; try clear hcz36_0; try clear hcz38_0; try clear hx228_0; try clear hx228_1; try clear hx228_2; try clear hx229_0; try clear hx229_1; try clear hx229_2; try clear p2; try clear p22; try clear p228; try clear p229; try clear q2; try clear q22; try clear q228; try clear q229
    obtain ⟨kq, x228000_29, x228001_29, x228002_29, HA, HJ29, HO_224002, HO_224003, HO_224004, BK223, BK224, BK227, HK, HB⟩ := hcut
    cases kq with
    | zero => exact absurd HA.out (by simp [spec_l10Touch.j1])
    | succ kj29 =>
     have H := HA.out
     clear HA
     simp only [spec_l10Touch.j1] at H
     have HC39 := Aside0.mk H
     clear H
     go_upto_region 8 with (fail)
     go_cut [42] (fun v42 wc => ∃ (kq : Nat) (x42_38 : Bool), v42 = .bool x42_38 ∧ Aside0 (spec_l10Touch.j2 kq a2 a3 t225 t226 x42_38 a0_0 a0_1 l0_2 l0_3 l0_4 x228000_29 x228001_29 x228002_29 = some (r1, r2, r3, r4, r5, r6, r7)) ∧ Aside0 (kq ≤ kj29) ∧ Aside0 (Kd.R k68 68 wc w0.heap.size (fun k_ => ((P0_2_ k_ ∨ P0_3_ k_ ∨ P0_4_ k_) ∨ w.heap.size ≤ k_) ∧ nb k_ Ao9 l0_3.length co9 ∧ k_ ≠ gb227) (.slice Ao8 l0_2.length co8) l0_2) ∧ Aside0 (Kd.R k68 68 wc w0.heap.size (fun k_ => ((P0_2_ k_ ∨ P0_3_ k_ ∨ P0_4_ k_) ∨ w.heap.size ≤ k_) ∧ nb k_ Ao8 l0_2.length co8 ∧ k_ ≠ gb227) (.slice Ao9 l0_3.length co9) l0_3) ∧ Aside0 (Kd.R (Kd.int .i64) 3 wc w0.heap.size (fun k_ => ((P0_2_ k_ ∨ P0_3_ k_ ∨ P0_4_ k_) ∨ w.heap.size ≤ k_)) (.slice Ao10 l0_4.length co10) l0_4) ∧ Aside0 (wc.heap[gb223]? = some (.cells #[.int .i64 a0_0, .int .i64 a0_1, (.slice Ao8 l0_2.length co8), (.slice Ao9 l0_3.length co9), (.slice Ao10 l0_4.length co10)] 30 (0, 0))) ∧ Aside0 (wc.heap[gb224]? = some (.cells #[.int .i64 0, .int .i64 0, (.slice none 0 0), (.slice none 0 0), (.slice none 0 0)] 30 (0, 0))) ∧ Aside0 (wc.heap[gb227]? = some (.cells #[.string x228000_29, .string x228001_29, .int .i64 x228002_29] 68 (0, 0))) ∧ Aside0 (Kept w wc (fun k_ => P0_2_ k_ ∨ P0_3_ k_ ∨ P0_4_ k_)) ∧ Aside0 (Below w0.heap.size w0 wc))
     case first =>
      have H := HC39.out
      clear HC39
      by_cases c40 : t225 < 0
      ·rw [if_pos c40] at H
       have c40b0 : decide (t225 < 0) = true := decide_eq_true c40
       clear c40
       (first | rw [c40b0] | (simp only [i64_w, i32_w]; rw [c40b0]) | skip)
       have H' := Aside0.mk H
       clear H
       go_wp2
       go_meet
       case rel => exact ⟨_, (decide (t226 < 0)), rs, H', ⟨by have := HJ6.out; have := HJ29.out; first | omega | exact Nat.le_refl _⟩, ⟨ro HO_224002⟩, ⟨ro HO_224003⟩, ⟨ro HO_224004⟩, ⟨bk BK223⟩, ⟨bk BK224⟩, ⟨bk BK227⟩, ⟨by repeat (first | (with_reducible first | exact HK.out | apply Kept.alloc | apply Kept.drewN | apply Kept.drew | refine Kept.setCell ?_ (.inr GW223.out) _ | refine Kept.setCell ?_ (.inr GW224.out) _ | refine Kept.setCell ?_ (.inr GW227.out) _) | exact HK.out)⟩, ⟨be3 HB GE223 GE224 GE227⟩⟩
      rw [if_neg c40] at H
      have c40b0 : decide (t225 < 0) = false := decide_eq_false c40
      clear c40
      (first | rw [c40b0] | (simp only [i64_w, i32_w]; rw [c40b0]) | skip)
      have H' := Aside0.mk H
      clear H
      go_wp2
      go_meet
      case rel => exact ⟨_, (false), rs, H', ⟨by have := HJ6.out; have := HJ29.out; first | omega | exact Nat.le_refl _⟩, ⟨ro HO_224002⟩, ⟨ro HO_224003⟩, ⟨ro HO_224004⟩, ⟨bk BK223⟩, ⟨bk BK224⟩, ⟨bk BK227⟩, ⟨by repeat (first | (with_reducible first | exact HK.out | apply Kept.alloc | apply Kept.drewN | apply Kept.drew | refine Kept.setCell ?_ (.inr GW223.out) _ | refine Kept.setCell ?_ (.inr GW224.out) _ | refine Kept.setCell ?_ (.inr GW227.out) _) | exact HK.out)⟩, ⟨be3 HB GE223 GE224 GE227⟩⟩
     case rest =>
      clear HC39
      try clear c1; try clear c2; try clear p2; try clear q2; try clear hx2; try clear c3; try clear c4; try clear c5; try clear c9; try clear c13; try clear c19; try clear c20; try clear c22; try clear c22b0; try clear p22; try clear q22; try clear hx22; try clear c23; try clear c23b0; try clear c24; try clear c24b0; try clear c25; try clear c26; try clear c28; try clear c31; try clear c31b0; try clear c32; try clear c32b0; try clear c33; try clear c33b0; try clear c34; try clear c35; try clear c37; try clear c40; try clear c40b0; try clear hcz14_0; try clear hcz16_0; try clear hcz21_0; try clear hcz27_0; try clear hcz29_0; try clear hcz36_0; try clear hcz38_0; try clear hx228_0; try clear hx228_1; try clear hx228_2; try clear hx229_0; try clear hx229_1; try clear hx229_2; try clear p2; try clear p22; try clear p228; try clear p229; try clear q2; try clear q22; try clear q228; try clear q229
      obtain ⟨kq, x42_38, rfl, HA, HJ38, HO_224002, HO_224003, HO_224004, BK223, BK224, BK227, HK, HB⟩ := hcut
      cases kq with
      | zero => exact absurd HA.out (by simp [spec_l10Touch.j2])
      | succ kj38 =>
       have H := HA.out
       clear HA
       simp only [spec_l10Touch.j2] at H
       by_cases c41 : x42_38 = true
       ·subst c41
        have H1 : (some (a0_0, a0_1, l0_2, l0_3, l0_4, (⟨#[]⟩ : ByteArray), false)) = some (r1, r2, r3, r4, r5, r6, r7) := by rw [if_pos rfl] at H; exact H
        clear H
        have H := H1
        clear H1
        simp only [Option.some.injEq, Prod.mk.injEq] at H
        obtain ⟨rfl, rfl, rfl, rfl, rfl, rfl, rfl⟩ := H
        have hnb42 := NB223_224.out
        have hnc42 := NB224_223.out
        have hnb43 := NB223_227.out
        have hnc43 := NB227_223.out
        have hcz44_0 := bz5 BK223
        have hnb45 := NB224_227.out
        have hnc45 := NB227_224.out
        have hcz46_0 := bz5 BK224
        go_wp2
        refine bodyPost_ret (results_ctt rfl _ _ gb224 30 #[.int .i64 a0_0, .int .i64 a0_1, .slice Ao8 l0_2.length co8, .slice Ao9 l0_3.length co9, .slice Ao10 l0_4.length co10] (0, 0) _ rfl (by (with_reducible repeat (first | refine blk_drewN ?_ _ | refine blk_drew ?_ | refine blk_alloc ?_ _)); refine blk_put (cs := #[.int .i64 a0_0, .int .i64 a0_1, .slice Ao8 l0_2.length co8, .slice Ao9 l0_3.length co9, .slice none 0 0]) ?_ 4 _ rfl; (with_reducible repeat (first | refine blk_drewN ?_ _ | refine blk_drew ?_ | refine blk_alloc ?_ _)); refine blk_put (cs := #[.int .i64 a0_0, .int .i64 a0_1, .slice Ao8 l0_2.length co8, .slice none 0 0, .slice none 0 0]) ?_ 3 _ rfl; (with_reducible repeat (first | refine blk_drewN ?_ _ | refine blk_drew ?_ | refine blk_alloc ?_ _)); refine blk_put (cs := #[.int .i64 a0_0, .int .i64 a0_1, .slice none 0 0, .slice none 0 0, .slice none 0 0]) ?_ 2 _ rfl; (with_reducible repeat (first | refine blk_drewN ?_ _ | refine blk_drew ?_ | refine blk_alloc ?_ _)); refine blk_put (cs := #[.int .i64 a0_0, .int .i64 0, .slice none 0 0, .slice none 0 0, .slice none 0 0]) ?_ 1 _ rfl; (with_reducible repeat (first | refine blk_drewN ?_ _ | refine blk_drew ?_ | refine blk_alloc ?_ _)); refine blk_put (cs := #[.int .i64 0, .int .i64 0, .slice none 0 0, .slice none 0 0, .slice none 0 0]) ?_ 0 _ rfl; (with_reducible repeat (first | refine blk_drewN ?_ _ | refine blk_drew ?_ | refine blk_alloc ?_ _)); exact BK224.out) Try.underlying30 rfl (by kernel_rfl)) rfl ?_
        exact ⟨_, _, _, er, by (with_reducible repeat (first | apply Kd.R_alloc | apply Kd.R_drewN | apply Kd.R_drew)); exact Kd.R_mono (Kd.R_far (p := ⟨gb224, 4, none⟩) (Kd.R_far (p := ⟨gb224, 3, none⟩) (Kd.R_far (p := ⟨gb224, 2, none⟩) (Kd.R_far (p := ⟨gb224, 1, none⟩) (Kd.R_far (p := ⟨gb224, 0, none⟩) (Kd.R_types HO_224002.out BK224.out (by decide)) (fun _ hk => hk.2) (.int .i64 a0_0)) (fun _ hk => hk.2) (.int .i64 a0_1)) (fun _ hk => hk.2) (.slice Ao8 l0_2.length co8)) (fun _ hk => hk.2) (.slice Ao9 l0_3.length co9)) (fun _ hk => hk.2) (.slice Ao10 l0_4.length co10)) (fun _ hk => ⟨hk.1.1, hk.1.2.1⟩), by (with_reducible repeat (first | apply Kd.R_alloc | apply Kd.R_drewN | apply Kd.R_drew)); exact Kd.R_mono (Kd.R_far (p := ⟨gb224, 4, none⟩) (Kd.R_far (p := ⟨gb224, 3, none⟩) (Kd.R_far (p := ⟨gb224, 2, none⟩) (Kd.R_far (p := ⟨gb224, 1, none⟩) (Kd.R_far (p := ⟨gb224, 0, none⟩) (Kd.R_types HO_224003.out BK224.out (by decide)) (fun _ hk => hk.2) (.int .i64 a0_0)) (fun _ hk => hk.2) (.int .i64 a0_1)) (fun _ hk => hk.2) (.slice Ao8 l0_2.length co8)) (fun _ hk => hk.2) (.slice Ao9 l0_3.length co9)) (fun _ hk => hk.2) (.slice Ao10 l0_4.length co10)) (fun _ hk => ⟨hk.1.1, hk.1.2.1⟩), by (with_reducible repeat (first | apply Kd.R_alloc | apply Kd.R_drewN | apply Kd.R_drew)); exact Kd.R_mono (Kd.R_far (p := ⟨gb224, 4, none⟩) (Kd.R_far (p := ⟨gb224, 3, none⟩) (Kd.R_far (p := ⟨gb224, 2, none⟩) (Kd.R_far (p := ⟨gb224, 1, none⟩) (Kd.R_far (p := ⟨gb224, 0, none⟩) (Kd.R_types HO_224004.out BK224.out (by decide)) (fun _ hk => hk.2) (.int .i64 a0_0)) (fun _ hk => hk.2) (.int .i64 a0_1)) (fun _ hk => hk.2) (.slice Ao8 l0_2.length co8)) (fun _ hk => hk.2) (.slice Ao9 l0_3.length co9)) (fun _ hk => hk.2) (.slice Ao10 l0_4.length co10)) (fun _ hk => hk.1), be3 HB GE223 GE224 GE227, by repeat (first | (with_reducible first | exact HK.out | apply Kept.alloc | apply Kept.drewN | apply Kept.drew | refine Kept.setCell ?_ (.inr GW223.out) _ | refine Kept.setCell ?_ (.inr GW224.out) _ | refine Kept.setCell ?_ (.inr GW227.out) _) | exact HK.out)⟩
       replace c41 := Bool.eq_false_iff.mpr c41
       subst c41
       have H1 : ((spec_l10More.f x228002_29).bind fun t230 => (if a2 = true then (if t225 ≥ 0 then (if 0 ≤ t225 then (if t225 < (l0_2.length : Int) then (some (a0_0, a0_1, (l0_2.set (t225 : Int).toNat (⟨x228000_29, a3, t230⟩ : S68)), l0_3, l0_4, a3, true)) else (none)) else (none)) else (if 0 ≤ t226 then (if t226 < (l0_3.length : Int) then (some (a0_0, a0_1, l0_2, (l0_3.set (t226 : Int).toNat (⟨x228000_29, a3, t230⟩ : S68)), l0_4, a3, true)) else (none)) else (none))) else (if t225 ≥ 0 then (if 0 ≤ t225 then (if t225 < (l0_2.length : Int) then (some (a0_0, a0_1, (l0_2.set (t225 : Int).toNat (⟨x228000_29, x228001_29, t230⟩ : S68)), l0_3, l0_4, x228001_29, true)) else (none)) else (none)) else (if 0 ≤ t226 then (if t226 < (l0_3.length : Int) then (some (a0_0, a0_1, l0_2, (l0_3.set (t226 : Int).toNat (⟨x228000_29, x228001_29, t230⟩ : S68)), l0_4, x228001_29, true)) else (none)) else (none))))) = some (r1, r2, r3, r4, r5, r6, r7) := by rw [if_neg (show ¬ (false = true) by decide)] at H; exact H
       clear H
       have H := H1
       clear H1
       replace H := Option.bind_eq_some_iff.mp H
       obtain ⟨t230, A470, H⟩ := H
       replace H : (if a2 = true then (if t225 ≥ 0 then (if 0 ≤ t225 then (if t225 < (l0_2.length : Int) then (some (a0_0, a0_1, (l0_2.set (t225 : Int).toNat (⟨x228000_29, a3, t230⟩ : S68)), l0_3, l0_4, a3, true)) else (none)) else (none)) else (if 0 ≤ t226 then (if t226 < (l0_3.length : Int) then (some (a0_0, a0_1, l0_2, (l0_3.set (t226 : Int).toNat (⟨x228000_29, a3, t230⟩ : S68)), l0_4, a3, true)) else (none)) else (none))) else (if t225 ≥ 0 then (if 0 ≤ t225 then (if t225 < (l0_2.length : Int) then (some (a0_0, a0_1, (l0_2.set (t225 : Int).toNat (⟨x228000_29, x228001_29, t230⟩ : S68)), l0_3, l0_4, x228001_29, true)) else (none)) else (none)) else (if 0 ≤ t226 then (if t226 < (l0_3.length : Int) then (some (a0_0, a0_1, l0_2, (l0_3.set (t226 : Int).toNat (⟨x228000_29, x228001_29, t230⟩ : S68)), l0_4, x228001_29, true)) else (none)) else (none)))) = some (r1, r2, r3, r4, r5, r6, r7) := H
       have A47 := Aside0.mk A470
       clear A470
       by_cases c48 : a2 = true
       ·subst c48
        have H1 : (if t225 ≥ 0 then (if 0 ≤ t225 then (if t225 < (l0_2.length : Int) then (some (a0_0, a0_1, (l0_2.set (t225 : Int).toNat (⟨x228000_29, a3, t230⟩ : S68)), l0_3, l0_4, a3, true)) else (none)) else (none)) else (if 0 ≤ t226 then (if t226 < (l0_3.length : Int) then (some (a0_0, a0_1, l0_2, (l0_3.set (t226 : Int).toNat (⟨x228000_29, a3, t230⟩ : S68)), l0_4, a3, true)) else (none)) else (none))) = some (r1, r2, r3, r4, r5, r6, r7) := by rw [if_pos rfl] at H; exact H
        clear H
        have H := H1
        clear H1
        by_cases c49 : t225 ≥ 0
        ·rw [if_pos c49] at H
         have c49b0 : decide (0 ≤ t225) = true := decide_eq_true c49
         clear c49
         by_cases c50 : 0 ≤ t225
         ·rw [if_pos c50] at H
          have c50b0 : decide (0 ≤ t225) = true := decide_eq_true c50
          clear c50
          by_cases c51 : t225 < (l0_2.length : Int)
          ·rw [if_pos c51] at H
           have c51b0 : decide (t225 < (l0_2.length : Int)) = true := decide_eq_true c51
           clear c51
           obtain ⟨y231, hy231⟩ : ∃ y_ : List (S68), y_ = (l0_2.set (t225 : Int).toNat (⟨x228000_29, a3, t230⟩ : S68)) := ⟨_, rfl⟩
           replace H : (some (a0_0, a0_1, y231, l0_3, l0_4, a3, true)) = some (r1, r2, r3, r4, r5, r6, r7) := by first | (rw [hy231]; with_reducible exact H) | (have H2_ := (Option.bind_some _ _).symm.trans H; rw [hy231]; with_reducible exact H2_) | (have H2_ := (Option.bind_some _ _).symm.trans H; with_reducible exact H2_) | with_reducible exact H | (rw [hy231]; exact H) | exact H
           have Ny231 := Aside0.mk hy231
           clear hy231
           simp only [Option.some.injEq, Prod.mk.injEq] at H
           obtain ⟨rfl, rfl, rfl, rfl, rfl, rfl, rfl⟩ := H
           have hnb53 := NB227_223.out
           have hnc53 := NB223_227.out
           have hnb54 := NB227_224.out
           have hnc54 := NB224_227.out
           have hcz55_0 := bz3 BK227
           try go_wp2_with (first | ((with_reducible refine gate_callee (f := 117) rfl ?_); refine gl 46 Try.func117 #[.int .i64 x228002_29] ?_; (with_reducible refine (spec_l10More.calls x228002_29 t230 _ A47.out).mono ?_); rintro e w' ⟨rfl, ⟨nd, rfl⟩⟩; refine ⟨_, rfl, ?_⟩; (try (rw [drewN_self wc]; generalize hq_ : World.drewN wc _ = wc; have n0_ : Aside0 (Kd.R k68 68 wc w0.heap.size (fun k_ => ((P0_2_ k_ ∨ P0_3_ k_ ∨ P0_4_ k_) ∨ w.heap.size ≤ k_) ∧ nb k_ Ao9 l0_3.length co9 ∧ k_ ≠ gb227) (.slice Ao8 l0_2.length co8) l0_2) := ⟨by rw [← hq_]; exact (ro HO_224002)⟩; have n1_ : Aside0 (Kd.R k68 68 wc w0.heap.size (fun k_ => ((P0_2_ k_ ∨ P0_3_ k_ ∨ P0_4_ k_) ∨ w.heap.size ≤ k_) ∧ nb k_ Ao8 l0_2.length co8 ∧ k_ ≠ gb227) (.slice Ao9 l0_3.length co9) l0_3) := ⟨by rw [← hq_]; exact (ro HO_224003)⟩; have n2_ : Aside0 (Kd.R (Kd.int .i64) 3 wc w0.heap.size (fun k_ => ((P0_2_ k_ ∨ P0_3_ k_ ∨ P0_4_ k_) ∨ w.heap.size ≤ k_)) (.slice Ao10 l0_4.length co10) l0_4) := ⟨by rw [← hq_]; exact (ro HO_224004)⟩; have n3_ : Aside0 (wc.heap[gb223]? = some (.cells #[.int .i64 a0_0, .int .i64 a0_1, .slice Ao8 l0_2.length co8, .slice Ao9 l0_3.length co9, .slice Ao10 l0_4.length co10] 30 (0, 0))) := ⟨by rw [← hq_]; exact (bk BK223)⟩; have n4_ : Aside0 (wc.heap[gb224]? = some (.cells #[.int .i64 0, .int .i64 0, .slice none 0 0, .slice none 0 0, .slice none 0 0] 30 (0, 0))) := ⟨by rw [← hq_]; exact (bk BK224)⟩; have n5_ : Aside0 (wc.heap[gb227]? = some (.cells #[.string x228000_29, .string x228001_29, .int .i64 x228002_29] 68 (0, 0))) := ⟨by rw [← hq_]; exact (bk BK227)⟩; have n6_ : Aside0 (Kept w wc (fun k_ => P0_2_ k_ ∨ P0_3_ k_ ∨ P0_4_ k_)) := ⟨by rw [← hq_]; exact (by repeat (first | (with_reducible first | exact HK.out | apply Kept.alloc | apply Kept.drewN | apply Kept.drew | refine Kept.setCell ?_ (.inr GW223.out) _ | refine Kept.setCell ?_ (.inr GW224.out) _ | refine Kept.setCell ?_ (.inr GW227.out) _) | exact HK.out))⟩; have n7_ : Aside0 (Below w0.heap.size w0 wc) := ⟨by rw [← hq_]; exact (be3 HB GE223 GE224 GE227)⟩; clear HO_224002 HO_224003 HO_224004 BK223 BK224 BK227 HK HB hq_; have HO_224002 := n0_; have HO_224003 := n1_; have HO_224004 := n2_; have BK223 := n3_; have BK224 := n4_; have BK227 := n5_; have HK := n6_; have HB := n7_; clear n0_ n1_ n2_ n3_ n4_ n5_ n6_ n7_)); (try have hcg223_ := bz5 BK223); (try have hcg224_ := bz5 BK224); (try have hcg227_ := bz3 BK227)) | ((with_reducible refine gate_store (t := 3) (p := 47) rfl ?_); refine store_event (t := 3) (p := 47) (v := ?vo_w56) (w1 := (wc.setCell ⟨gb227, 2, none⟩ (.int .i64 t230))) ?hg ?ho ?hn ?hr ?_; (case ho => rfl); (case hg => rfl); (case hn => rfl); (case hr => first | (go_simp; done) | (go_simp; rfl)); intro w56 hw; have n0_ : Aside0 (Kd.R k68 68 w56 w0.heap.size (fun k_ => ((P0_2_ k_ ∨ P0_3_ k_ ∨ P0_4_ k_) ∨ w.heap.size ≤ k_) ∧ nb k_ Ao9 l0_3.length co9 ∧ k_ ≠ gb227) (.slice Ao8 l0_2.length co8) l0_2) := ⟨(by rw [hw]; exact (by (with_reducible repeat (first | apply Kd.R_alloc | apply Kd.R_drewN | apply Kd.R_drew)); exact Kd.R_mono (Kd.R_far (p := ⟨gb227, 2, none⟩) (Kd.R_mono HO_224002.out (fun k_ hk => (⟨hk, hk.2.2⟩ : _ ∧ k_ ≠ gb227))) (fun _ hk => hk.2) (.int .i64 t230)) (fun _ hk => ⟨hk.1.1, ⟨hk.1.2.1, hk.1.2.2⟩⟩)))⟩; have n1_ : Aside0 (Kd.R k68 68 w56 w0.heap.size (fun k_ => ((P0_2_ k_ ∨ P0_3_ k_ ∨ P0_4_ k_) ∨ w.heap.size ≤ k_) ∧ nb k_ Ao8 l0_2.length co8 ∧ k_ ≠ gb227) (.slice Ao9 l0_3.length co9) l0_3) := ⟨(by rw [hw]; exact (by (with_reducible repeat (first | apply Kd.R_alloc | apply Kd.R_drewN | apply Kd.R_drew)); exact Kd.R_mono (Kd.R_far (p := ⟨gb227, 2, none⟩) (Kd.R_mono HO_224003.out (fun k_ hk => (⟨hk, hk.2.2⟩ : _ ∧ k_ ≠ gb227))) (fun _ hk => hk.2) (.int .i64 t230)) (fun _ hk => ⟨hk.1.1, ⟨hk.1.2.1, hk.1.2.2⟩⟩)))⟩; have n2_ : Aside0 (Kd.R (Kd.int .i64) 3 w56 w0.heap.size (fun k_ => ((P0_2_ k_ ∨ P0_3_ k_ ∨ P0_4_ k_) ∨ w.heap.size ≤ k_)) (.slice Ao10 l0_4.length co10) l0_4) := ⟨(by rw [hw]; exact (by (with_reducible repeat (first | apply Kd.R_alloc | apply Kd.R_drewN | apply Kd.R_drew)); exact Kd.R_mono (Kd.R_far (p := ⟨gb227, 2, none⟩) (Kd.R_types HO_224004.out BK227.out (by decide)) (fun _ hk => hk.2) (.int .i64 t230)) (fun _ hk => hk.1)))⟩; have n3_ : Aside0 (w56.heap[gb223]? = some (.cells #[.int .i64 a0_0, .int .i64 a0_1, .slice Ao8 l0_2.length co8, .slice Ao9 l0_3.length co9, .slice Ao10 l0_4.length co10] 30 (0, 0))) := ⟨(by rw [hw]; exact (bf1 BK223 NB223_227))⟩; have n4_ : Aside0 (w56.heap[gb224]? = some (.cells #[.int .i64 0, .int .i64 0, .slice none 0 0, .slice none 0 0, .slice none 0 0] 30 (0, 0))) := ⟨(by rw [hw]; exact (bf1 BK224 NB224_227))⟩; have n5_ : Aside0 (w56.heap[gb227]? = some (.cells #[.string x228000_29, .string x228001_29, .int .i64 t230] 68 (0, 0))) := ⟨(by rw [hw]; exact (by (with_reducible repeat (first | refine blk_drewN ?_ _ | refine blk_drew ?_ | refine blk_alloc ?_ _)); refine blk_put (cs := #[.string x228000_29, .string x228001_29, .int .i64 x228002_29]) ?_ 2 _ rfl; (with_reducible repeat (first | refine blk_drewN ?_ _ | refine blk_drew ?_ | refine blk_alloc ?_ _)); exact BK227.out))⟩; have n6_ : Aside0 (Kept w w56 (fun k_ => P0_2_ k_ ∨ P0_3_ k_ ∨ P0_4_ k_)) := ⟨(by rw [hw]; exact (by repeat (first | (with_reducible first | exact HK.out | apply Kept.alloc | apply Kept.drewN | apply Kept.drew | refine Kept.setCell ?_ (.inr GW223.out) _ | refine Kept.setCell ?_ (.inr GW224.out) _ | refine Kept.setCell ?_ (.inr GW227.out) _) | exact HK.out)))⟩; have n7_ : Aside0 (Below w0.heap.size w0 w56) := ⟨(by rw [hw]; exact (be3 HB GE223 GE224 GE227))⟩; clear hw; clear HO_224002; clear HO_224003; clear HO_224004; clear BK223; clear BK224; clear BK227; clear HK; clear HB; have HO_224002 := n0_; have HO_224003 := n1_; have HO_224004 := n2_; have BK223 := n3_; have BK224 := n4_; have BK227 := n5_; have HK := n6_; have HB := n7_; clear n0_ n1_ n2_ n3_ n4_ n5_ n6_ n7_; have hcz57_0 := bz3 BK227) | ((with_reducible refine gate_store (t := 9) (p := 50) rfl ?_); refine store_event (t := 9) (p := 50) (v := ?vo_w58) (w1 := (w56.setCell ⟨gb227, 1, none⟩ (.string a3))) ?hg ?ho ?hn ?hr ?_; (case ho => rfl); (case hg => rfl); (case hn => rfl); (case hr => first | (go_simp; done) | (go_simp; rfl)); intro w58 hw; have n0_ : Aside0 (Kd.R k68 68 w58 w0.heap.size (fun k_ => ((P0_2_ k_ ∨ P0_3_ k_ ∨ P0_4_ k_) ∨ w.heap.size ≤ k_) ∧ nb k_ Ao9 l0_3.length co9 ∧ k_ ≠ gb227) (.slice Ao8 l0_2.length co8) l0_2) := ⟨(by rw [hw]; exact (by (with_reducible repeat (first | apply Kd.R_alloc | apply Kd.R_drewN | apply Kd.R_drew)); exact Kd.R_mono (Kd.R_far (p := ⟨gb227, 1, none⟩) (Kd.R_mono HO_224002.out (fun k_ hk => (⟨hk, hk.2.2⟩ : _ ∧ k_ ≠ gb227))) (fun _ hk => hk.2) (.string a3)) (fun _ hk => ⟨hk.1.1, ⟨hk.1.2.1, hk.1.2.2⟩⟩)))⟩; have n1_ : Aside0 (Kd.R k68 68 w58 w0.heap.size (fun k_ => ((P0_2_ k_ ∨ P0_3_ k_ ∨ P0_4_ k_) ∨ w.heap.size ≤ k_) ∧ nb k_ Ao8 l0_2.length co8 ∧ k_ ≠ gb227) (.slice Ao9 l0_3.length co9) l0_3) := ⟨(by rw [hw]; exact (by (with_reducible repeat (first | apply Kd.R_alloc | apply Kd.R_drewN | apply Kd.R_drew)); exact Kd.R_mono (Kd.R_far (p := ⟨gb227, 1, none⟩) (Kd.R_mono HO_224003.out (fun k_ hk => (⟨hk, hk.2.2⟩ : _ ∧ k_ ≠ gb227))) (fun _ hk => hk.2) (.string a3)) (fun _ hk => ⟨hk.1.1, ⟨hk.1.2.1, hk.1.2.2⟩⟩)))⟩; have n2_ : Aside0 (Kd.R (Kd.int .i64) 3 w58 w0.heap.size (fun k_ => ((P0_2_ k_ ∨ P0_3_ k_ ∨ P0_4_ k_) ∨ w.heap.size ≤ k_)) (.slice Ao10 l0_4.length co10) l0_4) := ⟨(by rw [hw]; exact (by (with_reducible repeat (first | apply Kd.R_alloc | apply Kd.R_drewN | apply Kd.R_drew)); exact Kd.R_mono (Kd.R_far (p := ⟨gb227, 1, none⟩) (Kd.R_types HO_224004.out BK227.out (by decide)) (fun _ hk => hk.2) (.string a3)) (fun _ hk => hk.1)))⟩; have n3_ : Aside0 (w58.heap[gb223]? = some (.cells #[.int .i64 a0_0, .int .i64 a0_1, .slice Ao8 l0_2.length co8, .slice Ao9 l0_3.length co9, .slice Ao10 l0_4.length co10] 30 (0, 0))) := ⟨(by rw [hw]; exact (bf1 BK223 NB223_227))⟩; have n4_ : Aside0 (w58.heap[gb224]? = some (.cells #[.int .i64 0, .int .i64 0, .slice none 0 0, .slice none 0 0, .slice none 0 0] 30 (0, 0))) := ⟨(by rw [hw]; exact (bf1 BK224 NB224_227))⟩; have n5_ : Aside0 (w58.heap[gb227]? = some (.cells #[.string x228000_29, .string a3, .int .i64 t230] 68 (0, 0))) := ⟨(by rw [hw]; exact (by (with_reducible repeat (first | refine blk_drewN ?_ _ | refine blk_drew ?_ | refine blk_alloc ?_ _)); refine blk_put (cs := #[.string x228000_29, .string x228001_29, .int .i64 t230]) ?_ 1 _ rfl; (with_reducible repeat (first | refine blk_drewN ?_ _ | refine blk_drew ?_ | refine blk_alloc ?_ _)); exact BK227.out))⟩; have n6_ : Aside0 (Kept w w58 (fun k_ => P0_2_ k_ ∨ P0_3_ k_ ∨ P0_4_ k_)) := ⟨(by rw [hw]; exact (by repeat (first | (with_reducible first | exact HK.out | apply Kept.alloc | apply Kept.drewN | apply Kept.drew | refine Kept.setCell ?_ (.inr GW223.out) _ | refine Kept.setCell ?_ (.inr GW224.out) _ | refine Kept.setCell ?_ (.inr GW227.out) _) | exact HK.out)))⟩; have n7_ : Aside0 (Below w0.heap.size w0 w58) := ⟨(by rw [hw]; exact (be3 HB GE223 GE224 GE227))⟩; clear hw; clear HO_224002; clear HO_224003; clear HO_224004; clear BK223; clear BK224; clear BK227; clear HK; clear HB; have HO_224002 := n0_; have HO_224003 := n1_; have HO_224004 := n2_; have BK223 := n3_; have BK224 := n4_; have BK227 := n5_; have HK := n6_; have HB := n7_; clear n0_ n1_ n2_ n3_ n4_ n5_ n6_ n7_; have hnb59 := NB223_224.out; have hnc59 := NB224_223.out; have hcz60_0 := bz5 BK223; have hcz61_0 := bz3 BK227; have p52 : 0 ≤ (t225 : Int) := od; have q52 : (t225 : Int) < ((l0_2.length : Int) : Int) := od; obtain ⟨go52, co52, eo52, gb52, gl52, cl52, HG52⟩ := Kd.R_form HO_224002.out (by omega); (first | cases eo52 | (injection eo52 with ea_ en_ ec_; (first | subst ea_ | (injection ea_ with ea_; subst ea_)); subst ec_; clear en_)); have GB52 := Aside0.mk gb52; have GG52 := Aside0.mk HG52; clear gb52 gl52 HG52; have HMgo52 := Aside0.mk (show ((P0_2_ go52 ∨ P0_3_ go52 ∨ P0_4_ go52) ∨ w.heap.size ≤ go52) from (HO_224002.out.1 _ rfl).1); obtain ⟨ce52, hcl52, hM52, hcc52, hfr52⟩ := Kd.R_elem HO_224002.out z68 (t225 : Int) p52 q52; obtain rfl := k68_openM hM52; have hx52_0 : w58.cell? ⟨go52, (t225 : Int).toNat * 3, none⟩ = some (.string ((rd_T68 l0_2 t225).f0)) := hcc52 0 _ rfl; have hx52_1 : w58.cell? ⟨go52, (t225 : Int).toNat * 3 + 1, none⟩ = some (.string ((rd_T68 l0_2 t225).f1)) := hcc52 1 _ rfl; have hx52_2 : w58.cell? ⟨go52, (t225 : Int).toNat * 3 + 2, none⟩ = some (.int .i64 ((rd_T68 l0_2 t225).f2)) := hcc52 2 _ rfl; have hf52_0 : w58.frozen? ⟨go52, (t225 : Int).toNat * 3, none⟩ = false := hfr52 0; have hf52_1 : w58.frozen? ⟨go52, (t225 : Int).toNat * 3 + 1, none⟩ = false := hfr52 1; have hf52_2 : w58.frozen? ⟨go52, (t225 : Int).toNat * 3 + 2, none⟩ = false := hfr52 2; clear hcl52 hcc52 hfr52 hM52; replace p52 := eq_true p52; replace q52 := eq_true q52; have HX62 := Aside0.mk (show Kd.R k68 68 w58 w0.heap.size (fun k_ => ((P0_2_ k_ ∨ P0_3_ k_ ∨ P0_4_ k_) ∨ w.heap.size ≤ k_) ∧ nb k_ Ao9 l0_3.length co9 ∧ k_ ≠ gb227) (.slice (some ⟨go52, 0, none⟩) l0_2.length co8) l0_2 from (ro HO_224002)); obtain ⟨ce62, hcl62, hM62, hcc62, hfr62⟩ := Kd.R_elem HX62.out z68 (t225 : Int) (od) (by have h_ : (t225 : Int) < ((l0_2.length : Int) : Int) := od; first | exact h_ | (have e_ := (Kd.R_reads' HO_224002.out).1; omega) | simpa using h_); obtain rfl := k68_openM hM62; have HP62 := Kd.R_seg HX62.out (t225 : Int) (od) (by have h_ : (t225 : Int) < ((l0_2.length : Int) : Int) := od; first | exact h_ | (have e_ := (Kd.R_reads' HO_224002.out).1; omega) | simpa using h_) (seg := [.string x228000_29, .string a3, .int .i64 t230]) (j := 0) hcl62 hcc62 (show 3 ≤ 3 from by decide) (x' := (⟨x228000_29, a3, t230⟩ : S68)) (k68_mkM _ _ _ (⟨x228000_29, a3, t230⟩ : S68) ) (fun _ hk => hk); have hx62_0 := hcc62 0 _ rfl; (try simp only [show (k68).sz = 3 from rfl, Nat.mul_one, Nat.add_zero] at hx62_0); have hf62_0 := hfr62 0; (try simp only [show (k68).sz = 3 from rfl, Nat.mul_one, Nat.add_zero] at hf62_0); have hx62_1 := hcc62 1 _ rfl; (try simp only [show (k68).sz = 3 from rfl, Nat.mul_one, Nat.add_zero] at hx62_1); have hf62_1 := hfr62 1; (try simp only [show (k68).sz = 3 from rfl, Nat.mul_one, Nat.add_zero] at hf62_1); have hx62_2 := hcc62 2 _ rfl; (try simp only [show (k68).sz = 3 from rfl, Nat.mul_one, Nat.add_zero] at hx62_2); have hf62_2 := hfr62 2; (try simp only [show (k68).sz = 3 from rfl, Nat.mul_one, Nat.add_zero] at hf62_2); clear hcl62 hcc62 hfr62 hM62) | ((with_reducible refine gate_store (t := 68) (p := 57) rfl ?_); refine store_event (t := 68) (p := 57) (v := ?vo_w63) (w1 := (((w58.setCell ⟨go52, (t225 : Int).toNat * 3, none⟩ (.string x228000_29)).setCell ⟨go52, (t225 : Int).toNat * 3 + 1, none⟩ (.string a3)).setCell ⟨go52, (t225 : Int).toNat * 3 + 2, none⟩ (.int .i64 t230))) ?hg ?ho ?hn ?hr ?_; (case ho => rfl); (case hg => rfl); (case hn => rfl); (case hr => first | (go_simp; done) | (go_simp; rfl)); intro w63 hw; have hg : w58.grownBy w63 (some go52) := (by rw [hw]; exact HP62.2); have hp_ : Kd.R k68 68 w63 w0.heap.size (fun k_ => ((P0_2_ k_ ∨ P0_3_ k_ ∨ P0_4_ k_) ∨ w.heap.size ≤ k_) ∧ nb k_ Ao9 l0_3.length co9 ∧ k_ ≠ gb227) (.slice (some ⟨go52, 0, none⟩) l0_2.length co8) y231 := (by rw [hw, Ny231.out]; exact HP62.1); clear HP62; replace HO_224003 := Aside0.mk (Kd.R_after (v := (.slice (some ⟨go52, 0, none⟩) l0_2.length co8)) (v1 := (.slice (some ⟨go52, 0, none⟩) l0_2.length co8)) (ok := (fun k_ => ((P0_2_ k_ ∨ P0_3_ k_ ∨ P0_4_ k_) ∨ w.heap.size ≤ k_) ∧ k_ ≠ gb227)) (by (with_reducible repeat (first | apply Kd.R_alloc | apply Kd.R_drewN | apply Kd.R_drew)); exact rm HO_224003) hg (.inl rfl)); replace HO_224004 := Aside0.mk (Kd.R_over' (v := (.slice (some ⟨go52, 0, none⟩) l0_2.length co8)) (ro HO_224004) (Kd.R_typed HO_224002.out) (by decide) hg); replace BK223 := Aside0.mk (blk_grown (g := gb223) (o := .cells #[.int .i64 a0_0, .int .i64 a0_1, .slice (some ⟨go52, 0, none⟩) l0_2.length co8, .slice Ao9 l0_3.length co9, .slice Ao10 l0_4.length co10] 30 (0, 0)) (bk BK223) hg (Kd.R_ne HO_224002.out BK223.out (by decide))); replace BK224 := Aside0.mk (blk_grown (g := gb224) (o := .cells #[.int .i64 0, .int .i64 0, .slice none 0 0, .slice none 0 0, .slice none 0 0] 30 (0, 0)) (bk BK224) hg (Kd.R_ne HO_224002.out BK224.out (by decide))); replace BK227 := Aside0.mk (blk_grown (g := gb227) (o := .cells #[.string x228000_29, .string a3, .int .i64 t230] 68 (0, 0)) (bk BK227) hg (Kd.R_away HO_224002.out (fun _ hk => hk.2.2))); replace HB := Aside0.mk ((by rw [hw]; exact below_set (below_set (below_set (HB.out) GB52.out) GB52.out) GB52.out : Below w0.heap.size w0 w63)); replace HK := Aside0.mk (Kept.of_grown (S := (fun k_ => P0_2_ k_ ∨ P0_3_ k_ ∨ P0_4_ k_)) hg (by repeat (first | (with_reducible first | exact HK.out | apply Kept.alloc | apply Kept.drewN | apply Kept.drew | refine Kept.setCell ?_ (.inr GW223.out) _ | refine Kept.setCell ?_ (.inr GW224.out) _ | refine Kept.setCell ?_ (.inr GW227.out) _) | exact HK.out)) (fun k_ e_ => (HO_224002.out.1 k_ e_).1)); replace HO_224002 := Aside0.mk (hp_); clear hg hw hp_))
           have n0_ := Aside0.mk (Kd.R_drew HO_224002.out)
           have n1_ := Aside0.mk (Kd.R_drew HO_224003.out)
           have n2_ := Aside0.mk (Kd.R_drew HO_224004.out)
           have n3_ := Aside0.mk (blk_drew BK223.out)
           have n4_ := Aside0.mk (blk_drew BK224.out)
           have n5_ := Aside0.mk (blk_drew BK227.out)
           have n6_ := Aside0.mk (Kept.drew HK.out)
           have n7_ := Aside0.mk (below_drew1 HB.out)
           clear HO_224002
           clear HO_224003
           clear HO_224004
           clear BK223
           clear BK224
           clear BK227
           clear HK
           clear HB
           have HO_224002 := n0_
           have HO_224003 := n1_
           have HO_224004 := n2_
           have BK223 := n3_
           have BK224 := n4_
           have BK227 := n5_
           have HK := n6_
           have HB := n7_
           clear n0_ n1_ n2_ n3_ n4_ n5_ n6_ n7_
           refine start_ (n := 6) (S := fun w' => w'.cell? ⟨gb223, 0, none⟩ = some (.int .i64 a0_0) ∧ w'.cell? ⟨gb223, 1, none⟩ = some (.int .i64 a0_1) ∧ w'.cell? ⟨gb223, 2, none⟩ = some (.slice (some ⟨go52, 0, none⟩) l0_2.length co8) ∧ w'.cell? ⟨gb223, 3, none⟩ = some (.slice Ao9 l0_3.length co9) ∧ w'.cell? ⟨gb223, 4, none⟩ = some (.slice Ao10 l0_4.length co10) ∧ w'.cell? ⟨gb227, 0, none⟩ = some (.string x228000_29) ∧ w'.cell? ⟨gb227, 1, none⟩ = some (.string a3) ∧ w'.cell? ⟨gb227, 2, none⟩ = some (.int .i64 t230)) (ds := []) (bv 6 0x0) (by kernel_rfl) rfl rfl ⟨bc0 BK223, bc1 BK223, bc2 BK223, bc3 BK223, bc4 BK223, bc0 BK227, bc1 BK227, bc2 BK227⟩ (fun hHeld => ?_)
           generalize w63.drew = w64 at HO_224002 HO_224003 HO_224004 BK223 BK224 BK227 HK HB hHeld ⊢
           refine pure_ (i := 1) (N := some 64) (v := ?_) (a' := ?_) (bv 6 0x2) rfl rfl (by kernel_rfl) (fun _ _ _ h => h) (Or.inl ⟨by rfl, ?_⟩) ?_ ?_
           rotate_left
           ·intro w'
            go_simp
            with_reducible rfl
           rotate_left
           ·simp only [aP]
            rfl
           refine take_ (i := 0) (N := some 63) (v := ?_) (a' := ?_) (bv 6 0x3) rfl rfl (by kernel_rfl) (fun _ _ _ h => h) (Or.inl ⟨by rfl, ?_⟩) hHeld ?_ ?_
           rotate_left
           ·rintro w' ⟨s0, s1, s2, s3, s4, s5, s6, s7⟩
            go_simp
            with_reducible rfl
           rotate_left
           ·simp only [aP]
            rfl
           refine take_ (i := 2) (N := some 65) (v := ?_) (a' := ?_) (bv 6 0x7) rfl rfl (by kernel_rfl) (fun _ _ _ h => h) (Or.inl ⟨by rfl, ?_⟩) hHeld ?_ ?_
           rotate_left
           ·rintro w' ⟨s0, s1, s2, s3, s4, s5, s6, s7⟩
            go_simp
            with_reducible rfl
           rotate_left
           ·simp only [aP]
            rfl
           refine one_ (i := 3) (N := none) (bv 6 0xf) rfl rfl (by kernel_rfl) (by decide) (fun K hK => ?_)
           have hs65 : w64.cell? ⟨gb224, 0, none⟩ = some (.int .i64 0) := bc0 BK224
           have hfs65 := blk_frozen BK224.out 0
           have hns65_0 := NB223_224.out
           have hns65_2 := NB227_224.out
           have hms65_0 := NB224_223.out
           have hms65_2 := NB224_227.out
           have hs66 : w64.cell? ⟨gb224, 1, none⟩ = some (.int .i64 0) := bc1 BK224
           have hfs66 := blk_frozen BK224.out 1
           have hns66_0 := NB223_224.out
           have hns66_2 := NB227_224.out
           have hms66_0 := NB224_223.out
           have hms66_2 := NB224_227.out
           have hs67 : w64.cell? ⟨gb224, 2, none⟩ = some (.slice none 0 0) := bc2 BK224
           have hfs67 := blk_frozen BK224.out 2
           have hns67_0 := NB223_224.out
           have hns67_2 := NB227_224.out
           have hms67_0 := NB224_223.out
           have hms67_2 := NB224_227.out
           have hs68 : w64.cell? ⟨gb224, 3, none⟩ = some (.slice none 0 0) := bc3 BK224
           have hfs68 := blk_frozen BK224.out 3
           have hns68_0 := NB223_224.out
           have hns68_2 := NB227_224.out
           have hms68_0 := NB224_223.out
           have hms68_2 := NB224_227.out
           have hs69 : w64.cell? ⟨gb224, 4, none⟩ = some (.slice none 0 0) := bc4 BK224
           have hfs69 := blk_frozen BK224.out 4
           have hns69_0 := NB223_224.out
           have hns69_2 := NB227_224.out
           have hms69_0 := NB224_223.out
           have hms69_2 := NB224_227.out
           refine skip_ (w1 := ?_) (by rfl) rfl ?_ ?_
           rotate_left
           ·go_simp
            rfl
           refine hK.out _ _ ⟨((cell_far (p := ⟨gb224, _, none⟩) NB223_224.out _).trans (((cell_far (p := ⟨gb224, _, none⟩) NB223_224.out _).trans (((cell_far (p := ⟨gb224, _, none⟩) NB223_224.out _).trans (((cell_far (p := ⟨gb224, _, none⟩) NB223_224.out _).trans (((cell_far (p := ⟨gb224, _, none⟩) NB223_224.out _).trans (hHeld.1)))))))))), ((cell_far (p := ⟨gb224, _, none⟩) NB223_224.out _).trans (((cell_far (p := ⟨gb224, _, none⟩) NB223_224.out _).trans (((cell_far (p := ⟨gb224, _, none⟩) NB223_224.out _).trans (((cell_far (p := ⟨gb224, _, none⟩) NB223_224.out _).trans (((cell_far (p := ⟨gb224, _, none⟩) NB223_224.out _).trans (hHeld.2.1)))))))))), ((cell_far (p := ⟨gb224, _, none⟩) NB223_224.out _).trans (((cell_far (p := ⟨gb224, _, none⟩) NB223_224.out _).trans (((cell_far (p := ⟨gb224, _, none⟩) NB223_224.out _).trans (((cell_far (p := ⟨gb224, _, none⟩) NB223_224.out _).trans (((cell_far (p := ⟨gb224, _, none⟩) NB223_224.out _).trans (hHeld.2.2.1)))))))))), ((cell_far (p := ⟨gb224, _, none⟩) NB223_224.out _).trans (((cell_far (p := ⟨gb224, _, none⟩) NB223_224.out _).trans (((cell_far (p := ⟨gb224, _, none⟩) NB223_224.out _).trans (((cell_far (p := ⟨gb224, _, none⟩) NB223_224.out _).trans (((cell_far (p := ⟨gb224, _, none⟩) NB223_224.out _).trans (hHeld.2.2.2.1)))))))))), ((cell_far (p := ⟨gb224, _, none⟩) NB223_224.out _).trans (((cell_far (p := ⟨gb224, _, none⟩) NB223_224.out _).trans (((cell_far (p := ⟨gb224, _, none⟩) NB223_224.out _).trans (((cell_far (p := ⟨gb224, _, none⟩) NB223_224.out _).trans (((cell_far (p := ⟨gb224, _, none⟩) NB223_224.out _).trans (hHeld.2.2.2.2.1)))))))))), ((cell_far (p := ⟨gb224, _, none⟩) NB227_224.out _).trans (((cell_far (p := ⟨gb224, _, none⟩) NB227_224.out _).trans (((cell_far (p := ⟨gb224, _, none⟩) NB227_224.out _).trans (((cell_far (p := ⟨gb224, _, none⟩) NB227_224.out _).trans (((cell_far (p := ⟨gb224, _, none⟩) NB227_224.out _).trans (hHeld.2.2.2.2.2.1)))))))))), ((cell_far (p := ⟨gb224, _, none⟩) NB227_224.out _).trans (((cell_far (p := ⟨gb224, _, none⟩) NB227_224.out _).trans (((cell_far (p := ⟨gb224, _, none⟩) NB227_224.out _).trans (((cell_far (p := ⟨gb224, _, none⟩) NB227_224.out _).trans (((cell_far (p := ⟨gb224, _, none⟩) NB227_224.out _).trans (hHeld.2.2.2.2.2.2.1)))))))))), ((cell_far (p := ⟨gb224, _, none⟩) NB227_224.out _).trans (((cell_far (p := ⟨gb224, _, none⟩) NB227_224.out _).trans (((cell_far (p := ⟨gb224, _, none⟩) NB227_224.out _).trans (((cell_far (p := ⟨gb224, _, none⟩) NB227_224.out _).trans (((cell_far (p := ⟨gb224, _, none⟩) NB227_224.out _).trans (hHeld.2.2.2.2.2.2.2))))))))))⟩ (fun hHeld => ?_)
           clear hK K
           refine pure_ (i := 4) (N := some 9) (v := ?_) (a' := ?_) (bv 6 0x1f) rfl rfl (by kernel_rfl) (fun _ _ _ h => h) (Or.inl ⟨by rfl, ?_⟩) ?_ ?_
           rotate_left
           ·intro w'
            go_simp
            with_reducible rfl
           rotate_left
           ·simp only [aP]
            rfl
           refine pure_ (i := 5) (N := some 10) (v := ?_) (a' := ?_) (bv 6 0x3f) rfl rfl (by kernel_rfl) (fun _ _ _ h => h) (Or.inl ⟨by rfl, ?_⟩) ?_ ?_
           rotate_left
           ·intro w'
            go_simp
            with_reducible rfl
           rotate_left
           ·simp only [aP]
            rfl
           refine done_ (by kernel_rfl) ?_
           try go_wp2
           refine bodyPost_ret (results_ctt rfl _ _ gb224 30 #[.int .i64 a0_0, .int .i64 a0_1, .slice (some ⟨go52, 0, none⟩) l0_2.length co8, .slice Ao9 l0_3.length co9, .slice Ao10 l0_4.length co10] (0, 0) _ rfl (by (with_reducible repeat (first | refine blk_drewN ?_ _ | refine blk_drew ?_ | refine blk_alloc ?_ _)); refine blk_put (cs := #[.int .i64 a0_0, .int .i64 a0_1, .slice (some ⟨go52, 0, none⟩) l0_2.length co8, .slice Ao9 l0_3.length co9, .slice none 0 0]) ?_ 4 _ rfl; (with_reducible repeat (first | refine blk_drewN ?_ _ | refine blk_drew ?_ | refine blk_alloc ?_ _)); refine blk_put (cs := #[.int .i64 a0_0, .int .i64 a0_1, .slice (some ⟨go52, 0, none⟩) l0_2.length co8, .slice none 0 0, .slice none 0 0]) ?_ 3 _ rfl; (with_reducible repeat (first | refine blk_drewN ?_ _ | refine blk_drew ?_ | refine blk_alloc ?_ _)); refine blk_put (cs := #[.int .i64 a0_0, .int .i64 a0_1, .slice none 0 0, .slice none 0 0, .slice none 0 0]) ?_ 2 _ rfl; (with_reducible repeat (first | refine blk_drewN ?_ _ | refine blk_drew ?_ | refine blk_alloc ?_ _)); refine blk_put (cs := #[.int .i64 a0_0, .int .i64 0, .slice none 0 0, .slice none 0 0, .slice none 0 0]) ?_ 1 _ rfl; (with_reducible repeat (first | refine blk_drewN ?_ _ | refine blk_drew ?_ | refine blk_alloc ?_ _)); refine blk_put (cs := #[.int .i64 0, .int .i64 0, .slice none 0 0, .slice none 0 0, .slice none 0 0]) ?_ 0 _ rfl; (with_reducible repeat (first | refine blk_drewN ?_ _ | refine blk_drew ?_ | refine blk_alloc ?_ _)); exact BK224.out) Try.underlying30 rfl (by kernel_rfl)) rfl ?_
           exact ⟨_, _, _, er, by (with_reducible repeat (first | apply Kd.R_alloc | apply Kd.R_drewN | apply Kd.R_drew)); exact Kd.R_mono (Kd.R_far (p := ⟨gb224, 4, none⟩) (Kd.R_far (p := ⟨gb224, 3, none⟩) (Kd.R_far (p := ⟨gb224, 2, none⟩) (Kd.R_far (p := ⟨gb224, 1, none⟩) (Kd.R_far (p := ⟨gb224, 0, none⟩) (Kd.R_types HO_224002.out BK224.out (by decide)) (fun _ hk => hk.2) (.int .i64 a0_0)) (fun _ hk => hk.2) (.int .i64 a0_1)) (fun _ hk => hk.2) (.slice (some ⟨go52, 0, none⟩) l0_2.length co8)) (fun _ hk => hk.2) (.slice Ao9 l0_3.length co9)) (fun _ hk => hk.2) (.slice Ao10 l0_4.length co10)) (fun _ hk => ⟨hk.1.1, hk.1.2.1⟩), by (with_reducible repeat (first | apply Kd.R_alloc | apply Kd.R_drewN | apply Kd.R_drew)); exact Kd.R_mono (Kd.R_far (p := ⟨gb224, 4, none⟩) (Kd.R_far (p := ⟨gb224, 3, none⟩) (Kd.R_far (p := ⟨gb224, 2, none⟩) (Kd.R_far (p := ⟨gb224, 1, none⟩) (Kd.R_far (p := ⟨gb224, 0, none⟩) (Kd.R_types HO_224003.out BK224.out (by decide)) (fun _ hk => hk.2) (.int .i64 a0_0)) (fun _ hk => hk.2) (.int .i64 a0_1)) (fun _ hk => hk.2) (.slice (some ⟨go52, 0, none⟩) l0_2.length co8)) (fun _ hk => hk.2) (.slice Ao9 l0_3.length co9)) (fun _ hk => hk.2) (.slice Ao10 l0_4.length co10)) (fun _ hk => ⟨hk.1.1.1, hk.1.2⟩), by (with_reducible repeat (first | apply Kd.R_alloc | apply Kd.R_drewN | apply Kd.R_drew)); exact Kd.R_mono (Kd.R_far (p := ⟨gb224, 4, none⟩) (Kd.R_far (p := ⟨gb224, 3, none⟩) (Kd.R_far (p := ⟨gb224, 2, none⟩) (Kd.R_far (p := ⟨gb224, 1, none⟩) (Kd.R_far (p := ⟨gb224, 0, none⟩) (Kd.R_types HO_224004.out BK224.out (by decide)) (fun _ hk => hk.2) (.int .i64 a0_0)) (fun _ hk => hk.2) (.int .i64 a0_1)) (fun _ hk => hk.2) (.slice (some ⟨go52, 0, none⟩) l0_2.length co8)) (fun _ hk => hk.2) (.slice Ao9 l0_3.length co9)) (fun _ hk => hk.2) (.slice Ao10 l0_4.length co10)) (fun _ hk => hk.1), be3 HB GE223 GE224 GE227, by repeat (first | (with_reducible first | exact HK.out | apply Kept.alloc | apply Kept.drewN | apply Kept.drew | refine Kept.setCell ?_ (.inr GW223.out) _ | refine Kept.setCell ?_ (.inr GW224.out) _ | refine Kept.setCell ?_ (.inr GW227.out) _) | exact HK.out)⟩
          rw [if_neg c51] at H
          exact absurd H (by simp)
         rw [if_neg c50] at H
         exact absurd H (by simp)
        rw [if_neg c49] at H
        have c49b0 : decide (0 ≤ t225) = false := decide_eq_false c49
        clear c49
        by_cases c70 : 0 ≤ t226
        ·rw [if_pos c70] at H
         have c70b0 : decide (0 ≤ t226) = true := decide_eq_true c70
         clear c70
         by_cases c71 : t226 < (l0_3.length : Int)
         ·rw [if_pos c71] at H
          have c71b0 : decide (t226 < (l0_3.length : Int)) = true := decide_eq_true c71
          clear c71
          obtain ⟨y232, hy232⟩ : ∃ y_ : List (S68), y_ = (l0_3.set (t226 : Int).toNat (⟨x228000_29, a3, t230⟩ : S68)) := ⟨_, rfl⟩
          replace H : (some (a0_0, a0_1, l0_2, y232, l0_4, a3, true)) = some (r1, r2, r3, r4, r5, r6, r7) := by first | (rw [hy232]; with_reducible exact H) | (have H2_ := (Option.bind_some _ _).symm.trans H; rw [hy232]; with_reducible exact H2_) | (have H2_ := (Option.bind_some _ _).symm.trans H; with_reducible exact H2_) | with_reducible exact H | (rw [hy232]; exact H) | exact H
          have Ny232 := Aside0.mk hy232
          clear hy232
          simp only [Option.some.injEq, Prod.mk.injEq] at H
          obtain ⟨rfl, rfl, rfl, rfl, rfl, rfl, rfl⟩ := H
          have hnb73 := NB227_223.out
          have hnc73 := NB223_227.out
          have hnb74 := NB227_224.out
          have hnc74 := NB224_227.out
          have hcz75_0 := bz3 BK227
          try go_wp2_with (first | ((with_reducible refine gate_callee (f := 117) rfl ?_); refine gl 46 Try.func117 #[.int .i64 x228002_29] ?_; (with_reducible refine (spec_l10More.calls x228002_29 t230 _ A47.out).mono ?_); rintro e w' ⟨rfl, ⟨nd, rfl⟩⟩; refine ⟨_, rfl, ?_⟩; (try (rw [drewN_self wc]; generalize hq_ : World.drewN wc _ = wc; have n0_ : Aside0 (Kd.R k68 68 wc w0.heap.size (fun k_ => ((P0_2_ k_ ∨ P0_3_ k_ ∨ P0_4_ k_) ∨ w.heap.size ≤ k_) ∧ nb k_ Ao9 l0_3.length co9 ∧ k_ ≠ gb227) (.slice Ao8 l0_2.length co8) l0_2) := ⟨by rw [← hq_]; exact (ro HO_224002)⟩; have n1_ : Aside0 (Kd.R k68 68 wc w0.heap.size (fun k_ => ((P0_2_ k_ ∨ P0_3_ k_ ∨ P0_4_ k_) ∨ w.heap.size ≤ k_) ∧ nb k_ Ao8 l0_2.length co8 ∧ k_ ≠ gb227) (.slice Ao9 l0_3.length co9) l0_3) := ⟨by rw [← hq_]; exact (ro HO_224003)⟩; have n2_ : Aside0 (Kd.R (Kd.int .i64) 3 wc w0.heap.size (fun k_ => ((P0_2_ k_ ∨ P0_3_ k_ ∨ P0_4_ k_) ∨ w.heap.size ≤ k_)) (.slice Ao10 l0_4.length co10) l0_4) := ⟨by rw [← hq_]; exact (ro HO_224004)⟩; have n3_ : Aside0 (wc.heap[gb223]? = some (.cells #[.int .i64 a0_0, .int .i64 a0_1, .slice Ao8 l0_2.length co8, .slice Ao9 l0_3.length co9, .slice Ao10 l0_4.length co10] 30 (0, 0))) := ⟨by rw [← hq_]; exact (bk BK223)⟩; have n4_ : Aside0 (wc.heap[gb224]? = some (.cells #[.int .i64 0, .int .i64 0, .slice none 0 0, .slice none 0 0, .slice none 0 0] 30 (0, 0))) := ⟨by rw [← hq_]; exact (bk BK224)⟩; have n5_ : Aside0 (wc.heap[gb227]? = some (.cells #[.string x228000_29, .string x228001_29, .int .i64 x228002_29] 68 (0, 0))) := ⟨by rw [← hq_]; exact (bk BK227)⟩; have n6_ : Aside0 (Kept w wc (fun k_ => P0_2_ k_ ∨ P0_3_ k_ ∨ P0_4_ k_)) := ⟨by rw [← hq_]; exact (by repeat (first | (with_reducible first | exact HK.out | apply Kept.alloc | apply Kept.drewN | apply Kept.drew | refine Kept.setCell ?_ (.inr GW223.out) _ | refine Kept.setCell ?_ (.inr GW224.out) _ | refine Kept.setCell ?_ (.inr GW227.out) _) | exact HK.out))⟩; have n7_ : Aside0 (Below w0.heap.size w0 wc) := ⟨by rw [← hq_]; exact (be3 HB GE223 GE224 GE227)⟩; clear HO_224002 HO_224003 HO_224004 BK223 BK224 BK227 HK HB hq_; have HO_224002 := n0_; have HO_224003 := n1_; have HO_224004 := n2_; have BK223 := n3_; have BK224 := n4_; have BK227 := n5_; have HK := n6_; have HB := n7_; clear n0_ n1_ n2_ n3_ n4_ n5_ n6_ n7_)); (try have hcg223_ := bz5 BK223); (try have hcg224_ := bz5 BK224); (try have hcg227_ := bz3 BK227)) | ((with_reducible refine gate_store (t := 3) (p := 47) rfl ?_); refine store_event (t := 3) (p := 47) (v := ?vo_w76) (w1 := (wc.setCell ⟨gb227, 2, none⟩ (.int .i64 t230))) ?hg ?ho ?hn ?hr ?_; (case ho => rfl); (case hg => rfl); (case hn => rfl); (case hr => first | (go_simp; done) | (go_simp; rfl)); intro w76 hw; have n0_ : Aside0 (Kd.R k68 68 w76 w0.heap.size (fun k_ => ((P0_2_ k_ ∨ P0_3_ k_ ∨ P0_4_ k_) ∨ w.heap.size ≤ k_) ∧ nb k_ Ao9 l0_3.length co9 ∧ k_ ≠ gb227) (.slice Ao8 l0_2.length co8) l0_2) := ⟨(by rw [hw]; exact (by (with_reducible repeat (first | apply Kd.R_alloc | apply Kd.R_drewN | apply Kd.R_drew)); exact Kd.R_mono (Kd.R_far (p := ⟨gb227, 2, none⟩) (Kd.R_mono HO_224002.out (fun k_ hk => (⟨hk, hk.2.2⟩ : _ ∧ k_ ≠ gb227))) (fun _ hk => hk.2) (.int .i64 t230)) (fun _ hk => ⟨hk.1.1, ⟨hk.1.2.1, hk.1.2.2⟩⟩)))⟩; have n1_ : Aside0 (Kd.R k68 68 w76 w0.heap.size (fun k_ => ((P0_2_ k_ ∨ P0_3_ k_ ∨ P0_4_ k_) ∨ w.heap.size ≤ k_) ∧ nb k_ Ao8 l0_2.length co8 ∧ k_ ≠ gb227) (.slice Ao9 l0_3.length co9) l0_3) := ⟨(by rw [hw]; exact (by (with_reducible repeat (first | apply Kd.R_alloc | apply Kd.R_drewN | apply Kd.R_drew)); exact Kd.R_mono (Kd.R_far (p := ⟨gb227, 2, none⟩) (Kd.R_mono HO_224003.out (fun k_ hk => (⟨hk, hk.2.2⟩ : _ ∧ k_ ≠ gb227))) (fun _ hk => hk.2) (.int .i64 t230)) (fun _ hk => ⟨hk.1.1, ⟨hk.1.2.1, hk.1.2.2⟩⟩)))⟩; have n2_ : Aside0 (Kd.R (Kd.int .i64) 3 w76 w0.heap.size (fun k_ => ((P0_2_ k_ ∨ P0_3_ k_ ∨ P0_4_ k_) ∨ w.heap.size ≤ k_)) (.slice Ao10 l0_4.length co10) l0_4) := ⟨(by rw [hw]; exact (by (with_reducible repeat (first | apply Kd.R_alloc | apply Kd.R_drewN | apply Kd.R_drew)); exact Kd.R_mono (Kd.R_far (p := ⟨gb227, 2, none⟩) (Kd.R_types HO_224004.out BK227.out (by decide)) (fun _ hk => hk.2) (.int .i64 t230)) (fun _ hk => hk.1)))⟩; have n3_ : Aside0 (w76.heap[gb223]? = some (.cells #[.int .i64 a0_0, .int .i64 a0_1, .slice Ao8 l0_2.length co8, .slice Ao9 l0_3.length co9, .slice Ao10 l0_4.length co10] 30 (0, 0))) := ⟨(by rw [hw]; exact (bf1 BK223 NB223_227))⟩; have n4_ : Aside0 (w76.heap[gb224]? = some (.cells #[.int .i64 0, .int .i64 0, .slice none 0 0, .slice none 0 0, .slice none 0 0] 30 (0, 0))) := ⟨(by rw [hw]; exact (bf1 BK224 NB224_227))⟩; have n5_ : Aside0 (w76.heap[gb227]? = some (.cells #[.string x228000_29, .string x228001_29, .int .i64 t230] 68 (0, 0))) := ⟨(by rw [hw]; exact (by (with_reducible repeat (first | refine blk_drewN ?_ _ | refine blk_drew ?_ | refine blk_alloc ?_ _)); refine blk_put (cs := #[.string x228000_29, .string x228001_29, .int .i64 x228002_29]) ?_ 2 _ rfl; (with_reducible repeat (first | refine blk_drewN ?_ _ | refine blk_drew ?_ | refine blk_alloc ?_ _)); exact BK227.out))⟩; have n6_ : Aside0 (Kept w w76 (fun k_ => P0_2_ k_ ∨ P0_3_ k_ ∨ P0_4_ k_)) := ⟨(by rw [hw]; exact (by repeat (first | (with_reducible first | exact HK.out | apply Kept.alloc | apply Kept.drewN | apply Kept.drew | refine Kept.setCell ?_ (.inr GW223.out) _ | refine Kept.setCell ?_ (.inr GW224.out) _ | refine Kept.setCell ?_ (.inr GW227.out) _) | exact HK.out)))⟩; have n7_ : Aside0 (Below w0.heap.size w0 w76) := ⟨(by rw [hw]; exact (be3 HB GE223 GE224 GE227))⟩; clear hw; clear HO_224002; clear HO_224003; clear HO_224004; clear BK223; clear BK224; clear BK227; clear HK; clear HB; have HO_224002 := n0_; have HO_224003 := n1_; have HO_224004 := n2_; have BK223 := n3_; have BK224 := n4_; have BK227 := n5_; have HK := n6_; have HB := n7_; clear n0_ n1_ n2_ n3_ n4_ n5_ n6_ n7_; have hcz77_0 := bz3 BK227) | ((with_reducible refine gate_store (t := 9) (p := 50) rfl ?_); refine store_event (t := 9) (p := 50) (v := ?vo_w78) (w1 := (w76.setCell ⟨gb227, 1, none⟩ (.string a3))) ?hg ?ho ?hn ?hr ?_; (case ho => rfl); (case hg => rfl); (case hn => rfl); (case hr => first | (go_simp; done) | (go_simp; rfl)); intro w78 hw; have n0_ : Aside0 (Kd.R k68 68 w78 w0.heap.size (fun k_ => ((P0_2_ k_ ∨ P0_3_ k_ ∨ P0_4_ k_) ∨ w.heap.size ≤ k_) ∧ nb k_ Ao9 l0_3.length co9 ∧ k_ ≠ gb227) (.slice Ao8 l0_2.length co8) l0_2) := ⟨(by rw [hw]; exact (by (with_reducible repeat (first | apply Kd.R_alloc | apply Kd.R_drewN | apply Kd.R_drew)); exact Kd.R_mono (Kd.R_far (p := ⟨gb227, 1, none⟩) (Kd.R_mono HO_224002.out (fun k_ hk => (⟨hk, hk.2.2⟩ : _ ∧ k_ ≠ gb227))) (fun _ hk => hk.2) (.string a3)) (fun _ hk => ⟨hk.1.1, ⟨hk.1.2.1, hk.1.2.2⟩⟩)))⟩; have n1_ : Aside0 (Kd.R k68 68 w78 w0.heap.size (fun k_ => ((P0_2_ k_ ∨ P0_3_ k_ ∨ P0_4_ k_) ∨ w.heap.size ≤ k_) ∧ nb k_ Ao8 l0_2.length co8 ∧ k_ ≠ gb227) (.slice Ao9 l0_3.length co9) l0_3) := ⟨(by rw [hw]; exact (by (with_reducible repeat (first | apply Kd.R_alloc | apply Kd.R_drewN | apply Kd.R_drew)); exact Kd.R_mono (Kd.R_far (p := ⟨gb227, 1, none⟩) (Kd.R_mono HO_224003.out (fun k_ hk => (⟨hk, hk.2.2⟩ : _ ∧ k_ ≠ gb227))) (fun _ hk => hk.2) (.string a3)) (fun _ hk => ⟨hk.1.1, ⟨hk.1.2.1, hk.1.2.2⟩⟩)))⟩; have n2_ : Aside0 (Kd.R (Kd.int .i64) 3 w78 w0.heap.size (fun k_ => ((P0_2_ k_ ∨ P0_3_ k_ ∨ P0_4_ k_) ∨ w.heap.size ≤ k_)) (.slice Ao10 l0_4.length co10) l0_4) := ⟨(by rw [hw]; exact (by (with_reducible repeat (first | apply Kd.R_alloc | apply Kd.R_drewN | apply Kd.R_drew)); exact Kd.R_mono (Kd.R_far (p := ⟨gb227, 1, none⟩) (Kd.R_types HO_224004.out BK227.out (by decide)) (fun _ hk => hk.2) (.string a3)) (fun _ hk => hk.1)))⟩; have n3_ : Aside0 (w78.heap[gb223]? = some (.cells #[.int .i64 a0_0, .int .i64 a0_1, .slice Ao8 l0_2.length co8, .slice Ao9 l0_3.length co9, .slice Ao10 l0_4.length co10] 30 (0, 0))) := ⟨(by rw [hw]; exact (bf1 BK223 NB223_227))⟩; have n4_ : Aside0 (w78.heap[gb224]? = some (.cells #[.int .i64 0, .int .i64 0, .slice none 0 0, .slice none 0 0, .slice none 0 0] 30 (0, 0))) := ⟨(by rw [hw]; exact (bf1 BK224 NB224_227))⟩; have n5_ : Aside0 (w78.heap[gb227]? = some (.cells #[.string x228000_29, .string a3, .int .i64 t230] 68 (0, 0))) := ⟨(by rw [hw]; exact (by (with_reducible repeat (first | refine blk_drewN ?_ _ | refine blk_drew ?_ | refine blk_alloc ?_ _)); refine blk_put (cs := #[.string x228000_29, .string x228001_29, .int .i64 t230]) ?_ 1 _ rfl; (with_reducible repeat (first | refine blk_drewN ?_ _ | refine blk_drew ?_ | refine blk_alloc ?_ _)); exact BK227.out))⟩; have n6_ : Aside0 (Kept w w78 (fun k_ => P0_2_ k_ ∨ P0_3_ k_ ∨ P0_4_ k_)) := ⟨(by rw [hw]; exact (by repeat (first | (with_reducible first | exact HK.out | apply Kept.alloc | apply Kept.drewN | apply Kept.drew | refine Kept.setCell ?_ (.inr GW223.out) _ | refine Kept.setCell ?_ (.inr GW224.out) _ | refine Kept.setCell ?_ (.inr GW227.out) _) | exact HK.out)))⟩; have n7_ : Aside0 (Below w0.heap.size w0 w78) := ⟨(by rw [hw]; exact (be3 HB GE223 GE224 GE227))⟩; clear hw; clear HO_224002; clear HO_224003; clear HO_224004; clear BK223; clear BK224; clear BK227; clear HK; clear HB; have HO_224002 := n0_; have HO_224003 := n1_; have HO_224004 := n2_; have BK223 := n3_; have BK224 := n4_; have BK227 := n5_; have HK := n6_; have HB := n7_; clear n0_ n1_ n2_ n3_ n4_ n5_ n6_ n7_; have hnb79 := NB223_224.out; have hnc79 := NB224_223.out; have hcz80_0 := bz5 BK223; have hcz81_0 := bz3 BK227; have p72 : 0 ≤ (t226 : Int) := od; have q72 : (t226 : Int) < ((l0_3.length : Int) : Int) := od; obtain ⟨go72, co72, eo72, gb72, gl72, cl72, HG72⟩ := Kd.R_form HO_224003.out (by omega); (first | cases eo72 | (injection eo72 with ea_ en_ ec_; (first | subst ea_ | (injection ea_ with ea_; subst ea_)); subst ec_; clear en_)); have GB72 := Aside0.mk gb72; have GG72 := Aside0.mk HG72; clear gb72 gl72 HG72; have HMgo72 := Aside0.mk (show ((P0_2_ go72 ∨ P0_3_ go72 ∨ P0_4_ go72) ∨ w.heap.size ≤ go72) from (HO_224003.out.1 _ rfl).1); obtain ⟨ce72, hcl72, hM72, hcc72, hfr72⟩ := Kd.R_elem HO_224003.out z68 (t226 : Int) p72 q72; obtain rfl := k68_openM hM72; have hx72_0 : w78.cell? ⟨go72, (t226 : Int).toNat * 3, none⟩ = some (.string ((rd_T68 l0_3 t226).f0)) := hcc72 0 _ rfl; have hx72_1 : w78.cell? ⟨go72, (t226 : Int).toNat * 3 + 1, none⟩ = some (.string ((rd_T68 l0_3 t226).f1)) := hcc72 1 _ rfl; have hx72_2 : w78.cell? ⟨go72, (t226 : Int).toNat * 3 + 2, none⟩ = some (.int .i64 ((rd_T68 l0_3 t226).f2)) := hcc72 2 _ rfl; have hf72_0 : w78.frozen? ⟨go72, (t226 : Int).toNat * 3, none⟩ = false := hfr72 0; have hf72_1 : w78.frozen? ⟨go72, (t226 : Int).toNat * 3 + 1, none⟩ = false := hfr72 1; have hf72_2 : w78.frozen? ⟨go72, (t226 : Int).toNat * 3 + 2, none⟩ = false := hfr72 2; clear hcl72 hcc72 hfr72 hM72; replace p72 := eq_true p72; replace q72 := eq_true q72; have HX82 := Aside0.mk (show Kd.R k68 68 w78 w0.heap.size (fun k_ => ((P0_2_ k_ ∨ P0_3_ k_ ∨ P0_4_ k_) ∨ w.heap.size ≤ k_) ∧ nb k_ Ao8 l0_2.length co8 ∧ k_ ≠ gb227) (.slice (some ⟨go72, 0, none⟩) l0_3.length co9) l0_3 from (ro HO_224003)); obtain ⟨ce82, hcl82, hM82, hcc82, hfr82⟩ := Kd.R_elem HX82.out z68 (t226 : Int) (od) (by have h_ : (t226 : Int) < ((l0_3.length : Int) : Int) := od; first | exact h_ | (have e_ := (Kd.R_reads' HO_224003.out).1; omega) | simpa using h_); obtain rfl := k68_openM hM82; have HP82 := Kd.R_seg HX82.out (t226 : Int) (od) (by have h_ : (t226 : Int) < ((l0_3.length : Int) : Int) := od; first | exact h_ | (have e_ := (Kd.R_reads' HO_224003.out).1; omega) | simpa using h_) (seg := [.string x228000_29, .string a3, .int .i64 t230]) (j := 0) hcl82 hcc82 (show 3 ≤ 3 from by decide) (x' := (⟨x228000_29, a3, t230⟩ : S68)) (k68_mkM _ _ _ (⟨x228000_29, a3, t230⟩ : S68) ) (fun _ hk => hk); have hx82_0 := hcc82 0 _ rfl; (try simp only [show (k68).sz = 3 from rfl, Nat.mul_one, Nat.add_zero] at hx82_0); have hf82_0 := hfr82 0; (try simp only [show (k68).sz = 3 from rfl, Nat.mul_one, Nat.add_zero] at hf82_0); have hx82_1 := hcc82 1 _ rfl; (try simp only [show (k68).sz = 3 from rfl, Nat.mul_one, Nat.add_zero] at hx82_1); have hf82_1 := hfr82 1; (try simp only [show (k68).sz = 3 from rfl, Nat.mul_one, Nat.add_zero] at hf82_1); have hx82_2 := hcc82 2 _ rfl; (try simp only [show (k68).sz = 3 from rfl, Nat.mul_one, Nat.add_zero] at hx82_2); have hf82_2 := hfr82 2; (try simp only [show (k68).sz = 3 from rfl, Nat.mul_one, Nat.add_zero] at hf82_2); clear hcl82 hcc82 hfr82 hM82) | ((with_reducible refine gate_store (t := 68) (p := 62) rfl ?_); refine store_event (t := 68) (p := 62) (v := ?vo_w83) (w1 := (((w78.setCell ⟨go72, (t226 : Int).toNat * 3, none⟩ (.string x228000_29)).setCell ⟨go72, (t226 : Int).toNat * 3 + 1, none⟩ (.string a3)).setCell ⟨go72, (t226 : Int).toNat * 3 + 2, none⟩ (.int .i64 t230))) ?hg ?ho ?hn ?hr ?_; (case ho => rfl); (case hg => rfl); (case hn => rfl); (case hr => first | (go_simp; done) | (go_simp; rfl)); intro w83 hw; have hg : w78.grownBy w83 (some go72) := (by rw [hw]; exact HP82.2); have hp_ : Kd.R k68 68 w83 w0.heap.size (fun k_ => ((P0_2_ k_ ∨ P0_3_ k_ ∨ P0_4_ k_) ∨ w.heap.size ≤ k_) ∧ nb k_ Ao8 l0_2.length co8 ∧ k_ ≠ gb227) (.slice (some ⟨go72, 0, none⟩) l0_3.length co9) y232 := (by rw [hw, Ny232.out]; exact HP82.1); clear HP82; replace HO_224002 := Aside0.mk (Kd.R_after (v := (.slice (some ⟨go72, 0, none⟩) l0_3.length co9)) (v1 := (.slice (some ⟨go72, 0, none⟩) l0_3.length co9)) (ok := (fun k_ => ((P0_2_ k_ ∨ P0_3_ k_ ∨ P0_4_ k_) ∨ w.heap.size ≤ k_) ∧ k_ ≠ gb227)) (by (with_reducible repeat (first | apply Kd.R_alloc | apply Kd.R_drewN | apply Kd.R_drew)); exact rm HO_224002) hg (.inl rfl)); replace HO_224004 := Aside0.mk (Kd.R_over' (v := (.slice (some ⟨go72, 0, none⟩) l0_3.length co9)) (ro HO_224004) (Kd.R_typed HO_224003.out) (by decide) hg); replace BK223 := Aside0.mk (blk_grown (g := gb223) (o := .cells #[.int .i64 a0_0, .int .i64 a0_1, .slice Ao8 l0_2.length co8, .slice (some ⟨go72, 0, none⟩) l0_3.length co9, .slice Ao10 l0_4.length co10] 30 (0, 0)) (bk BK223) hg (Kd.R_ne HO_224003.out BK223.out (by decide))); replace BK224 := Aside0.mk (blk_grown (g := gb224) (o := .cells #[.int .i64 0, .int .i64 0, .slice none 0 0, .slice none 0 0, .slice none 0 0] 30 (0, 0)) (bk BK224) hg (Kd.R_ne HO_224003.out BK224.out (by decide))); replace BK227 := Aside0.mk (blk_grown (g := gb227) (o := .cells #[.string x228000_29, .string a3, .int .i64 t230] 68 (0, 0)) (bk BK227) hg (Kd.R_away HO_224003.out (fun _ hk => hk.2.2))); replace HB := Aside0.mk ((by rw [hw]; exact below_set (below_set (below_set (HB.out) GB72.out) GB72.out) GB72.out : Below w0.heap.size w0 w83)); replace HK := Aside0.mk (Kept.of_grown (S := (fun k_ => P0_2_ k_ ∨ P0_3_ k_ ∨ P0_4_ k_)) hg (by repeat (first | (with_reducible first | exact HK.out | apply Kept.alloc | apply Kept.drewN | apply Kept.drew | refine Kept.setCell ?_ (.inr GW223.out) _ | refine Kept.setCell ?_ (.inr GW224.out) _ | refine Kept.setCell ?_ (.inr GW227.out) _) | exact HK.out)) (fun k_ e_ => (HO_224003.out.1 k_ e_).1)); replace HO_224003 := Aside0.mk (hp_); clear hg hw hp_))
          have n0_ := Aside0.mk (Kd.R_drew HO_224002.out)
          have n1_ := Aside0.mk (Kd.R_drew HO_224003.out)
          have n2_ := Aside0.mk (Kd.R_drew HO_224004.out)
          have n3_ := Aside0.mk (blk_drew BK223.out)
          have n4_ := Aside0.mk (blk_drew BK224.out)
          have n5_ := Aside0.mk (blk_drew BK227.out)
          have n6_ := Aside0.mk (Kept.drew HK.out)
          have n7_ := Aside0.mk (below_drew1 HB.out)
          clear HO_224002
          clear HO_224003
          clear HO_224004
          clear BK223
          clear BK224
          clear BK227
          clear HK
          clear HB
          have HO_224002 := n0_
          have HO_224003 := n1_
          have HO_224004 := n2_
          have BK223 := n3_
          have BK224 := n4_
          have BK227 := n5_
          have HK := n6_
          have HB := n7_
          clear n0_ n1_ n2_ n3_ n4_ n5_ n6_ n7_
          refine start_ (n := 6) (S := fun w' => w'.cell? ⟨gb223, 0, none⟩ = some (.int .i64 a0_0) ∧ w'.cell? ⟨gb223, 1, none⟩ = some (.int .i64 a0_1) ∧ w'.cell? ⟨gb223, 2, none⟩ = some (.slice Ao8 l0_2.length co8) ∧ w'.cell? ⟨gb223, 3, none⟩ = some (.slice (some ⟨go72, 0, none⟩) l0_3.length co9) ∧ w'.cell? ⟨gb223, 4, none⟩ = some (.slice Ao10 l0_4.length co10) ∧ w'.cell? ⟨gb227, 0, none⟩ = some (.string x228000_29) ∧ w'.cell? ⟨gb227, 1, none⟩ = some (.string a3) ∧ w'.cell? ⟨gb227, 2, none⟩ = some (.int .i64 t230)) (ds := []) (bv 6 0x0) (by kernel_rfl) rfl rfl ⟨bc0 BK223, bc1 BK223, bc2 BK223, bc3 BK223, bc4 BK223, bc0 BK227, bc1 BK227, bc2 BK227⟩ (fun hHeld => ?_)
          generalize w83.drew = w84 at HO_224002 HO_224003 HO_224004 BK223 BK224 BK227 HK HB hHeld ⊢
          refine pure_ (i := 1) (N := some 64) (v := ?_) (a' := ?_) (bv 6 0x2) rfl rfl (by kernel_rfl) (fun _ _ _ h => h) (Or.inl ⟨by rfl, ?_⟩) ?_ ?_
          rotate_left
          ·intro w'
           go_simp
           with_reducible rfl
          rotate_left
          ·simp only [aP]
           rfl
          refine take_ (i := 0) (N := some 63) (v := ?_) (a' := ?_) (bv 6 0x3) rfl rfl (by kernel_rfl) (fun _ _ _ h => h) (Or.inl ⟨by rfl, ?_⟩) hHeld ?_ ?_
          rotate_left
          ·rintro w' ⟨s0, s1, s2, s3, s4, s5, s6, s7⟩
           go_simp
           with_reducible rfl
          rotate_left
          ·simp only [aP]
           rfl
          refine take_ (i := 2) (N := some 65) (v := ?_) (a' := ?_) (bv 6 0x7) rfl rfl (by kernel_rfl) (fun _ _ _ h => h) (Or.inl ⟨by rfl, ?_⟩) hHeld ?_ ?_
          rotate_left
          ·rintro w' ⟨s0, s1, s2, s3, s4, s5, s6, s7⟩
           go_simp
           with_reducible rfl
          rotate_left
          ·simp only [aP]
           rfl
          refine one_ (i := 3) (N := none) (bv 6 0xf) rfl rfl (by kernel_rfl) (by decide) (fun K hK => ?_)
          have hs85 : w84.cell? ⟨gb224, 0, none⟩ = some (.int .i64 0) := bc0 BK224
          have hfs85 := blk_frozen BK224.out 0
          have hns85_0 := NB223_224.out
          have hns85_2 := NB227_224.out
          have hms85_0 := NB224_223.out
          have hms85_2 := NB224_227.out
          have hs86 : w84.cell? ⟨gb224, 1, none⟩ = some (.int .i64 0) := bc1 BK224
          have hfs86 := blk_frozen BK224.out 1
          have hns86_0 := NB223_224.out
          have hns86_2 := NB227_224.out
          have hms86_0 := NB224_223.out
          have hms86_2 := NB224_227.out
          have hs87 : w84.cell? ⟨gb224, 2, none⟩ = some (.slice none 0 0) := bc2 BK224
          have hfs87 := blk_frozen BK224.out 2
          have hns87_0 := NB223_224.out
          have hns87_2 := NB227_224.out
          have hms87_0 := NB224_223.out
          have hms87_2 := NB224_227.out
          have hs88 : w84.cell? ⟨gb224, 3, none⟩ = some (.slice none 0 0) := bc3 BK224
          have hfs88 := blk_frozen BK224.out 3
          have hns88_0 := NB223_224.out
          have hns88_2 := NB227_224.out
          have hms88_0 := NB224_223.out
          have hms88_2 := NB224_227.out
          have hs89 : w84.cell? ⟨gb224, 4, none⟩ = some (.slice none 0 0) := bc4 BK224
          have hfs89 := blk_frozen BK224.out 4
          have hns89_0 := NB223_224.out
          have hns89_2 := NB227_224.out
          have hms89_0 := NB224_223.out
          have hms89_2 := NB224_227.out
          refine skip_ (w1 := ?_) (by rfl) rfl ?_ ?_
          rotate_left
          ·go_simp
           rfl
          refine hK.out _ _ ⟨((cell_far (p := ⟨gb224, _, none⟩) NB223_224.out _).trans (((cell_far (p := ⟨gb224, _, none⟩) NB223_224.out _).trans (((cell_far (p := ⟨gb224, _, none⟩) NB223_224.out _).trans (((cell_far (p := ⟨gb224, _, none⟩) NB223_224.out _).trans (((cell_far (p := ⟨gb224, _, none⟩) NB223_224.out _).trans (hHeld.1)))))))))), ((cell_far (p := ⟨gb224, _, none⟩) NB223_224.out _).trans (((cell_far (p := ⟨gb224, _, none⟩) NB223_224.out _).trans (((cell_far (p := ⟨gb224, _, none⟩) NB223_224.out _).trans (((cell_far (p := ⟨gb224, _, none⟩) NB223_224.out _).trans (((cell_far (p := ⟨gb224, _, none⟩) NB223_224.out _).trans (hHeld.2.1)))))))))), ((cell_far (p := ⟨gb224, _, none⟩) NB223_224.out _).trans (((cell_far (p := ⟨gb224, _, none⟩) NB223_224.out _).trans (((cell_far (p := ⟨gb224, _, none⟩) NB223_224.out _).trans (((cell_far (p := ⟨gb224, _, none⟩) NB223_224.out _).trans (((cell_far (p := ⟨gb224, _, none⟩) NB223_224.out _).trans (hHeld.2.2.1)))))))))), ((cell_far (p := ⟨gb224, _, none⟩) NB223_224.out _).trans (((cell_far (p := ⟨gb224, _, none⟩) NB223_224.out _).trans (((cell_far (p := ⟨gb224, _, none⟩) NB223_224.out _).trans (((cell_far (p := ⟨gb224, _, none⟩) NB223_224.out _).trans (((cell_far (p := ⟨gb224, _, none⟩) NB223_224.out _).trans (hHeld.2.2.2.1)))))))))), ((cell_far (p := ⟨gb224, _, none⟩) NB223_224.out _).trans (((cell_far (p := ⟨gb224, _, none⟩) NB223_224.out _).trans (((cell_far (p := ⟨gb224, _, none⟩) NB223_224.out _).trans (((cell_far (p := ⟨gb224, _, none⟩) NB223_224.out _).trans (((cell_far (p := ⟨gb224, _, none⟩) NB223_224.out _).trans (hHeld.2.2.2.2.1)))))))))), ((cell_far (p := ⟨gb224, _, none⟩) NB227_224.out _).trans (((cell_far (p := ⟨gb224, _, none⟩) NB227_224.out _).trans (((cell_far (p := ⟨gb224, _, none⟩) NB227_224.out _).trans (((cell_far (p := ⟨gb224, _, none⟩) NB227_224.out _).trans (((cell_far (p := ⟨gb224, _, none⟩) NB227_224.out _).trans (hHeld.2.2.2.2.2.1)))))))))), ((cell_far (p := ⟨gb224, _, none⟩) NB227_224.out _).trans (((cell_far (p := ⟨gb224, _, none⟩) NB227_224.out _).trans (((cell_far (p := ⟨gb224, _, none⟩) NB227_224.out _).trans (((cell_far (p := ⟨gb224, _, none⟩) NB227_224.out _).trans (((cell_far (p := ⟨gb224, _, none⟩) NB227_224.out _).trans (hHeld.2.2.2.2.2.2.1)))))))))), ((cell_far (p := ⟨gb224, _, none⟩) NB227_224.out _).trans (((cell_far (p := ⟨gb224, _, none⟩) NB227_224.out _).trans (((cell_far (p := ⟨gb224, _, none⟩) NB227_224.out _).trans (((cell_far (p := ⟨gb224, _, none⟩) NB227_224.out _).trans (((cell_far (p := ⟨gb224, _, none⟩) NB227_224.out _).trans (hHeld.2.2.2.2.2.2.2))))))))))⟩ (fun hHeld => ?_)
          clear hK K
          refine pure_ (i := 4) (N := some 9) (v := ?_) (a' := ?_) (bv 6 0x1f) rfl rfl (by kernel_rfl) (fun _ _ _ h => h) (Or.inl ⟨by rfl, ?_⟩) ?_ ?_
          rotate_left
          ·intro w'
           go_simp
           with_reducible rfl
          rotate_left
          ·simp only [aP]
           rfl
          refine pure_ (i := 5) (N := some 10) (v := ?_) (a' := ?_) (bv 6 0x3f) rfl rfl (by kernel_rfl) (fun _ _ _ h => h) (Or.inl ⟨by rfl, ?_⟩) ?_ ?_
          rotate_left
          ·intro w'
           go_simp
           with_reducible rfl
          rotate_left
          ·simp only [aP]
           rfl
          refine done_ (by kernel_rfl) ?_
          try go_wp2
          refine bodyPost_ret (results_ctt rfl _ _ gb224 30 #[.int .i64 a0_0, .int .i64 a0_1, .slice Ao8 l0_2.length co8, .slice (some ⟨go72, 0, none⟩) l0_3.length co9, .slice Ao10 l0_4.length co10] (0, 0) _ rfl (by (with_reducible repeat (first | refine blk_drewN ?_ _ | refine blk_drew ?_ | refine blk_alloc ?_ _)); refine blk_put (cs := #[.int .i64 a0_0, .int .i64 a0_1, .slice Ao8 l0_2.length co8, .slice (some ⟨go72, 0, none⟩) l0_3.length co9, .slice none 0 0]) ?_ 4 _ rfl; (with_reducible repeat (first | refine blk_drewN ?_ _ | refine blk_drew ?_ | refine blk_alloc ?_ _)); refine blk_put (cs := #[.int .i64 a0_0, .int .i64 a0_1, .slice Ao8 l0_2.length co8, .slice none 0 0, .slice none 0 0]) ?_ 3 _ rfl; (with_reducible repeat (first | refine blk_drewN ?_ _ | refine blk_drew ?_ | refine blk_alloc ?_ _)); refine blk_put (cs := #[.int .i64 a0_0, .int .i64 a0_1, .slice none 0 0, .slice none 0 0, .slice none 0 0]) ?_ 2 _ rfl; (with_reducible repeat (first | refine blk_drewN ?_ _ | refine blk_drew ?_ | refine blk_alloc ?_ _)); refine blk_put (cs := #[.int .i64 a0_0, .int .i64 0, .slice none 0 0, .slice none 0 0, .slice none 0 0]) ?_ 1 _ rfl; (with_reducible repeat (first | refine blk_drewN ?_ _ | refine blk_drew ?_ | refine blk_alloc ?_ _)); refine blk_put (cs := #[.int .i64 0, .int .i64 0, .slice none 0 0, .slice none 0 0, .slice none 0 0]) ?_ 0 _ rfl; (with_reducible repeat (first | refine blk_drewN ?_ _ | refine blk_drew ?_ | refine blk_alloc ?_ _)); exact BK224.out) Try.underlying30 rfl (by kernel_rfl)) rfl ?_
          exact ⟨_, _, _, er, by (with_reducible repeat (first | apply Kd.R_alloc | apply Kd.R_drewN | apply Kd.R_drew)); exact Kd.R_mono (Kd.R_far (p := ⟨gb224, 4, none⟩) (Kd.R_far (p := ⟨gb224, 3, none⟩) (Kd.R_far (p := ⟨gb224, 2, none⟩) (Kd.R_far (p := ⟨gb224, 1, none⟩) (Kd.R_far (p := ⟨gb224, 0, none⟩) (Kd.R_types HO_224002.out BK224.out (by decide)) (fun _ hk => hk.2) (.int .i64 a0_0)) (fun _ hk => hk.2) (.int .i64 a0_1)) (fun _ hk => hk.2) (.slice Ao8 l0_2.length co8)) (fun _ hk => hk.2) (.slice (some ⟨go72, 0, none⟩) l0_3.length co9)) (fun _ hk => hk.2) (.slice Ao10 l0_4.length co10)) (fun _ hk => ⟨hk.1.1.1, hk.1.2⟩), by (with_reducible repeat (first | apply Kd.R_alloc | apply Kd.R_drewN | apply Kd.R_drew)); exact Kd.R_mono (Kd.R_far (p := ⟨gb224, 4, none⟩) (Kd.R_far (p := ⟨gb224, 3, none⟩) (Kd.R_far (p := ⟨gb224, 2, none⟩) (Kd.R_far (p := ⟨gb224, 1, none⟩) (Kd.R_far (p := ⟨gb224, 0, none⟩) (Kd.R_types HO_224003.out BK224.out (by decide)) (fun _ hk => hk.2) (.int .i64 a0_0)) (fun _ hk => hk.2) (.int .i64 a0_1)) (fun _ hk => hk.2) (.slice Ao8 l0_2.length co8)) (fun _ hk => hk.2) (.slice (some ⟨go72, 0, none⟩) l0_3.length co9)) (fun _ hk => hk.2) (.slice Ao10 l0_4.length co10)) (fun _ hk => ⟨hk.1.1, hk.1.2.1⟩), by (with_reducible repeat (first | apply Kd.R_alloc | apply Kd.R_drewN | apply Kd.R_drew)); exact Kd.R_mono (Kd.R_far (p := ⟨gb224, 4, none⟩) (Kd.R_far (p := ⟨gb224, 3, none⟩) (Kd.R_far (p := ⟨gb224, 2, none⟩) (Kd.R_far (p := ⟨gb224, 1, none⟩) (Kd.R_far (p := ⟨gb224, 0, none⟩) (Kd.R_types HO_224004.out BK224.out (by decide)) (fun _ hk => hk.2) (.int .i64 a0_0)) (fun _ hk => hk.2) (.int .i64 a0_1)) (fun _ hk => hk.2) (.slice Ao8 l0_2.length co8)) (fun _ hk => hk.2) (.slice (some ⟨go72, 0, none⟩) l0_3.length co9)) (fun _ hk => hk.2) (.slice Ao10 l0_4.length co10)) (fun _ hk => hk.1), be3 HB GE223 GE224 GE227, by repeat (first | (with_reducible first | exact HK.out | apply Kept.alloc | apply Kept.drewN | apply Kept.drew | refine Kept.setCell ?_ (.inr GW223.out) _ | refine Kept.setCell ?_ (.inr GW224.out) _ | refine Kept.setCell ?_ (.inr GW227.out) _) | exact HK.out)⟩
         rw [if_neg c71] at H
         exact absurd H (by simp)
        rw [if_neg c70] at H
        exact absurd H (by simp)
       replace c48 := Bool.eq_false_iff.mpr c48
       subst c48
       have H1 : (if t225 ≥ 0 then (if 0 ≤ t225 then (if t225 < (l0_2.length : Int) then (some (a0_0, a0_1, (l0_2.set (t225 : Int).toNat (⟨x228000_29, x228001_29, t230⟩ : S68)), l0_3, l0_4, x228001_29, true)) else (none)) else (none)) else (if 0 ≤ t226 then (if t226 < (l0_3.length : Int) then (some (a0_0, a0_1, l0_2, (l0_3.set (t226 : Int).toNat (⟨x228000_29, x228001_29, t230⟩ : S68)), l0_4, x228001_29, true)) else (none)) else (none))) = some (r1, r2, r3, r4, r5, r6, r7) := by rw [if_neg (show ¬ (false = true) by decide)] at H; exact H
       clear H
       have H := H1
       clear H1
       by_cases c90 : t225 ≥ 0
       ·rw [if_pos c90] at H
        have c90b0 : decide (0 ≤ t225) = true := decide_eq_true c90
        clear c90
        by_cases c91 : 0 ≤ t225
        ·rw [if_pos c91] at H
         have c91b0 : decide (0 ≤ t225) = true := decide_eq_true c91
         clear c91
         by_cases c92 : t225 < (l0_2.length : Int)
         ·rw [if_pos c92] at H
          have c92b0 : decide (t225 < (l0_2.length : Int)) = true := decide_eq_true c92
          clear c92
          obtain ⟨y233, hy233⟩ : ∃ y_ : List (S68), y_ = (l0_2.set (t225 : Int).toNat (⟨x228000_29, x228001_29, t230⟩ : S68)) := ⟨_, rfl⟩
          replace H : (some (a0_0, a0_1, y233, l0_3, l0_4, x228001_29, true)) = some (r1, r2, r3, r4, r5, r6, r7) := by first | (rw [hy233]; with_reducible exact H) | (have H2_ := (Option.bind_some _ _).symm.trans H; rw [hy233]; with_reducible exact H2_) | (have H2_ := (Option.bind_some _ _).symm.trans H; with_reducible exact H2_) | with_reducible exact H | (rw [hy233]; exact H) | exact H
          have Ny233 := Aside0.mk hy233
          clear hy233
          simp only [Option.some.injEq, Prod.mk.injEq] at H
          obtain ⟨rfl, rfl, rfl, rfl, rfl, rfl, rfl⟩ := H
          have hnb94 := NB227_223.out
          have hnc94 := NB223_227.out
          have hnb95 := NB227_224.out
          have hnc95 := NB224_227.out
          have hcz96_0 := bz3 BK227
          try go_wp2_with (first | ((with_reducible refine gate_callee (f := 117) rfl ?_); refine gl 46 Try.func117 #[.int .i64 x228002_29] ?_; (with_reducible refine (spec_l10More.calls x228002_29 t230 _ A47.out).mono ?_); rintro e w' ⟨rfl, ⟨nd, rfl⟩⟩; refine ⟨_, rfl, ?_⟩; (try (rw [drewN_self wc]; generalize hq_ : World.drewN wc _ = wc; have n0_ : Aside0 (Kd.R k68 68 wc w0.heap.size (fun k_ => ((P0_2_ k_ ∨ P0_3_ k_ ∨ P0_4_ k_) ∨ w.heap.size ≤ k_) ∧ nb k_ Ao9 l0_3.length co9 ∧ k_ ≠ gb227) (.slice Ao8 l0_2.length co8) l0_2) := ⟨by rw [← hq_]; exact (ro HO_224002)⟩; have n1_ : Aside0 (Kd.R k68 68 wc w0.heap.size (fun k_ => ((P0_2_ k_ ∨ P0_3_ k_ ∨ P0_4_ k_) ∨ w.heap.size ≤ k_) ∧ nb k_ Ao8 l0_2.length co8 ∧ k_ ≠ gb227) (.slice Ao9 l0_3.length co9) l0_3) := ⟨by rw [← hq_]; exact (ro HO_224003)⟩; have n2_ : Aside0 (Kd.R (Kd.int .i64) 3 wc w0.heap.size (fun k_ => ((P0_2_ k_ ∨ P0_3_ k_ ∨ P0_4_ k_) ∨ w.heap.size ≤ k_)) (.slice Ao10 l0_4.length co10) l0_4) := ⟨by rw [← hq_]; exact (ro HO_224004)⟩; have n3_ : Aside0 (wc.heap[gb223]? = some (.cells #[.int .i64 a0_0, .int .i64 a0_1, .slice Ao8 l0_2.length co8, .slice Ao9 l0_3.length co9, .slice Ao10 l0_4.length co10] 30 (0, 0))) := ⟨by rw [← hq_]; exact (bk BK223)⟩; have n4_ : Aside0 (wc.heap[gb224]? = some (.cells #[.int .i64 0, .int .i64 0, .slice none 0 0, .slice none 0 0, .slice none 0 0] 30 (0, 0))) := ⟨by rw [← hq_]; exact (bk BK224)⟩; have n5_ : Aside0 (wc.heap[gb227]? = some (.cells #[.string x228000_29, .string x228001_29, .int .i64 x228002_29] 68 (0, 0))) := ⟨by rw [← hq_]; exact (bk BK227)⟩; have n6_ : Aside0 (Kept w wc (fun k_ => P0_2_ k_ ∨ P0_3_ k_ ∨ P0_4_ k_)) := ⟨by rw [← hq_]; exact (by repeat (first | (with_reducible first | exact HK.out | apply Kept.alloc | apply Kept.drewN | apply Kept.drew | refine Kept.setCell ?_ (.inr GW223.out) _ | refine Kept.setCell ?_ (.inr GW224.out) _ | refine Kept.setCell ?_ (.inr GW227.out) _) | exact HK.out))⟩; have n7_ : Aside0 (Below w0.heap.size w0 wc) := ⟨by rw [← hq_]; exact (be3 HB GE223 GE224 GE227)⟩; clear HO_224002 HO_224003 HO_224004 BK223 BK224 BK227 HK HB hq_; have HO_224002 := n0_; have HO_224003 := n1_; have HO_224004 := n2_; have BK223 := n3_; have BK224 := n4_; have BK227 := n5_; have HK := n6_; have HB := n7_; clear n0_ n1_ n2_ n3_ n4_ n5_ n6_ n7_)); (try have hcg223_ := bz5 BK223); (try have hcg224_ := bz5 BK224); (try have hcg227_ := bz3 BK227)) | ((with_reducible refine gate_store (t := 3) (p := 47) rfl ?_); refine store_event (t := 3) (p := 47) (v := ?vo_w97) (w1 := (wc.setCell ⟨gb227, 2, none⟩ (.int .i64 t230))) ?hg ?ho ?hn ?hr ?_; (case ho => rfl); (case hg => rfl); (case hn => rfl); (case hr => first | (go_simp; done) | (go_simp; rfl)); intro w97 hw; have n0_ : Aside0 (Kd.R k68 68 w97 w0.heap.size (fun k_ => ((P0_2_ k_ ∨ P0_3_ k_ ∨ P0_4_ k_) ∨ w.heap.size ≤ k_) ∧ nb k_ Ao9 l0_3.length co9 ∧ k_ ≠ gb227) (.slice Ao8 l0_2.length co8) l0_2) := ⟨(by rw [hw]; exact (by (with_reducible repeat (first | apply Kd.R_alloc | apply Kd.R_drewN | apply Kd.R_drew)); exact Kd.R_mono (Kd.R_far (p := ⟨gb227, 2, none⟩) (Kd.R_mono HO_224002.out (fun k_ hk => (⟨hk, hk.2.2⟩ : _ ∧ k_ ≠ gb227))) (fun _ hk => hk.2) (.int .i64 t230)) (fun _ hk => ⟨hk.1.1, ⟨hk.1.2.1, hk.1.2.2⟩⟩)))⟩; have n1_ : Aside0 (Kd.R k68 68 w97 w0.heap.size (fun k_ => ((P0_2_ k_ ∨ P0_3_ k_ ∨ P0_4_ k_) ∨ w.heap.size ≤ k_) ∧ nb k_ Ao8 l0_2.length co8 ∧ k_ ≠ gb227) (.slice Ao9 l0_3.length co9) l0_3) := ⟨(by rw [hw]; exact (by (with_reducible repeat (first | apply Kd.R_alloc | apply Kd.R_drewN | apply Kd.R_drew)); exact Kd.R_mono (Kd.R_far (p := ⟨gb227, 2, none⟩) (Kd.R_mono HO_224003.out (fun k_ hk => (⟨hk, hk.2.2⟩ : _ ∧ k_ ≠ gb227))) (fun _ hk => hk.2) (.int .i64 t230)) (fun _ hk => ⟨hk.1.1, ⟨hk.1.2.1, hk.1.2.2⟩⟩)))⟩; have n2_ : Aside0 (Kd.R (Kd.int .i64) 3 w97 w0.heap.size (fun k_ => ((P0_2_ k_ ∨ P0_3_ k_ ∨ P0_4_ k_) ∨ w.heap.size ≤ k_)) (.slice Ao10 l0_4.length co10) l0_4) := ⟨(by rw [hw]; exact (by (with_reducible repeat (first | apply Kd.R_alloc | apply Kd.R_drewN | apply Kd.R_drew)); exact Kd.R_mono (Kd.R_far (p := ⟨gb227, 2, none⟩) (Kd.R_types HO_224004.out BK227.out (by decide)) (fun _ hk => hk.2) (.int .i64 t230)) (fun _ hk => hk.1)))⟩; have n3_ : Aside0 (w97.heap[gb223]? = some (.cells #[.int .i64 a0_0, .int .i64 a0_1, .slice Ao8 l0_2.length co8, .slice Ao9 l0_3.length co9, .slice Ao10 l0_4.length co10] 30 (0, 0))) := ⟨(by rw [hw]; exact (bf1 BK223 NB223_227))⟩; have n4_ : Aside0 (w97.heap[gb224]? = some (.cells #[.int .i64 0, .int .i64 0, .slice none 0 0, .slice none 0 0, .slice none 0 0] 30 (0, 0))) := ⟨(by rw [hw]; exact (bf1 BK224 NB224_227))⟩; have n5_ : Aside0 (w97.heap[gb227]? = some (.cells #[.string x228000_29, .string x228001_29, .int .i64 t230] 68 (0, 0))) := ⟨(by rw [hw]; exact (by (with_reducible repeat (first | refine blk_drewN ?_ _ | refine blk_drew ?_ | refine blk_alloc ?_ _)); refine blk_put (cs := #[.string x228000_29, .string x228001_29, .int .i64 x228002_29]) ?_ 2 _ rfl; (with_reducible repeat (first | refine blk_drewN ?_ _ | refine blk_drew ?_ | refine blk_alloc ?_ _)); exact BK227.out))⟩; have n6_ : Aside0 (Kept w w97 (fun k_ => P0_2_ k_ ∨ P0_3_ k_ ∨ P0_4_ k_)) := ⟨(by rw [hw]; exact (by repeat (first | (with_reducible first | exact HK.out | apply Kept.alloc | apply Kept.drewN | apply Kept.drew | refine Kept.setCell ?_ (.inr GW223.out) _ | refine Kept.setCell ?_ (.inr GW224.out) _ | refine Kept.setCell ?_ (.inr GW227.out) _) | exact HK.out)))⟩; have n7_ : Aside0 (Below w0.heap.size w0 w97) := ⟨(by rw [hw]; exact (be3 HB GE223 GE224 GE227))⟩; clear hw; clear HO_224002; clear HO_224003; clear HO_224004; clear BK223; clear BK224; clear BK227; clear HK; clear HB; have HO_224002 := n0_; have HO_224003 := n1_; have HO_224004 := n2_; have BK223 := n3_; have BK224 := n4_; have BK227 := n5_; have HK := n6_; have HB := n7_; clear n0_ n1_ n2_ n3_ n4_ n5_ n6_ n7_; have hnb98 := NB223_224.out; have hnc98 := NB224_223.out; have hcz99_0 := bz5 BK223; have hcz100_0 := bz3 BK227; have p93 : 0 ≤ (t225 : Int) := od; have q93 : (t225 : Int) < ((l0_2.length : Int) : Int) := od; obtain ⟨go93, co93, eo93, gb93, gl93, cl93, HG93⟩ := Kd.R_form HO_224002.out (by omega); (first | cases eo93 | (injection eo93 with ea_ en_ ec_; (first | subst ea_ | (injection ea_ with ea_; subst ea_)); subst ec_; clear en_)); have GB93 := Aside0.mk gb93; have GG93 := Aside0.mk HG93; clear gb93 gl93 HG93; have HMgo93 := Aside0.mk (show ((P0_2_ go93 ∨ P0_3_ go93 ∨ P0_4_ go93) ∨ w.heap.size ≤ go93) from (HO_224002.out.1 _ rfl).1); obtain ⟨ce93, hcl93, hM93, hcc93, hfr93⟩ := Kd.R_elem HO_224002.out z68 (t225 : Int) p93 q93; obtain rfl := k68_openM hM93; have hx93_0 : w97.cell? ⟨go93, (t225 : Int).toNat * 3, none⟩ = some (.string ((rd_T68 l0_2 t225).f0)) := hcc93 0 _ rfl; have hx93_1 : w97.cell? ⟨go93, (t225 : Int).toNat * 3 + 1, none⟩ = some (.string ((rd_T68 l0_2 t225).f1)) := hcc93 1 _ rfl; have hx93_2 : w97.cell? ⟨go93, (t225 : Int).toNat * 3 + 2, none⟩ = some (.int .i64 ((rd_T68 l0_2 t225).f2)) := hcc93 2 _ rfl; have hf93_0 : w97.frozen? ⟨go93, (t225 : Int).toNat * 3, none⟩ = false := hfr93 0; have hf93_1 : w97.frozen? ⟨go93, (t225 : Int).toNat * 3 + 1, none⟩ = false := hfr93 1; have hf93_2 : w97.frozen? ⟨go93, (t225 : Int).toNat * 3 + 2, none⟩ = false := hfr93 2; clear hcl93 hcc93 hfr93 hM93; replace p93 := eq_true p93; replace q93 := eq_true q93; have HX101 := Aside0.mk (show Kd.R k68 68 w97 w0.heap.size (fun k_ => ((P0_2_ k_ ∨ P0_3_ k_ ∨ P0_4_ k_) ∨ w.heap.size ≤ k_) ∧ nb k_ Ao9 l0_3.length co9 ∧ k_ ≠ gb227) (.slice (some ⟨go93, 0, none⟩) l0_2.length co8) l0_2 from (ro HO_224002)); obtain ⟨ce101, hcl101, hM101, hcc101, hfr101⟩ := Kd.R_elem HX101.out z68 (t225 : Int) (od) (by have h_ : (t225 : Int) < ((l0_2.length : Int) : Int) := od; first | exact h_ | (have e_ := (Kd.R_reads' HO_224002.out).1; omega) | simpa using h_); obtain rfl := k68_openM hM101; have HP101 := Kd.R_seg HX101.out (t225 : Int) (od) (by have h_ : (t225 : Int) < ((l0_2.length : Int) : Int) := od; first | exact h_ | (have e_ := (Kd.R_reads' HO_224002.out).1; omega) | simpa using h_) (seg := [.string x228000_29, .string x228001_29, .int .i64 t230]) (j := 0) hcl101 hcc101 (show 3 ≤ 3 from by decide) (x' := (⟨x228000_29, x228001_29, t230⟩ : S68)) (k68_mkM _ _ _ (⟨x228000_29, x228001_29, t230⟩ : S68) ) (fun _ hk => hk); have hx101_0 := hcc101 0 _ rfl; (try simp only [show (k68).sz = 3 from rfl, Nat.mul_one, Nat.add_zero] at hx101_0); have hf101_0 := hfr101 0; (try simp only [show (k68).sz = 3 from rfl, Nat.mul_one, Nat.add_zero] at hf101_0); have hx101_1 := hcc101 1 _ rfl; (try simp only [show (k68).sz = 3 from rfl, Nat.mul_one, Nat.add_zero] at hx101_1); have hf101_1 := hfr101 1; (try simp only [show (k68).sz = 3 from rfl, Nat.mul_one, Nat.add_zero] at hf101_1); have hx101_2 := hcc101 2 _ rfl; (try simp only [show (k68).sz = 3 from rfl, Nat.mul_one, Nat.add_zero] at hx101_2); have hf101_2 := hfr101 2; (try simp only [show (k68).sz = 3 from rfl, Nat.mul_one, Nat.add_zero] at hf101_2); clear hcl101 hcc101 hfr101 hM101) | ((with_reducible refine gate_store (t := 68) (p := 57) rfl ?_); refine store_event (t := 68) (p := 57) (v := ?vo_w102) (w1 := (((w97.setCell ⟨go93, (t225 : Int).toNat * 3, none⟩ (.string x228000_29)).setCell ⟨go93, (t225 : Int).toNat * 3 + 1, none⟩ (.string x228001_29)).setCell ⟨go93, (t225 : Int).toNat * 3 + 2, none⟩ (.int .i64 t230))) ?hg ?ho ?hn ?hr ?_; (case ho => rfl); (case hg => rfl); (case hn => rfl); (case hr => first | (go_simp; done) | (go_simp; rfl)); intro w102 hw; have hg : w97.grownBy w102 (some go93) := (by rw [hw]; exact HP101.2); have hp_ : Kd.R k68 68 w102 w0.heap.size (fun k_ => ((P0_2_ k_ ∨ P0_3_ k_ ∨ P0_4_ k_) ∨ w.heap.size ≤ k_) ∧ nb k_ Ao9 l0_3.length co9 ∧ k_ ≠ gb227) (.slice (some ⟨go93, 0, none⟩) l0_2.length co8) y233 := (by rw [hw, Ny233.out]; exact HP101.1); clear HP101; replace HO_224003 := Aside0.mk (Kd.R_after (v := (.slice (some ⟨go93, 0, none⟩) l0_2.length co8)) (v1 := (.slice (some ⟨go93, 0, none⟩) l0_2.length co8)) (ok := (fun k_ => ((P0_2_ k_ ∨ P0_3_ k_ ∨ P0_4_ k_) ∨ w.heap.size ≤ k_) ∧ k_ ≠ gb227)) (by (with_reducible repeat (first | apply Kd.R_alloc | apply Kd.R_drewN | apply Kd.R_drew)); exact rm HO_224003) hg (.inl rfl)); replace HO_224004 := Aside0.mk (Kd.R_over' (v := (.slice (some ⟨go93, 0, none⟩) l0_2.length co8)) (ro HO_224004) (Kd.R_typed HO_224002.out) (by decide) hg); replace BK223 := Aside0.mk (blk_grown (g := gb223) (o := .cells #[.int .i64 a0_0, .int .i64 a0_1, .slice (some ⟨go93, 0, none⟩) l0_2.length co8, .slice Ao9 l0_3.length co9, .slice Ao10 l0_4.length co10] 30 (0, 0)) (bk BK223) hg (Kd.R_ne HO_224002.out BK223.out (by decide))); replace BK224 := Aside0.mk (blk_grown (g := gb224) (o := .cells #[.int .i64 0, .int .i64 0, .slice none 0 0, .slice none 0 0, .slice none 0 0] 30 (0, 0)) (bk BK224) hg (Kd.R_ne HO_224002.out BK224.out (by decide))); replace BK227 := Aside0.mk (blk_grown (g := gb227) (o := .cells #[.string x228000_29, .string x228001_29, .int .i64 t230] 68 (0, 0)) (bk BK227) hg (Kd.R_away HO_224002.out (fun _ hk => hk.2.2))); replace HB := Aside0.mk ((by rw [hw]; exact below_set (below_set (below_set (HB.out) GB93.out) GB93.out) GB93.out : Below w0.heap.size w0 w102)); replace HK := Aside0.mk (Kept.of_grown (S := (fun k_ => P0_2_ k_ ∨ P0_3_ k_ ∨ P0_4_ k_)) hg (by repeat (first | (with_reducible first | exact HK.out | apply Kept.alloc | apply Kept.drewN | apply Kept.drew | refine Kept.setCell ?_ (.inr GW223.out) _ | refine Kept.setCell ?_ (.inr GW224.out) _ | refine Kept.setCell ?_ (.inr GW227.out) _) | exact HK.out)) (fun k_ e_ => (HO_224002.out.1 k_ e_).1)); replace HO_224002 := Aside0.mk (hp_); clear hg hw hp_))
          have n0_ := Aside0.mk (Kd.R_drew HO_224002.out)
          have n1_ := Aside0.mk (Kd.R_drew HO_224003.out)
          have n2_ := Aside0.mk (Kd.R_drew HO_224004.out)
          have n3_ := Aside0.mk (blk_drew BK223.out)
          have n4_ := Aside0.mk (blk_drew BK224.out)
          have n5_ := Aside0.mk (blk_drew BK227.out)
          have n6_ := Aside0.mk (Kept.drew HK.out)
          have n7_ := Aside0.mk (below_drew1 HB.out)
          clear HO_224002
          clear HO_224003
          clear HO_224004
          clear BK223
          clear BK224
          clear BK227
          clear HK
          clear HB
          have HO_224002 := n0_
          have HO_224003 := n1_
          have HO_224004 := n2_
          have BK223 := n3_
          have BK224 := n4_
          have BK227 := n5_
          have HK := n6_
          have HB := n7_
          clear n0_ n1_ n2_ n3_ n4_ n5_ n6_ n7_
          refine start_ (n := 6) (S := fun w' => w'.cell? ⟨gb223, 0, none⟩ = some (.int .i64 a0_0) ∧ w'.cell? ⟨gb223, 1, none⟩ = some (.int .i64 a0_1) ∧ w'.cell? ⟨gb223, 2, none⟩ = some (.slice (some ⟨go93, 0, none⟩) l0_2.length co8) ∧ w'.cell? ⟨gb223, 3, none⟩ = some (.slice Ao9 l0_3.length co9) ∧ w'.cell? ⟨gb223, 4, none⟩ = some (.slice Ao10 l0_4.length co10) ∧ w'.cell? ⟨gb227, 0, none⟩ = some (.string x228000_29) ∧ w'.cell? ⟨gb227, 1, none⟩ = some (.string x228001_29) ∧ w'.cell? ⟨gb227, 2, none⟩ = some (.int .i64 t230)) (ds := []) (bv 6 0x0) (by kernel_rfl) rfl rfl ⟨bc0 BK223, bc1 BK223, bc2 BK223, bc3 BK223, bc4 BK223, bc0 BK227, bc1 BK227, bc2 BK227⟩ (fun hHeld => ?_)
          generalize w102.drew = w103 at HO_224002 HO_224003 HO_224004 BK223 BK224 BK227 HK HB hHeld ⊢
          refine pure_ (i := 1) (N := some 64) (v := ?_) (a' := ?_) (bv 6 0x2) rfl rfl (by kernel_rfl) (fun _ _ _ h => h) (Or.inl ⟨by rfl, ?_⟩) ?_ ?_
          rotate_left
          ·intro w'
           go_simp
           with_reducible rfl
          rotate_left
          ·simp only [aP]
           rfl
          refine take_ (i := 0) (N := some 63) (v := ?_) (a' := ?_) (bv 6 0x3) rfl rfl (by kernel_rfl) (fun _ _ _ h => h) (Or.inl ⟨by rfl, ?_⟩) hHeld ?_ ?_
          rotate_left
          ·rintro w' ⟨s0, s1, s2, s3, s4, s5, s6, s7⟩
           go_simp
           with_reducible rfl
          rotate_left
          ·simp only [aP]
           rfl
          refine take_ (i := 2) (N := some 65) (v := ?_) (a' := ?_) (bv 6 0x7) rfl rfl (by kernel_rfl) (fun _ _ _ h => h) (Or.inl ⟨by rfl, ?_⟩) hHeld ?_ ?_
          rotate_left
          ·rintro w' ⟨s0, s1, s2, s3, s4, s5, s6, s7⟩
           go_simp
           with_reducible rfl
          rotate_left
          ·simp only [aP]
           rfl
          refine one_ (i := 3) (N := none) (bv 6 0xf) rfl rfl (by kernel_rfl) (by decide) (fun K hK => ?_)
          have hs104 : w103.cell? ⟨gb224, 0, none⟩ = some (.int .i64 0) := bc0 BK224
          have hfs104 := blk_frozen BK224.out 0
          have hns104_0 := NB223_224.out
          have hns104_2 := NB227_224.out
          have hms104_0 := NB224_223.out
          have hms104_2 := NB224_227.out
          have hs105 : w103.cell? ⟨gb224, 1, none⟩ = some (.int .i64 0) := bc1 BK224
          have hfs105 := blk_frozen BK224.out 1
          have hns105_0 := NB223_224.out
          have hns105_2 := NB227_224.out
          have hms105_0 := NB224_223.out
          have hms105_2 := NB224_227.out
          have hs106 : w103.cell? ⟨gb224, 2, none⟩ = some (.slice none 0 0) := bc2 BK224
          have hfs106 := blk_frozen BK224.out 2
          have hns106_0 := NB223_224.out
          have hns106_2 := NB227_224.out
          have hms106_0 := NB224_223.out
          have hms106_2 := NB224_227.out
          have hs107 : w103.cell? ⟨gb224, 3, none⟩ = some (.slice none 0 0) := bc3 BK224
          have hfs107 := blk_frozen BK224.out 3
          have hns107_0 := NB223_224.out
          have hns107_2 := NB227_224.out
          have hms107_0 := NB224_223.out
          have hms107_2 := NB224_227.out
          have hs108 : w103.cell? ⟨gb224, 4, none⟩ = some (.slice none 0 0) := bc4 BK224
          have hfs108 := blk_frozen BK224.out 4
          have hns108_0 := NB223_224.out
          have hns108_2 := NB227_224.out
          have hms108_0 := NB224_223.out
          have hms108_2 := NB224_227.out
          refine skip_ (w1 := ?_) (by rfl) rfl ?_ ?_
          rotate_left
          ·go_simp
           rfl
          refine hK.out _ _ ⟨((cell_far (p := ⟨gb224, _, none⟩) NB223_224.out _).trans (((cell_far (p := ⟨gb224, _, none⟩) NB223_224.out _).trans (((cell_far (p := ⟨gb224, _, none⟩) NB223_224.out _).trans (((cell_far (p := ⟨gb224, _, none⟩) NB223_224.out _).trans (((cell_far (p := ⟨gb224, _, none⟩) NB223_224.out _).trans (hHeld.1)))))))))), ((cell_far (p := ⟨gb224, _, none⟩) NB223_224.out _).trans (((cell_far (p := ⟨gb224, _, none⟩) NB223_224.out _).trans (((cell_far (p := ⟨gb224, _, none⟩) NB223_224.out _).trans (((cell_far (p := ⟨gb224, _, none⟩) NB223_224.out _).trans (((cell_far (p := ⟨gb224, _, none⟩) NB223_224.out _).trans (hHeld.2.1)))))))))), ((cell_far (p := ⟨gb224, _, none⟩) NB223_224.out _).trans (((cell_far (p := ⟨gb224, _, none⟩) NB223_224.out _).trans (((cell_far (p := ⟨gb224, _, none⟩) NB223_224.out _).trans (((cell_far (p := ⟨gb224, _, none⟩) NB223_224.out _).trans (((cell_far (p := ⟨gb224, _, none⟩) NB223_224.out _).trans (hHeld.2.2.1)))))))))), ((cell_far (p := ⟨gb224, _, none⟩) NB223_224.out _).trans (((cell_far (p := ⟨gb224, _, none⟩) NB223_224.out _).trans (((cell_far (p := ⟨gb224, _, none⟩) NB223_224.out _).trans (((cell_far (p := ⟨gb224, _, none⟩) NB223_224.out _).trans (((cell_far (p := ⟨gb224, _, none⟩) NB223_224.out _).trans (hHeld.2.2.2.1)))))))))), ((cell_far (p := ⟨gb224, _, none⟩) NB223_224.out _).trans (((cell_far (p := ⟨gb224, _, none⟩) NB223_224.out _).trans (((cell_far (p := ⟨gb224, _, none⟩) NB223_224.out _).trans (((cell_far (p := ⟨gb224, _, none⟩) NB223_224.out _).trans (((cell_far (p := ⟨gb224, _, none⟩) NB223_224.out _).trans (hHeld.2.2.2.2.1)))))))))), ((cell_far (p := ⟨gb224, _, none⟩) NB227_224.out _).trans (((cell_far (p := ⟨gb224, _, none⟩) NB227_224.out _).trans (((cell_far (p := ⟨gb224, _, none⟩) NB227_224.out _).trans (((cell_far (p := ⟨gb224, _, none⟩) NB227_224.out _).trans (((cell_far (p := ⟨gb224, _, none⟩) NB227_224.out _).trans (hHeld.2.2.2.2.2.1)))))))))), ((cell_far (p := ⟨gb224, _, none⟩) NB227_224.out _).trans (((cell_far (p := ⟨gb224, _, none⟩) NB227_224.out _).trans (((cell_far (p := ⟨gb224, _, none⟩) NB227_224.out _).trans (((cell_far (p := ⟨gb224, _, none⟩) NB227_224.out _).trans (((cell_far (p := ⟨gb224, _, none⟩) NB227_224.out _).trans (hHeld.2.2.2.2.2.2.1)))))))))), ((cell_far (p := ⟨gb224, _, none⟩) NB227_224.out _).trans (((cell_far (p := ⟨gb224, _, none⟩) NB227_224.out _).trans (((cell_far (p := ⟨gb224, _, none⟩) NB227_224.out _).trans (((cell_far (p := ⟨gb224, _, none⟩) NB227_224.out _).trans (((cell_far (p := ⟨gb224, _, none⟩) NB227_224.out _).trans (hHeld.2.2.2.2.2.2.2))))))))))⟩ (fun hHeld => ?_)
          clear hK K
          refine pure_ (i := 4) (N := some 9) (v := ?_) (a' := ?_) (bv 6 0x1f) rfl rfl (by kernel_rfl) (fun _ _ _ h => h) (Or.inl ⟨by rfl, ?_⟩) ?_ ?_
          rotate_left
          ·intro w'
           go_simp
           with_reducible rfl
          rotate_left
          ·simp only [aP]
           rfl
          refine pure_ (i := 5) (N := some 10) (v := ?_) (a' := ?_) (bv 6 0x3f) rfl rfl (by kernel_rfl) (fun _ _ _ h => h) (Or.inl ⟨by rfl, ?_⟩) ?_ ?_
          rotate_left
          ·intro w'
           go_simp
           with_reducible rfl
          rotate_left
          ·simp only [aP]
           rfl
          refine done_ (by kernel_rfl) ?_
          try go_wp2
          refine bodyPost_ret (results_ctt rfl _ _ gb224 30 #[.int .i64 a0_0, .int .i64 a0_1, .slice (some ⟨go93, 0, none⟩) l0_2.length co8, .slice Ao9 l0_3.length co9, .slice Ao10 l0_4.length co10] (0, 0) _ rfl (by (with_reducible repeat (first | refine blk_drewN ?_ _ | refine blk_drew ?_ | refine blk_alloc ?_ _)); refine blk_put (cs := #[.int .i64 a0_0, .int .i64 a0_1, .slice (some ⟨go93, 0, none⟩) l0_2.length co8, .slice Ao9 l0_3.length co9, .slice none 0 0]) ?_ 4 _ rfl; (with_reducible repeat (first | refine blk_drewN ?_ _ | refine blk_drew ?_ | refine blk_alloc ?_ _)); refine blk_put (cs := #[.int .i64 a0_0, .int .i64 a0_1, .slice (some ⟨go93, 0, none⟩) l0_2.length co8, .slice none 0 0, .slice none 0 0]) ?_ 3 _ rfl; (with_reducible repeat (first | refine blk_drewN ?_ _ | refine blk_drew ?_ | refine blk_alloc ?_ _)); refine blk_put (cs := #[.int .i64 a0_0, .int .i64 a0_1, .slice none 0 0, .slice none 0 0, .slice none 0 0]) ?_ 2 _ rfl; (with_reducible repeat (first | refine blk_drewN ?_ _ | refine blk_drew ?_ | refine blk_alloc ?_ _)); refine blk_put (cs := #[.int .i64 a0_0, .int .i64 0, .slice none 0 0, .slice none 0 0, .slice none 0 0]) ?_ 1 _ rfl; (with_reducible repeat (first | refine blk_drewN ?_ _ | refine blk_drew ?_ | refine blk_alloc ?_ _)); refine blk_put (cs := #[.int .i64 0, .int .i64 0, .slice none 0 0, .slice none 0 0, .slice none 0 0]) ?_ 0 _ rfl; (with_reducible repeat (first | refine blk_drewN ?_ _ | refine blk_drew ?_ | refine blk_alloc ?_ _)); exact BK224.out) Try.underlying30 rfl (by kernel_rfl)) rfl ?_
          exact ⟨_, _, _, er, by (with_reducible repeat (first | apply Kd.R_alloc | apply Kd.R_drewN | apply Kd.R_drew)); exact Kd.R_mono (Kd.R_far (p := ⟨gb224, 4, none⟩) (Kd.R_far (p := ⟨gb224, 3, none⟩) (Kd.R_far (p := ⟨gb224, 2, none⟩) (Kd.R_far (p := ⟨gb224, 1, none⟩) (Kd.R_far (p := ⟨gb224, 0, none⟩) (Kd.R_types HO_224002.out BK224.out (by decide)) (fun _ hk => hk.2) (.int .i64 a0_0)) (fun _ hk => hk.2) (.int .i64 a0_1)) (fun _ hk => hk.2) (.slice (some ⟨go93, 0, none⟩) l0_2.length co8)) (fun _ hk => hk.2) (.slice Ao9 l0_3.length co9)) (fun _ hk => hk.2) (.slice Ao10 l0_4.length co10)) (fun _ hk => ⟨hk.1.1, hk.1.2.1⟩), by (with_reducible repeat (first | apply Kd.R_alloc | apply Kd.R_drewN | apply Kd.R_drew)); exact Kd.R_mono (Kd.R_far (p := ⟨gb224, 4, none⟩) (Kd.R_far (p := ⟨gb224, 3, none⟩) (Kd.R_far (p := ⟨gb224, 2, none⟩) (Kd.R_far (p := ⟨gb224, 1, none⟩) (Kd.R_far (p := ⟨gb224, 0, none⟩) (Kd.R_types HO_224003.out BK224.out (by decide)) (fun _ hk => hk.2) (.int .i64 a0_0)) (fun _ hk => hk.2) (.int .i64 a0_1)) (fun _ hk => hk.2) (.slice (some ⟨go93, 0, none⟩) l0_2.length co8)) (fun _ hk => hk.2) (.slice Ao9 l0_3.length co9)) (fun _ hk => hk.2) (.slice Ao10 l0_4.length co10)) (fun _ hk => ⟨hk.1.1.1, hk.1.2⟩), by (with_reducible repeat (first | apply Kd.R_alloc | apply Kd.R_drewN | apply Kd.R_drew)); exact Kd.R_mono (Kd.R_far (p := ⟨gb224, 4, none⟩) (Kd.R_far (p := ⟨gb224, 3, none⟩) (Kd.R_far (p := ⟨gb224, 2, none⟩) (Kd.R_far (p := ⟨gb224, 1, none⟩) (Kd.R_far (p := ⟨gb224, 0, none⟩) (Kd.R_types HO_224004.out BK224.out (by decide)) (fun _ hk => hk.2) (.int .i64 a0_0)) (fun _ hk => hk.2) (.int .i64 a0_1)) (fun _ hk => hk.2) (.slice (some ⟨go93, 0, none⟩) l0_2.length co8)) (fun _ hk => hk.2) (.slice Ao9 l0_3.length co9)) (fun _ hk => hk.2) (.slice Ao10 l0_4.length co10)) (fun _ hk => hk.1), be3 HB GE223 GE224 GE227, by repeat (first | (with_reducible first | exact HK.out | apply Kept.alloc | apply Kept.drewN | apply Kept.drew | refine Kept.setCell ?_ (.inr GW223.out) _ | refine Kept.setCell ?_ (.inr GW224.out) _ | refine Kept.setCell ?_ (.inr GW227.out) _) | exact HK.out)⟩
         rw [if_neg c92] at H
         exact absurd H (by simp)
        rw [if_neg c91] at H
        exact absurd H (by simp)
       rw [if_neg c90] at H
       have c90b0 : decide (0 ≤ t225) = false := decide_eq_false c90
       clear c90
       by_cases c109 : 0 ≤ t226
       ·rw [if_pos c109] at H
        have c109b0 : decide (0 ≤ t226) = true := decide_eq_true c109
        clear c109
        by_cases c110 : t226 < (l0_3.length : Int)
        ·rw [if_pos c110] at H
         have c110b0 : decide (t226 < (l0_3.length : Int)) = true := decide_eq_true c110
         clear c110
         obtain ⟨y234, hy234⟩ : ∃ y_ : List (S68), y_ = (l0_3.set (t226 : Int).toNat (⟨x228000_29, x228001_29, t230⟩ : S68)) := ⟨_, rfl⟩
         replace H : (some (a0_0, a0_1, l0_2, y234, l0_4, x228001_29, true)) = some (r1, r2, r3, r4, r5, r6, r7) := by first | (rw [hy234]; with_reducible exact H) | (have H2_ := (Option.bind_some _ _).symm.trans H; rw [hy234]; with_reducible exact H2_) | (have H2_ := (Option.bind_some _ _).symm.trans H; with_reducible exact H2_) | with_reducible exact H | (rw [hy234]; exact H) | exact H
         have Ny234 := Aside0.mk hy234
         clear hy234
         simp only [Option.some.injEq, Prod.mk.injEq] at H
         obtain ⟨rfl, rfl, rfl, rfl, rfl, rfl, rfl⟩ := H
         have hnb112 := NB227_223.out
         have hnc112 := NB223_227.out
         have hnb113 := NB227_224.out
         have hnc113 := NB224_227.out
         have hcz114_0 := bz3 BK227
         try go_wp2_with (first | ((with_reducible refine gate_callee (f := 117) rfl ?_); refine gl 46 Try.func117 #[.int .i64 x228002_29] ?_; (with_reducible refine (spec_l10More.calls x228002_29 t230 _ A47.out).mono ?_); rintro e w' ⟨rfl, ⟨nd, rfl⟩⟩; refine ⟨_, rfl, ?_⟩; (try (rw [drewN_self wc]; generalize hq_ : World.drewN wc _ = wc; have n0_ : Aside0 (Kd.R k68 68 wc w0.heap.size (fun k_ => ((P0_2_ k_ ∨ P0_3_ k_ ∨ P0_4_ k_) ∨ w.heap.size ≤ k_) ∧ nb k_ Ao9 l0_3.length co9 ∧ k_ ≠ gb227) (.slice Ao8 l0_2.length co8) l0_2) := ⟨by rw [← hq_]; exact (ro HO_224002)⟩; have n1_ : Aside0 (Kd.R k68 68 wc w0.heap.size (fun k_ => ((P0_2_ k_ ∨ P0_3_ k_ ∨ P0_4_ k_) ∨ w.heap.size ≤ k_) ∧ nb k_ Ao8 l0_2.length co8 ∧ k_ ≠ gb227) (.slice Ao9 l0_3.length co9) l0_3) := ⟨by rw [← hq_]; exact (ro HO_224003)⟩; have n2_ : Aside0 (Kd.R (Kd.int .i64) 3 wc w0.heap.size (fun k_ => ((P0_2_ k_ ∨ P0_3_ k_ ∨ P0_4_ k_) ∨ w.heap.size ≤ k_)) (.slice Ao10 l0_4.length co10) l0_4) := ⟨by rw [← hq_]; exact (ro HO_224004)⟩; have n3_ : Aside0 (wc.heap[gb223]? = some (.cells #[.int .i64 a0_0, .int .i64 a0_1, .slice Ao8 l0_2.length co8, .slice Ao9 l0_3.length co9, .slice Ao10 l0_4.length co10] 30 (0, 0))) := ⟨by rw [← hq_]; exact (bk BK223)⟩; have n4_ : Aside0 (wc.heap[gb224]? = some (.cells #[.int .i64 0, .int .i64 0, .slice none 0 0, .slice none 0 0, .slice none 0 0] 30 (0, 0))) := ⟨by rw [← hq_]; exact (bk BK224)⟩; have n5_ : Aside0 (wc.heap[gb227]? = some (.cells #[.string x228000_29, .string x228001_29, .int .i64 x228002_29] 68 (0, 0))) := ⟨by rw [← hq_]; exact (bk BK227)⟩; have n6_ : Aside0 (Kept w wc (fun k_ => P0_2_ k_ ∨ P0_3_ k_ ∨ P0_4_ k_)) := ⟨by rw [← hq_]; exact (by repeat (first | (with_reducible first | exact HK.out | apply Kept.alloc | apply Kept.drewN | apply Kept.drew | refine Kept.setCell ?_ (.inr GW223.out) _ | refine Kept.setCell ?_ (.inr GW224.out) _ | refine Kept.setCell ?_ (.inr GW227.out) _) | exact HK.out))⟩; have n7_ : Aside0 (Below w0.heap.size w0 wc) := ⟨by rw [← hq_]; exact (be3 HB GE223 GE224 GE227)⟩; clear HO_224002 HO_224003 HO_224004 BK223 BK224 BK227 HK HB hq_; have HO_224002 := n0_; have HO_224003 := n1_; have HO_224004 := n2_; have BK223 := n3_; have BK224 := n4_; have BK227 := n5_; have HK := n6_; have HB := n7_; clear n0_ n1_ n2_ n3_ n4_ n5_ n6_ n7_)); (try have hcg223_ := bz5 BK223); (try have hcg224_ := bz5 BK224); (try have hcg227_ := bz3 BK227)) | ((with_reducible refine gate_store (t := 3) (p := 47) rfl ?_); refine store_event (t := 3) (p := 47) (v := ?vo_w115) (w1 := (wc.setCell ⟨gb227, 2, none⟩ (.int .i64 t230))) ?hg ?ho ?hn ?hr ?_; (case ho => rfl); (case hg => rfl); (case hn => rfl); (case hr => first | (go_simp; done) | (go_simp; rfl)); intro w115 hw; have n0_ : Aside0 (Kd.R k68 68 w115 w0.heap.size (fun k_ => ((P0_2_ k_ ∨ P0_3_ k_ ∨ P0_4_ k_) ∨ w.heap.size ≤ k_) ∧ nb k_ Ao9 l0_3.length co9 ∧ k_ ≠ gb227) (.slice Ao8 l0_2.length co8) l0_2) := ⟨(by rw [hw]; exact (by (with_reducible repeat (first | apply Kd.R_alloc | apply Kd.R_drewN | apply Kd.R_drew)); exact Kd.R_mono (Kd.R_far (p := ⟨gb227, 2, none⟩) (Kd.R_mono HO_224002.out (fun k_ hk => (⟨hk, hk.2.2⟩ : _ ∧ k_ ≠ gb227))) (fun _ hk => hk.2) (.int .i64 t230)) (fun _ hk => ⟨hk.1.1, ⟨hk.1.2.1, hk.1.2.2⟩⟩)))⟩; have n1_ : Aside0 (Kd.R k68 68 w115 w0.heap.size (fun k_ => ((P0_2_ k_ ∨ P0_3_ k_ ∨ P0_4_ k_) ∨ w.heap.size ≤ k_) ∧ nb k_ Ao8 l0_2.length co8 ∧ k_ ≠ gb227) (.slice Ao9 l0_3.length co9) l0_3) := ⟨(by rw [hw]; exact (by (with_reducible repeat (first | apply Kd.R_alloc | apply Kd.R_drewN | apply Kd.R_drew)); exact Kd.R_mono (Kd.R_far (p := ⟨gb227, 2, none⟩) (Kd.R_mono HO_224003.out (fun k_ hk => (⟨hk, hk.2.2⟩ : _ ∧ k_ ≠ gb227))) (fun _ hk => hk.2) (.int .i64 t230)) (fun _ hk => ⟨hk.1.1, ⟨hk.1.2.1, hk.1.2.2⟩⟩)))⟩; have n2_ : Aside0 (Kd.R (Kd.int .i64) 3 w115 w0.heap.size (fun k_ => ((P0_2_ k_ ∨ P0_3_ k_ ∨ P0_4_ k_) ∨ w.heap.size ≤ k_)) (.slice Ao10 l0_4.length co10) l0_4) := ⟨(by rw [hw]; exact (by (with_reducible repeat (first | apply Kd.R_alloc | apply Kd.R_drewN | apply Kd.R_drew)); exact Kd.R_mono (Kd.R_far (p := ⟨gb227, 2, none⟩) (Kd.R_types HO_224004.out BK227.out (by decide)) (fun _ hk => hk.2) (.int .i64 t230)) (fun _ hk => hk.1)))⟩; have n3_ : Aside0 (w115.heap[gb223]? = some (.cells #[.int .i64 a0_0, .int .i64 a0_1, .slice Ao8 l0_2.length co8, .slice Ao9 l0_3.length co9, .slice Ao10 l0_4.length co10] 30 (0, 0))) := ⟨(by rw [hw]; exact (bf1 BK223 NB223_227))⟩; have n4_ : Aside0 (w115.heap[gb224]? = some (.cells #[.int .i64 0, .int .i64 0, .slice none 0 0, .slice none 0 0, .slice none 0 0] 30 (0, 0))) := ⟨(by rw [hw]; exact (bf1 BK224 NB224_227))⟩; have n5_ : Aside0 (w115.heap[gb227]? = some (.cells #[.string x228000_29, .string x228001_29, .int .i64 t230] 68 (0, 0))) := ⟨(by rw [hw]; exact (by (with_reducible repeat (first | refine blk_drewN ?_ _ | refine blk_drew ?_ | refine blk_alloc ?_ _)); refine blk_put (cs := #[.string x228000_29, .string x228001_29, .int .i64 x228002_29]) ?_ 2 _ rfl; (with_reducible repeat (first | refine blk_drewN ?_ _ | refine blk_drew ?_ | refine blk_alloc ?_ _)); exact BK227.out))⟩; have n6_ : Aside0 (Kept w w115 (fun k_ => P0_2_ k_ ∨ P0_3_ k_ ∨ P0_4_ k_)) := ⟨(by rw [hw]; exact (by repeat (first | (with_reducible first | exact HK.out | apply Kept.alloc | apply Kept.drewN | apply Kept.drew | refine Kept.setCell ?_ (.inr GW223.out) _ | refine Kept.setCell ?_ (.inr GW224.out) _ | refine Kept.setCell ?_ (.inr GW227.out) _) | exact HK.out)))⟩; have n7_ : Aside0 (Below w0.heap.size w0 w115) := ⟨(by rw [hw]; exact (be3 HB GE223 GE224 GE227))⟩; clear hw; clear HO_224002; clear HO_224003; clear HO_224004; clear BK223; clear BK224; clear BK227; clear HK; clear HB; have HO_224002 := n0_; have HO_224003 := n1_; have HO_224004 := n2_; have BK223 := n3_; have BK224 := n4_; have BK227 := n5_; have HK := n6_; have HB := n7_; clear n0_ n1_ n2_ n3_ n4_ n5_ n6_ n7_; have hnb116 := NB223_224.out; have hnc116 := NB224_223.out; have hcz117_0 := bz5 BK223; have hcz118_0 := bz3 BK227; have p111 : 0 ≤ (t226 : Int) := od; have q111 : (t226 : Int) < ((l0_3.length : Int) : Int) := od; obtain ⟨go111, co111, eo111, gb111, gl111, cl111, HG111⟩ := Kd.R_form HO_224003.out (by omega); (first | cases eo111 | (injection eo111 with ea_ en_ ec_; (first | subst ea_ | (injection ea_ with ea_; subst ea_)); subst ec_; clear en_)); have GB111 := Aside0.mk gb111; have GG111 := Aside0.mk HG111; clear gb111 gl111 HG111; have HMgo111 := Aside0.mk (show ((P0_2_ go111 ∨ P0_3_ go111 ∨ P0_4_ go111) ∨ w.heap.size ≤ go111) from (HO_224003.out.1 _ rfl).1); obtain ⟨ce111, hcl111, hM111, hcc111, hfr111⟩ := Kd.R_elem HO_224003.out z68 (t226 : Int) p111 q111; obtain rfl := k68_openM hM111; have hx111_0 : w115.cell? ⟨go111, (t226 : Int).toNat * 3, none⟩ = some (.string ((rd_T68 l0_3 t226).f0)) := hcc111 0 _ rfl; have hx111_1 : w115.cell? ⟨go111, (t226 : Int).toNat * 3 + 1, none⟩ = some (.string ((rd_T68 l0_3 t226).f1)) := hcc111 1 _ rfl; have hx111_2 : w115.cell? ⟨go111, (t226 : Int).toNat * 3 + 2, none⟩ = some (.int .i64 ((rd_T68 l0_3 t226).f2)) := hcc111 2 _ rfl; have hf111_0 : w115.frozen? ⟨go111, (t226 : Int).toNat * 3, none⟩ = false := hfr111 0; have hf111_1 : w115.frozen? ⟨go111, (t226 : Int).toNat * 3 + 1, none⟩ = false := hfr111 1; have hf111_2 : w115.frozen? ⟨go111, (t226 : Int).toNat * 3 + 2, none⟩ = false := hfr111 2; clear hcl111 hcc111 hfr111 hM111; replace p111 := eq_true p111; replace q111 := eq_true q111; have HX119 := Aside0.mk (show Kd.R k68 68 w115 w0.heap.size (fun k_ => ((P0_2_ k_ ∨ P0_3_ k_ ∨ P0_4_ k_) ∨ w.heap.size ≤ k_) ∧ nb k_ Ao8 l0_2.length co8 ∧ k_ ≠ gb227) (.slice (some ⟨go111, 0, none⟩) l0_3.length co9) l0_3 from (ro HO_224003)); obtain ⟨ce119, hcl119, hM119, hcc119, hfr119⟩ := Kd.R_elem HX119.out z68 (t226 : Int) (od) (by have h_ : (t226 : Int) < ((l0_3.length : Int) : Int) := od; first | exact h_ | (have e_ := (Kd.R_reads' HO_224003.out).1; omega) | simpa using h_); obtain rfl := k68_openM hM119; have HP119 := Kd.R_seg HX119.out (t226 : Int) (od) (by have h_ : (t226 : Int) < ((l0_3.length : Int) : Int) := od; first | exact h_ | (have e_ := (Kd.R_reads' HO_224003.out).1; omega) | simpa using h_) (seg := [.string x228000_29, .string x228001_29, .int .i64 t230]) (j := 0) hcl119 hcc119 (show 3 ≤ 3 from by decide) (x' := (⟨x228000_29, x228001_29, t230⟩ : S68)) (k68_mkM _ _ _ (⟨x228000_29, x228001_29, t230⟩ : S68) ) (fun _ hk => hk); have hx119_0 := hcc119 0 _ rfl; (try simp only [show (k68).sz = 3 from rfl, Nat.mul_one, Nat.add_zero] at hx119_0); have hf119_0 := hfr119 0; (try simp only [show (k68).sz = 3 from rfl, Nat.mul_one, Nat.add_zero] at hf119_0); have hx119_1 := hcc119 1 _ rfl; (try simp only [show (k68).sz = 3 from rfl, Nat.mul_one, Nat.add_zero] at hx119_1); have hf119_1 := hfr119 1; (try simp only [show (k68).sz = 3 from rfl, Nat.mul_one, Nat.add_zero] at hf119_1); have hx119_2 := hcc119 2 _ rfl; (try simp only [show (k68).sz = 3 from rfl, Nat.mul_one, Nat.add_zero] at hx119_2); have hf119_2 := hfr119 2; (try simp only [show (k68).sz = 3 from rfl, Nat.mul_one, Nat.add_zero] at hf119_2); clear hcl119 hcc119 hfr119 hM119) | ((with_reducible refine gate_store (t := 68) (p := 62) rfl ?_); refine store_event (t := 68) (p := 62) (v := ?vo_w120) (w1 := (((w115.setCell ⟨go111, (t226 : Int).toNat * 3, none⟩ (.string x228000_29)).setCell ⟨go111, (t226 : Int).toNat * 3 + 1, none⟩ (.string x228001_29)).setCell ⟨go111, (t226 : Int).toNat * 3 + 2, none⟩ (.int .i64 t230))) ?hg ?ho ?hn ?hr ?_; (case ho => rfl); (case hg => rfl); (case hn => rfl); (case hr => first | (go_simp; done) | (go_simp; rfl)); intro w120 hw; have hg : w115.grownBy w120 (some go111) := (by rw [hw]; exact HP119.2); have hp_ : Kd.R k68 68 w120 w0.heap.size (fun k_ => ((P0_2_ k_ ∨ P0_3_ k_ ∨ P0_4_ k_) ∨ w.heap.size ≤ k_) ∧ nb k_ Ao8 l0_2.length co8 ∧ k_ ≠ gb227) (.slice (some ⟨go111, 0, none⟩) l0_3.length co9) y234 := (by rw [hw, Ny234.out]; exact HP119.1); clear HP119; replace HO_224002 := Aside0.mk (Kd.R_after (v := (.slice (some ⟨go111, 0, none⟩) l0_3.length co9)) (v1 := (.slice (some ⟨go111, 0, none⟩) l0_3.length co9)) (ok := (fun k_ => ((P0_2_ k_ ∨ P0_3_ k_ ∨ P0_4_ k_) ∨ w.heap.size ≤ k_) ∧ k_ ≠ gb227)) (by (with_reducible repeat (first | apply Kd.R_alloc | apply Kd.R_drewN | apply Kd.R_drew)); exact rm HO_224002) hg (.inl rfl)); replace HO_224004 := Aside0.mk (Kd.R_over' (v := (.slice (some ⟨go111, 0, none⟩) l0_3.length co9)) (ro HO_224004) (Kd.R_typed HO_224003.out) (by decide) hg); replace BK223 := Aside0.mk (blk_grown (g := gb223) (o := .cells #[.int .i64 a0_0, .int .i64 a0_1, .slice Ao8 l0_2.length co8, .slice (some ⟨go111, 0, none⟩) l0_3.length co9, .slice Ao10 l0_4.length co10] 30 (0, 0)) (bk BK223) hg (Kd.R_ne HO_224003.out BK223.out (by decide))); replace BK224 := Aside0.mk (blk_grown (g := gb224) (o := .cells #[.int .i64 0, .int .i64 0, .slice none 0 0, .slice none 0 0, .slice none 0 0] 30 (0, 0)) (bk BK224) hg (Kd.R_ne HO_224003.out BK224.out (by decide))); replace BK227 := Aside0.mk (blk_grown (g := gb227) (o := .cells #[.string x228000_29, .string x228001_29, .int .i64 t230] 68 (0, 0)) (bk BK227) hg (Kd.R_away HO_224003.out (fun _ hk => hk.2.2))); replace HB := Aside0.mk ((by rw [hw]; exact below_set (below_set (below_set (HB.out) GB111.out) GB111.out) GB111.out : Below w0.heap.size w0 w120)); replace HK := Aside0.mk (Kept.of_grown (S := (fun k_ => P0_2_ k_ ∨ P0_3_ k_ ∨ P0_4_ k_)) hg (by repeat (first | (with_reducible first | exact HK.out | apply Kept.alloc | apply Kept.drewN | apply Kept.drew | refine Kept.setCell ?_ (.inr GW223.out) _ | refine Kept.setCell ?_ (.inr GW224.out) _ | refine Kept.setCell ?_ (.inr GW227.out) _) | exact HK.out)) (fun k_ e_ => (HO_224003.out.1 k_ e_).1)); replace HO_224003 := Aside0.mk (hp_); clear hg hw hp_))
         have n0_ := Aside0.mk (Kd.R_drew HO_224002.out)
         have n1_ := Aside0.mk (Kd.R_drew HO_224003.out)
         have n2_ := Aside0.mk (Kd.R_drew HO_224004.out)
         have n3_ := Aside0.mk (blk_drew BK223.out)
         have n4_ := Aside0.mk (blk_drew BK224.out)
         have n5_ := Aside0.mk (blk_drew BK227.out)
         have n6_ := Aside0.mk (Kept.drew HK.out)
         have n7_ := Aside0.mk (below_drew1 HB.out)
         clear HO_224002
         clear HO_224003
         clear HO_224004
         clear BK223
         clear BK224
         clear BK227
         clear HK
         clear HB
         have HO_224002 := n0_
         have HO_224003 := n1_
         have HO_224004 := n2_
         have BK223 := n3_
         have BK224 := n4_
         have BK227 := n5_
         have HK := n6_
         have HB := n7_
         clear n0_ n1_ n2_ n3_ n4_ n5_ n6_ n7_
         refine start_ (n := 6) (S := fun w' => w'.cell? ⟨gb223, 0, none⟩ = some (.int .i64 a0_0) ∧ w'.cell? ⟨gb223, 1, none⟩ = some (.int .i64 a0_1) ∧ w'.cell? ⟨gb223, 2, none⟩ = some (.slice Ao8 l0_2.length co8) ∧ w'.cell? ⟨gb223, 3, none⟩ = some (.slice (some ⟨go111, 0, none⟩) l0_3.length co9) ∧ w'.cell? ⟨gb223, 4, none⟩ = some (.slice Ao10 l0_4.length co10) ∧ w'.cell? ⟨gb227, 0, none⟩ = some (.string x228000_29) ∧ w'.cell? ⟨gb227, 1, none⟩ = some (.string x228001_29) ∧ w'.cell? ⟨gb227, 2, none⟩ = some (.int .i64 t230)) (ds := []) (bv 6 0x0) (by kernel_rfl) rfl rfl ⟨bc0 BK223, bc1 BK223, bc2 BK223, bc3 BK223, bc4 BK223, bc0 BK227, bc1 BK227, bc2 BK227⟩ (fun hHeld => ?_)
         generalize w120.drew = w121 at HO_224002 HO_224003 HO_224004 BK223 BK224 BK227 HK HB hHeld ⊢
         refine pure_ (i := 1) (N := some 64) (v := ?_) (a' := ?_) (bv 6 0x2) rfl rfl (by kernel_rfl) (fun _ _ _ h => h) (Or.inl ⟨by rfl, ?_⟩) ?_ ?_
         rotate_left
         ·intro w'
          go_simp
          with_reducible rfl
         rotate_left
         ·simp only [aP]
          rfl
         refine take_ (i := 0) (N := some 63) (v := ?_) (a' := ?_) (bv 6 0x3) rfl rfl (by kernel_rfl) (fun _ _ _ h => h) (Or.inl ⟨by rfl, ?_⟩) hHeld ?_ ?_
         rotate_left
         ·rintro w' ⟨s0, s1, s2, s3, s4, s5, s6, s7⟩
          go_simp
          with_reducible rfl
         rotate_left
         ·simp only [aP]
          rfl
         refine take_ (i := 2) (N := some 65) (v := ?_) (a' := ?_) (bv 6 0x7) rfl rfl (by kernel_rfl) (fun _ _ _ h => h) (Or.inl ⟨by rfl, ?_⟩) hHeld ?_ ?_
         rotate_left
         ·rintro w' ⟨s0, s1, s2, s3, s4, s5, s6, s7⟩
          go_simp
          with_reducible rfl
         rotate_left
         ·simp only [aP]
          rfl
         refine one_ (i := 3) (N := none) (bv 6 0xf) rfl rfl (by kernel_rfl) (by decide) (fun K hK => ?_)
         have hs122 : w121.cell? ⟨gb224, 0, none⟩ = some (.int .i64 0) := bc0 BK224
         have hfs122 := blk_frozen BK224.out 0
         have hns122_0 := NB223_224.out
         have hns122_2 := NB227_224.out
         have hms122_0 := NB224_223.out
         have hms122_2 := NB224_227.out
         have hs123 : w121.cell? ⟨gb224, 1, none⟩ = some (.int .i64 0) := bc1 BK224
         have hfs123 := blk_frozen BK224.out 1
         have hns123_0 := NB223_224.out
         have hns123_2 := NB227_224.out
         have hms123_0 := NB224_223.out
         have hms123_2 := NB224_227.out
         have hs124 : w121.cell? ⟨gb224, 2, none⟩ = some (.slice none 0 0) := bc2 BK224
         have hfs124 := blk_frozen BK224.out 2
         have hns124_0 := NB223_224.out
         have hns124_2 := NB227_224.out
         have hms124_0 := NB224_223.out
         have hms124_2 := NB224_227.out
         have hs125 : w121.cell? ⟨gb224, 3, none⟩ = some (.slice none 0 0) := bc3 BK224
         have hfs125 := blk_frozen BK224.out 3
         have hns125_0 := NB223_224.out
         have hns125_2 := NB227_224.out
         have hms125_0 := NB224_223.out
         have hms125_2 := NB224_227.out
         have hs126 : w121.cell? ⟨gb224, 4, none⟩ = some (.slice none 0 0) := bc4 BK224
         have hfs126 := blk_frozen BK224.out 4
         have hns126_0 := NB223_224.out
         have hns126_2 := NB227_224.out
         have hms126_0 := NB224_223.out
         have hms126_2 := NB224_227.out
         refine skip_ (w1 := ?_) (by rfl) rfl ?_ ?_
         rotate_left
         ·go_simp
          rfl
         refine hK.out _ _ ⟨((cell_far (p := ⟨gb224, _, none⟩) NB223_224.out _).trans (((cell_far (p := ⟨gb224, _, none⟩) NB223_224.out _).trans (((cell_far (p := ⟨gb224, _, none⟩) NB223_224.out _).trans (((cell_far (p := ⟨gb224, _, none⟩) NB223_224.out _).trans (((cell_far (p := ⟨gb224, _, none⟩) NB223_224.out _).trans (hHeld.1)))))))))), ((cell_far (p := ⟨gb224, _, none⟩) NB223_224.out _).trans (((cell_far (p := ⟨gb224, _, none⟩) NB223_224.out _).trans (((cell_far (p := ⟨gb224, _, none⟩) NB223_224.out _).trans (((cell_far (p := ⟨gb224, _, none⟩) NB223_224.out _).trans (((cell_far (p := ⟨gb224, _, none⟩) NB223_224.out _).trans (hHeld.2.1)))))))))), ((cell_far (p := ⟨gb224, _, none⟩) NB223_224.out _).trans (((cell_far (p := ⟨gb224, _, none⟩) NB223_224.out _).trans (((cell_far (p := ⟨gb224, _, none⟩) NB223_224.out _).trans (((cell_far (p := ⟨gb224, _, none⟩) NB223_224.out _).trans (((cell_far (p := ⟨gb224, _, none⟩) NB223_224.out _).trans (hHeld.2.2.1)))))))))), ((cell_far (p := ⟨gb224, _, none⟩) NB223_224.out _).trans (((cell_far (p := ⟨gb224, _, none⟩) NB223_224.out _).trans (((cell_far (p := ⟨gb224, _, none⟩) NB223_224.out _).trans (((cell_far (p := ⟨gb224, _, none⟩) NB223_224.out _).trans (((cell_far (p := ⟨gb224, _, none⟩) NB223_224.out _).trans (hHeld.2.2.2.1)))))))))), ((cell_far (p := ⟨gb224, _, none⟩) NB223_224.out _).trans (((cell_far (p := ⟨gb224, _, none⟩) NB223_224.out _).trans (((cell_far (p := ⟨gb224, _, none⟩) NB223_224.out _).trans (((cell_far (p := ⟨gb224, _, none⟩) NB223_224.out _).trans (((cell_far (p := ⟨gb224, _, none⟩) NB223_224.out _).trans (hHeld.2.2.2.2.1)))))))))), ((cell_far (p := ⟨gb224, _, none⟩) NB227_224.out _).trans (((cell_far (p := ⟨gb224, _, none⟩) NB227_224.out _).trans (((cell_far (p := ⟨gb224, _, none⟩) NB227_224.out _).trans (((cell_far (p := ⟨gb224, _, none⟩) NB227_224.out _).trans (((cell_far (p := ⟨gb224, _, none⟩) NB227_224.out _).trans (hHeld.2.2.2.2.2.1)))))))))), ((cell_far (p := ⟨gb224, _, none⟩) NB227_224.out _).trans (((cell_far (p := ⟨gb224, _, none⟩) NB227_224.out _).trans (((cell_far (p := ⟨gb224, _, none⟩) NB227_224.out _).trans (((cell_far (p := ⟨gb224, _, none⟩) NB227_224.out _).trans (((cell_far (p := ⟨gb224, _, none⟩) NB227_224.out _).trans (hHeld.2.2.2.2.2.2.1)))))))))), ((cell_far (p := ⟨gb224, _, none⟩) NB227_224.out _).trans (((cell_far (p := ⟨gb224, _, none⟩) NB227_224.out _).trans (((cell_far (p := ⟨gb224, _, none⟩) NB227_224.out _).trans (((cell_far (p := ⟨gb224, _, none⟩) NB227_224.out _).trans (((cell_far (p := ⟨gb224, _, none⟩) NB227_224.out _).trans (hHeld.2.2.2.2.2.2.2))))))))))⟩ (fun hHeld => ?_)
         clear hK K
         refine pure_ (i := 4) (N := some 9) (v := ?_) (a' := ?_) (bv 6 0x1f) rfl rfl (by kernel_rfl) (fun _ _ _ h => h) (Or.inl ⟨by rfl, ?_⟩) ?_ ?_
         rotate_left
         ·intro w'
          go_simp
          with_reducible rfl
         rotate_left
         ·simp only [aP]
          rfl
         refine pure_ (i := 5) (N := some 10) (v := ?_) (a' := ?_) (bv 6 0x3f) rfl rfl (by kernel_rfl) (fun _ _ _ h => h) (Or.inl ⟨by rfl, ?_⟩) ?_ ?_
         rotate_left
         ·intro w'
          go_simp
          with_reducible rfl
         rotate_left
         ·simp only [aP]
          rfl
         refine done_ (by kernel_rfl) ?_
         try go_wp2
         refine bodyPost_ret (results_ctt rfl _ _ gb224 30 #[.int .i64 a0_0, .int .i64 a0_1, .slice Ao8 l0_2.length co8, .slice (some ⟨go111, 0, none⟩) l0_3.length co9, .slice Ao10 l0_4.length co10] (0, 0) _ rfl (by (with_reducible repeat (first | refine blk_drewN ?_ _ | refine blk_drew ?_ | refine blk_alloc ?_ _)); refine blk_put (cs := #[.int .i64 a0_0, .int .i64 a0_1, .slice Ao8 l0_2.length co8, .slice (some ⟨go111, 0, none⟩) l0_3.length co9, .slice none 0 0]) ?_ 4 _ rfl; (with_reducible repeat (first | refine blk_drewN ?_ _ | refine blk_drew ?_ | refine blk_alloc ?_ _)); refine blk_put (cs := #[.int .i64 a0_0, .int .i64 a0_1, .slice Ao8 l0_2.length co8, .slice none 0 0, .slice none 0 0]) ?_ 3 _ rfl; (with_reducible repeat (first | refine blk_drewN ?_ _ | refine blk_drew ?_ | refine blk_alloc ?_ _)); refine blk_put (cs := #[.int .i64 a0_0, .int .i64 a0_1, .slice none 0 0, .slice none 0 0, .slice none 0 0]) ?_ 2 _ rfl; (with_reducible repeat (first | refine blk_drewN ?_ _ | refine blk_drew ?_ | refine blk_alloc ?_ _)); refine blk_put (cs := #[.int .i64 a0_0, .int .i64 0, .slice none 0 0, .slice none 0 0, .slice none 0 0]) ?_ 1 _ rfl; (with_reducible repeat (first | refine blk_drewN ?_ _ | refine blk_drew ?_ | refine blk_alloc ?_ _)); refine blk_put (cs := #[.int .i64 0, .int .i64 0, .slice none 0 0, .slice none 0 0, .slice none 0 0]) ?_ 0 _ rfl; (with_reducible repeat (first | refine blk_drewN ?_ _ | refine blk_drew ?_ | refine blk_alloc ?_ _)); exact BK224.out) Try.underlying30 rfl (by kernel_rfl)) rfl ?_
         exact ⟨_, _, _, er, by (with_reducible repeat (first | apply Kd.R_alloc | apply Kd.R_drewN | apply Kd.R_drew)); exact Kd.R_mono (Kd.R_far (p := ⟨gb224, 4, none⟩) (Kd.R_far (p := ⟨gb224, 3, none⟩) (Kd.R_far (p := ⟨gb224, 2, none⟩) (Kd.R_far (p := ⟨gb224, 1, none⟩) (Kd.R_far (p := ⟨gb224, 0, none⟩) (Kd.R_types HO_224002.out BK224.out (by decide)) (fun _ hk => hk.2) (.int .i64 a0_0)) (fun _ hk => hk.2) (.int .i64 a0_1)) (fun _ hk => hk.2) (.slice Ao8 l0_2.length co8)) (fun _ hk => hk.2) (.slice (some ⟨go111, 0, none⟩) l0_3.length co9)) (fun _ hk => hk.2) (.slice Ao10 l0_4.length co10)) (fun _ hk => ⟨hk.1.1.1, hk.1.2⟩), by (with_reducible repeat (first | apply Kd.R_alloc | apply Kd.R_drewN | apply Kd.R_drew)); exact Kd.R_mono (Kd.R_far (p := ⟨gb224, 4, none⟩) (Kd.R_far (p := ⟨gb224, 3, none⟩) (Kd.R_far (p := ⟨gb224, 2, none⟩) (Kd.R_far (p := ⟨gb224, 1, none⟩) (Kd.R_far (p := ⟨gb224, 0, none⟩) (Kd.R_types HO_224003.out BK224.out (by decide)) (fun _ hk => hk.2) (.int .i64 a0_0)) (fun _ hk => hk.2) (.int .i64 a0_1)) (fun _ hk => hk.2) (.slice Ao8 l0_2.length co8)) (fun _ hk => hk.2) (.slice (some ⟨go111, 0, none⟩) l0_3.length co9)) (fun _ hk => hk.2) (.slice Ao10 l0_4.length co10)) (fun _ hk => ⟨hk.1.1, hk.1.2.1⟩), by (with_reducible repeat (first | apply Kd.R_alloc | apply Kd.R_drewN | apply Kd.R_drew)); exact Kd.R_mono (Kd.R_far (p := ⟨gb224, 4, none⟩) (Kd.R_far (p := ⟨gb224, 3, none⟩) (Kd.R_far (p := ⟨gb224, 2, none⟩) (Kd.R_far (p := ⟨gb224, 1, none⟩) (Kd.R_far (p := ⟨gb224, 0, none⟩) (Kd.R_types HO_224004.out BK224.out (by decide)) (fun _ hk => hk.2) (.int .i64 a0_0)) (fun _ hk => hk.2) (.int .i64 a0_1)) (fun _ hk => hk.2) (.slice Ao8 l0_2.length co8)) (fun _ hk => hk.2) (.slice (some ⟨go111, 0, none⟩) l0_3.length co9)) (fun _ hk => hk.2) (.slice Ao10 l0_4.length co10)) (fun _ hk => hk.1), be3 HB GE223 GE224 GE227, by repeat (first | (with_reducible first | exact HK.out | apply Kept.alloc | apply Kept.drewN | apply Kept.drew | refine Kept.setCell ?_ (.inr GW223.out) _ | refine Kept.setCell ?_ (.inr GW224.out) _ | refine Kept.setCell ?_ (.inr GW227.out) _) | exact HK.out)⟩
        rw [if_neg c110] at H
        exact absurd H (by simp)
       rw [if_neg c109] at H
       exact absurd H (by simp)

end Go.Proofs.Ytfjhkediaholmaa.QFnExactGet
