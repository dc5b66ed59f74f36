-- made by a program of this session (myprint.py)
import Derived.Test.YtfjhkediaholmaaQFnSweepx0
import Derived.Test.YtfjhkediaholmaaQFnSweepx1
import Derived.Test.YtfjhkediaholmaaQFnSweepx2
import Derived.Test.YtfjhkediaholmaaQFnSweepx3
import Derived.Test.YtfjhkediaholmaaQFnSweepx7
import Derived.Test.YtfjhkediaholmaaQFnSweepx8
namespace Go.Proofs.Ytfjhkediaholmaa.QFnSweep
open Go.RowKit Go.Proofs.YtfjhkediaholmaaW.PrintWords Go.Proofs.YtfjhkediaholmaaW.PrintLast Go.Proofs.YtfjhkediaholmaaW.PrintMore
attribute [local go_sem] max2_int min2_int max_two min_two max_three min_three max_four min_four   -- for this text's walks alone
set_option linter.unusedVariables false
set_option linter.unusedSimpArgs false

/-! ### impl_Sweep: function 47 -/
mutual
def impl_Sweep.j0 : Nat → List ByteArray → Int → Int → List ByteArray → Bool → Option (List ByteArray)
 | 0, _, _, _, _, _ => none
 | k + 1, x0, x1, x2, x7, x21 => if x21 = true then (some x7) else (impl_Sweep.l0 k x0 x2 x7 x1 0)
def impl_Sweep.l0 : Nat → List ByteArray → Int → List ByteArray → Int → Int → Option (List ByteArray)
 | 0, _, _, _, _, _ => none
 | k + 1, x0, x2, x7, x23, x24 => if x24 < x23 then (if x2 = 0 then (none) else (if (Int.tmod x24 x2) = 0 then (if x7.length + x0.length < 8796093022208 then ((some (x7 ++ x0 : List ByteArray)).bind fun y384 => ((impl_NumText.f k x24).bind fun t387 => (if 1 + t387.size ≤ 9223372036854775807 then (if y384.length < 8796093022208 then (impl_Sweep.l0 k x0 x2 (y384 ++ [(⟨#[99]⟩ : ByteArray) ++ t387]) x23 (wrap64 (x24 + 1))) else (none)) else (none)))) else (none)) else ((impl_NumText.f k x24).bind fun t391 => (if 1 + t391.size ≤ 9223372036854775807 then (if x7.length < 8796093022208 then (impl_Sweep.l0 k x0 x2 (x7 ++ [(⟨#[99]⟩ : ByteArray) ++ t391]) x23 (wrap64 (x24 + 1))) else (none)) else (none))))) else (if (x7.length : Int) > 300 then (some (([] : List ByteArray))) else (some x7))
end
def impl_Sweep.f (k : Nat) (l0 : List ByteArray) (a1 : Int) (a2 : Int) : Option (List ByteArray) := (some (([] : List ByteArray) : List ByteArray)).bind fun y379 => ((impl_within.f a1 1 100).bind fun t382 => (if t382 = true then (if a2 < 1 then (impl_Sweep.j0 k l0 a1 a2 y379 true) else ((impl_AsksOk.f k l0).bind fun t383 => (impl_Sweep.j0 k l0 a1 a2 y379 (!t383)))) else (impl_Sweep.j0 k l0 a1 a2 y379 true)))
theorem impl_Sweep.mono_l : ∀ k, (∀ y0 y1 y2 y3 y4, LeO (impl_Sweep.j0 k y0 y1 y2 y3 y4) (impl_Sweep.j0 (k + 1) y0 y1 y2 y3 y4)) ∧ (∀ y0 y1 y2 y3 y4, LeO (impl_Sweep.l0 k y0 y1 y2 y3 y4) (impl_Sweep.l0 (k + 1) y0 y1 y2 y3 y4))
 | 0 => ⟨fun _ _ _ _ _ r h => by simp [impl_Sweep.j0] at h, fun _ _ _ _ _ r h => by simp [impl_Sweep.l0] at h⟩
 | k + 1 => by
  obtain ⟨ih0, ih1⟩ := impl_Sweep.mono_l k
  refine ⟨?_, ?_⟩
  ·intro y0 y1 y2 y3 y4
   unfold impl_Sweep.j0
   repeat' first
   | (with_reducible exact ih0 _ _ _ _ _)
   | (with_reducible exact ih1 _ _ _ _ _)
   | (with_reducible exact impl_AsksOk.mono _ _)
   | (with_reducible exact impl_NumText.mono _ _)
   | (with_reducible exact LeO.refl _)
   | (with_reducible exact LeO.none _)
   | (with_reducible refine LeO.ite ?_ ?_)
   | (with_reducible refine LeO.bind ?_ (fun _ => ?_))
   | exact ih0 _ _ _ _ _
   | exact ih1 _ _ _ _ _
   | exact impl_AsksOk.mono _ _
   | exact impl_NumText.mono _ _
   | exact LeO.none _
   | refine LeO.ite ?_ ?_
   | refine LeO.bind ?_ (fun _ => ?_)
  intro y0 y1 y2 y3 y4
  unfold impl_Sweep.l0
  repeat' first
  | (with_reducible exact ih0 _ _ _ _ _)
  | (with_reducible exact ih1 _ _ _ _ _)
  | (with_reducible exact impl_AsksOk.mono _ _)
  | (with_reducible exact impl_NumText.mono _ _)
  | (with_reducible exact LeO.refl _)
  | (with_reducible exact LeO.none _)
  | (with_reducible refine LeO.ite ?_ ?_)
  | (with_reducible refine LeO.bind ?_ (fun _ => ?_))
  | exact ih0 _ _ _ _ _
  | exact ih1 _ _ _ _ _
  | exact impl_AsksOk.mono _ _
  | exact impl_NumText.mono _ _
  | exact LeO.none _
  | refine LeO.ite ?_ ?_
  | refine LeO.bind ?_ (fun _ => ?_)
theorem impl_Sweep.mono : ∀ a0 a1 a2 k, LeO (impl_Sweep.f k a0 a1 a2) (impl_Sweep.f (k + 1) a0 a1 a2) := by
 intro a0 a1 a2 k
 obtain ⟨ih0, ih1⟩ := impl_Sweep.mono_l k
 unfold impl_Sweep.f
 repeat' first
   | (with_reducible exact ih0 _ _ _ _ _)
   | (with_reducible exact ih1 _ _ _ _ _)
   | (with_reducible exact impl_AsksOk.mono _ _)
   | (with_reducible exact impl_NumText.mono _ _)
   | (with_reducible exact LeO.refl _)
   | (with_reducible exact LeO.none _)
   | (with_reducible refine LeO.ite ?_ ?_)
   | (with_reducible refine LeO.bind ?_ (fun _ => ?_))
   | exact ih0 _ _ _ _ _
   | exact ih1 _ _ _ _ _
   | exact impl_AsksOk.mono _ _
   | exact impl_NumText.mono _ _
   | exact LeO.none _
   | refine LeO.ite ?_ ?_
   | refine LeO.bind ?_ (fun _ => ?_)
set_option maxHeartbeats 8000000 in
set_option maxRecDepth 100000 in
theorem impl_Sweep.calls (k : Nat) (A0 : Option Addr) (c0 : Nat) (l0 : List ByteArray) (a1 : Int) (a2 : Int) (r : List ByteArray) (w : World) (hr0 : Kd.C Kd.string w A0 l0.length l0) (hc0 : l0.length ≤ c0) (h : impl_Sweep.f k l0 a1 a2 = some r) :
  Calls Try.prog 47 #[.slice A0 l0.length c0, .int .i64 a1, .int .i64 a2] w fun e w' => ∃ v0_ : Value, e = .returned (v0_) ∧ Kd.R Kd.string 9 w' w.heap.size (fun _ => True) v0_ r ∧ Below w.heap.size w w' := by
 have HR0 := Aside0.mk hr0
 have HC0 := Aside0.mk hc0
 clear hr0 hc0
 have HB := Aside0.mk (Below.refl w.heap.size w)
 have H : ((some (([] : List ByteArray) : List ByteArray)).bind fun y379 => ((impl_within.f a1 1 100).bind fun t382 => (if t382 = true then (if a2 < 1 then (impl_Sweep.j0 k l0 a1 a2 y379 true) else ((impl_AsksOk.f k l0).bind fun t383 => (impl_Sweep.j0 k l0 a1 a2 y379 (!t383)))) else (impl_Sweep.j0 k l0 a1 a2 y379 true)))) = some r := h
 clear h
 obtain ⟨y379, hy379⟩ : ∃ y_ : List ByteArray, y_ = (([] : List ByteArray)) := ⟨_, rfl⟩
 replace H : ((impl_within.f a1 1 100).bind fun t382 => (if t382 = true then (if a2 < 1 then (impl_Sweep.j0 k l0 a1 a2 y379 true) else ((impl_AsksOk.f k l0).bind fun t383 => (impl_Sweep.j0 k l0 a1 a2 y379 (!t383)))) else (impl_Sweep.j0 k l0 a1 a2 y379 true))) = some r := by first | (rw [hy379]; with_reducible exact H) | (have H2_ := (Option.bind_some _ _).symm.trans H; rw [hy379]; with_reducible exact H2_) | (have H2_ := (Option.bind_some _ _).symm.trans H; with_reducible exact H2_) | with_reducible exact H | (rw [hy379]; exact H) | exact H
 have Ny379 := Aside0.mk hy379
 clear hy379
 have HC4 := Aside0.mk H
 clear H
 go_enter Try.func47, Try.ntmps47
 go_upto_region 2 with (first | ((with_reducible refine gate_dst (N := 9) rfl ?_); refine Kd.R_lit Kd.string _ 9 ?hg (N := 9) ?hd (xs := ([] : List ByteArray)) (inner := []) (ok := fun _ => True) (okp := fun _ => True) ?hr ?hp (fun _ hk => hk) trivial (Below.refl _ _) (Nat.le_refl _) (by simp) ?_; (case hd => rfl); (case hg => rfl); (case hr => first | (go_simp; done) | (go_simp; rfl)); (case hp => exact (Reps.none _ _)); intro v380 w5 ho6 hb hg_ hnew_; clear hg_ hnew_; (first | rw [← Ny379.out] at ho6 | (simp only [Int.reduceToNat] at ho6; rw [← Ny379.out] at ho6)); have HO381 := Aside0.mk (Kd.R_lower ho6 (below_size (be HB))); replace HB := s0 HB hb; clear hb ho6))
 (try simp only [Act.put, List.setIfInBounds_toArray, List.set_cons_zero, List.set_cons_succ])
 go_cut [21] (fun v21 wc => ∃ (kq : Nat) (x21_3 : Bool), v21 = .bool x21_3 ∧ Aside0 (impl_Sweep.j0 kq l0 a1 a2 y379 x21_3 = some r) ∧ Aside0 (kq ≤ k) ∧ Aside0 (Kd.R Kd.string 9 wc w.heap.size (fun _ => True) v380 y379) ∧ Aside0 (Below w.heap.size w wc))
 case first =>
  have H := HC4.out
  clear HC4
  replace H := Option.bind_eq_some_iff.mp H
  obtain ⟨t382, A70, H⟩ := H
  try dsimp only at H
  have A7 := Aside0.mk A70
  clear A70
  by_cases c8 : t382 = true
  ·subst c8
   rw [if_pos rfl] at H
   by_cases c9 : a2 < 1
   ·rw [if_pos c9] at H
    have c9b0 : decide (a2 < 1) = true := decide_eq_true c9
    clear c9
    (first | rw [c9b0] | (simp only [i64_w, i32_w]; rw [c9b0]) | skip)
    have H' := Aside0.mk H
    clear H
    go_wp2_with (first | ((with_reducible refine gate_callee (f := 64) rfl ?_); refine gl 11 Try.func64 #[.int .i64 a1, .int .i64 1, .int .i64 100] ?_; (with_reducible refine (impl_within.calls a1 1 100 true _ A7.out).mono ?_); rintro e w' ⟨rfl, ⟨nd, rfl⟩⟩; refine ⟨_, rfl, ?_⟩))
    go_meet
    case rel => exact ⟨_, (true), rs, H', ⟨by first | omega | exact Nat.le_refl _⟩, ⟨ro HO381⟩, ⟨be HB⟩⟩
   rw [if_neg c9] at H
   have c9b0 : decide (a2 < 1) = false := decide_eq_false c9
   clear c9
   (first | rw [c9b0] | (simp only [i64_w, i32_w]; rw [c9b0]) | skip)
   replace H := Option.bind_eq_some_iff.mp H
   obtain ⟨t383, A100, H⟩ := H
   try dsimp only at H
   have A10 := Aside0.mk A100
   clear A100
   have H' := Aside0.mk H
   clear H
   go_wp2_with (first | ((with_reducible refine gate_callee (f := 64) rfl ?_); refine gl 11 Try.func64 #[.int .i64 a1, .int .i64 1, .int .i64 100] ?_; (with_reducible refine (impl_within.calls a1 1 100 true _ A7.out).mono ?_); rintro e w' ⟨rfl, ⟨nd, rfl⟩⟩; refine ⟨_, rfl, ?_⟩) | (go_at_call 103; (with_reducible refine (impl_AsksOk.calls k _ _ l0 t383 _ ?side1 ?side2 A10.out).mono ?_); (case side1 => repeat (first | exact (Kd.C_below HR0.out (be HB)) | (with_reducible refine Kd.C_alloc ?_ _) | (with_reducible refine Kd.C_drewN ?_ _) | (with_reducible refine Kd.C_drew ?_))); (case side2 => exact HC0.out); rintro e w11 ⟨rfl, hb⟩; replace HO381 := rb HO381 hb; replace HB := s0 HB hb; (try clear hb)))
   go_meet
   case rel => exact ⟨_, (!t383), rs, H', ⟨by first | omega | exact Nat.le_refl _⟩, ⟨ro HO381⟩, ⟨be HB⟩⟩
  replace c8 := Bool.eq_false_iff.mpr c8
  subst c8
  rw [if_neg (show ¬ (false = true) by decide)] at H
  have H' := Aside0.mk H
  clear H
  go_wp2_with (first | ((with_reducible refine gate_callee (f := 64) rfl ?_); refine gl 11 Try.func64 #[.int .i64 a1, .int .i64 1, .int .i64 100] ?_; (with_reducible refine (impl_within.calls a1 1 100 false _ A7.out).mono ?_); rintro e w' ⟨rfl, ⟨nd, rfl⟩⟩; refine ⟨_, rfl, ?_⟩))
  go_meet
  case rel => exact ⟨_, (true), rs, H', ⟨by first | omega | exact Nat.le_refl _⟩, ⟨ro HO381⟩, ⟨be HB⟩⟩
 case rest =>
  clear HC4
  try clear p2; try clear c4; try clear c6; try clear c8; try clear c9; try clear c9b0
  obtain ⟨kq, x21_3, rfl, HA, HJ3, HO_7, HB⟩ := hcut
  cases kq with
  | zero => exact absurd HA.out (by simp [impl_Sweep.j0])
  | succ kj3 =>
   have H := HA.out
   clear HA
   simp only [impl_Sweep.j0] at H
   by_cases c12 : x21_3 = true
   ·subst c12
    rw [if_pos rfl] at H
    obtain rfl := Option.some.inj H
    go_wp2
    go_ret
    exact ⟨_, er, (ro HO_7), be HB⟩
   replace c12 := Bool.eq_false_iff.mpr c12
   subst c12
   rw [if_neg (show ¬ (false = true) by decide)] at H
   have H' := Aside0.mk H
   clear H
   go_wp2
   go_loopg [7, 24] kj3 (fun kq v7 v24 w' => ∃ (x7_2 : List ByteArray) (x24_2 : Int), v24 = .int .i64 x24_2 ∧ Aside0 (impl_Sweep.l0 kq l0 a2 x7_2 a1 x24_2 = some r) ∧ Aside0 (kq ≤ kj3) ∧ Aside0 (Kd.R Kd.string 9 w' w.heap.size (fun _ => True) v7 x7_2) ∧ Aside0 (Below w.heap.size w w'))
   case atStart => exact ⟨(y379), (0), rs, H', ⟨Nat.le_refl _⟩, ⟨ro HO_7⟩, ⟨be HB⟩⟩
   case round =>
    clear H'
    try clear c1; try clear p2; try clear c4; try clear c6; try clear c8; try clear c9; try clear c9b0; try clear c12; try clear p2
    obtain ⟨x7_2, x24_2, rfl, HA, HK2, HO_7, HB⟩ := hrel
    cases gk with
    | zero => exact absurd HA.out (by simp [impl_Sweep.l0])
    | succ k2 =>
     have H := HA.out
     clear HA
     simp only [impl_Sweep.l0] at H
     by_cases c13 : x24_2 < a1
     ·rw [if_pos c13] at H
      have c13b0 : decide (x24_2 < a1) = true := decide_eq_true c13
      clear c13
      by_cases c14 : a2 = 0
      ·rw [if_pos c14] at H
       exact absurd H (by simp)
      rw [if_neg c14] at H
      have c14b0 : (a2 == 0) = false := beq_eq_false_iff_ne.mpr c14
      have c14b1 : (a2 != 0) = true := bne_iff_ne.mpr c14
      by_cases c15 : (Int.tmod x24_2 a2) = 0
      ·rw [if_pos c15] at H
       have c15b0 : ((Int.tmod x24_2 a2) == 0) = true := beq_iff_eq.mpr c15
       have c15b1 : ((Int.tmod x24_2 a2) != 0) = false := bne_eq_false_iff_eq.mpr c15
       clear c15
       by_cases c16 : x7_2.length + l0.length < 8796093022208
       ·rw [if_pos c16] at H
        have LMc16 := Aside0.mk c16
        clear c16
        obtain ⟨y384, hy384⟩ : ∃ y_ : List ByteArray, y_ = (x7_2 ++ l0) := ⟨_, rfl⟩
        replace H : ((impl_NumText.f k2 x24_2).bind fun t387 => (if 1 + t387.size ≤ 9223372036854775807 then (if y384.length < 8796093022208 then (impl_Sweep.l0 k2 l0 a2 (y384 ++ [(⟨#[99]⟩ : ByteArray) ++ t387]) a1 (wrap64 (x24_2 + 1))) else (none)) else (none))) = some r := by first | (rw [hy384]; with_reducible exact H) | (have H2_ := (Option.bind_some _ _).symm.trans H; rw [hy384]; with_reducible exact H2_) | (have H2_ := (Option.bind_some _ _).symm.trans H; with_reducible exact H2_) | with_reducible exact H | (rw [hy384]; exact H) | exact H
        have Ny384 := Aside0.mk hy384
        clear hy384
        replace H := Option.bind_eq_some_iff.mp H
        obtain ⟨t387, A170, H⟩ := H
        try dsimp only at H
        have A17 := Aside0.mk A170
        clear A170
        by_cases c18 : 1 + t387.size ≤ 9223372036854775807
        ·rw [if_pos c18] at H
         have c18b0 := eq_true c18
         have c18b1 : decide (1 + t387.size ≤ 9223372036854775807) = true := decide_eq_true c18
         try have c18b2 : (9223372036854775807 < 1 + t387.size) = False := eq_false (Nat.not_lt.2 c18)
         by_cases c19 : y384.length < 8796093022208
         ·rw [if_pos c19] at H
          have LMc19 := Aside0.mk c19
          clear c19
          obtain ⟨y388, hy388⟩ : ∃ y_ : List ByteArray, y_ = (y384 ++ [(⟨#[99]⟩ : ByteArray) ++ t387]) := ⟨_, rfl⟩
          replace H : (impl_Sweep.l0 k2 l0 a2 y388 a1 (wrap64 (x24_2 + 1))) = some r := by first | (rw [hy388]; with_reducible exact H) | (have H2_ := (Option.bind_some _ _).symm.trans H; rw [hy388]; with_reducible exact H2_) | (have H2_ := (Option.bind_some _ _).symm.trans H; with_reducible exact H2_) | with_reducible exact H | (rw [hy388]; exact H) | exact H
          have Ny388 := Aside0.mk hy388
          clear hy388
          have H' := Aside0.mk H
          clear H
          go_wp2_with (first | ((with_reducible refine gate_builtin (b := .append) (xs := #[.tmp 31, .tmp 32]) rfl ?_); at_builtin; refine Kd.R_append_rows Kd.string (w0 := w) w.heap.size rfl (.tmp 31) (.tmp 32) 56 9 (.string ⟨#[]⟩) 16 rfl Try.underlying56 info9 rfl (by decide) (by omega) u7 x7_2 l0 _ _ _ (fun _ => True) (fun _ => False) rfl rfl ?aO ?aR (fun _ _ h => h) (fun _ h => h.elim) ?aF ?aB ?aS ?aL ?_; (case aR => repeat (first | exact (Kd.C_below HR0.out HB.out) | (with_reducible refine Kd.C_alloc ?_ _) | (with_reducible refine Kd.C_drewN ?_ _) | (with_reducible refine Kd.C_drew ?_))); (case aB => exact (be HB)); (case aF => exact (fun _ _ => trivial)); (case aO => exact (ro HO_7)); (case aS => exact (below_size (be HB))); (case aL => have := LMc16.out; omega); intro v385 w20 ho hb hg hat; rw [← Ny384.out] at ho; replace HB := Aside0.mk (hb); have HO386 := Aside0.mk (ho); clear HO_7; clear ho hb hg hat) | ((with_reducible refine gate_callee (f := 80) rfl ?_); refine gl 36 Try.func80 #[.int .i64 x24_2] ?_; (with_reducible refine (impl_NumText.calls k2 x24_2 t387 _ A17.out).mono ?_); rintro e w21 ⟨rfl, hb⟩; refine ⟨_, rfl, ?_⟩; replace HO386 := rb HO386 hb; replace HB := s0 HB hb; (try clear hb)) | ((with_reducible refine gate_builtin (b := .append) (xs := #[.tmp 34, .tmp 38]) rfl ?_); at_builtin; refine Kd.R_append Kd.string (w0 := w) w.heap.size rfl (.tmp 34) (.tmp 38) 56 9 (.string ⟨#[]⟩) 16 rfl Try.underlying56 info9 rfl (by decide) (by omega) v385 y384 ((⟨#[99]⟩ : ByteArray) ++ t387) [.string ((⟨#[99]⟩ : ByteArray) ++ t387)] (fun _ => True) (fun _ => False) rfl rfl ?aP (fun _ hk => hk.elim) ?aF ?aO ?aB ?aS ?aL ?_; (case aP => exact rfl); (case aB => exact (be HB)); (case aF => exact (fun _ _ => trivial)); (case aO => exact (ro HO386)); (case aS => exact (below_size (be HB))); (case aL => have := LMc19.out; omega); intro v389 w22 ho hb hg hat; rw [← Ny388.out] at ho; replace HB := Aside0.mk (hb); have HO390 := Aside0.mk (ho); clear HO386; clear ho hb hg hat))
          go_roundg k2
          case measure => have := HJ3.out; have := HK2.out; omega
          case rel => exact ⟨(y388), (wrap64 (x24_2 + 1)), rs, H', ⟨by have := HJ3.out; have := HK2.out; omega⟩, ⟨ro HO390⟩, ⟨be HB⟩⟩
         rw [if_neg c19] at H
         exact absurd H (by simp)
        rw [if_neg c18] at H
        exact absurd H (by simp)
       rw [if_neg c16] at H
       exact absurd H (by simp)
      rw [if_neg c15] at H
      have c15b0 : ((Int.tmod x24_2 a2) == 0) = false := beq_eq_false_iff_ne.mpr c15
      have c15b1 : ((Int.tmod x24_2 a2) != 0) = true := bne_iff_ne.mpr c15
      replace H := Option.bind_eq_some_iff.mp H
      obtain ⟨t391, A230, H⟩ := H
      try dsimp only at H
      have A23 := Aside0.mk A230
      clear A230
      by_cases c24 : 1 + t391.size ≤ 9223372036854775807
      ·rw [if_pos c24] at H
       have c24b0 := eq_true c24
       have c24b1 : decide (1 + t391.size ≤ 9223372036854775807) = true := decide_eq_true c24
       try have c24b2 : (9223372036854775807 < 1 + t391.size) = False := eq_false (Nat.not_lt.2 c24)
       by_cases c25 : x7_2.length < 8796093022208
       ·rw [if_pos c25] at H
        have LMc25 := Aside0.mk c25
        clear c25
        obtain ⟨y392, hy392⟩ : ∃ y_ : List ByteArray, y_ = (x7_2 ++ [(⟨#[99]⟩ : ByteArray) ++ t391]) := ⟨_, rfl⟩
        replace H : (impl_Sweep.l0 k2 l0 a2 y392 a1 (wrap64 (x24_2 + 1))) = some r := by first | (rw [hy392]; with_reducible exact H) | (have H2_ := (Option.bind_some _ _).symm.trans H; rw [hy392]; with_reducible exact H2_) | (have H2_ := (Option.bind_some _ _).symm.trans H; with_reducible exact H2_) | with_reducible exact H | (rw [hy392]; exact H) | exact H
        have Ny392 := Aside0.mk hy392
        clear hy392
        have H' := Aside0.mk H
        clear H
        go_wp2_with (first | ((with_reducible refine gate_callee (f := 80) rfl ?_); refine gl 36 Try.func80 #[.int .i64 x24_2] ?_; (with_reducible refine (impl_NumText.calls k2 x24_2 t391 _ A23.out).mono ?_); rintro e w26 ⟨rfl, hb⟩; refine ⟨_, rfl, ?_⟩; replace HO_7 := rb HO_7 hb; replace HB := s0 HB hb; (try clear hb)) | ((with_reducible refine gate_builtin (b := .append) (xs := #[.tmp 34, .tmp 38]) rfl ?_); at_builtin; refine Kd.R_append Kd.string (w0 := w) w.heap.size rfl (.tmp 34) (.tmp 38) 56 9 (.string ⟨#[]⟩) 16 rfl Try.underlying56 info9 rfl (by decide) (by omega) u7 x7_2 ((⟨#[99]⟩ : ByteArray) ++ t391) [.string ((⟨#[99]⟩ : ByteArray) ++ t391)] (fun _ => True) (fun _ => False) rfl rfl ?aP (fun _ hk => hk.elim) ?aF ?aO ?aB ?aS ?aL ?_; (case aP => exact rfl); (case aB => exact (be HB)); (case aF => exact (fun _ _ => trivial)); (case aO => exact (ro HO_7)); (case aS => exact (below_size (be HB))); (case aL => have := LMc25.out; omega); intro v393 w27 ho hb hg hat; rw [← Ny392.out] at ho; replace HB := Aside0.mk (hb); have HO394 := Aside0.mk (ho); clear HO_7; clear ho hb hg hat))
        go_roundg k2
        case measure => have := HJ3.out; have := HK2.out; omega
        case rel => exact ⟨(y392), (wrap64 (x24_2 + 1)), rs, H', ⟨by have := HJ3.out; have := HK2.out; omega⟩, ⟨ro HO394⟩, ⟨be HB⟩⟩
       rw [if_neg c25] at H
       exact absurd H (by simp)
      rw [if_neg c24] at H
      exact absurd H (by simp)
     rw [if_neg c13] at H
     have c13b0 : decide (x24_2 < a1) = false := decide_eq_false c13
     clear c13
     by_cases c28 : (x7_2.length : Int) > 300
     ·rw [if_pos c28] at H
      have c28b0 : decide (300 < (x7_2.length : Int)) = true := decide_eq_true c28
      have c28b1 : decide (300 < x7_2.length) = true := decide_eq_true (by omega)
      clear c28
      obtain ⟨y395, hy395⟩ : ∃ y_ : List ByteArray, y_ = (([] : List ByteArray)) := ⟨_, rfl⟩
      replace H : (some y395) = some r := by first | (rw [hy395]; with_reducible exact H) | (have H2_ := (Option.bind_some _ _).symm.trans H; rw [hy395]; with_reducible exact H2_) | (have H2_ := (Option.bind_some _ _).symm.trans H; with_reducible exact H2_) | with_reducible exact H | (rw [hy395]; exact H) | exact H
      have Ny395 := Aside0.mk hy395
      clear hy395
      obtain rfl := Option.some.inj H
      obtain ⟨Ao29, co29, eo29⟩ := Kd.R_slice HO_7.out
      subst eo29
      go_wp2_with (first | ((with_reducible refine gate_dst (N := 44) rfl ?_); refine Kd.R_lit Kd.string _ 9 ?hg (N := 44) ?hd (xs := ([] : List ByteArray)) (inner := []) (ok := fun _ => True) (okp := fun _ => True) ?hr ?hp (fun _ hk => hk) trivial (Below.refl _ _) (Nat.le_refl _) (by simp) ?_; (case hd => rfl); (case hg => rfl); (case hr => first | (go_simp; done) | (go_simp; rfl)); (case hp => exact (Reps.none _ _)); intro v396 w30 ho31 hb hg_ hnew_; clear hg_ hnew_; (first | rw [← Ny395.out] at ho31 | (simp only [Int.reduceToNat] at ho31; rw [← Ny395.out] at ho31)); have HO397 := Aside0.mk (Kd.R_lower (nw ho31 HO_7) (below_size (be HB))); replace HO_7 := Aside0.mk (Kd.R_elder' (ro HO_7) (Kd.R_base ho31) hb); replace HB := s0 HB hb; clear hb ho31))
      go_ret
      exact ⟨_, er, by (with_reducible repeat (first | apply Kd.R_alloc | apply Kd.R_drewN | apply Kd.R_drew)); exact Kd.R_mono HO397.out (fun _ hk => trivial), be HB⟩
     rw [if_neg c28] at H
     have c28b0 : decide (300 < (x7_2.length : Int)) = false := decide_eq_false c28
     have c28b1 : decide (300 < x7_2.length) = false := decide_eq_false (by omega)
     clear c28
     obtain rfl := Option.some.inj H
     obtain ⟨Ao32, co32, eo32⟩ := Kd.R_slice HO_7.out
     subst eo32
     go_wp2
     go_ret
     exact ⟨_, er, (ro HO_7), be HB⟩

/-! ### laws_FnSweep: function 13 -/
mutual
def laws_FnSweep.j0 : Nat → List Int → Int → Bool → Int → Int → List (S68) → List (S68) → List Int → Option (Bool)
 | 0, _, _, _, _, _, _, _, _ => none
 | k + 1, x0, x3, x37, x412000, x412001, x412002, x412003, x412004 => if x37 = true then (some false) else (laws_FnSweep.l0 k x0 x3 0 x412000 x412001 x412002 x412003 x412004)
def laws_FnSweep.l0 : Nat → List Int → Int → Int → Int → Int → List (S68) → List (S68) → List Int → Option (Bool)
 | 0, _, _, _, _, _, _, _, _ => none
 | k + 1, x0, x3, x8, x412000, x412001, x412002, x412003, x412004 => if x8 < 3 then ((impl_Get.f k x412000 x412001 x412002 x412003 x412004 (⟨#[104, 111, 116]⟩ : ByteArray)).bind fun bt427 => (if bt427.2.2.2.2.2.2 = true then (laws_FnSweep.l0 k x0 x3 (wrap64 (x8 + 1)) bt427.1 bt427.2.1 bt427.2.2.1 bt427.2.2.2.1 bt427.2.2.2.2.1) else (some false))) else ((spec_MakeNum.f k x0 20).bind fun t443 => ((impl_Sweep.f k (([] : List ByteArray)) (wrap64 (30 + t443)) 1).bind fun t444 => (laws_FnSweep.l1 k x3 t444 t444 (t444.length : Int) 0 x412000 x412001 x412002 x412003 x412004)))
def laws_FnSweep.l1 : Nat → Int → List ByteArray → List ByteArray → Int → Int → Int → Int → List (S68) → List (S68) → List Int → Option (Bool)
 | 0, _, _, _, _, _, _, _, _, _, _ => none
 | k + 1, x3, x9, x55, x56, x57, x412000, x412001, x412002, x412003, x412004 => if x57 < x56 then (if 0 ≤ x57 then (if x57 < (x55.length : Int) then ((impl_Put.f k x412000 x412001 x412002 x412003 x412004 (rdOf ByteArray.empty x55 x57) (⟨#[]⟩ : ByteArray)).bind fun bt448 => (if bt448.2.2.2.2.2.2 = true then (laws_FnSweep.l1 k x3 x9 x55 x56 (wrap64 (x57 + 1)) bt448.1 bt448.2.1 bt448.2.2.1 bt448.2.2.2.1 bt448.2.2.2.2.1) else (some false))) else (none)) else (none)) else ((impl_Get.f k x412000 x412001 x412002 x412003 x412004 (⟨#[104, 111, 116]⟩ : ByteArray)).bind fun bt463 => (if bt463.2.2.2.2.2.2 = true then (if bt463.2.2.2.2.2.1.toList = ([118] : List UInt8) then (if (x9.length : Int) ≥ 30 then (if (wrap64 ((x412002.length : Int) + (x412003.length : Int))) = x3 then ((impl_ThreeOk.f k x412000 x412001 x412002 x412003 x412004).bind fun t477 => (some t477)) else (some false)) else (some false)) else (some false)) else (some false)))
end
def laws_FnSweep.f (k : Nat) (l0 : List Int) : Option (Bool) := if (l0.length : Int) > 1048576 then (some true) else ((spec_MakeNum.f k l0 6).bind fun t398 => ((impl_ThreeNew.f k (wrap64 (4 + t398)) 1).bind fun bt399 => ((impl_Put.f k bt399.1 bt399.2.1 bt399.2.2.1 bt399.2.2.2.1 bt399.2.2.2.2.1 (⟨#[104, 111, 116]⟩ : ByteArray) (⟨#[118]⟩ : ByteArray)).bind fun bt412 => (if bt399.2.2.2.2.2 = true then (laws_FnSweep.j0 k l0 (wrap64 (4 + t398)) (!bt412.2.2.2.2.2.2) bt412.1 bt412.2.1 bt412.2.2.1 bt412.2.2.2.1 bt412.2.2.2.2.1) else (laws_FnSweep.j0 k l0 (wrap64 (4 + t398)) true bt412.1 bt412.2.1 bt412.2.2.1 bt412.2.2.2.1 bt412.2.2.2.2.1)))))
theorem laws_FnSweep.mono_l : ∀ k, (∀ y0 y1 y2 y3 y4 y5 y6 y7, LeO (laws_FnSweep.j0 k y0 y1 y2 y3 y4 y5 y6 y7) (laws_FnSweep.j0 (k + 1) y0 y1 y2 y3 y4 y5 y6 y7)) ∧ (∀ y0 y1 y2 y3 y4 y5 y6 y7, LeO (laws_FnSweep.l0 k y0 y1 y2 y3 y4 y5 y6 y7) (laws_FnSweep.l0 (k + 1) y0 y1 y2 y3 y4 y5 y6 y7)) ∧ (∀ y0 y1 y2 y3 y4 y5 y6 y7 y8 y9, LeO (laws_FnSweep.l1 k y0 y1 y2 y3 y4 y5 y6 y7 y8 y9) (laws_FnSweep.l1 (k + 1) y0 y1 y2 y3 y4 y5 y6 y7 y8 y9))
 | 0 => ⟨fun _ _ _ _ _ _ _ _ r h => by simp [laws_FnSweep.j0] at h, fun _ _ _ _ _ _ _ _ r h => by simp [laws_FnSweep.l0] at h, fun _ _ _ _ _ _ _ _ _ _ r h => by simp [laws_FnSweep.l1] at h⟩
 | k + 1 => by
  obtain ⟨ih0, ih1, ih2⟩ := laws_FnSweep.mono_l k
  refine ⟨?_, ?_, ?_⟩
  ·intro y0 y1 y2 y3 y4 y5 y6 y7
   unfold laws_FnSweep.j0
   repeat' first
   | (with_reducible exact ih0 _ _ _ _ _ _ _ _)
   | (with_reducible exact ih1 _ _ _ _ _ _ _ _)
   | (with_reducible exact ih2 _ _ _ _ _ _ _ _ _ _)
   | (with_reducible exact impl_Get.mono _ _ _ _ _ _ _)
   | (with_reducible exact impl_Put.mono _ _ _ _ _ _ _ _)
   | (with_reducible exact impl_Sweep.mono _ _ _ _)
   | (with_reducible exact impl_ThreeNew.mono _ _ _)
   | (with_reducible exact impl_ThreeOk.mono _ _ _ _ _ _)
   | (with_reducible exact spec_MakeNum.mono _ _ _)
   | (with_reducible exact LeO.refl _)
   | (with_reducible exact LeO.none _)
   | (with_reducible refine LeO.ite ?_ ?_)
   | (with_reducible refine LeO.bind ?_ (fun _ => ?_))
   | exact ih0 _ _ _ _ _ _ _ _
   | exact ih1 _ _ _ _ _ _ _ _
   | exact ih2 _ _ _ _ _ _ _ _ _ _
   | exact impl_Get.mono _ _ _ _ _ _ _
   | exact impl_Put.mono _ _ _ _ _ _ _ _
   | exact impl_Sweep.mono _ _ _ _
   | exact impl_ThreeNew.mono _ _ _
   | exact impl_ThreeOk.mono _ _ _ _ _ _
   | exact spec_MakeNum.mono _ _ _
   | exact LeO.none _
   | refine LeO.ite ?_ ?_
   | refine LeO.bind ?_ (fun _ => ?_)
  ·intro y0 y1 y2 y3 y4 y5 y6 y7
   unfold laws_FnSweep.l0
   repeat' first
   | (with_reducible exact ih0 _ _ _ _ _ _ _ _)
   | (with_reducible exact ih1 _ _ _ _ _ _ _ _)
   | (with_reducible exact ih2 _ _ _ _ _ _ _ _ _ _)
   | (with_reducible exact impl_Get.mono _ _ _ _ _ _ _)
   | (with_reducible exact impl_Put.mono _ _ _ _ _ _ _ _)
   | (with_reducible exact impl_Sweep.mono _ _ _ _)
   | (with_reducible exact impl_ThreeNew.mono _ _ _)
   | (with_reducible exact impl_ThreeOk.mono _ _ _ _ _ _)
   | (with_reducible exact spec_MakeNum.mono _ _ _)
   | (with_reducible exact LeO.refl _)
   | (with_reducible exact LeO.none _)
   | (with_reducible refine LeO.ite ?_ ?_)
   | (with_reducible refine LeO.bind ?_ (fun _ => ?_))
   | exact ih0 _ _ _ _ _ _ _ _
   | exact ih1 _ _ _ _ _ _ _ _
   | exact ih2 _ _ _ _ _ _ _ _ _ _
   | exact impl_Get.mono _ _ _ _ _ _ _
   | exact impl_Put.mono _ _ _ _ _ _ _ _
   | exact impl_Sweep.mono _ _ _ _
   | exact impl_ThreeNew.mono _ _ _
   | exact impl_ThreeOk.mono _ _ _ _ _ _
   | exact spec_MakeNum.mono _ _ _
   | exact LeO.none _
   | refine LeO.ite ?_ ?_
   | refine LeO.bind ?_ (fun _ => ?_)
  intro y0 y1 y2 y3 y4 y5 y6 y7 y8 y9
  unfold laws_FnSweep.l1
  repeat' first
  | (with_reducible exact ih0 _ _ _ _ _ _ _ _)
  | (with_reducible exact ih1 _ _ _ _ _ _ _ _)
  | (with_reducible exact ih2 _ _ _ _ _ _ _ _ _ _)
  | (with_reducible exact impl_Get.mono _ _ _ _ _ _ _)
  | (with_reducible exact impl_Put.mono _ _ _ _ _ _ _ _)
  | (with_reducible exact impl_Sweep.mono _ _ _ _)
  | (with_reducible exact impl_ThreeNew.mono _ _ _)
  | (with_reducible exact impl_ThreeOk.mono _ _ _ _ _ _)
  | (with_reducible exact spec_MakeNum.mono _ _ _)
  | (with_reducible exact LeO.refl _)
  | (with_reducible exact LeO.none _)
  | (with_reducible refine LeO.ite ?_ ?_)
  | (with_reducible refine LeO.bind ?_ (fun _ => ?_))
  | exact ih0 _ _ _ _ _ _ _ _
  | exact ih1 _ _ _ _ _ _ _ _
  | exact ih2 _ _ _ _ _ _ _ _ _ _
  | exact impl_Get.mono _ _ _ _ _ _ _
  | exact impl_Put.mono _ _ _ _ _ _ _ _
  | exact impl_Sweep.mono _ _ _ _
  | exact impl_ThreeNew.mono _ _ _
  | exact impl_ThreeOk.mono _ _ _ _ _ _
  | exact spec_MakeNum.mono _ _ _
  | exact LeO.none _
  | refine LeO.ite ?_ ?_
  | refine LeO.bind ?_ (fun _ => ?_)
theorem laws_FnSweep.mono : ∀ a0 k, LeO (laws_FnSweep.f k a0) (laws_FnSweep.f (k + 1) a0) := by
 intro a0 k
 obtain ⟨ih0, ih1, ih2⟩ := laws_FnSweep.mono_l k
 unfold laws_FnSweep.f
 repeat' first
   | (with_reducible exact ih0 _ _ _ _ _ _ _ _)
   | (with_reducible exact ih1 _ _ _ _ _ _ _ _)
   | (with_reducible exact ih2 _ _ _ _ _ _ _ _ _ _)
   | (with_reducible exact impl_Get.mono _ _ _ _ _ _ _)
   | (with_reducible exact impl_Put.mono _ _ _ _ _ _ _ _)
   | (with_reducible exact impl_Sweep.mono _ _ _ _)
   | (with_reducible exact impl_ThreeNew.mono _ _ _)
   | (with_reducible exact impl_ThreeOk.mono _ _ _ _ _ _)
   | (with_reducible exact spec_MakeNum.mono _ _ _)
   | (with_reducible exact LeO.refl _)
   | (with_reducible exact LeO.none _)
   | (with_reducible refine LeO.ite ?_ ?_)
   | (with_reducible refine LeO.bind ?_ (fun _ => ?_))
   | exact ih0 _ _ _ _ _ _ _ _
   | exact ih1 _ _ _ _ _ _ _ _
   | exact ih2 _ _ _ _ _ _ _ _ _ _
   | exact impl_Get.mono _ _ _ _ _ _ _
   | exact impl_Put.mono _ _ _ _ _ _ _ _
   | exact impl_Sweep.mono _ _ _ _
   | exact impl_ThreeNew.mono _ _ _
   | exact impl_ThreeOk.mono _ _ _ _ _ _
   | exact spec_MakeNum.mono _ _ _
   | exact LeO.none _
   | refine LeO.ite ?_ ?_
   | refine LeO.bind ?_ (fun _ => ?_)
set_option maxHeartbeats 8000000 in
set_option maxRecDepth 100000 in
theorem laws_FnSweep.calls (k : Nat) (A0 : Option Addr) (c0 : Nat) (l0 : List Int) (r : Bool) (w : World) (hr0 : Kd.C (Kd.int .u8) w A0 l0.length l0) (hc0 : l0.length ≤ c0) (h : laws_FnSweep.f k l0 = some r) (hrt_ : Aside0 (r = true)) :
  Calls Try.prog 13 #[.slice A0 l0.length c0] w fun e w' => e = .returned (.bool r) ∧ Below w.heap.size w w' := by
 have hu30 := Try.underlying30
 have HR0 := Aside0.mk hr0
 have HC0 := Aside0.mk hc0
 clear hr0 hc0
 have HB := Aside0.mk (Below.refl w.heap.size w)
 have H : (if (l0.length : Int) > 1048576 then (some true) else ((spec_MakeNum.f k l0 6).bind fun t398 => ((impl_ThreeNew.f k (wrap64 (4 + t398)) 1).bind fun bt399 => ((impl_Put.f k bt399.1 bt399.2.1 bt399.2.2.1 bt399.2.2.2.1 bt399.2.2.2.2.1 (⟨#[104, 111, 116]⟩ : ByteArray) (⟨#[118]⟩ : ByteArray)).bind fun bt412 => (if bt399.2.2.2.2.2 = true then (laws_FnSweep.j0 k l0 (wrap64 (4 + t398)) (!bt412.2.2.2.2.2.2) bt412.1 bt412.2.1 bt412.2.2.1 bt412.2.2.2.1 bt412.2.2.2.2.1) else (laws_FnSweep.j0 k l0 (wrap64 (4 + t398)) true bt412.1 bt412.2.1 bt412.2.2.1 bt412.2.2.2.1 bt412.2.2.2.2.1)))))) = some r := h
 clear h
 by_cases c2 : (l0.length : Int) > 1048576
 ·rw [if_pos c2] at H
  have c2b0 : decide (1048576 < (l0.length : Int)) = true := decide_eq_true c2
  have c2b1 : decide (1048576 < l0.length) = true := decide_eq_true (by omega)
  clear c2
  obtain rfl := Option.some.inj H
  go_enter Try.func13, Try.ntmps13
  go_wp2
  go_ret
  exact ⟨er, be HB⟩
 rw [if_neg c2] at H
 have c2b0 : decide (1048576 < (l0.length : Int)) = false := decide_eq_false c2
 have c2b1 : decide (1048576 < l0.length) = false := decide_eq_false (by omega)
 clear c2
 replace H := Option.bind_eq_some_iff.mp H
 obtain ⟨t398, A30, H⟩ := H
 try dsimp only at H
 have A3 := Aside0.mk A30
 clear A30
 replace H := Option.bind_eq_some_iff.mp H
 obtain ⟨⟨t399, t400, t401, t404, t407, t410⟩, A40, H⟩ := H
 try dsimp only at H
 have A4 := Aside0.mk A40
 clear A40
 replace H := Option.bind_eq_some_iff.mp H
 obtain ⟨⟨t412, t413, t414, t417, t420, t423, t426⟩, A50, H⟩ := H
 try dsimp only at H
 have A5 := Aside0.mk A50
 clear A50
 have HC6 := Aside0.mk H
 clear H
 go_enter Try.func13, Try.ntmps13
 go_upto_region 6 with (first | ((with_reducible refine gate_callee (f := 46) rfl ?_); refine gl 19 Try.func46 #[.slice A0 l0.length c0, .int .i64 6] ?_; (with_reducible refine (spec_MakeNum.calls k _ _ l0 6 t398 _ ?side1 ?side2 A3.out).mono ?_); (case side1 => repeat (first | exact HR0.out | (with_reducible refine Kd.C_alloc ?_ _) | (with_reducible refine Kd.C_drewN ?_ _) | (with_reducible refine Kd.C_drew ?_))); (case side2 => exact HC0.out); rintro e w7 ⟨rfl, hb⟩; refine ⟨_, rfl, ?_⟩; replace HB := s0 HB hb; (try clear hb)) | ((with_reducible refine gate_callee (f := 22) rfl ?_); refine gl 23 Try.func22 #[.int .i64 (wrap64 (4 + t398)), .int .i64 1] ?_; (with_reducible refine (impl_ThreeNew.calls k (wrap64 (4 + t398)) 1 t399 t400 t401 t404 t407 t410 _ A4.out).mono ?_); rintro e w8 ⟨v402, v405, v408, rfl, ho0, ho1, ho2, hb⟩; refine ⟨_, rfl, ?_⟩; have HO403 := Aside0.mk (Kd.R_lower ho0 (below_size (be HB))); have HO406 := Aside0.mk (Kd.R_lower ho1 (below_size (be HB))); have HO409 := Aside0.mk (Kd.R_lower ho2 (below_size (be HB))); replace HB := s0 HB hb; (try clear hb); (try clear ho0); (try clear ho1); (try clear ho2)) | ((with_reducible refine gate_dst (N := 4) rfl ?_); (try (refine gate_guard (by rfl) ?_; dsimp only)); refine bx 4 #[.int .i64 0, .int .i64 0, .slice none 0 0, .slice none 0 0, .slice none 0 0] 30 ?_; intro gb411 hg w9 hbox hb; replace HO403 := rb HO403 hb; replace HO406 := rb HO406 hb; replace HO409 := rb HO409 hb; have BK411 := am hbox; have GW411 := gs0 hg HB; have GE411 := gs0 hg HB; replace HB := s0 HB hb; clear hb hbox hg; have hcz10_0 := bz5 BK411; obtain ⟨Ao11, co11, eo11⟩ := Kd.R_slice HO403.out; subst eo11; obtain ⟨Ao12, co12, eo12⟩ := Kd.R_slice HO406.out; subst eo12; obtain ⟨Ao13, co13, eo13⟩ := Kd.R_slice HO409.out; subst eo13) | ((with_reducible refine gate_callee (f := 42) rfl ?_); refine gl 28 Try.func42 #[.agg #[.int .i64 t399, .int .i64 t400, .slice Ao11 t401.length co11, .slice Ao12 t404.length co12, .slice Ao13 t407.length co13], .string (⟨#[104, 111, 116]⟩ : ByteArray), .string (⟨#[118]⟩ : ByteArray)] ?_; (with_reducible refine (impl_Put.calls k t399 t400 _ _ t401 _ _ t404 _ _ t407 (⟨#[104, 111, 116]⟩ : ByteArray) (⟨#[118]⟩ : ByteArray) t412 t413 t414 t417 t420 t423 t426 _ ?side1 ((Kd.R_reads' HO403.out).2.1) ?side3 ((Kd.R_reads' HO406.out).2.1) ?side5 ((Kd.R_reads' HO409.out).2.1) A5.out).mono ?_); (case side1 => exact rfr _ HO403 BK411); (case side3 => exact rfr _ HO406 BK411); (case side5 => exact rfr _ HO409 BK411); rintro e w14 ⟨v415, v418, v421, v424, rfl, ho0, ho1, ho2, ho3, hb⟩; refine ⟨_, rfl, ?_⟩; have HO416 := Aside0.mk (Kd.R_lower (Kd.R_new' (Kd.R_new' ho0 (Kd.R_lt (rf HO403 BK411))) (Kd.R_lt (rf HO406 BK411))) (below_size (be1 HB GE411))); have HO419 := Aside0.mk (Kd.R_lower (Kd.R_new' (Kd.R_new' ho1 (Kd.R_lt (rf HO403 BK411))) (Kd.R_lt (rf HO406 BK411))) (below_size (be1 HB GE411))); replace HO403 := td2 (rf HO403 BK411) hb ho0 ho1; replace HO406 := td2 (rf HO406 BK411) hb ho0 ho1; have HO422 := Aside0.mk (Kd.R_lower (Kd.R_new' ho2 (Kd.R_lt (rf HO409 BK411))) (below_size (be1 HB GE411))); replace HO409 := Aside0.mk (Kd.R_elder' (rf HO409 BK411) (Kd.R_base ho2) hb); have HO425 := Aside0.mk (Kd.R_lower ho3 (below_size (be1 HB GE411))); replace BK411 := Aside0.mk (blk_below (g := gb411) (o := .cells #[.int .i64 t399, .int .i64 t400, .slice Ao11 t401.length co11, .slice Ao12 t404.length co12, .slice Ao13 t407.length co13] 30 (0, 0)) (bp BK411) hb); replace HB := Aside0.mk (below_step (be1 HB GE411) hb); (try clear hb); (try clear ho0); (try clear ho1); (try clear ho2); (try clear ho3); have hcz15_0 := bz5 BK411; obtain ⟨Ao16, co16, eo16⟩ := Kd.R_slice HO416.out; subst eo16; obtain ⟨Ao17, co17, eo17⟩ := Kd.R_slice HO419.out; subst eo17; obtain ⟨Ao18, co18, eo18⟩ := Kd.R_slice HO422.out; subst eo18))
 (try simp only [Act.put, List.setIfInBounds_toArray, List.set_cons_zero, List.set_cons_succ])
 go_cut [37] (fun v37 wc => ∃ (kq : Nat) (x37_5 : Bool), v37 = .bool x37_5 ∧ Aside0 (laws_FnSweep.j0 kq l0 (wrap64 (4 + t398)) x37_5 t412 t413 t414 t417 t420 = some r) ∧ Aside0 (kq ≤ k) ∧ Aside0 (Kd.R k68 68 wc w.heap.size (fun k_ => nb k_ Ao17 t417.length co17) (.slice Ao16 t414.length co16) t414) ∧ Aside0 (Kd.R k68 68 wc w.heap.size (fun k_ => nb k_ Ao16 t414.length co16) (.slice Ao17 t417.length co17) t417) ∧ Aside0 (Kd.R (Kd.int .i64) 3 wc w.heap.size (fun _ => True) (.slice Ao18 t420.length co18) t420) ∧ Aside0 (wc.heap[gb411]? = some (.cells #[.int .i64 t412, .int .i64 t413, (.slice Ao16 t414.length co16), (.slice Ao17 t417.length co17), (.slice Ao18 t420.length co18)] 30 (0, 0))) ∧ Aside0 (Below w.heap.size w wc))
 case first =>
  have H := HC6.out
  clear HC6
  by_cases c19 : t410 = true
  ·subst c19
   rw [if_pos rfl] at H
   have H' := Aside0.mk H
   clear H
   go_wp2
   go_meet
   case rel => exact ⟨_, (!t426), rs, H', ⟨by first | omega | exact Nat.le_refl _⟩, ⟨(rfn HO416 BK411)⟩, ⟨(rfn HO419 BK411)⟩, ⟨(rfn HO422 BK411)⟩, ⟨(bp BK411)⟩, ⟨be1 HB GE411⟩⟩
  replace c19 := Bool.eq_false_iff.mpr c19
  subst c19
  rw [if_neg (show ¬ (false = true) by decide)] at H
  have H' := Aside0.mk H
  clear H
  go_wp2
  go_meet
  case rel => exact ⟨_, (true), rs, H', ⟨by first | omega | exact Nat.le_refl _⟩, ⟨(rfn HO416 BK411)⟩, ⟨(rfn HO419 BK411)⟩, ⟨(rfn HO422 BK411)⟩, ⟨(bp BK411)⟩, ⟨be1 HB GE411⟩⟩
 case rest =>
  clear HC6
  try clear c1; try clear c2; try clear c2b0; try clear c2b1; try clear p2; try clear c4; try clear p6; try clear c13; try clear c19; try clear hcz10_0; try clear hcz15_0
  obtain ⟨kq, x37_5, rfl, HA, HJ5, HO_412002, HO_412003, HO_412004, BK411, HB⟩ := hcut
  cases kq with
  | zero => exact absurd HA.out (by simp [laws_FnSweep.j0])
  | succ kj5 =>
   have H := HA.out
   clear HA
   simp only [laws_FnSweep.j0] at H
   by_cases c20 : x37_5 = true
   ·subst c20
    rw [if_pos rfl] at H
    exact absurd ((Option.some.inj H).trans hrt_.out) (by decide)
   replace c20 := Bool.eq_false_iff.mpr c20
   subst c20
   rw [if_neg (show ¬ (false = true) by decide)] at H
   have H' := Aside0.mk H
   clear H
   go_wp2
   go_loopg [8] kj5 (fun kq v8 w' => ∃ (x8_2 : Int) (x412000_2 : Int) (x412001_2 : Int) (x412002_2 : List (S68)) (x412003_2 : List (S68)) (x412004_2 : List Int) (u412002 : Value) (u412003 : Value) (u412004 : Value), v8 = .int .i64 x8_2 ∧ Aside0 (laws_FnSweep.l0 kq l0 (wrap64 (4 + t398)) x8_2 x412000_2 x412001_2 x412002_2 x412003_2 x412004_2 = some r) ∧ Aside0 (kq ≤ kj5) ∧ Aside0 (Kd.R k68 68 w' w.heap.size (fun k_ => some k_ ≠ (u412003 : Value).ownBlock) u412002 x412002_2) ∧ Aside0 (Kd.R k68 68 w' w.heap.size (fun k_ => some k_ ≠ (u412002 : Value).ownBlock) u412003 x412003_2) ∧ Aside0 (Kd.R (Kd.int .i64) 3 w' w.heap.size (fun _ => True) u412004 x412004_2) ∧ Aside0 (w'.heap[gb411]? = some (.cells #[.int .i64 x412000_2, .int .i64 x412001_2, u412002, u412003, u412004] 30 (0, 0))) ∧ Aside0 (Below w.heap.size w w'))
   case atStart => exact ⟨(0), (t412), (t413), (t414), (t417), (t420), (.slice Ao16 t414.length co16), (.slice Ao17 t417.length co17), (.slice Ao18 t420.length co18), rs, H', ⟨Nat.le_refl _⟩, ⟨ro HO_412002⟩, ⟨ro HO_412003⟩, ⟨ro HO_412004⟩, ⟨bk BK411⟩, ⟨be1 HB GE411⟩⟩
   case round =>
    clear H'
    try clear c1; try clear c2; try clear c2b0; try clear c2b1; try clear p2; try clear c4; try clear p6; try clear c13; try clear c19; try clear c20; try clear hcz10_0; try clear hcz15_0; try clear p2; try clear p6
    obtain ⟨x8_2, x412000_2, x412001_2, x412002_2, x412003_2, x412004_2, u412002, u412003, u412004, rfl, HA, HK2, HO_412002, HO_412003, HO_412004, BK411, HB⟩ := hrel
    cases gk with
    | zero => exact absurd HA.out (by simp [laws_FnSweep.l0])
    | succ k2 =>
     have H := HA.out
     clear HA
     simp only [laws_FnSweep.l0] at H
     by_cases c21 : x8_2 < 3
     ·rw [if_pos c21] at H
      have c21b0 : decide (x8_2 < 3) = true := decide_eq_true c21
      clear c21
      replace H := Option.bind_eq_some_iff.mp H
      obtain ⟨⟨t427, t428, t429, t432, t435, t438, t439⟩, A220, H⟩ := H
      try dsimp only at H
      have A22 := Aside0.mk A220
      clear A220
      by_cases c23 : t439 = true
      ·subst c23
       rw [if_pos rfl] at H
       have H' := Aside0.mk H
       clear H
       have hcz24_0 := bz5 BK411
       obtain ⟨Ao25, co25, eo25⟩ := Kd.R_slice HO_412002.out
       subst eo25
       obtain ⟨Ao26, co26, eo26⟩ := Kd.R_slice HO_412003.out
       subst eo26
       obtain ⟨Ao27, co27, eo27⟩ := Kd.R_slice HO_412004.out
       subst eo27
       go_wp2_with (first | ((with_reducible refine gate_callee (f := 36) rfl ?_); refine gl 44 Try.func36 #[.agg #[.int .i64 x412000_2, .int .i64 x412001_2, .slice Ao25 x412002_2.length co25, .slice Ao26 x412003_2.length co26, .slice Ao27 x412004_2.length co27], .string (⟨#[104, 111, 116]⟩ : ByteArray)] ?_; (with_reducible refine (impl_Get.calls k2 x412000_2 x412001_2 _ _ x412002_2 _ _ x412003_2 _ _ x412004_2 (⟨#[104, 111, 116]⟩ : ByteArray) t427 t428 t429 t432 t435 t438 true _ (cr HO_412002) ((Kd.R_reads' HO_412002.out).2.1) (cr HO_412003) ((Kd.R_reads' HO_412003.out).2.1) (cr HO_412004) ((Kd.R_reads' HO_412004.out).2.1) A22.out).mono ?_); rintro e w28 ⟨v430, v433, v436, rfl, ho0, ho1, ho2, hb⟩; refine ⟨_, rfl, ?_⟩; have HO431 := Aside0.mk (Kd.R_lower (nw (nw ho0 HO_412002) HO_412003) (below_size (be1 HB GE411))); have HO434 := Aside0.mk (Kd.R_lower (nw (nw ho1 HO_412002) HO_412003) (below_size (be1 HB GE411))); replace HO_412002 := td2 (ro HO_412002) hb ho0 ho1; replace HO_412003 := td2 (ro HO_412003) hb ho0 ho1; have HO437 := Aside0.mk (Kd.R_lower (nw ho2 HO_412004) (below_size (be1 HB GE411))); replace HO_412004 := Aside0.mk (Kd.R_elder' (ro HO_412004) (Kd.R_base ho2) hb); replace BK411 := bb BK411 hb; replace HB := Aside0.mk (below_step (be1 HB GE411) hb); (try clear hb); (try clear ho0); (try clear ho1); (try clear ho2); have hcz29_0 := bz5 BK411; obtain ⟨Ao30, co30, eo30⟩ := Kd.R_slice HO431.out; subst eo30; obtain ⟨Ao31, co31, eo31⟩ := Kd.R_slice HO434.out; subst eo31; obtain ⟨Ao32, co32, eo32⟩ := Kd.R_slice HO437.out; subst eo32))
       go_roundg k2
       case measure => have := HJ5.out; have := HK2.out; omega
       case rel => exact ⟨(wrap64 (x8_2 + 1)), (t427), (t428), (t429), (t432), (t435), (.slice Ao30 t429.length co30), (.slice Ao31 t432.length co31), (.slice Ao32 t435.length co32), rs, H', ⟨by have := HJ5.out; have := HK2.out; omega⟩, ⟨(rfn HO431 BK411)⟩, ⟨(rfn HO434 BK411)⟩, ⟨(rfn HO437 BK411)⟩, ⟨(bp BK411)⟩, ⟨be1 HB GE411⟩⟩
      replace c23 := Bool.eq_false_iff.mpr c23
      subst c23
      rw [if_neg (show ¬ (false = true) by decide)] at H
      exact absurd ((Option.some.inj H).trans hrt_.out) (by decide)
     rw [if_neg c21] at H
     have c21b0 : decide (x8_2 < 3) = false := decide_eq_false c21
     clear c21
     obtain ⟨y440, hy440⟩ : ∃ y_ : List ByteArray, y_ = (([] : List ByteArray)) := ⟨_, rfl⟩
     replace H : ((spec_MakeNum.f k2 l0 20).bind fun t443 => ((impl_Sweep.f k2 y440 (wrap64 (30 + t443)) 1).bind fun t444 => (laws_FnSweep.l1 k2 (wrap64 (4 + t398)) t444 t444 (t444.length : Int) 0 x412000_2 x412001_2 x412002_2 x412003_2 x412004_2))) = some r := by first | (rw [hy440]; with_reducible exact H) | (have H2_ := (Option.bind_some _ _).symm.trans H; rw [hy440]; with_reducible exact H2_) | (have H2_ := (Option.bind_some _ _).symm.trans H; with_reducible exact H2_) | with_reducible exact H | (rw [hy440]; exact H) | exact H
     have Ny440 := Aside0.mk hy440
     clear hy440
     replace H := Option.bind_eq_some_iff.mp H
     obtain ⟨t443, A330, H⟩ := H
     try dsimp only at H
     have A33 := Aside0.mk A330
     clear A330
     replace H := Option.bind_eq_some_iff.mp H
     obtain ⟨t444, A340, H⟩ := H
     try dsimp only at H
     have A34 := Aside0.mk A340
     clear A340
     have H' := Aside0.mk H
     clear H
     go_wp2_with (first | ((with_reducible refine gate_dst (N := 50) rfl ?_); (try (refine gate_guard (by rfl) ?_; dsimp only)); refine Kd.R_lit Kd.string _ 9 ?hg (N := 50) ?hd (xs := ([] : List ByteArray)) (inner := []) (ok := fun _ => True) (okp := fun _ => True) ?hr ?hp (fun _ hk => hk) trivial (Below.refl _ _) (Nat.le_refl _) (by simp) ?_; (case hd => rfl); (case hg => rfl); (case hr => first | (go_simp; done) | (go_simp; rfl)); (case hp => exact (Reps.none _ _)); intro v441 w35 ho36 hb hg_ hnew_; clear hg_ hnew_; (first | rw [← Ny440.out] at ho36 | (simp only [Int.reduceToNat] at ho36; rw [← Ny440.out] at ho36)); replace HO_412002 := rb HO_412002 hb; replace HO_412003 := rb HO_412003 hb; replace HO_412004 := rb HO_412004 hb; have HO442 := Aside0.mk (Kd.R_lower ho36 (below_size (be1 HB GE411))); replace BK411 := bb BK411 hb; replace HB := Aside0.mk (below_step (be1 HB GE411) hb); clear hb ho36) | ((with_reducible refine gate_callee (f := 46) rfl ?_); refine gl 52 Try.func46 #[.slice A0 l0.length c0, .int .i64 20] ?_; (with_reducible refine (spec_MakeNum.calls k2 _ _ l0 20 t443 _ (cb HR0 HB) ?side2 A33.out).mono ?_); (case side2 => exact HC0.out); rintro e w37 ⟨rfl, hb⟩; refine ⟨_, rfl, ?_⟩; replace HO_412002 := rb HO_412002 hb; replace HO_412003 := rb HO_412003 hb; replace HO_412004 := rb HO_412004 hb; replace HO442 := rb HO442 hb; replace BK411 := bb BK411 hb; replace HB := Aside0.mk (below_step (be1 HB GE411) hb); (try clear hb); obtain ⟨Ao38, co38, eo38⟩ := Kd.R_slice HO442.out; subst eo38) | ((with_reducible refine gate_callee (f := 47) rfl ?_); refine gl 54 Try.func47 #[.slice Ao38 y440.length co38, .int .i64 (wrap64 (30 + t443)), .int .i64 1] ?_; (with_reducible refine (impl_Sweep.calls k2 _ _ y440 (wrap64 (30 + t443)) 1 t444 _ (cr HO442) ((Kd.R_reads' HO442.out).2.1) A34.out).mono ?_); rintro e w39 ⟨v445, rfl, ho0, hb⟩; refine ⟨_, rfl, ?_⟩; replace HO_412002 := rb HO_412002 hb; replace HO_412003 := rb HO_412003 hb; replace HO_412004 := rb HO_412004 hb; have HO446 := Aside0.mk (Kd.R_lower (nw ho0 HO442) (below_size (be1 HB GE411))); replace HO442 := Aside0.mk (Kd.R_elder' (ro HO442) (Kd.R_base ho0) hb); replace BK411 := bb BK411 hb; replace HB := Aside0.mk (below_step (be1 HB GE411) hb); (try clear hb); (try clear ho0); obtain ⟨Ao40, co40, eo40⟩ := Kd.R_slice HO446.out; subst eo40))
     go_loopg [57] k2 (fun kq v57 w' => ∃ (x57_3 : Int) (x412000_3 : Int) (x412001_3 : Int) (x412002_3 : List (S68)) (x412003_3 : List (S68)) (x412004_3 : List Int) (u412002 : Value) (u412003 : Value) (u412004 : Value), v57 = .int .i64 x57_3 ∧ Aside0 (laws_FnSweep.l1 kq (wrap64 (4 + t398)) t444 t444 (t444.length : Int) x57_3 x412000_3 x412001_3 x412002_3 x412003_3 x412004_3 = some r) ∧ Aside0 (kq ≤ k2) ∧ Aside0 (Kd.R Kd.string 9 w' w.heap.size (fun _ => True) (.slice Ao40 t444.length co40) t444) ∧ Aside0 (Kd.R Kd.string 9 w' w.heap.size (fun _ => True) (.slice Ao40 t444.length co40) t444) ∧ Aside0 (Kd.R k68 68 w' w.heap.size (fun k_ => some k_ ≠ (u412003 : Value).ownBlock) u412002 x412002_3) ∧ Aside0 (Kd.R k68 68 w' w.heap.size (fun k_ => some k_ ≠ (u412002 : Value).ownBlock) u412003 x412003_3) ∧ Aside0 (Kd.R (Kd.int .i64) 3 w' w.heap.size (fun _ => True) u412004 x412004_3) ∧ Aside0 (w'.heap[gb411]? = some (.cells #[.int .i64 x412000_3, .int .i64 x412001_3, u412002, u412003, u412004] 30 (0, 0))) ∧ Aside0 (Below w.heap.size w w'))
     case atStart => exact ⟨(0), (x412000_2), (x412001_2), (x412002_2), (x412003_2), (x412004_2), (u412002), (u412003), (u412004), rs, H', ⟨Nat.le_refl _⟩, ⟨by (with_reducible repeat (first | apply Kd.R_alloc | apply Kd.R_drewN | apply Kd.R_drew)); exact Kd.R_mono HO446.out (fun _ hk => trivial)⟩, ⟨by (with_reducible repeat (first | apply Kd.R_alloc | apply Kd.R_drewN | apply Kd.R_drew)); exact Kd.R_mono HO446.out (fun _ hk => trivial)⟩, ⟨ro HO_412002⟩, ⟨ro HO_412003⟩, ⟨ro HO_412004⟩, ⟨bk BK411⟩, ⟨be1 HB GE411⟩⟩
     case round =>
      clear H'
      try clear c1; try clear c2; try clear c2b0; try clear c2b1; try clear p2; try clear c3; try clear c4; try clear p6; try clear c13; try clear c19; try clear c20; try clear c21; try clear c21b0; try clear c22; try clear c23; try clear c36; try clear hcz10_0; try clear hcz15_0; try clear hcz24_0; try clear hcz29_0; try clear p2; try clear p6
      obtain ⟨x57_3, x412000_3, x412001_3, x412002_3, x412003_3, x412004_3, u412002, u412003, u412004, rfl, HA, HK3, HO_9, HO_55, HO_412002, HO_412003, HO_412004, BK411, HB⟩ := hrel
      cases gk with
      | zero => exact absurd HA.out (by simp [laws_FnSweep.l1])
      | succ k3 =>
       have H := HA.out
       clear HA
       simp only [laws_FnSweep.l1] at H
       by_cases c41 : x57_3 < (t444.length : Int)
       ·rw [if_pos c41] at H
        have c41b0 : decide (x57_3 < (t444.length : Int)) = true := decide_eq_true c41
        clear c41
        by_cases c42 : 0 ≤ x57_3
        ·rw [if_pos c42] at H
         have c42b0 : decide (0 ≤ x57_3) = true := decide_eq_true c42
         clear c42
         by_cases c43 : x57_3 < (t444.length : Int)
         ·rw [if_pos c43] at H
          have c43b0 : decide (x57_3 < (t444.length : Int)) = true := decide_eq_true c43
          clear c43
          replace H := Option.bind_eq_some_iff.mp H
          obtain ⟨⟨t448, t449, t450, t453, t456, t459, t462⟩, A440, H⟩ := H
          try dsimp only at H
          have A44 := Aside0.mk A440
          clear A440
          by_cases c45 : t462 = true
          ·subst c45
           rw [if_pos rfl] at H
           have H' := Aside0.mk H
           clear H
           have p447 : 0 ≤ (x57_3 : Int) := od
           have q447 : x57_3 < (t444.length : Int) := od
           obtain ⟨ad447, e447, hx447_0⟩ := Kd.at_string (Kd.R_reads' HO_55.out).2.2 x57_3 p447 q447
           cases e447
           replace p447 := eq_true p447
           replace q447 := eq_true q447
           have hcz46_0 := bz5 BK411
           obtain ⟨Ao47, co47, eo47⟩ := Kd.R_slice HO_412002.out
           subst eo47
           obtain ⟨Ao48, co48, eo48⟩ := Kd.R_slice HO_412003.out
           subst eo48
           obtain ⟨Ao49, co49, eo49⟩ := Kd.R_slice HO_412004.out
           subst eo49
           go_wp2_with (first | ((with_reducible refine gate_callee (f := 42) rfl ?_); refine gl 64 Try.func42 #[.agg #[.int .i64 x412000_3, .int .i64 x412001_3, .slice Ao47 x412002_3.length co47, .slice Ao48 x412003_3.length co48, .slice Ao49 x412004_3.length co49], .string (rdOf ByteArray.empty t444 x57_3), .string (⟨#[]⟩ : ByteArray)] ?_; (with_reducible refine (impl_Put.calls k3 x412000_3 x412001_3 _ _ x412002_3 _ _ x412003_3 _ _ x412004_3 (rdOf ByteArray.empty t444 x57_3) (⟨#[]⟩ : ByteArray) t448 t449 t450 t453 t456 t459 true _ (cr HO_412002) ((Kd.R_reads' HO_412002.out).2.1) (cr HO_412003) ((Kd.R_reads' HO_412003.out).2.1) (cr HO_412004) ((Kd.R_reads' HO_412004.out).2.1) A44.out).mono ?_); rintro e w50 ⟨v451, v454, v457, v460, rfl, ho0, ho1, ho2, ho3, hb⟩; refine ⟨_, rfl, ?_⟩; have HO452 := Aside0.mk (Kd.R_lower (nw (nw ho0 HO_412002) HO_412003) (below_size (be1 HB GE411))); have HO455 := Aside0.mk (Kd.R_lower (nw (nw ho1 HO_412002) HO_412003) (below_size (be1 HB GE411))); replace HO_412002 := td2 (ro HO_412002) hb ho0 ho1; replace HO_412003 := td2 (ro HO_412003) hb ho0 ho1; have HO458 := Aside0.mk (Kd.R_lower (nw ho2 HO_412004) (below_size (be1 HB GE411))); replace HO_412004 := Aside0.mk (Kd.R_elder' (ro HO_412004) (Kd.R_base ho2) hb); have HO461 := Aside0.mk (Kd.R_lower (nw (nw ho3 HO_9) HO_55) (below_size (be1 HB GE411))); replace HO_9 := Aside0.mk (Kd.R_elder' (ro HO_9) (Kd.R_base ho3) hb); replace HO_55 := Aside0.mk (Kd.R_elder' (ro HO_55) (Kd.R_base ho3) hb); replace BK411 := bb BK411 hb; replace HB := Aside0.mk (below_step (be1 HB GE411) hb); (try clear hb); (try clear ho0); (try clear ho1); (try clear ho2); (try clear ho3); have hcz51_0 := bz5 BK411; obtain ⟨Ao52, co52, eo52⟩ := Kd.R_slice HO452.out; subst eo52; obtain ⟨Ao53, co53, eo53⟩ := Kd.R_slice HO455.out; subst eo53; obtain ⟨Ao54, co54, eo54⟩ := Kd.R_slice HO458.out; subst eo54))
           go_roundg k3
           case measure => have := HJ5.out; have := HK2.out; have := HK3.out; omega
           case rel => exact ⟨(wrap64 (x57_3 + 1)), (t448), (t449), (t450), (t453), (t456), (.slice Ao52 t450.length co52), (.slice Ao53 t453.length co53), (.slice Ao54 t456.length co54), rs, H', ⟨by have := HJ5.out; have := HK2.out; have := HK3.out; omega⟩, ⟨(rfn HO_9 BK411)⟩, ⟨(rfn HO_55 BK411)⟩, ⟨(rfn HO452 BK411)⟩, ⟨(rfn HO455 BK411)⟩, ⟨(rfn HO458 BK411)⟩, ⟨(bp BK411)⟩, ⟨be1 HB GE411⟩⟩
          replace c45 := Bool.eq_false_iff.mpr c45
          subst c45
          rw [if_neg (show ¬ (false = true) by decide)] at H
          exact absurd ((Option.some.inj H).trans hrt_.out) (by decide)
         rw [if_neg c43] at H
         exact absurd H (by simp)
        rw [if_neg c42] at H
        exact absurd H (by simp)
       rw [if_neg c41] at H
       have c41b0 : decide (x57_3 < (t444.length : Int)) = false := decide_eq_false c41
       clear c41
       replace H := Option.bind_eq_some_iff.mp H
       obtain ⟨⟨t463, t464, t465, t468, t471, t474, t475⟩, A550, H⟩ := H
       try dsimp only at H
       have A55 := Aside0.mk A550
       clear A550
       by_cases c56 : t475 = true
       ·subst c56
        rw [if_pos rfl] at H
        by_cases c57 : t474.toList = ([118] : List UInt8)
        ·rw [if_pos c57] at H
         have c57b0 : (t474.toList == ([118] : List UInt8)) = true := beq_iff_eq.mpr c57
         have c57b1 : (t474.toList != ([118] : List UInt8)) = false := bne_eq_false_iff_eq.mpr c57
         clear c57
         by_cases c58 : (t444.length : Int) ≥ 30
         ·rw [if_pos c58] at H
          have c58b0 : decide (30 ≤ (t444.length : Int)) = true := decide_eq_true c58
          have c58b1 : decide (30 ≤ t444.length) = true := decide_eq_true (by omega)
          clear c58
          by_cases c59 : (wrap64 ((x412002_3.length : Int) + (x412003_3.length : Int))) = (wrap64 (4 + t398))
          ·rw [if_pos c59] at H
           have c59b0 : ((wrap64 ((x412002_3.length : Int) + (x412003_3.length : Int))) == (wrap64 (4 + t398))) = true := beq_iff_eq.mpr c59
           have c59b1 : ((wrap64 ((x412002_3.length : Int) + (x412003_3.length : Int))) != (wrap64 (4 + t398))) = false := bne_eq_false_iff_eq.mpr c59
           clear c59
           replace H := Option.bind_eq_some_iff.mp H
           obtain ⟨t477, A600, H⟩ := H
           replace H : (some t477) = some r := H
           have A60 := Aside0.mk A600
           clear A600
           obtain rfl := Option.some.inj H
           have hcz61_0 := bz5 BK411
           obtain ⟨Ao62, co62, eo62⟩ := Kd.R_slice HO_412002.out
           subst eo62
           obtain ⟨Ao63, co63, eo63⟩ := Kd.R_slice HO_412003.out
           subst eo63
           obtain ⟨Ao64, co64, eo64⟩ := Kd.R_slice HO_412004.out
           subst eo64
           go_wp2_with (first | ((with_reducible refine gate_callee (f := 36) rfl ?_); refine gl 73 Try.func36 #[.agg #[.int .i64 x412000_3, .int .i64 x412001_3, .slice Ao62 x412002_3.length co62, .slice Ao63 x412003_3.length co63, .slice Ao64 x412004_3.length co64], .string (⟨#[104, 111, 116]⟩ : ByteArray)] ?_; (with_reducible refine (impl_Get.calls k3 x412000_3 x412001_3 _ _ x412002_3 _ _ x412003_3 _ _ x412004_3 (⟨#[104, 111, 116]⟩ : ByteArray) t463 t464 t465 t468 t471 t474 true _ (cr HO_412002) ((Kd.R_reads' HO_412002.out).2.1) (cr HO_412003) ((Kd.R_reads' HO_412003.out).2.1) (cr HO_412004) ((Kd.R_reads' HO_412004.out).2.1) A55.out).mono ?_); rintro e w65 ⟨v466, v469, v472, rfl, ho0, ho1, ho2, hb⟩; refine ⟨_, rfl, ?_⟩; replace HO_9 := rb HO_9 hb; replace HO_55 := rb HO_55 hb; have HO467 := Aside0.mk (Kd.R_lower (nw (nw ho0 HO_412002) HO_412003) (below_size (be1 HB GE411))); have HO470 := Aside0.mk (Kd.R_lower (nw (nw ho1 HO_412002) HO_412003) (below_size (be1 HB GE411))); replace HO_412002 := td2 (ro HO_412002) hb ho0 ho1; replace HO_412003 := td2 (ro HO_412003) hb ho0 ho1; have HO473 := Aside0.mk (Kd.R_lower (nw ho2 HO_412004) (below_size (be1 HB GE411))); replace HO_412004 := Aside0.mk (Kd.R_elder' (ro HO_412004) (Kd.R_base ho2) hb); replace BK411 := bb BK411 hb; replace HB := Aside0.mk (below_step (be1 HB GE411) hb); (try clear hb); (try clear ho0); (try clear ho1); (try clear ho2)) | ((with_reducible refine gate_dst (N := 12) rfl ?_); (try (refine gate_guard (by rfl) ?_; dsimp only)); refine bx 12 #[.int .i64 0, .int .i64 0, .slice none 0 0, .slice none 0 0, .slice none 0 0] 30 ?_; intro gb476 hg w66 hbox hb; replace HO_9 := rb HO_9 hb; replace HO_55 := rb HO_55 hb; replace HO_412002 := rb HO_412002 hb; replace HO_412003 := rb HO_412003 hb; replace HO_412004 := rb HO_412004 hb; replace HO467 := rb HO467 hb; replace HO470 := rb HO470 hb; replace HO473 := rb HO473 hb; have BK476 := am hbox; have GW476 := gs1 hg HB GE411; have GE476 := gs1 hg HB GE411; replace HB := Aside0.mk (below_step (be1 HB GE411) hb); have NB411_476 := nl hg BK411; have NB476_411 := ng hg BK411; replace BK411 := bb BK411 hb; clear hb hbox hg; have hnb67 := NB476_411.out; have hnc67 := NB411_476.out; have hcz68_0 := bz5 BK476; obtain ⟨Ao69, co69, eo69⟩ := Kd.R_slice HO467.out; subst eo69; obtain ⟨Ao70, co70, eo70⟩ := Kd.R_slice HO470.out; subst eo70; obtain ⟨Ao71, co71, eo71⟩ := Kd.R_slice HO473.out; subst eo71; have hcz72_0 := bz5 BK411) | (go_at_call 19; (with_reducible refine (impl_ThreeOk.calls k3 x412000_3 x412001_3 _ _ x412002_3 _ _ x412003_3 _ _ x412004_3 t477 _ ?side1 ((Kd.R_reads' HO_412002.out).2.1) ?side3 ((Kd.R_reads' HO_412003.out).2.1) ?side5 ((Kd.R_reads' HO_412004.out).2.1) A60.out).mono ?_); (case side1 => exact rfr _ HO_412002 BK476); (case side3 => exact rfr _ HO_412003 BK476); (case side5 => exact rfr _ HO_412004 BK476); rintro e w73 ⟨rfl, hb⟩; replace HO_9 := Aside0.mk (Kd.R_below (rf HO_9 BK476) hb); replace HO_55 := Aside0.mk (Kd.R_below (rf HO_55 BK476) hb); replace HO_412002 := Aside0.mk (Kd.R_below (rf HO_412002 BK476) hb); replace HO_412003 := Aside0.mk (Kd.R_below (rf HO_412003 BK476) hb); replace HO_412004 := Aside0.mk (Kd.R_below (rf HO_412004 BK476) hb); replace HO467 := Aside0.mk (Kd.R_below (rf HO467 BK476) hb); replace HO470 := Aside0.mk (Kd.R_below (rf HO470 BK476) hb); replace HO473 := Aside0.mk (Kd.R_below (rf HO473 BK476) hb); replace BK411 := Aside0.mk (blk_below (g := gb411) (o := .cells #[.int .i64 x412000_3, .int .i64 x412001_3, .slice Ao62 x412002_3.length co62, .slice Ao63 x412003_3.length co63, .slice Ao64 x412004_3.length co64] 30 (0, 0)) (bf1 BK411 NB411_476) hb); replace BK476 := Aside0.mk (blk_below (g := gb476) (o := .cells #[.int .i64 t463, .int .i64 t464, .slice Ao69 t465.length co69, .slice Ao70 t468.length co70, .slice Ao71 t471.length co71] 30 (0, 0)) (bp BK476) hb); replace HB := Aside0.mk (below_step (be2 HB GE411 GE476) hb); (try clear hb)))
           go_ret
           exact ⟨er, be2 HB GE411 GE476⟩
          rw [if_neg c59] at H
          have c59b0 : ((wrap64 ((x412002_3.length : Int) + (x412003_3.length : Int))) == (wrap64 (4 + t398))) = false := beq_eq_false_iff_ne.mpr c59
          have c59b1 : ((wrap64 ((x412002_3.length : Int) + (x412003_3.length : Int))) != (wrap64 (4 + t398))) = true := bne_iff_ne.mpr c59
          exact absurd ((Option.some.inj H).trans hrt_.out) (by decide)
         rw [if_neg c58] at H
         have c58b0 : decide (30 ≤ (t444.length : Int)) = false := decide_eq_false c58
         have c58b1 : decide (30 ≤ t444.length) = false := decide_eq_false (by omega)
         clear c58
         exact absurd ((Option.some.inj H).trans hrt_.out) (by decide)
        rw [if_neg c57] at H
        have c57b0 : (t474.toList == ([118] : List UInt8)) = false := beq_eq_false_iff_ne.mpr c57
        have c57b1 : (t474.toList != ([118] : List UInt8)) = true := bne_iff_ne.mpr c57
        exact absurd ((Option.some.inj H).trans hrt_.out) (by decide)
       replace c56 := Bool.eq_false_iff.mpr c56
       subst c56
       rw [if_neg (show ¬ (false = true) by decide)] at H
       exact absurd ((Option.some.inj H).trans hrt_.out) (by decide)

/-- THE ONE PURE STATEMENT of laws_FnSweep: yours. -/
def laws_FnSweep.Pure : Prop := ∀ (l0 : List Int), l0.length ≤ maxLen → l0.length * 1 ≤ 140737488351232 → (∀ x ∈ l0, (Lit.int .u8 x).wf = true) → ∃ k, laws_FnSweep.f k l0 = some true
theorem laws_FnSweep.walk (P : laws_FnSweep.Pure) (a0 : Option Addr) (len0 cap0 : Nat) (z0 : List Int) (w : World) (w0 : (a0 = none ∧ len0 = 0 ∧ cap0 = 0 ∧ z0 = []) ∨ ∃ x, a0 = some x ∧ len0 ≤ cap0 ∧ cap0 ≤ maxLen ∧ z0.length = cap0 ∧ (∀ i, i < z0.length → w.cell? (x.add i) = some (.int .u8 (z0.getD i 0))) ∧ ∀ n ∈ z0, (Lit.int .u8 n).wf = true) (y0 : len0 * 1 ≤ 140737488351232) :
  Calls Try.prog 13 #[.slice a0 len0 cap0] w fun e w' => e = .returned (.bool true) ∧ Below w.heap.size w w' := by
 obtain ⟨l0, rfl, hr0, hm0, hw0, hc0⟩ := ReadsInt.ofRowC w0
 obtain ⟨k, h⟩ := P l0 hm0 y0 hw0
 refine (laws_FnSweep.calls k _ _ l0 true w (Kd.C_of_reads (d := (0 : Int)) (h1 := fun _ => rfl) hr0) hc0 h ⟨rfl⟩).mono ?_
 rintro e w' ⟨rfl, hd⟩
 exact ⟨rfl, hd⟩

end Go.Proofs.Ytfjhkediaholmaa.QFnSweep
