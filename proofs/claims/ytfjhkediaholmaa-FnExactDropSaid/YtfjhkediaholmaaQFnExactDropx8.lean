-- made by a program of this session (myprint.py)
import Derived.Test.YtfjhkediaholmaaQFnExactDropx0
import Derived.Test.YtfjhkediaholmaaQFnExactDropx6
import Derived.Test.YtfjhkediaholmaaQFnExactDropx7
namespace Go.Proofs.Ytfjhkediaholmaa.QFnExactDrop
open Go.RowKit Go.Proofs.YtfjhkediaholmaaW.PrintWords Go.Proofs.YtfjhkediaholmaaW.PrintLast Go.Proofs.YtfjhkediaholmaaW.PrintMore
attribute [local go_sem] max2_int min2_int max_two min_two max_three min_three max_four min_four   -- for this text's walks alone
set_option linter.unusedVariables false
set_option linter.unusedSimpArgs false

/-! ### spec_l10Without: function 86 -/
def spec_l10Without.l0 : Nat → ByteArray → List (S68) → List (S68) → Int → Int → Option ((List (S68)))
 | 0, _, _, _, _, _ => none
 | k + 1, x1, x5, x9, x10, x11 => if x11 < x10 then (if 0 ≤ x11 then (if x11 < (x9.length : Int) then (if ((rd_T68 x9 x11).f0).toList = x1.toList then (spec_l10Without.l0 k x1 x5 x9 x10 (wrap64 (x11 + 1))) else (if x5.length < 3518437208883 then (spec_l10Without.l0 k x1 (x5 ++ [(⟨(rd_T68 x9 x11).f0, (rd_T68 x9 x11).f1, (rd_T68 x9 x11).f2⟩ : S68)]) x9 x10 (wrap64 (x11 + 1))) else (none))) else (none)) else (none)) else (some x5)
def spec_l10Without.f (k : Nat) (l0 : List (S68)) (a1 : ByteArray) : Option ((List (S68))) := spec_l10Without.l0 k a1 (([] : List (S68))) l0 (l0.length : Int) 0
theorem spec_l10Without.mono_l : ∀ k, (∀ y0 y1 y2 y3 y4, LeO (spec_l10Without.l0 k y0 y1 y2 y3 y4) (spec_l10Without.l0 (k + 1) y0 y1 y2 y3 y4))
 | 0 => fun _ _ _ _ _ r h => by simp [spec_l10Without.l0] at h
 | k + 1 => by
  have ih0 := spec_l10Without.mono_l k
  ·intro y0 y1 y2 y3 y4
   unfold spec_l10Without.l0
   repeat' first
   | (with_reducible exact ih0 _ _ _ _ _)
   | (with_reducible exact LeO.refl _)
   | (with_reducible exact LeO.none _)
   | (with_reducible refine LeO.ite ?_ ?_)
   | (with_reducible refine LeO.bind ?_ (fun _ => ?_))
   | exact ih0 _ _ _ _ _
   | exact LeO.none _
   | refine LeO.ite ?_ ?_
   | refine LeO.bind ?_ (fun _ => ?_)
theorem spec_l10Without.mono : ∀ a0 a1 k, LeO (spec_l10Without.f k a0 a1) (spec_l10Without.f (k + 1) a0 a1) := by
 intro a0 a1 k
 have ih0 := spec_l10Without.mono_l k
 unfold spec_l10Without.f
 repeat' first
   | (with_reducible exact ih0 _ _ _ _ _)
   | (with_reducible exact LeO.refl _)
   | (with_reducible exact LeO.none _)
   | (with_reducible refine LeO.ite ?_ ?_)
   | (with_reducible refine LeO.bind ?_ (fun _ => ?_))
   | exact ih0 _ _ _ _ _
   | exact LeO.none _
   | refine LeO.ite ?_ ?_
   | refine LeO.bind ?_ (fun _ => ?_)
set_option maxHeartbeats 8000000 in
set_option maxRecDepth 100000 in
theorem spec_l10Without.calls (k : Nat) (A0 : Option Addr) (c0 : Nat) (l0 : List (S68)) (a1 : ByteArray) (r : List (S68)) (w : World) (hr0 : Kd.C k68 w A0 l0.length l0) (hc0 : l0.length ≤ c0) (h : spec_l10Without.f k l0 a1 = some r) :
  Calls Try.prog 86 #[.slice A0 l0.length c0, .string a1] w fun e w' => ∃ v0_ : Value, e = .returned (v0_) ∧ Kd.R k68 68 w' w.heap.size (fun _ => True) v0_ r ∧ Below w.heap.size w w' := by
 have hu68 := Try.underlying68
 have HR0 := Aside0.mk hr0
 have HC0 := Aside0.mk hc0
 clear hr0 hc0
 have HB := Aside0.mk (Below.refl w.heap.size w)
 have H : (spec_l10Without.l0 k a1 (([] : List (S68))) l0 (l0.length : Int) 0) = some r := h
 clear h
 obtain ⟨y223, hy223⟩ : ∃ y_ : List (S68), y_ = (([] : List (S68))) := ⟨_, rfl⟩
 replace H : (spec_l10Without.l0 k a1 y223 l0 (l0.length : Int) 0) = some r := by first | (rw [hy223]; with_reducible exact H) | (have H2_ := (Option.bind_some _ _).symm.trans H; rw [hy223]; with_reducible exact H2_) | (have H2_ := (Option.bind_some _ _).symm.trans H; with_reducible exact H2_) | with_reducible exact H | (rw [hy223]; exact H) | exact H
 have Ny223 := Aside0.mk hy223
 clear hy223
 have H' := Aside0.mk H
 clear H
 go_enter Try.func86, Try.ntmps86
 go_wp2_with (first | ((with_reducible refine gate_dst (N := 8) rfl ?_); refine Kd.R_lit k68 _ 68 ?hg (N := 8) ?hd (xs := ([] : List (S68))) (inner := []) (ok := fun _ => True) (okp := fun _ => True) ?hr ?hp (fun _ hk => hk) trivial (Below.refl _ _) (Nat.le_refl _) (by simp) ?_; (case hd => rfl); (case hg => rfl); (case hr => first | (go_simp; done) | (go_simp; rfl)); (case hp => exact (Reps.none _ _)); intro v224 w3 ho4 hb hg_ hnew_; clear hg_ hnew_; (first | rw [← Ny223.out] at ho4 | (simp only [Int.reduceToNat] at ho4; rw [← Ny223.out] at ho4)); have HO225 := Aside0.mk (Kd.R_lower ho4 (below_size (be HB))); replace HB := s0 HB hb; clear hb ho4))
 go_loopg [5, 11] k (fun kq v5 v11 w' => ∃ (x5_1 : List (S68)) (x11_1 : Int), v11 = .int .i64 x11_1 ∧ Aside0 (spec_l10Without.l0 kq a1 x5_1 l0 (l0.length : Int) x11_1 = some r) ∧ Aside0 (kq ≤ k) ∧ Aside0 (Kd.R k68 68 w' w.heap.size (fun _ => True) v5 x5_1) ∧ Aside0 (Below w.heap.size w w'))
 case atStart => exact ⟨(y223), (0), rs, H', ⟨Nat.le_refl _⟩, ⟨ro HO225⟩, ⟨be HB⟩⟩
 case round =>
  clear H'
  try clear p2
  obtain ⟨x5_1, x11_1, rfl, HA, HK1, HO_5, HB⟩ := hrel
  cases gk with
  | zero => exact absurd HA.out (by simp [spec_l10Without.l0])
  | succ k1 =>
   have H := HA.out
   clear HA
   simp only [spec_l10Without.l0] at H
   by_cases c5 : x11_1 < (l0.length : Int)
   ·rw [if_pos c5] at H
    have c5b0 : decide (x11_1 < (l0.length : Int)) = true := decide_eq_true c5
    clear c5
    by_cases c6 : 0 ≤ x11_1
    ·rw [if_pos c6] at H
     have c6b0 : decide (0 ≤ x11_1) = true := decide_eq_true c6
     clear c6
     by_cases c7 : x11_1 < (l0.length : Int)
     ·rw [if_pos c7] at H
      have c7b0 : decide (x11_1 < (l0.length : Int)) = true := decide_eq_true c7
      clear c7
      by_cases c8 : ((rd_T68 l0 x11_1).f0).toList = a1.toList
      ·rw [if_pos c8] at H
       have c8b0 : (((rd_T68 l0 x11_1).f0).toList == a1.toList) = true := beq_iff_eq.mpr c8
       have c8b1 : (((rd_T68 l0 x11_1).f0).toList != a1.toList) = false := bne_eq_false_iff_eq.mpr c8
       clear c8
       have H' := Aside0.mk H
       clear H
       have p226 : 0 ≤ (x11_1 : Int) := od
       have q226 : x11_1 < (l0.length : Int) := od
       obtain ⟨ad226, e226, hx226_0, hx226_1, hx226_2⟩ := at_T68 HR0.out x11_1 p226 q226
       cases e226
       replace hx226_0 := hc HB hx226_0
       replace hx226_1 := hc HB hx226_1
       replace hx226_2 := hc HB hx226_2
       replace p226 := eq_true p226
       replace q226 := eq_true q226
       go_wp2_with (first | ((with_reducible refine gate_dst (N := 7) rfl ?_); refine bx 7 #[.string (⟨#[]⟩ : ByteArray), .string (⟨#[]⟩ : ByteArray), .int .i64 0] 68 ?_; intro gb227 hg w9 hbox hb; replace HO_5 := Aside0.mk (Kd.R_below (Kd.R_elderB (ro HO_5) gb227 (Nat.le_of_eq hg.symm)) hb); have BK227 := am hbox; have GW227 := gs0 hg HB; have GE227 := gs0 hg HB; replace HB := s0 HB hb; clear hb hbox hg; have hcz10_0 := bz3 BK227))
       go_roundg k1
       case measure => have := HK1.out; omega
       case rel => exact ⟨(x5_1), (wrap64 (x11_1 + 1)), rs, H', ⟨by have := HK1.out; omega⟩, ⟨by (with_reducible repeat (first | apply Kd.R_alloc | apply Kd.R_drewN | apply Kd.R_drew)); exact Kd.R_mono (Kd.R_far (p := ⟨gb227, 2, none⟩) (Kd.R_far (p := ⟨gb227, 1, none⟩) (Kd.R_far (p := ⟨gb227, 0, none⟩) (Kd.R_mono HO_5.out (fun k_ hk => (⟨hk, hk.2⟩ : _ ∧ k_ ≠ gb227))) (fun _ hk => hk.2) (.string ((rd_T68 l0 x11_1).f0))) (fun _ hk => hk.2) (.string ((rd_T68 l0 x11_1).f1))) (fun _ hk => hk.2) (.int .i64 ((rd_T68 l0 x11_1).f2))) (fun _ hk => trivial)⟩, ⟨be1 HB GE227⟩⟩
      rw [if_neg c8] at H
      have c8b0 : (((rd_T68 l0 x11_1).f0).toList == a1.toList) = false := beq_eq_false_iff_ne.mpr c8
      have c8b1 : (((rd_T68 l0 x11_1).f0).toList != a1.toList) = true := bne_iff_ne.mpr c8
      by_cases c11 : x5_1.length < 3518437208883
      ·rw [if_pos c11] at H
       have LMc11 := Aside0.mk c11
       clear c11
       obtain ⟨y228, hy228⟩ : ∃ y_ : List (S68), y_ = (x5_1 ++ [(⟨(rd_T68 l0 x11_1).f0, (rd_T68 l0 x11_1).f1, (rd_T68 l0 x11_1).f2⟩ : S68)]) := ⟨_, rfl⟩
       replace H : (spec_l10Without.l0 k1 a1 y228 l0 (l0.length : Int) (wrap64 (x11_1 + 1))) = some r := by first | (rw [hy228]; with_reducible exact H) | (have H2_ := (Option.bind_some _ _).symm.trans H; rw [hy228]; with_reducible exact H2_) | (have H2_ := (Option.bind_some _ _).symm.trans H; with_reducible exact H2_) | with_reducible exact H | (rw [hy228]; exact H) | exact H
       have Ny228 := Aside0.mk hy228
       clear hy228
       have H' := Aside0.mk H
       clear H
       have p226 : 0 ≤ (x11_1 : Int) := od
       have q226 : x11_1 < (l0.length : Int) := od
       obtain ⟨ad226, e226, hx226_0, hx226_1, hx226_2⟩ := at_T68 HR0.out x11_1 p226 q226
       cases e226
       replace hx226_0 := hc HB hx226_0
       replace hx226_1 := hc HB hx226_1
       replace hx226_2 := hc HB hx226_2
       replace p226 := eq_true p226
       replace q226 := eq_true q226
       go_wp2_with (first | ((with_reducible refine gate_dst (N := 7) rfl ?_); refine bx 7 #[.string (⟨#[]⟩ : ByteArray), .string (⟨#[]⟩ : ByteArray), .int .i64 0] 68 ?_; intro gb227 hg w12 hbox hb; replace HO_5 := Aside0.mk (Kd.R_below (Kd.R_elderB (ro HO_5) gb227 (Nat.le_of_eq hg.symm)) hb); have BK227 := am hbox; have GW227 := gs0 hg HB; have GE227 := gs0 hg HB; replace HB := s0 HB hb; clear hb hbox hg; have hcz13_0 := bz3 BK227) | ((with_reducible refine gate_builtin (b := .append) (xs := #[.tmp 19, .tmp 21]) rfl ?_); at_builtin; refine Kd.R_append k68 (w0 := w) w.heap.size rfl (.tmp 19) (.tmp 21) 28 68 (.agg #[(.string ⟨#[]⟩), (.string ⟨#[]⟩), (.int .i64 0)]) 40 rfl Try.underlying28 info68 rfl (by decide) (by omega) u5 x5_1 (⟨(rd_T68 l0 x11_1).f0, (rd_T68 l0 x11_1).f1, (rd_T68 l0 x11_1).f2⟩ : S68) [.string ((rd_T68 l0 x11_1).f0), .string ((rd_T68 l0 x11_1).f1), .int .i64 ((rd_T68 l0 x11_1).f2)] (fun k_ => k_ ≠ gb227) (fun _ => False) rfl (by first | (go_simp; done) | (go_simp; rfl)) ?aP (fun _ hk => hk.elim) ?aF ?aO ?aB ?aS ?aL ?_; (case aP => exact k68_mkM _ _ _ (⟨(rd_T68 l0 x11_1).f0, (rd_T68 l0 x11_1).f1, (rd_T68 l0 x11_1).f2⟩ : S68)); (case aB => exact (be1 HB GE227)); (case aF => exact (fun k_ hk => Kd.freshB (g := gb227) (o := .cells #[.string ((rd_T68 l0 x11_1).f0), .string ((rd_T68 l0 x11_1).f1), .int .i64 ((rd_T68 l0 x11_1).f2)] 68 (0, 0)) (by (with_reducible repeat (first | refine blk_drewN ?_ _ | refine blk_drew ?_ | refine blk_alloc ?_ _)); refine blk_put (cs := #[.string ((rd_T68 l0 x11_1).f0), .string ((rd_T68 l0 x11_1).f1), .int .i64 0]) ?_ 2 _ rfl; (with_reducible repeat (first | refine blk_drewN ?_ _ | refine blk_drew ?_ | refine blk_alloc ?_ _)); refine blk_put (cs := #[.string ((rd_T68 l0 x11_1).f0), .string (⟨#[]⟩ : ByteArray), .int .i64 0]) ?_ 1 _ rfl; (with_reducible repeat (first | refine blk_drewN ?_ _ | refine blk_drew ?_ | refine blk_alloc ?_ _)); refine blk_put (cs := #[.string (⟨#[]⟩ : ByteArray), .string (⟨#[]⟩ : ByteArray), .int .i64 0]) ?_ 0 _ rfl; (with_reducible repeat (first | refine blk_drewN ?_ _ | refine blk_drew ?_ | refine blk_alloc ?_ _)); exact BK227.out) k_ hk)); (case aO => exact (by (with_reducible repeat (first | apply Kd.R_alloc | apply Kd.R_drewN | apply Kd.R_drew)); exact Kd.R_mono (Kd.R_far (p := ⟨gb227, 2, none⟩) (Kd.R_far (p := ⟨gb227, 1, none⟩) (Kd.R_far (p := ⟨gb227, 0, none⟩) (Kd.R_mono HO_5.out (fun k_ hk => (⟨hk, hk.2⟩ : _ ∧ k_ ≠ gb227))) (fun _ hk => hk.2) (.string ((rd_T68 l0 x11_1).f0))) (fun _ hk => hk.2) (.string ((rd_T68 l0 x11_1).f1))) (fun _ hk => hk.2) (.int .i64 ((rd_T68 l0 x11_1).f2))) (fun _ hk => hk.1.2))); (case aS => exact (below_size (be1 HB GE227))); (case aL => have := LMc11.out; omega); intro v229 w14 ho hb hg hat; rw [← Ny228.out] at ho; replace BK227 := Aside0.mk (blk_grown (g := gb227) (o := .cells #[.string ((rd_T68 l0 x11_1).f0), .string ((rd_T68 l0 x11_1).f1), .int .i64 ((rd_T68 l0 x11_1).f2)] 68 (0, 0)) (by (with_reducible repeat (first | refine blk_drewN ?_ _ | refine blk_drew ?_ | refine blk_alloc ?_ _)); refine blk_put (cs := #[.string ((rd_T68 l0 x11_1).f0), .string ((rd_T68 l0 x11_1).f1), .int .i64 0]) ?_ 2 _ rfl; (with_reducible repeat (first | refine blk_drewN ?_ _ | refine blk_drew ?_ | refine blk_alloc ?_ _)); refine blk_put (cs := #[.string ((rd_T68 l0 x11_1).f0), .string (⟨#[]⟩ : ByteArray), .int .i64 0]) ?_ 1 _ rfl; (with_reducible repeat (first | refine blk_drewN ?_ _ | refine blk_drew ?_ | refine blk_alloc ?_ _)); refine blk_put (cs := #[.string (⟨#[]⟩ : ByteArray), .string (⟨#[]⟩ : ByteArray), .int .i64 0]) ?_ 0 _ rfl; (with_reducible repeat (first | refine blk_drewN ?_ _ | refine blk_drew ?_ | refine blk_alloc ?_ _)); exact BK227.out) hg (Kd.R_away HO_5.out (fun _ hk => hk.2))); replace HB := Aside0.mk (hb); have HO230 := Aside0.mk (ho); clear HO_5; clear ho hb hg hat))
       go_roundg k1
       case measure => have := HK1.out; omega
       case rel => exact ⟨(y228), (wrap64 (x11_1 + 1)), rs, H', ⟨by have := HK1.out; omega⟩, ⟨by (with_reducible repeat (first | apply Kd.R_alloc | apply Kd.R_drewN | apply Kd.R_drew)); exact Kd.R_mono HO230.out (fun _ hk => trivial)⟩, ⟨be1 HB GE227⟩⟩
      rw [if_neg c11] at H
      exact absurd H (by simp)
     rw [if_neg c7] at H
     exact absurd H (by simp)
    rw [if_neg c6] at H
    exact absurd H (by simp)
   rw [if_neg c5] at H
   have c5b0 : decide (x11_1 < (l0.length : Int)) = false := decide_eq_false c5
   clear c5
   obtain rfl := Option.some.inj H
   go_wp2
   go_ret
   exact ⟨_, er, by (with_reducible repeat (first | apply Kd.R_alloc | apply Kd.R_drewN | apply Kd.R_drew)); exact HO_5.out, be HB⟩

/-! ### spec_Drop: function 33 -/
def spec_Drop.f (k : Nat) (a0_0 : Int) (a0_1 : Int) (l0_2 : List (S68)) (l0_3 : List (S68)) (l0_4 : List Int) (a1 : ByteArray) : Option (Int × Int × (List (S68)) × (List (S68)) × List Int × Bool) := (spec_ThreeOk.f k a0_0 a0_1 l0_2 l0_3 l0_4).bind fun t233 => (if t233 = true then ((spec_l10Copy.f a0_0 a0_1 l0_2 l0_3 l0_4).bind fun bt234 => ((spec_l10Without.f k bt234.2.2.1 a1).bind fun t246 => ((spec_l10Without.f k bt234.2.2.2.1 a1).bind fun t249 => (some (bt234.1, bt234.2.1, t246, t249, bt234.2.2.2.2, decide ((wrap64 ((t246.length : Int) + (t249.length : Int))) < (wrap64 ((l0_2.length : Int) + (l0_3.length : Int))))))))) else (some (0, 0, ([] : List (S68)), ([] : List (S68)), ([] : List Int), false)))
theorem spec_Drop.mono : ∀ a0 a1 a2 a3 a4 a5 k, LeO (spec_Drop.f k a0 a1 a2 a3 a4 a5) (spec_Drop.f (k + 1) a0 a1 a2 a3 a4 a5) := by
 intro a0 a1 a2 a3 a4 a5 k
 unfold spec_Drop.f
 repeat' first
   | (with_reducible exact spec_ThreeOk.mono _ _ _ _ _ _)
   | (with_reducible exact spec_l10Without.mono _ _ _)
   | (with_reducible exact LeO.refl _)
   | (with_reducible exact LeO.none _)
   | (with_reducible refine LeO.ite ?_ ?_)
   | (with_reducible refine LeO.bind ?_ (fun _ => ?_))
   | exact spec_ThreeOk.mono _ _ _ _ _ _
   | exact spec_l10Without.mono _ _ _
   | exact LeO.none _
   | refine LeO.ite ?_ ?_
   | refine LeO.bind ?_ (fun _ => ?_)
def spec_Drop.T6 : Bool × List (List Nat × List Nat) := (true, [([], []), ([], []), ([1], [1]), ([2], [2]), ([], []), ([4], [4]), ([5], [5]), ([3, 6], [3, 6]), ([], []), ([8], [8]), ([9], [9]), ([], []), ([11], [11]), ([12], [12]), ([10, 13], [10, 13]), ([7, 14], [7, 14]), ([0, 0], [0]), ([15, 16, 0, 1, 2, 3, 4, 5, 6, 7, 8, 9, 10, 11, 12, 13, 14, 15, 16], [15])])
def spec_Drop.B6 : List Nat := [0, 0, 2, 6, 0, 16, 48, 126, 0, 256, 768, 0, 2048, 6144, 16128, 32766, 1, 131071]
theorem spec_Drop.tab6 : rtab .any (opsOf Try.f33 6) = spec_Drop.T6 := by kernel_rfl
theorem spec_Drop.bits6 : waitsOk spec_Drop.T6.2 spec_Drop.B6 = true := by kernel_rfl
set_option maxHeartbeats 8000000 in
set_option maxRecDepth 100000 in
theorem spec_Drop.calls (k : Nat) (a0_0 : Int) (a0_1 : Int) (A0_2 : Option Addr) (c0_2 : Nat) (l0_2 : List (S68)) (A0_3 : Option Addr) (c0_3 : Nat) (l0_3 : List (S68)) (A0_4 : Option Addr) (c0_4 : Nat) (l0_4 : List Int) (a1 : ByteArray) (r1 : Int) (r2 : Int) (r3 : List (S68)) (r4 : List (S68)) (r5 : List Int) (r6 : Bool) (w : World) (hr0_2 : Kd.C k68 w A0_2 l0_2.length l0_2) (hc0_2 : l0_2.length ≤ c0_2) (hr0_3 : Kd.C k68 w A0_3 l0_3.length l0_3) (hc0_3 : l0_3.length ≤ c0_3) (hr0_4 : Kd.C (Kd.int .i64) w A0_4 l0_4.length l0_4) (hc0_4 : l0_4.length ≤ c0_4) (h : spec_Drop.f k a0_0 a0_1 l0_2 l0_3 l0_4 a1 = some (r1, r2, r3, r4, r5, r6)) :
  Calls Try.prog 33 #[.agg #[.int .i64 a0_0, .int .i64 a0_1, .slice A0_2 l0_2.length c0_2, .slice A0_3 l0_3.length c0_3, .slice A0_4 l0_4.length c0_4], .string a1] w fun e w' => ∃ v2_ v3_ v4_ : Value, e = .returned (.tuple #[.agg #[.int .i64 r1, .int .i64 r2, v2_, v3_, v4_], .bool r6]) ∧ Kd.R k68 68 w' w.heap.size (fun k_ => some k_ ≠ (v3_ : Value).ownBlock) v2_ r3 ∧ Kd.R k68 68 w' w.heap.size (fun k_ => some k_ ≠ (v2_ : Value).ownBlock) v3_ r4 ∧ Kd.R (Kd.int .i64) 3 w' w.heap.size (fun _ => True) v4_ r5 ∧ Below w.heap.size w w' := by
 have hu30 := Try.underlying30
 have HR0_2 := Aside0.mk hr0_2
 have HC0_2 := Aside0.mk hc0_2
 clear hr0_2 hc0_2
 have HR0_3 := Aside0.mk hr0_3
 have HC0_3 := Aside0.mk hc0_3
 clear hr0_3 hc0_3
 have HR0_4 := Aside0.mk hr0_4
 have HC0_4 := Aside0.mk hc0_4
 clear hr0_4 hc0_4
 have HB := Aside0.mk (Below.refl w.heap.size w)
 have H : ((spec_ThreeOk.f k a0_0 a0_1 l0_2 l0_3 l0_4).bind fun t233 => (if t233 = true then ((spec_l10Copy.f a0_0 a0_1 l0_2 l0_3 l0_4).bind fun bt234 => ((spec_l10Without.f k bt234.2.2.1 a1).bind fun t246 => ((spec_l10Without.f k bt234.2.2.2.1 a1).bind fun t249 => (some (bt234.1, bt234.2.1, t246, t249, bt234.2.2.2.2, decide ((wrap64 ((t246.length : Int) + (t249.length : Int))) < (wrap64 ((l0_2.length : Int) + (l0_3.length : Int))))))))) else (some (0, 0, ([] : List (S68)), ([] : List (S68)), ([] : List Int), false)))) = some (r1, r2, r3, r4, r5, r6) := h
 clear h
 replace H := Option.bind_eq_some_iff.mp H
 obtain ⟨t233, A30, H⟩ := H
 replace H : (if t233 = true then ((spec_l10Copy.f a0_0 a0_1 l0_2 l0_3 l0_4).bind fun bt234 => ((spec_l10Without.f k bt234.2.2.1 a1).bind fun t246 => ((spec_l10Without.f k bt234.2.2.2.1 a1).bind fun t249 => (some (bt234.1, bt234.2.1, t246, t249, bt234.2.2.2.2, decide ((wrap64 ((t246.length : Int) + (t249.length : Int))) < (wrap64 ((l0_2.length : Int) + (l0_3.length : Int))))))))) else (some (0, 0, ([] : List (S68)), ([] : List (S68)), ([] : List Int), false))) = some (r1, r2, r3, r4, r5, r6) := H
 have A3 := Aside0.mk A30
 clear A30
 by_cases c4 : t233 = true
 ·subst c4
  have H1 : ((spec_l10Copy.f a0_0 a0_1 l0_2 l0_3 l0_4).bind fun bt234 => ((spec_l10Without.f k bt234.2.2.1 a1).bind fun t246 => ((spec_l10Without.f k bt234.2.2.2.1 a1).bind fun t249 => (some (bt234.1, bt234.2.1, t246, t249, bt234.2.2.2.2, decide ((wrap64 ((t246.length : Int) + (t249.length : Int))) < (wrap64 ((l0_2.length : Int) + (l0_3.length : Int))))))))) = some (r1, r2, r3, r4, r5, r6) := by rw [if_pos rfl] at H; exact H
  clear H
  have H := H1
  clear H1
  replace H := Option.bind_eq_some_iff.mp H
  obtain ⟨⟨t234, t235, t236, t239, t242⟩, A50, H⟩ := H
  replace H : ((spec_l10Without.f k t236 a1).bind fun t246 => ((spec_l10Without.f k t239 a1).bind fun t249 => (some (t234, t235, t246, t249, t242, decide ((wrap64 ((t246.length : Int) + (t249.length : Int))) < (wrap64 ((l0_2.length : Int) + (l0_3.length : Int)))))))) = some (r1, r2, r3, r4, r5, r6) := H
  have A5 := Aside0.mk A50
  clear A50
  replace H := Option.bind_eq_some_iff.mp H
  obtain ⟨t246, A60, H⟩ := H
  replace H : ((spec_l10Without.f k t239 a1).bind fun t249 => (some (t234, t235, t246, t249, t242, decide ((wrap64 ((t246.length : Int) + (t249.length : Int))) < (wrap64 ((l0_2.length : Int) + (l0_3.length : Int))))))) = some (r1, r2, r3, r4, r5, r6) := H
  have A6 := Aside0.mk A60
  clear A60
  replace H := Option.bind_eq_some_iff.mp H
  obtain ⟨t249, A70, H⟩ := H
  replace H : (some (t234, t235, t246, t249, t242, decide ((wrap64 ((t246.length : Int) + (t249.length : Int))) < (wrap64 ((l0_2.length : Int) + (l0_3.length : Int)))))) = some (r1, r2, r3, r4, r5, r6) := H
  have A7 := Aside0.mk A70
  clear A70
  simp only [Option.some.injEq, Prod.mk.injEq] at H
  obtain ⟨rfl, rfl, rfl, rfl, rfl, rfl⟩ := H
  go_enter Try.func33, Try.ntmps33
  try go_wp2_with (first | ((with_reducible refine gate_dst (N := 2) rfl ?_); refine bx 2 #[.int .i64 a0_0, .int .i64 a0_1, .slice A0_2 l0_2.length c0_2, .slice A0_3 l0_3.length c0_3, .slice A0_4 l0_4.length c0_4] 30 ?_; intro gb231 hg w8 hbox hb; have BK231 := am hbox; have GW231 := gs0 hg HB; have GE231 := gs0 hg HB; replace HB := s0 HB hb; clear hb hbox hg) | ((with_reducible refine gate_dst (N := 4) rfl ?_); refine bx 4 #[.int .i64 0, .int .i64 0, .slice none 0 0, .slice none 0 0, .slice none 0 0] 30 ?_; intro gb232 hg w9 hbox hb; have BK232 := am hbox; have GW232 := gs1 hg HB GE231; have GE232 := gs1 hg HB GE231; replace HB := Aside0.mk (below_step (be1 HB GE231) hb); have NB231_232 := Aside0.mk ((by rw [hg]; exact Nat.ne_of_lt (bl BK231) : gb231 ≠ gb232)); have NB232_231 := Aside0.mk ((by rw [hg]; exact Nat.ne_of_gt (bl BK231) : gb232 ≠ gb231)); replace BK231 := bb BK231 hb; clear hb hbox hg; have hnb10 := NB231_232.out; have hnc10 := NB232_231.out; have hcz11_0 := bz5 BK231) | ((with_reducible refine gate_callee (f := 17) rfl ?_); refine gl 8 Try.func17 #[.agg #[.int .i64 a0_0, .int .i64 a0_1, .slice A0_2 l0_2.length c0_2, .slice A0_3 l0_3.length c0_3, .slice A0_4 l0_4.length c0_4]] ?_; (with_reducible refine (spec_ThreeOk.calls k a0_0 a0_1 _ _ l0_2 _ _ l0_3 _ _ l0_4 true _ (cb HR0_2 HB) HC0_2.out (cb HR0_3 HB) HC0_3.out (cb HR0_4 HB) HC0_4.out A3.out).mono ?_); rintro e w12 ⟨rfl, hb⟩; refine ⟨_, rfl, ?_⟩; replace BK231 := bb BK231 hb; replace BK232 := bb BK232 hb; replace HB := Aside0.mk (below_step (be2 HB GE231 GE232) hb); (try clear hb); have hcz13_0 := bz5 BK231) | ((with_reducible refine gate_callee (f := 83) rfl ?_); refine gl 12 Try.func83 #[.agg #[.int .i64 a0_0, .int .i64 a0_1, .slice A0_2 l0_2.length c0_2, .slice A0_3 l0_3.length c0_3, .slice A0_4 l0_4.length c0_4]] ?_; (with_reducible refine (spec_l10Copy.calls a0_0 a0_1 _ _ l0_2 _ _ l0_3 _ _ l0_4 t234 t235 t236 t239 t242 _ (cb HR0_2 HB) HC0_2.out (cb HR0_3 HB) HC0_3.out (cb HR0_4 HB) HC0_4.out A5.out).mono ?_); rintro e w14 ⟨v237, v240, v243, rfl, ho0, ho1, ho2, hb⟩; refine ⟨_, rfl, ?_⟩; have HO238 := Aside0.mk (Kd.R_lower ho0 (below_size (be2 HB GE231 GE232))); have HO241 := Aside0.mk (Kd.R_lower ho1 (below_size (be2 HB GE231 GE232))); have HO244 := Aside0.mk (Kd.R_lower ho2 (below_size (be2 HB GE231 GE232))); replace BK231 := bb BK231 hb; replace BK232 := bb BK232 hb; replace HB := Aside0.mk (below_step (be2 HB GE231 GE232) hb); (try clear hb); (try clear ho0); (try clear ho1); (try clear ho2)) | ((with_reducible refine gate_dst (N := 6) rfl ?_); refine bx 6 #[.int .i64 0, .int .i64 0, .slice none 0 0, .slice none 0 0, .slice none 0 0] 30 ?_; intro gb245 hg w15 hbox hb; replace HO238 := rb HO238 hb; replace HO241 := rb HO241 hb; replace HO244 := rb HO244 hb; have BK245 := am hbox; have GW245 := gs2 hg HB GE231 GE232; have GE245 := gs2 hg HB GE231 GE232; replace HB := Aside0.mk (below_step (be2 HB GE231 GE232) hb); have NB231_245 := Aside0.mk ((by rw [hg]; exact Nat.ne_of_lt (bl BK231) : gb231 ≠ gb245)); have NB245_231 := Aside0.mk ((by rw [hg]; exact Nat.ne_of_gt (bl BK231) : gb245 ≠ gb231)); replace BK231 := bb BK231 hb; have NB232_245 := Aside0.mk ((by rw [hg]; exact Nat.ne_of_lt (bl BK232) : gb232 ≠ gb245)); have NB245_232 := Aside0.mk ((by rw [hg]; exact Nat.ne_of_gt (bl BK232) : gb245 ≠ gb232)); replace BK232 := bb BK232 hb; clear hb hbox hg; have hnb16 := NB245_231.out; have hnc16 := NB231_245.out; have hnb17 := NB245_232.out; have hnc17 := NB232_245.out; have hcz18_0 := bz5 BK245; obtain ⟨Ao19, co19, eo19⟩ := Kd.R_slice HO238.out; subst eo19; obtain ⟨Ao20, co20, eo20⟩ := Kd.R_slice HO241.out; subst eo20; obtain ⟨Ao21, co21, eo21⟩ := Kd.R_slice HO244.out; subst eo21) | ((with_reducible refine gate_callee (f := 86) rfl ?_); refine gl 16 Try.func86 #[.slice Ao19 t236.length co19, .string a1] ?_; (with_reducible refine (spec_l10Without.calls k _ _ t236 a1 t246 _ ?side1 ((Kd.R_reads' HO238.out).2.1) A6.out).mono ?_); (case side1 => exact rfr _ HO238 BK245); rintro e w22 ⟨v247, rfl, ho0, hb⟩; refine ⟨_, rfl, ?_⟩; replace HO244 := Aside0.mk (Kd.R_below (rf HO244 BK245) hb); have HO248 := Aside0.mk (Kd.R_lower (Kd.R_new' (Kd.R_new' ho0 (Kd.R_lt (rf HO238 BK245))) (Kd.R_lt (rf HO241 BK245))) (below_size (be3 HB GE231 GE232 GE245))); replace HO238 := Aside0.mk (Kd.R_elder' (rf HO238 BK245) (Kd.R_base ho0) hb); replace HO241 := Aside0.mk (Kd.R_elder' (rf HO241 BK245) (Kd.R_base ho0) hb); replace BK231 := Aside0.mk (blk_below (g := gb231) (o := .cells #[.int .i64 a0_0, .int .i64 a0_1, .slice A0_2 l0_2.length c0_2, .slice A0_3 l0_3.length c0_3, .slice A0_4 l0_4.length c0_4] 30 (0, 0)) (bf1 BK231 NB231_245) hb); replace BK232 := Aside0.mk (blk_below (g := gb232) (o := .cells #[.int .i64 0, .int .i64 0, .slice none 0 0, .slice none 0 0, .slice none 0 0] 30 (0, 0)) (bf1 BK232 NB232_245) hb); replace BK245 := Aside0.mk (blk_below (g := gb245) (o := .cells #[.int .i64 t234, .int .i64 t235, .slice Ao19 t236.length co19, .slice Ao20 t239.length co20, .slice Ao21 t242.length co21] 30 (0, 0)) (by (with_reducible repeat (first | refine blk_drewN ?_ _ | refine blk_drew ?_ | refine blk_alloc ?_ _)); refine blk_put (cs := #[.int .i64 t234, .int .i64 t235, .slice Ao19 t236.length co19, .slice Ao20 t239.length co20, .slice none 0 0]) ?_ 4 _ rfl; (with_reducible repeat (first | refine blk_drewN ?_ _ | refine blk_drew ?_ | refine blk_alloc ?_ _)); refine blk_put (cs := #[.int .i64 t234, .int .i64 t235, .slice Ao19 t236.length co19, .slice none 0 0, .slice none 0 0]) ?_ 3 _ rfl; (with_reducible repeat (first | refine blk_drewN ?_ _ | refine blk_drew ?_ | refine blk_alloc ?_ _)); refine blk_put (cs := #[.int .i64 t234, .int .i64 t235, .slice none 0 0, .slice none 0 0, .slice none 0 0]) ?_ 2 _ rfl; (with_reducible repeat (first | refine blk_drewN ?_ _ | refine blk_drew ?_ | refine blk_alloc ?_ _)); refine blk_put (cs := #[.int .i64 t234, .int .i64 0, .slice none 0 0, .slice none 0 0, .slice none 0 0]) ?_ 1 _ rfl; (with_reducible repeat (first | refine blk_drewN ?_ _ | refine blk_drew ?_ | refine blk_alloc ?_ _)); refine blk_put (cs := #[.int .i64 0, .int .i64 0, .slice none 0 0, .slice none 0 0, .slice none 0 0]) ?_ 0 _ rfl; (with_reducible repeat (first | refine blk_drewN ?_ _ | refine blk_drew ?_ | refine blk_alloc ?_ _)); exact BK245.out) hb); replace HB := Aside0.mk (below_step (be3 HB GE231 GE232 GE245) hb); (try clear hb); (try clear ho0); obtain ⟨Ao23, co23, eo23⟩ := Kd.R_slice HO248.out; subst eo23; have hcz24_0 := bz5 BK245) | ((with_reducible refine gate_callee (f := 86) rfl ?_); refine gl 21 Try.func86 #[.slice Ao20 t239.length co20, .string a1] ?_; (with_reducible refine (spec_l10Without.calls k _ _ t239 a1 t249 _ ?side1 ((Kd.R_reads' HO241.out).2.1) A7.out).mono ?_); (case side1 => exact rfr _ HO241 BK245); rintro e w25 ⟨v250, rfl, ho0, hb⟩; refine ⟨_, rfl, ?_⟩; replace HO244 := Aside0.mk (Kd.R_below (rf HO244 BK245) hb); have HO251 := Aside0.mk (Kd.R_lower (Kd.R_new' (Kd.R_new' (Kd.R_new' ho0 (Kd.R_lt (rf HO238 BK245))) (Kd.R_lt (rf HO241 BK245))) (Kd.R_lt (rf HO248 BK245))) (below_size (be3 HB GE231 GE232 GE245))); replace HO238 := Aside0.mk (Kd.R_elder' (rf HO238 BK245) (Kd.R_base ho0) hb); replace HO241 := Aside0.mk (Kd.R_elder' (rf HO241 BK245) (Kd.R_base ho0) hb); replace HO248 := Aside0.mk (Kd.R_elder' (rf HO248 BK245) (Kd.R_base ho0) hb); replace BK231 := Aside0.mk (blk_below (g := gb231) (o := .cells #[.int .i64 a0_0, .int .i64 a0_1, .slice A0_2 l0_2.length c0_2, .slice A0_3 l0_3.length c0_3, .slice A0_4 l0_4.length c0_4] 30 (0, 0)) (bf1 BK231 NB231_245) hb); replace BK232 := Aside0.mk (blk_below (g := gb232) (o := .cells #[.int .i64 0, .int .i64 0, .slice none 0 0, .slice none 0 0, .slice none 0 0] 30 (0, 0)) (bf1 BK232 NB232_245) hb); replace BK245 := Aside0.mk (blk_below (g := gb245) (o := .cells #[.int .i64 t234, .int .i64 t235, .slice Ao23 t246.length co23, .slice Ao20 t239.length co20, .slice Ao21 t242.length co21] 30 (0, 0)) (by (with_reducible repeat (first | refine blk_drewN ?_ _ | refine blk_drew ?_ | refine blk_alloc ?_ _)); refine blk_put (cs := #[.int .i64 t234, .int .i64 t235, .slice Ao19 t236.length co19, .slice Ao20 t239.length co20, .slice Ao21 t242.length co21]) ?_ 2 _ rfl; (with_reducible repeat (first | refine blk_drewN ?_ _ | refine blk_drew ?_ | refine blk_alloc ?_ _)); exact BK245.out) hb); replace HB := Aside0.mk (below_step (be3 HB GE231 GE232 GE245) hb); (try clear hb); (try clear ho0); obtain ⟨Ao26, co26, eo26⟩ := Kd.R_slice HO251.out; subst eo26; have hcz27_0 := bz5 BK245))
  have n0_ : Aside0 (Kd.R k68 68 (w25.setCell ⟨gb245, 3, none⟩ (.slice Ao26 t249.length co26)) w.heap.size (fun k_ => nb k_ Ao20 t239.length co20 ∧ nb k_ Ao23 t246.length co23 ∧ nb k_ Ao26 t249.length co26) (.slice Ao19 t236.length co19) t236) := ⟨by (with_reducible repeat (first | apply Kd.R_alloc | apply Kd.R_drewN | apply Kd.R_drew)); exact Kd.R_mono (Kd.R_far (p := ⟨gb245, 3, none⟩) (Kd.R_types HO238.out BK245.out (by decide)) (fun _ hk => hk.2) (.slice Ao26 t249.length co26)) (fun _ hk => ⟨hk.1.1.1, ⟨hk.1.1.2, hk.1.2⟩⟩)⟩
  have n1_ : Aside0 (Kd.R k68 68 (w25.setCell ⟨gb245, 3, none⟩ (.slice Ao26 t249.length co26)) w.heap.size (fun k_ => nb k_ Ao19 t236.length co19 ∧ nb k_ Ao23 t246.length co23 ∧ nb k_ Ao26 t249.length co26) (.slice Ao20 t239.length co20) t239) := ⟨by (with_reducible repeat (first | apply Kd.R_alloc | apply Kd.R_drewN | apply Kd.R_drew)); exact Kd.R_mono (Kd.R_far (p := ⟨gb245, 3, none⟩) (Kd.R_types HO241.out BK245.out (by decide)) (fun _ hk => hk.2) (.slice Ao26 t249.length co26)) (fun _ hk => ⟨hk.1.1.1, ⟨hk.1.1.2, hk.1.2⟩⟩)⟩
  have n2_ : Aside0 (Kd.R (Kd.int .i64) 3 (w25.setCell ⟨gb245, 3, none⟩ (.slice Ao26 t249.length co26)) w.heap.size (fun _ => True) (.slice Ao21 t242.length co21) t242) := ⟨by (with_reducible repeat (first | apply Kd.R_alloc | apply Kd.R_drewN | apply Kd.R_drew)); exact Kd.R_mono (Kd.R_far (p := ⟨gb245, 3, none⟩) (Kd.R_types HO244.out BK245.out (by decide)) (fun _ hk => hk.2) (.slice Ao26 t249.length co26)) (fun _ hk => trivial)⟩
  have n3_ : Aside0 (Kd.R k68 68 (w25.setCell ⟨gb245, 3, none⟩ (.slice Ao26 t249.length co26)) w.heap.size (fun k_ => nb k_ Ao19 t236.length co19 ∧ nb k_ Ao20 t239.length co20 ∧ nb k_ Ao26 t249.length co26) (.slice Ao23 t246.length co23) t246) := ⟨by (with_reducible repeat (first | apply Kd.R_alloc | apply Kd.R_drewN | apply Kd.R_drew)); exact Kd.R_mono (Kd.R_far (p := ⟨gb245, 3, none⟩) (Kd.R_types HO248.out BK245.out (by decide)) (fun _ hk => hk.2) (.slice Ao26 t249.length co26)) (fun _ hk => ⟨hk.1.1.1.2, ⟨hk.1.1.2, hk.1.2⟩⟩)⟩
  have n4_ : Aside0 (Kd.R k68 68 (w25.setCell ⟨gb245, 3, none⟩ (.slice Ao26 t249.length co26)) w.heap.size (fun k_ => nb k_ Ao19 t236.length co19 ∧ nb k_ Ao20 t239.length co20 ∧ nb k_ Ao23 t246.length co23) (.slice Ao26 t249.length co26) t249) := ⟨by (with_reducible repeat (first | apply Kd.R_alloc | apply Kd.R_drewN | apply Kd.R_drew)); exact Kd.R_mono (Kd.R_far (p := ⟨gb245, 3, none⟩) (Kd.R_types HO251.out BK245.out (by decide)) (fun _ hk => hk.2) (.slice Ao26 t249.length co26)) (fun _ hk => ⟨hk.1.1.1.2, ⟨hk.1.1.2, hk.1.2⟩⟩)⟩
  have n5_ : Aside0 ((w25.setCell ⟨gb245, 3, none⟩ (.slice Ao26 t249.length co26)).heap[gb231]? = some (.cells #[.int .i64 a0_0, .int .i64 a0_1, .slice A0_2 l0_2.length c0_2, .slice A0_3 l0_3.length c0_3, .slice A0_4 l0_4.length c0_4] 30 (0, 0))) := ⟨by (with_reducible repeat (first | refine blk_drewN ?_ _ | refine blk_drew ?_ | refine blk_alloc ?_ _)); refine blk_far ?_ NB231_245.out _; (with_reducible repeat (first | refine blk_drewN ?_ _ | refine blk_drew ?_ | refine blk_alloc ?_ _)); exact BK231.out⟩
  have n6_ : Aside0 ((w25.setCell ⟨gb245, 3, none⟩ (.slice Ao26 t249.length co26)).heap[gb232]? = some (.cells #[.int .i64 0, .int .i64 0, .slice none 0 0, .slice none 0 0, .slice none 0 0] 30 (0, 0))) := ⟨by (with_reducible repeat (first | refine blk_drewN ?_ _ | refine blk_drew ?_ | refine blk_alloc ?_ _)); refine blk_far ?_ NB232_245.out _; (with_reducible repeat (first | refine blk_drewN ?_ _ | refine blk_drew ?_ | refine blk_alloc ?_ _)); exact BK232.out⟩
  have n7_ : Aside0 ((w25.setCell ⟨gb245, 3, none⟩ (.slice Ao26 t249.length co26)).heap[gb245]? = some (.cells #[.int .i64 t234, .int .i64 t235, .slice Ao23 t246.length co23, .slice Ao26 t249.length co26, .slice Ao21 t242.length co21] 30 (0, 0))) := ⟨by (with_reducible repeat (first | refine blk_drewN ?_ _ | refine blk_drew ?_ | refine blk_alloc ?_ _)); refine blk_put (cs := #[.int .i64 t234, .int .i64 t235, .slice Ao23 t246.length co23, .slice Ao20 t239.length co20, .slice Ao21 t242.length co21]) ?_ 3 _ rfl; (with_reducible repeat (first | refine blk_drewN ?_ _ | refine blk_drew ?_ | refine blk_alloc ?_ _)); exact BK245.out⟩
  have n8_ : Aside0 (Below w.heap.size w (w25.setCell ⟨gb245, 3, none⟩ (.slice Ao26 t249.length co26))) := ⟨be3 HB GE231 GE232 GE245⟩
  (try clear HO238)
  (try clear HO241)
  (try clear HO244)
  (try clear HO248)
  (try clear HO251)
  (try clear BK231)
  (try clear BK232)
  (try clear BK245)
  (try clear HB)
  generalize (w25.setCell ⟨gb245, 3, none⟩ (.slice Ao26 t249.length co26)) = w28 at n0_ n1_ n2_ n3_ n4_ n5_ n6_ n7_ n8_ ⊢
  have HO238 := n0_
  have HO241 := n1_
  have HO244 := n2_
  have HO248 := n3_
  have HO251 := n4_
  have BK231 := n5_
  have BK232 := n6_
  have BK245 := n7_
  have HB := n8_
  clear n0_ n1_ n2_ n3_ n4_ n5_ n6_ n7_ n8_
  have n0_ := Aside0.mk (Kd.R_drew HO238.out)
  have n1_ := Aside0.mk (Kd.R_drew HO241.out)
  have n2_ := Aside0.mk (Kd.R_drew HO244.out)
  have n3_ := Aside0.mk (Kd.R_drew HO248.out)
  have n4_ := Aside0.mk (Kd.R_drew HO251.out)
  have n5_ := Aside0.mk (blk_drew BK231.out)
  have n6_ := Aside0.mk (blk_drew BK232.out)
  have n7_ := Aside0.mk (blk_drew BK245.out)
  have n8_ := Aside0.mk (below_drew1 HB.out)
  clear HO238
  clear HO241
  clear HO244
  clear HO248
  clear HO251
  clear BK231
  clear BK232
  clear BK245
  clear HB
  have HO238 := n0_
  have HO241 := n1_
  have HO244 := n2_
  have HO248 := n3_
  have HO251 := n4_
  have BK231 := n5_
  have BK232 := n6_
  have BK245 := n7_
  have HB := n8_
  clear n0_ n1_ n2_ n3_ n4_ n5_ n6_ n7_ n8_
  refine start_ (n := 18) (S := fun w' => w'.cell? ⟨gb245, 0, none⟩ = some (.int .i64 t234) ∧ w'.cell? ⟨gb245, 1, none⟩ = some (.int .i64 t235) ∧ w'.cell? ⟨gb245, 2, none⟩ = some (.slice Ao23 t246.length co23) ∧ w'.cell? ⟨gb245, 3, none⟩ = some (.slice Ao26 t249.length co26) ∧ w'.cell? ⟨gb245, 4, none⟩ = some (.slice Ao21 t242.length co21) ∧ w'.cell? ⟨gb231, 0, none⟩ = some (.int .i64 a0_0) ∧ w'.cell? ⟨gb231, 1, none⟩ = some (.int .i64 a0_1) ∧ w'.cell? ⟨gb231, 2, none⟩ = some (.slice A0_2 l0_2.length c0_2) ∧ w'.cell? ⟨gb231, 3, none⟩ = some (.slice A0_3 l0_3.length c0_3) ∧ w'.cell? ⟨gb231, 4, none⟩ = some (.slice A0_4 l0_4.length c0_4)) (ds := []) (bv 18 0x0) (by kernel_rfl) rfl rfl ⟨bc0 BK245, bc1 BK245, bc2 BK245, bc3 BK245, bc4 BK245, bc0 BK231, bc1 BK231, bc2 BK231, bc3 BK231, bc4 BK231⟩ (fun hHeld => ?_); refine with_tabW spec_Drop.tab6 spec_Drop.bits6 (fun HT_ HW_ => ?_)
  generalize w28.drew = w29 at HO238 HO241 HO244 HO248 HO251 BK231 BK232 BK245 HB hHeld ⊢
  refine py HT_ 1 24 (bv 18 0x2) ?_
  refine py HT_ 4 27 (bv 18 0x12) ?_
  refine py HT_ 8 31 (bv 18 0x112) ?_
  refine py HT_ 11 34 (bv 18 0x912) ?_
  refine tk HT_ HW_ hHeld 0 23 (bv 18 0x913) ?_
  refine tk HT_ HW_ hHeld 2 25 (bv 18 0x917) ?_
  refine py HT_ 3 26 (bv 18 0x91f) ?_
  refine tk HT_ HW_ hHeld 5 28 (bv 18 0x93f) ?_
  refine py HT_ 6 29 (bv 18 0x97f) ?_
  refine py HT_ 7 30 (bv 18 0x9ff) ?_
  refine tk HT_ HW_ hHeld 9 32 (bv 18 0xbff) ?_
  refine py HT_ 10 33 (bv 18 0xfff) ?_
  refine tk HT_ HW_ hHeld 12 35 (bv 18 0x1fff) ?_
  refine py HT_ 13 36 (bv 18 0x3fff) ?_
  refine py HT_ 14 37 (bv 18 0x7fff) ?_
  refine py HT_ 15 38 (bv 18 0xffff) ?_
  refine one_ (i := 16) (N := none) (bv 18 0x1ffff) rfl rfl (one_of HT_.out (by kernel_rfl)) (by decide) (fun K hK => ?_)
  have hs30 : w29.cell? ⟨gb232, 0, none⟩ = some (.int .i64 0) := bc0 BK232
  have hfs30 := blk_frozen BK232.out 0
  have hns30_0 := NB231_232.out
  have hns30_2 := NB245_232.out
  have hms30_0 := NB232_231.out
  have hms30_2 := NB232_245.out
  have hs31 : w29.cell? ⟨gb232, 1, none⟩ = some (.int .i64 0) := bc1 BK232
  have hfs31 := blk_frozen BK232.out 1
  have hns31_0 := NB231_232.out
  have hns31_2 := NB245_232.out
  have hms31_0 := NB232_231.out
  have hms31_2 := NB232_245.out
  have hs32 : w29.cell? ⟨gb232, 2, none⟩ = some (.slice none 0 0) := bc2 BK232
  have hfs32 := blk_frozen BK232.out 2
  have hns32_0 := NB231_232.out
  have hns32_2 := NB245_232.out
  have hms32_0 := NB232_231.out
  have hms32_2 := NB232_245.out
  have hs33 : w29.cell? ⟨gb232, 3, none⟩ = some (.slice none 0 0) := bc3 BK232
  have hfs33 := blk_frozen BK232.out 3
  have hns33_0 := NB231_232.out
  have hns33_2 := NB245_232.out
  have hms33_0 := NB232_231.out
  have hms33_2 := NB232_245.out
  have hs34 : w29.cell? ⟨gb232, 4, none⟩ = some (.slice none 0 0) := bc4 BK232
  have hfs34 := blk_frozen BK232.out 4
  have hns34_0 := NB231_232.out
  have hns34_2 := NB245_232.out
  have hms34_0 := NB232_231.out
  have hms34_2 := NB232_245.out
  refine skip_ (w1 := ?_) (by rfl) rfl ?_ ?_
  rotate_left
  ·go_simp
   rfl
  refine hK.out _ _ ⟨((cell_far (p := ⟨gb232, _, none⟩) NB245_232.out _).trans (((cell_far (p := ⟨gb232, _, none⟩) NB245_232.out _).trans (((cell_far (p := ⟨gb232, _, none⟩) NB245_232.out _).trans (((cell_far (p := ⟨gb232, _, none⟩) NB245_232.out _).trans (((cell_far (p := ⟨gb232, _, none⟩) NB245_232.out _).trans (hHeld.1)))))))))), ((cell_far (p := ⟨gb232, _, none⟩) NB245_232.out _).trans (((cell_far (p := ⟨gb232, _, none⟩) NB245_232.out _).trans (((cell_far (p := ⟨gb232, _, none⟩) NB245_232.out _).trans (((cell_far (p := ⟨gb232, _, none⟩) NB245_232.out _).trans (((cell_far (p := ⟨gb232, _, none⟩) NB245_232.out _).trans (hHeld.2.1)))))))))), ((cell_far (p := ⟨gb232, _, none⟩) NB245_232.out _).trans (((cell_far (p := ⟨gb232, _, none⟩) NB245_232.out _).trans (((cell_far (p := ⟨gb232, _, none⟩) NB245_232.out _).trans (((cell_far (p := ⟨gb232, _, none⟩) NB245_232.out _).trans (((cell_far (p := ⟨gb232, _, none⟩) NB245_232.out _).trans (hHeld.2.2.1)))))))))), ((cell_far (p := ⟨gb232, _, none⟩) NB245_232.out _).trans (((cell_far (p := ⟨gb232, _, none⟩) NB245_232.out _).trans (((cell_far (p := ⟨gb232, _, none⟩) NB245_232.out _).trans (((cell_far (p := ⟨gb232, _, none⟩) NB245_232.out _).trans (((cell_far (p := ⟨gb232, _, none⟩) NB245_232.out _).trans (hHeld.2.2.2.1)))))))))), ((cell_far (p := ⟨gb232, _, none⟩) NB245_232.out _).trans (((cell_far (p := ⟨gb232, _, none⟩) NB245_232.out _).trans (((cell_far (p := ⟨gb232, _, none⟩) NB245_232.out _).trans (((cell_far (p := ⟨gb232, _, none⟩) NB245_232.out _).trans (((cell_far (p := ⟨gb232, _, none⟩) NB245_232.out _).trans (hHeld.2.2.2.2.1)))))))))), ((cell_far (p := ⟨gb232, _, none⟩) NB231_232.out _).trans (((cell_far (p := ⟨gb232, _, none⟩) NB231_232.out _).trans (((cell_far (p := ⟨gb232, _, none⟩) NB231_232.out _).trans (((cell_far (p := ⟨gb232, _, none⟩) NB231_232.out _).trans (((cell_far (p := ⟨gb232, _, none⟩) NB231_232.out _).trans (hHeld.2.2.2.2.2.1)))))))))), ((cell_far (p := ⟨gb232, _, none⟩) NB231_232.out _).trans (((cell_far (p := ⟨gb232, _, none⟩) NB231_232.out _).trans (((cell_far (p := ⟨gb232, _, none⟩) NB231_232.out _).trans (((cell_far (p := ⟨gb232, _, none⟩) NB231_232.out _).trans (((cell_far (p := ⟨gb232, _, none⟩) NB231_232.out _).trans (hHeld.2.2.2.2.2.2.1)))))))))), ((cell_far (p := ⟨gb232, _, none⟩) NB231_232.out _).trans (((cell_far (p := ⟨gb232, _, none⟩) NB231_232.out _).trans (((cell_far (p := ⟨gb232, _, none⟩) NB231_232.out _).trans (((cell_far (p := ⟨gb232, _, none⟩) NB231_232.out _).trans (((cell_far (p := ⟨gb232, _, none⟩) NB231_232.out _).trans (hHeld.2.2.2.2.2.2.2.1)))))))))), ((cell_far (p := ⟨gb232, _, none⟩) NB231_232.out _).trans (((cell_far (p := ⟨gb232, _, none⟩) NB231_232.out _).trans (((cell_far (p := ⟨gb232, _, none⟩) NB231_232.out _).trans (((cell_far (p := ⟨gb232, _, none⟩) NB231_232.out _).trans (((cell_far (p := ⟨gb232, _, none⟩) NB231_232.out _).trans (hHeld.2.2.2.2.2.2.2.2.1)))))))))), ((cell_far (p := ⟨gb232, _, none⟩) NB231_232.out _).trans (((cell_far (p := ⟨gb232, _, none⟩) NB231_232.out _).trans (((cell_far (p := ⟨gb232, _, none⟩) NB231_232.out _).trans (((cell_far (p := ⟨gb232, _, none⟩) NB231_232.out _).trans (((cell_far (p := ⟨gb232, _, none⟩) NB231_232.out _).trans (hHeld.2.2.2.2.2.2.2.2.2))))))))))⟩ (fun hHeld => ?_)
  clear hK K
  refine py HT_ 17 5 (bv 18 0x3ffff) ?_
  refine done_ (done_of HT_.out (by kernel_rfl)) ?_
  try go_wp2
  refine bodyPost_ret (results_ct rfl _ _ gb232 30 #[.int .i64 t234, .int .i64 t235, .slice Ao23 t246.length co23, .slice Ao26 t249.length co26, .slice Ao21 t242.length co21] (0, 0) _ rfl (by (with_reducible repeat (first | refine blk_drewN ?_ _ | refine blk_drew ?_ | refine blk_alloc ?_ _)); refine blk_put (cs := #[.int .i64 t234, .int .i64 t235, .slice Ao23 t246.length co23, .slice Ao26 t249.length co26, .slice none 0 0]) ?_ 4 _ rfl; (with_reducible repeat (first | refine blk_drewN ?_ _ | refine blk_drew ?_ | refine blk_alloc ?_ _)); refine blk_put (cs := #[.int .i64 t234, .int .i64 t235, .slice Ao23 t246.length co23, .slice none 0 0, .slice none 0 0]) ?_ 3 _ rfl; (with_reducible repeat (first | refine blk_drewN ?_ _ | refine blk_drew ?_ | refine blk_alloc ?_ _)); refine blk_put (cs := #[.int .i64 t234, .int .i64 t235, .slice none 0 0, .slice none 0 0, .slice none 0 0]) ?_ 2 _ rfl; (with_reducible repeat (first | refine blk_drewN ?_ _ | refine blk_drew ?_ | refine blk_alloc ?_ _)); refine blk_put (cs := #[.int .i64 t234, .int .i64 0, .slice none 0 0, .slice none 0 0, .slice none 0 0]) ?_ 1 _ rfl; (with_reducible repeat (first | refine blk_drewN ?_ _ | refine blk_drew ?_ | refine blk_alloc ?_ _)); refine blk_put (cs := #[.int .i64 0, .int .i64 0, .slice none 0 0, .slice none 0 0, .slice none 0 0]) ?_ 0 _ rfl; (with_reducible repeat (first | refine blk_drewN ?_ _ | refine blk_drew ?_ | refine blk_alloc ?_ _)); exact BK232.out) Try.underlying30 rfl (by kernel_rfl)) rfl ?_
  exact ⟨_, _, _, er, by (with_reducible repeat (first | apply Kd.R_alloc | apply Kd.R_drewN | apply Kd.R_drew)); exact Kd.R_mono (Kd.R_far (p := ⟨gb232, 4, none⟩) (Kd.R_far (p := ⟨gb232, 3, none⟩) (Kd.R_far (p := ⟨gb232, 2, none⟩) (Kd.R_far (p := ⟨gb232, 1, none⟩) (Kd.R_far (p := ⟨gb232, 0, none⟩) (Kd.R_types HO248.out BK232.out (by decide)) (fun _ hk => hk.2) (.int .i64 t234)) (fun _ hk => hk.2) (.int .i64 t235)) (fun _ hk => hk.2) (.slice Ao23 t246.length co23)) (fun _ hk => hk.2) (.slice Ao26 t249.length co26)) (fun _ hk => hk.2) (.slice Ao21 t242.length co21)) (fun _ hk => hk.1.2.2), by (with_reducible repeat (first | apply Kd.R_alloc | apply Kd.R_drewN | apply Kd.R_drew)); exact Kd.R_mono (Kd.R_far (p := ⟨gb232, 4, none⟩) (Kd.R_far (p := ⟨gb232, 3, none⟩) (Kd.R_far (p := ⟨gb232, 2, none⟩) (Kd.R_far (p := ⟨gb232, 1, none⟩) (Kd.R_far (p := ⟨gb232, 0, none⟩) (Kd.R_types HO251.out BK232.out (by decide)) (fun _ hk => hk.2) (.int .i64 t234)) (fun _ hk => hk.2) (.int .i64 t235)) (fun _ hk => hk.2) (.slice Ao23 t246.length co23)) (fun _ hk => hk.2) (.slice Ao26 t249.length co26)) (fun _ hk => hk.2) (.slice Ao21 t242.length co21)) (fun _ hk => hk.1.2.2), by (with_reducible repeat (first | apply Kd.R_alloc | apply Kd.R_drewN | apply Kd.R_drew)); exact Kd.R_mono (Kd.R_far (p := ⟨gb232, 4, none⟩) (Kd.R_far (p := ⟨gb232, 3, none⟩) (Kd.R_far (p := ⟨gb232, 2, none⟩) (Kd.R_far (p := ⟨gb232, 1, none⟩) (Kd.R_far (p := ⟨gb232, 0, none⟩) (Kd.R_types HO244.out BK232.out (by decide)) (fun _ hk => hk.2) (.int .i64 t234)) (fun _ hk => hk.2) (.int .i64 t235)) (fun _ hk => hk.2) (.slice Ao23 t246.length co23)) (fun _ hk => hk.2) (.slice Ao26 t249.length co26)) (fun _ hk => hk.2) (.slice Ao21 t242.length co21)) (fun _ hk => trivial), be3 HB GE231 GE232 GE245⟩
 replace c4 := Bool.eq_false_iff.mpr c4
 subst c4
 have H1 : (some (0, 0, ([] : List (S68)), ([] : List (S68)), ([] : List Int), false)) = some (r1, r2, r3, r4, r5, r6) := by rw [if_neg (show ¬ (false = true) by decide)] at H; exact H
 clear H
 have H := H1
 clear H1
 simp only [Option.some.injEq, Prod.mk.injEq] at H
 obtain ⟨rfl, rfl, rfl, rfl, rfl, rfl⟩ := H
 go_enter Try.func33, Try.ntmps33
 go_wp2_with (first | ((with_reducible refine gate_dst (N := 2) rfl ?_); refine bx 2 #[.int .i64 a0_0, .int .i64 a0_1, .slice A0_2 l0_2.length c0_2, .slice A0_3 l0_3.length c0_3, .slice A0_4 l0_4.length c0_4] 30 ?_; intro gb231 hg w35 hbox hb; have BK231 := am hbox; have GW231 := gs0 hg HB; have GE231 := gs0 hg HB; replace HB := s0 HB hb; clear hb hbox hg) | ((with_reducible refine gate_dst (N := 4) rfl ?_); refine bx 4 #[.int .i64 0, .int .i64 0, .slice none 0 0, .slice none 0 0, .slice none 0 0] 30 ?_; intro gb232 hg w36 hbox hb; have BK232 := am hbox; have GW232 := gs1 hg HB GE231; have GE232 := gs1 hg HB GE231; replace HB := Aside0.mk (below_step (be1 HB GE231) hb); have NB231_232 := Aside0.mk ((by rw [hg]; exact Nat.ne_of_lt (bl BK231) : gb231 ≠ gb232)); have NB232_231 := Aside0.mk ((by rw [hg]; exact Nat.ne_of_gt (bl BK231) : gb232 ≠ gb231)); replace BK231 := bb BK231 hb; clear hb hbox hg; have hnb37 := NB231_232.out; have hnc37 := NB232_231.out; have hcz38_0 := bz5 BK231) | ((with_reducible refine gate_callee (f := 17) rfl ?_); refine gl 8 Try.func17 #[.agg #[.int .i64 a0_0, .int .i64 a0_1, .slice A0_2 l0_2.length c0_2, .slice A0_3 l0_3.length c0_3, .slice A0_4 l0_4.length c0_4]] ?_; (with_reducible refine (spec_ThreeOk.calls k a0_0 a0_1 _ _ l0_2 _ _ l0_3 _ _ l0_4 false _ (cb HR0_2 HB) HC0_2.out (cb HR0_3 HB) HC0_3.out (cb HR0_4 HB) HC0_4.out A3.out).mono ?_); rintro e w39 ⟨rfl, hb⟩; refine ⟨_, rfl, ?_⟩; replace BK231 := bb BK231 hb; replace BK232 := bb BK232 hb; replace HB := Aside0.mk (below_step (be2 HB GE231 GE232) hb); (try clear hb); have hcz40_0 := bz5 BK232))
 refine bodyPost_ret (results_ct rfl _ _ gb232 30 #[.int .i64 0, .int .i64 0, .slice none 0 0, .slice none 0 0, .slice none 0 0] (0, 0) _ rfl (by (with_reducible repeat (first | refine blk_drewN ?_ _ | refine blk_drew ?_ | refine blk_alloc ?_ _)); refine blk_put (cs := #[.int .i64 0, .int .i64 0, .slice none 0 0, .slice none 0 0, .slice none 0 0]) ?_ 4 _ rfl; (with_reducible repeat (first | refine blk_drewN ?_ _ | refine blk_drew ?_ | refine blk_alloc ?_ _)); refine blk_put (cs := #[.int .i64 0, .int .i64 0, .slice none 0 0, .slice none 0 0, .slice none 0 0]) ?_ 3 _ rfl; (with_reducible repeat (first | refine blk_drewN ?_ _ | refine blk_drew ?_ | refine blk_alloc ?_ _)); refine blk_put (cs := #[.int .i64 0, .int .i64 0, .slice none 0 0, .slice none 0 0, .slice none 0 0]) ?_ 2 _ rfl; (with_reducible repeat (first | refine blk_drewN ?_ _ | refine blk_drew ?_ | refine blk_alloc ?_ _)); refine blk_put (cs := #[.int .i64 0, .int .i64 0, .slice none 0 0, .slice none 0 0, .slice none 0 0]) ?_ 1 _ rfl; (with_reducible repeat (first | refine blk_drewN ?_ _ | refine blk_drew ?_ | refine blk_alloc ?_ _)); refine blk_put (cs := #[.int .i64 0, .int .i64 0, .slice none 0 0, .slice none 0 0, .slice none 0 0]) ?_ 0 _ rfl; (with_reducible repeat (first | refine blk_drewN ?_ _ | refine blk_drew ?_ | refine blk_alloc ?_ _)); exact BK232.out) Try.underlying30 rfl (by kernel_rfl)) rfl ?_
 exact ⟨_, _, _, er, by first | exact Kd.R_nil _ _ _ _ _ | exact Kd.N_nil _ _ _ _ _ | exact Kd.V_nil _ _ _ _ _ | exact Kd.Q_nil _ _ _ _ _ | exact Kd.S_nil _ _ _ _ _, by first | exact Kd.R_nil _ _ _ _ _ | exact Kd.N_nil _ _ _ _ _ | exact Kd.V_nil _ _ _ _ _ | exact Kd.Q_nil _ _ _ _ _ | exact Kd.S_nil _ _ _ _ _, by first | exact Kd.R_nil _ _ _ _ _ | exact Kd.N_nil _ _ _ _ _ | exact Kd.V_nil _ _ _ _ _ | exact Kd.Q_nil _ _ _ _ _ | exact Kd.S_nil _ _ _ _ _, be2 HB GE231 GE232⟩

/-! ### impl_within: function 64 -/
def impl_within.f (a0 : Int) (a1 : Int) (a2 : Int) : Option (Bool) := if a0 ≥ a1 then (some (decide (a0 ≤ a2))) else (some false)
set_option maxHeartbeats 8000000 in
set_option maxRecDepth 100000 in
theorem impl_within.calls (a0 : Int) (a1 : Int) (a2 : Int) (r : Bool) (w : World) (h : impl_within.f a0 a1 a2 = some r) :
  Calls Try.prog 64 #[.int .i64 a0, .int .i64 a1, .int .i64 a2] w fun e w' => e = .returned (.bool r) ∧ Drawn0 w w' := by
 have H : (if a0 ≥ a1 then (some (decide (a0 ≤ a2))) else (some false)) = some r := h
 clear h
 by_cases c4 : a0 ≥ a1
 ·rw [if_pos c4] at H
  have c4b0 : decide (a1 ≤ a0) = true := decide_eq_true c4
  clear c4
  obtain rfl := Option.some.inj H
  go_enter Try.func64, Try.ntmps64
  go_wp2
  go_ret
  exact ⟨by first | rfl | (simp; done) | (simp [*]; done), by repeat (first | exact Drawn0.refl _ | apply Drawn0.step)⟩
 rw [if_neg c4] at H
 have c4b0 : decide (a1 ≤ a0) = false := decide_eq_false c4
 clear c4
 obtain rfl := Option.some.inj H
 go_enter Try.func64, Try.ntmps64
 go_wp2
 go_ret
 exact ⟨by first | rfl | (simp; done) | (simp [*]; done), by repeat (first | exact Drawn0.refl _ | apply Drawn0.step)⟩

/-- A state of type 30 at block g of W; what its slices lead to came in by w0. -/
def IsS30 (w0 W : World) (g : Nat) (f0 : Int) (f1 : Int) (f2 : List (S68)) (f3 : List (S68)) (f4 : List Int) : Prop := ∃ A2 c2, ∃ A3 c3, ∃ A4 c4, W.heap[g]? = some (.cells #[.int .i64 f0, .int .i64 f1, .slice A2 f2.length c2, .slice A3 f3.length c3, .slice A4 f4.length c4] 30 (0, 0)) ∧ w0.heap.size ≤ g ∧ Kd.C k68 w0 A2 f2.length f2 ∧ Kd.C k68 w0 A3 f3.length f3 ∧ Kd.C (Kd.int .i64) w0 A4 f4.length f4
theorem IsS30.grown {w0 W : World} {g : Nat} {f0 : Int} {f1 : Int} {f2 : List (S68)} {f3 : List (S68)} {f4 : List Int} {W1 : World} {row : Option Nat} (h : IsS30 w0 W g f0 f1 f2 f3 f4) (hw : W.grownBy W1 row) (hne : some g ≠ row) : IsS30 w0 W1 g f0 f1 f2 f3 f4 := by
 obtain ⟨A2, c2, A3, c3, A4, c4, hb, hg, hr2, hr3, hr4⟩ := h
 exact ⟨A2, c2, A3, c3, A4, c4, blk_grown hb hw hne, hg, hr2, hr3, hr4⟩
theorem IsS30.own_neN {w0 W : World} {g : Nat} {f0 : Int} {f1 : Int} {f2 : List (S68)} {f3 : List (S68)} {f4 : List Int} {α : Type} {d : Kd α} {e : Nat} {base : Nat} {ok : Nat → Prop} {v : Value} {xs : List α} (h : IsS30 w0 W g f0 f1 f2 f3 f4) (ho : Kd.N d e W base ok v xs) (ht : e ≠ 30) : some g ≠ v.ownBlock := by
 obtain ⟨A2, c2, A3, c3, A4, c4, hb, hg, hr2, hr3, hr4⟩ := h
 exact Kd.N_ne ho hb ht
theorem IsS30.fresh {w0 W : World} {g : Nat} {f0 : Int} {f1 : Int} {f2 : List (S68)} {f3 : List (S68)} {f4 : List Int} (h : IsS30 w0 W g f0 f1 f2 f3 f4) : ∀ k, W.heap.size ≤ k → k ≠ g := by
 obtain ⟨A2, c2, A3, c3, A4, c4, hb, hg, hr2, hr3, hr4⟩ := h
 exact Kd.freshB hb
theorem IsS30.kept {w0 W : World} {g : Nat} {f0 : Int} {f1 : Int} {f2 : List (S68)} {f3 : List (S68)} {f4 : List Int} {W1 : World} {S : Nat → Prop} (h : IsS30 w0 W g f0 f1 f2 f3 f4) (hk : Kept W W1 S) (hne : ¬ S g) : IsS30 w0 W1 g f0 f1 f2 f3 f4 := by
 obtain ⟨A2, c2, A3, c3, A4, c4, hb, hg, hr2, hr3, hr4⟩ := h
 exact ⟨A2, c2, A3, c3, A4, c4, blk_kept hb hk hne, hg, hr2, hr3, hr4⟩
theorem IsS30.below {w0 W : World} {g : Nat} {f0 : Int} {f1 : Int} {f2 : List (S68)} {f3 : List (S68)} {f4 : List Int} {W1 : World} (h : IsS30 w0 W g f0 f1 f2 f3 f4) (hw : Below W.heap.size W W1) : IsS30 w0 W1 g f0 f1 f2 f3 f4 := h.grown (grown_of_below hw none) (by simp)
theorem IsS30.alloc {w0 W : World} {g : Nat} {f0 : Int} {f1 : Int} {f2 : List (S68)} {f3 : List (S68)} {f4 : List Int} (h : IsS30 w0 W g f0 f1 f2 f3 f4) (o : Obj) : IsS30 w0 (W.alloc o) g f0 f1 f2 f3 f4 := h.below (below_alloc (Below.refl _ _) o)
theorem IsS30.drewN {w0 W : World} {g : Nat} {f0 : Int} {f1 : Int} {f2 : List (S68)} {f3 : List (S68)} {f4 : List Int} (h : IsS30 w0 W g f0 f1 f2 f3 f4) (m : Nat) : IsS30 w0 (W.drewN m) g f0 f1 f2 f3 f4 := h
theorem IsS30.drew {w0 W : World} {g : Nat} {f0 : Int} {f1 : Int} {f2 : List (S68)} {f3 : List (S68)} {f4 : List Int} (h : IsS30 w0 W g f0 f1 f2 f3 f4) : IsS30 w0 W.drew g f0 f1 f2 f3 f4 := h
theorem IsS30.at_ {w0 W : World} {g : Nat} {f0 : Int} {f1 : Int} {f2 : List (S68)} {f3 : List (S68)} {f4 : List Int} {w' : World} {m : Nat} (hq : W.drewN m = w') (h : IsS30 w0 W g f0 f1 f2 f3 f4) : IsS30 w0 w' g f0 f1 f2 f3 f4 := by subst hq; exact IsS30.drewN h m
theorem IsS30.apart {w0 W : World} {g : Nat} {f0 : Int} {f1 : Int} {f2 : List (S68)} {f3 : List (S68)} {f4 : List Int} {α : Type} {d : Kd α} {e : Nat} {base : Nat} {ok : Nat → Prop} {v : Value} {xs : List α} (h : IsS30 w0 W g f0 f1 f2 f3 f4) (ho : d.R e W base ok v xs) (ht : ∀ q, q ∈ e :: d.E → q ≠ 30) : d.R e W base (fun k => ok k ∧ k ≠ g) v xs := by
 obtain ⟨A2, c2, A3, c3, A4, c4, hb, hg, hr2, hr3, hr4⟩ := h
 exact Kd.R_types ho hb ht
theorem IsS30.own_ne {w0 W : World} {g : Nat} {f0 : Int} {f1 : Int} {f2 : List (S68)} {f3 : List (S68)} {f4 : List Int} {α : Type} {d : Kd α} {e : Nat} {base : Nat} {ok : Nat → Prop} {v : Value} {xs : List α} (h : IsS30 w0 W g f0 f1 f2 f3 f4) (ho : d.R e W base ok v xs) (ht : e ≠ 30) : some g ≠ v.ownBlock := by
 obtain ⟨A2, c2, A3, c3, A4, c4, hb, hg, hr2, hr3, hr4⟩ := h
 exact Kd.R_ne ho hb ht
theorem IsS30.apartQ {w0 W : World} {g : Nat} {f0 : Int} {f1 : Int} {f2 : List (S68)} {f3 : List (S68)} {f4 : List Int} {α : Type} {d : Kd α} {e : Nat} {base : Nat} {ok : Nat → Prop} {v : Value} {xs : List α} (h : IsS30 w0 W g f0 f1 f2 f3 f4) (ho : d.Q e W base ok v xs) (ht : ∀ q, q ∈ e :: d.E → q ≠ 30) : d.Q e W base (fun k => ok k ∧ k ≠ g) v xs := by
 obtain ⟨A2, c2, A3, c3, A4, c4, hb, hg, hr2, hr3, hr4⟩ := h
 exact Kd.Q_types ho hb ht
theorem IsS30.own_neQ {w0 W : World} {g : Nat} {f0 : Int} {f1 : Int} {f2 : List (S68)} {f3 : List (S68)} {f4 : List Int} {α : Type} {d : Kd α} {e : Nat} {base : Nat} {ok : Nat → Prop} {v : Value} {xs : List α} (h : IsS30 w0 W g f0 f1 f2 f3 f4) (ho : d.Q e W base ok v xs) (ht : e ≠ 30) : some g ≠ v.ownBlock := by
 obtain ⟨A2, c2, A3, c3, A4, c4, hb, hg, hr2, hr3, hr4⟩ := h
 exact Kd.Q_ne ho hb ht
theorem IsS30.apartS {w0 W : World} {g : Nat} {f0 : Int} {f1 : Int} {f2 : List (S68)} {f3 : List (S68)} {f4 : List Int} {α : Type} {d : Kd α} {e : Nat} {base : Nat} {ok : Nat → Prop} {v : Value} {xs : List α} (h : IsS30 w0 W g f0 f1 f2 f3 f4) (ho : d.S e W base ok v xs) (ht : ∀ q, q ∈ e :: d.E → q ≠ 30) : d.S e W base (fun k => ok k ∧ k ≠ g) v xs := by
 obtain ⟨A2, c2, A3, c3, A4, c4, hb, hg, hr2, hr3, hr4⟩ := h
 exact Kd.S_types ho hb ht
theorem IsS30.own_neS {w0 W : World} {g : Nat} {f0 : Int} {f1 : Int} {f2 : List (S68)} {f3 : List (S68)} {f4 : List Int} {α : Type} {d : Kd α} {e : Nat} {base : Nat} {ok : Nat → Prop} {v : Value} {xs : List α} (h : IsS30 w0 W g f0 f1 f2 f3 f4) (ho : d.S e W base ok v xs) (ht : e ≠ 30) : some g ≠ v.ownBlock := by
 obtain ⟨A2, c2, A3, c3, A4, c4, hb, hg, hr2, hr3, hr4⟩ := h
 exact Kd.S_ne ho hb ht
theorem IsS30.lt {w0 W : World} {g : Nat} {f0 : Int} {f1 : Int} {f2 : List (S68)} {f3 : List (S68)} {f4 : List Int} (h : IsS30 w0 W g f0 f1 f2 f3 f4) : g < W.heap.size := by
 obtain ⟨A2, c2, A3, c3, A4, c4, hb, hg, hr2, hr3, hr4⟩ := h
 exact blk_lt hb
theorem IsS30.ge {w0 W : World} {g : Nat} {f0 : Int} {f1 : Int} {f2 : List (S68)} {f3 : List (S68)} {f4 : List Int} (h : IsS30 w0 W g f0 f1 f2 f3 f4) : w0.heap.size ≤ g := by
 obtain ⟨A2, c2, A3, c3, A4, c4, hb, hg, hr2, hr3, hr4⟩ := h
 exact hg
theorem IsS30.ne_blk {w0 W : World} {g : Nat} {f0 : Int} {f1 : Int} {f2 : List (S68)} {f3 : List (S68)} {f4 : List Int} {a : Nat} {cs : Array Value} {t : TypeId} {fr : Nat × Nat} (h : IsS30 w0 W g f0 f1 f2 f3 f4) (hb2 : W.heap[a]? = some (.cells cs t fr)) (ht : t ≠ 30) : g ≠ a := by
 obtain ⟨A2, c2, A3, c3, A4, c4, hb, hg, hr2, hr3, hr4⟩ := h
 rintro rfl
 rw [hb] at hb2
 injection hb2 with hb2
 injection hb2 with _ ht2
 exact ht ht2.symm
theorem IsS30.far {w0 W : World} {g : Nat} {f0 : Int} {f1 : Int} {f2 : List (S68)} {f3 : List (S68)} {f4 : List Int} {p : Addr} (h : IsS30 w0 W g f0 f1 f2 f3 f4) (hne : g ≠ p.block) (u : Value) : IsS30 w0 (W.setCell p u) g f0 f1 f2 f3 f4 := by
 obtain ⟨A2, c2, A3, c3, A4, c4, hb, hg, hr2, hr3, hr4⟩ := h
 exact ⟨A2, c2, A3, c3, A4, c4, blk_far hb hne u, hg, hr2, hr3, hr4⟩
theorem cellS30_0 {W : World} {g : Nat} {A2 : Option Addr} {c2 : Nat} {A3 : Option Addr} {c3 : Nat} {A4 : Option Addr} {c4 : Nat} {f0 : Int} {f1 : Int} {f2 : List (S68)} {f3 : List (S68)} {f4 : List Int} (h : W.heap[g]? = some (.cells #[.int .i64 f0, .int .i64 f1, .slice A2 f2.length c2, .slice A3 f3.length c3, .slice A4 f4.length c4] 30 (0, 0))) : W.cell? ⟨g, 0, none⟩ = some (.int .i64 f0) := (blk_cell h 0).trans rfl
theorem IsS30.set_0 {w0 W : World} {g : Nat} {f0 : Int} {f1 : Int} {f2 : List (S68)} {f3 : List (S68)} {f4 : List Int} (h : IsS30 w0 W g f0 f1 f2 f3 f4) (x : Int) : IsS30 w0 (W.setCell ⟨g, 0, none⟩ (.int .i64 x)) g x f1 f2 f3 f4 := by
 obtain ⟨A2, c2, A3, c3, A4, c4, hb, hg, hr2, hr3, hr4⟩ := h
 exact ⟨A2, c2, A3, c3, A4, c4, by simpa using blk_set hb 0 (.int .i64 x), hg, hr2, hr3, hr4⟩
theorem cellS30_1 {W : World} {g : Nat} {A2 : Option Addr} {c2 : Nat} {A3 : Option Addr} {c3 : Nat} {A4 : Option Addr} {c4 : Nat} {f0 : Int} {f1 : Int} {f2 : List (S68)} {f3 : List (S68)} {f4 : List Int} (h : W.heap[g]? = some (.cells #[.int .i64 f0, .int .i64 f1, .slice A2 f2.length c2, .slice A3 f3.length c3, .slice A4 f4.length c4] 30 (0, 0))) : W.cell? ⟨g, 1, none⟩ = some (.int .i64 f1) := (blk_cell h 1).trans rfl
theorem IsS30.set_1 {w0 W : World} {g : Nat} {f0 : Int} {f1 : Int} {f2 : List (S68)} {f3 : List (S68)} {f4 : List Int} (h : IsS30 w0 W g f0 f1 f2 f3 f4) (x : Int) : IsS30 w0 (W.setCell ⟨g, 1, none⟩ (.int .i64 x)) g f0 x f2 f3 f4 := by
 obtain ⟨A2, c2, A3, c3, A4, c4, hb, hg, hr2, hr3, hr4⟩ := h
 exact ⟨A2, c2, A3, c3, A4, c4, by simpa using blk_set hb 1 (.int .i64 x), hg, hr2, hr3, hr4⟩
theorem cellS30_2 {W : World} {g : Nat} {A2 : Option Addr} {c2 : Nat} {A3 : Option Addr} {c3 : Nat} {A4 : Option Addr} {c4 : Nat} {f0 : Int} {f1 : Int} {f2 : List (S68)} {f3 : List (S68)} {f4 : List Int} (h : W.heap[g]? = some (.cells #[.int .i64 f0, .int .i64 f1, .slice A2 f2.length c2, .slice A3 f3.length c3, .slice A4 f4.length c4] 30 (0, 0))) : W.cell? ⟨g, 2, none⟩ = some (.slice A2 f2.length c2) := (blk_cell h 2).trans rfl
theorem cellS30_3 {W : World} {g : Nat} {A2 : Option Addr} {c2 : Nat} {A3 : Option Addr} {c3 : Nat} {A4 : Option Addr} {c4 : Nat} {f0 : Int} {f1 : Int} {f2 : List (S68)} {f3 : List (S68)} {f4 : List Int} (h : W.heap[g]? = some (.cells #[.int .i64 f0, .int .i64 f1, .slice A2 f2.length c2, .slice A3 f3.length c3, .slice A4 f4.length c4] 30 (0, 0))) : W.cell? ⟨g, 3, none⟩ = some (.slice A3 f3.length c3) := (blk_cell h 3).trans rfl
theorem cellS30_4 {W : World} {g : Nat} {A2 : Option Addr} {c2 : Nat} {A3 : Option Addr} {c3 : Nat} {A4 : Option Addr} {c4 : Nat} {f0 : Int} {f1 : Int} {f2 : List (S68)} {f3 : List (S68)} {f4 : List Int} (h : W.heap[g]? = some (.cells #[.int .i64 f0, .int .i64 f1, .slice A2 f2.length c2, .slice A3 f3.length c3, .slice A4 f4.length c4] 30 (0, 0))) : W.cell? ⟨g, 4, none⟩ = some (.slice A4 f4.length c4) := (blk_cell h 4).trans rfl
theorem IsS30.new (w0 W : World) (A2 : Option Addr) (c2 : Nat) (A3 : Option Addr) (c3 : Nat) (A4 : Option Addr) (c4 : Nat) (f0 : Int) (f1 : Int) (f2 : List (S68)) (f3 : List (S68)) (f4 : List Int) (hB : Below w0.heap.size w0 W) (hr2 : Kd.C k68 w0 A2 f2.length f2) (hr3 : Kd.C k68 w0 A3 f3.length f3) (hr4 : Kd.C (Kd.int .i64) w0 A4 f4.length f4) : IsS30 w0 (W.alloc (.cells #[.int .i64 f0, .int .i64 f1, .slice A2 f2.length c2, .slice A3 f3.length c3, .slice A4 f4.length c4] 30)) W.heap.size f0 f1 f2 f3 f4 := ⟨A2, c2, A3, c3, A4, c4, by simpa using heap_alloc_new W _, hB.size, hr2, hr3, hr4⟩

/-! ### impl_Three_ghosts: function 65 -/
def impl_Three_ghosts.f (s0_0 : Int) (s0_1 : Int) (s0_2 : List (S68)) (s0_3 : List (S68)) (s0_4 : List Int) : Option (Int × Int × Int) := some (mx 1 (wrap64 (s0_0 - s0_1)), s0_0, s0_1)
set_option maxHeartbeats 8000000 in
set_option maxRecDepth 100000 in
theorem impl_Three_ghosts.calls (g : Nat) (s0_0 : Int) (s0_1 : Int) (s0_2 : List (S68)) (s0_3 : List (S68)) (s0_4 : List Int) (r1 : Int) (r2 : Int) (r3 : Int) (w0 w : World) (hI : IsS30 w0 w g s0_0 s0_1 s0_2 s0_3 s0_4) (hB : Below w0.heap.size w0 w) (h : impl_Three_ghosts.f s0_0 s0_1 s0_2 s0_3 s0_4 = some (r1, r2, r3)) :
  Calls Try.prog 65 #[.pointer (some ⟨g, 0, none⟩)] w fun e w' => e = .returned (.int .i64 r1) ∧ IsS30 w0 w' g r2 r3 s0_2 s0_3 s0_4 ∧ Below w0.heap.size w0 w' ∧ KeepBut w w' g none := by
 have HI0 := Aside0.mk hI
 have HK := Aside0.mk (KeepBut.refl w g none)
 have HL := Aside0.mk hB.size
 clear hI
 have HW0 := Aside0.mk hB.size
 have HB := Aside0.mk hB
 clear hB
 have H : (some (mx 1 (wrap64 (s0_0 - s0_1)), s0_0, s0_1)) = some (r1, r2, r3) := h
 clear h
 obtain ⟨ji2, hji2⟩ : ∃ j_ : Int, (mx 1 (wrap64 (s0_0 - s0_1))) = j_ := ⟨_, rfl⟩
 replace H : (some (ji2, s0_0, s0_1)) = some (r1, r2, r3) := by first | (rw [hji2] at H; exact H) | (simp only [hji2] at H ⊢; exact H)
 (try (have hji2l : 1 ≤ ji2 := by (rw [← hji2]; unfold mx; (repeat' split) <;> omega)))
 (try (have hji2m : 0 ≤ ji2 := by omega))
 have hji2_ : (if 1 < (wrap64 (s0_0 - s0_1)) then (wrap64 (s0_0 - s0_1)) else 1) = ji2 := hji2
 simp only [Option.some.injEq, Prod.mk.injEq] at H
 obtain ⟨rfl, rfl, rfl⟩ := H
 obtain ⟨ASz3_2, cSz3_2, ASz3_3, cSz3_3, ASz3_4, cSz3_4, HGz3, hgz3, HSz3_2, HSz3_3, HSz3_4⟩ := HI0.out
 have hcz3_0 := cellS30_0 HGz3
 have hcz3_1 := cellS30_1 HGz3
 have hcz3_2 := cellS30_2 HGz3
 have hcz3_3 := cellS30_3 HGz3
 have hcz3_4 := cellS30_4 HGz3
 have hfz3_0 := blk_frozen HGz3 0
 have hfz3_1 := blk_frozen HGz3 1
 clear HGz3 hgz3
 go_enter Try.func65, Try.ntmps65
 go_wp2
 repeat (go_quiet (fail); try go_wp2)
 go_ret
 exact ⟨by first | rfl | (simp [errW_none, errW_some] <;> rfl) | (simp only [← hji2]; first | rfl | (simp [errW_none, errW_some] <;> rfl)) | (simp [*, errW_none, errW_some] <;> rfl), by repeat (first | (with_reducible first | exact HI0.out | apply IsS30.alloc | apply IsS30.drewN | apply IsS30.drew | apply IsS30.set_0 | apply IsS30.set_1) | exact HI0.out), by repeat (first | (with_reducible first | exact HB.out | apply below_alloc | apply pw_below_drewN | apply below_drew1 | refine below_set ?_ (IsS30.ge HI0.out)) | exact HB.out), by repeat (first | (with_reducible first | exact HK.out | apply KeepBut.set_ | apply keep_drewN | apply keep_drew | apply keep_alloc) | exact HK.out)⟩

/-! ### impl_isNum: function 66 -/
def impl_isNum.f (a0 : Int) : Option (Bool) := (impl_within.f a0 0 4294967295).bind fun t252 => (some t252)
set_option maxHeartbeats 8000000 in
set_option maxRecDepth 100000 in
theorem impl_isNum.calls (a0 : Int) (r : Bool) (w : World) (h : impl_isNum.f a0 = some r) :
  Calls Try.prog 66 #[.int .i64 a0] w fun e w' => e = .returned (.bool r) ∧ Drawn0 w w' := by
 have H : ((impl_within.f a0 0 4294967295).bind fun t252 => (some t252)) = some r := h
 clear h
 replace H := Option.bind_eq_some_iff.mp H
 obtain ⟨t252, A20, H⟩ := H
 replace H : (some t252) = some r := H
 have A2 := Aside0.mk A20
 clear A20
 obtain rfl := Option.some.inj H
 go_enter Try.func66, Try.ntmps66
 go_wp2_with (first | ((with_reducible refine gate_callee (f := 64) rfl ?_); refine gl 4 Try.func64 #[.int .i64 a0, .int .i64 0, .int .i64 4294967295] ?_; (with_reducible refine (impl_within.calls a0 0 4294967295 t252 _ A2.out).mono ?_); rintro e w' ⟨rfl, ⟨nd, rfl⟩⟩; refine ⟨_, rfl, ?_⟩))
 go_ret
 exact ⟨by first | rfl | (simp; done) | (simp [*]; done), by repeat (first | exact Drawn0.refl _ | apply Drawn0.step)⟩

/-! ### slices_Index_int_int: function 110 -/
def slices_Index_int_int.l0 : Nat → List Int → Int → Int → Int → Option (Int)
 | 0, _, _, _, _ => none
 | k + 1, x0, x1, x7, x8 => if x8 < x7 then (if 0 ≤ x8 then (if x8 < (x0.length : Int) then (if x1 = (rd x0 x8) then (some x8) else (slices_Index_int_int.l0 k x0 x1 x7 (wrap64 (x8 + 1)))) else (none)) else (none)) else (some (-1))
def slices_Index_int_int.f (k : Nat) (l0 : List Int) (a1 : Int) : Option (Int) := slices_Index_int_int.l0 k l0 a1 (l0.length : Int) 0
theorem slices_Index_int_int.mono_l : ∀ k, (∀ y0 y1 y2 y3, LeO (slices_Index_int_int.l0 k y0 y1 y2 y3) (slices_Index_int_int.l0 (k + 1) y0 y1 y2 y3))
 | 0 => fun _ _ _ _ r h => by simp [slices_Index_int_int.l0] at h
 | k + 1 => by
  have ih0 := slices_Index_int_int.mono_l k
  ·intro y0 y1 y2 y3
   unfold slices_Index_int_int.l0
   repeat' first
   | (with_reducible exact ih0 _ _ _ _)
   | (with_reducible exact LeO.refl _)
   | (with_reducible exact LeO.none _)
   | (with_reducible refine LeO.ite ?_ ?_)
   | (with_reducible refine LeO.bind ?_ (fun _ => ?_))
   | exact ih0 _ _ _ _
   | exact LeO.none _
   | refine LeO.ite ?_ ?_
   | refine LeO.bind ?_ (fun _ => ?_)
theorem slices_Index_int_int.mono : ∀ a0 a1 k, LeO (slices_Index_int_int.f k a0 a1) (slices_Index_int_int.f (k + 1) a0 a1) := by
 intro a0 a1 k
 have ih0 := slices_Index_int_int.mono_l k
 unfold slices_Index_int_int.f
 repeat' first
   | (with_reducible exact ih0 _ _ _ _)
   | (with_reducible exact LeO.refl _)
   | (with_reducible exact LeO.none _)
   | (with_reducible refine LeO.ite ?_ ?_)
   | (with_reducible refine LeO.bind ?_ (fun _ => ?_))
   | exact ih0 _ _ _ _
   | exact LeO.none _
   | refine LeO.ite ?_ ?_
   | refine LeO.bind ?_ (fun _ => ?_)
set_option maxHeartbeats 8000000 in
set_option maxRecDepth 100000 in
theorem slices_Index_int_int.calls (k : Nat) (A0 : Option Addr) (c0 : Nat) (l0 : List Int) (a1 : Int) (r : Int) (w : World) (hr0 : Kd.C (Kd.int .i64) w A0 l0.length l0) (hc0 : l0.length ≤ c0) (h : slices_Index_int_int.f k l0 a1 = some r) :
  Calls Try.prog 110 #[.slice A0 l0.length c0, .int .i64 a1] w fun e w' => e = .returned (.int .i64 r) ∧ Drawn0 w w' := by
 have HR0 := Aside0.mk hr0
 have HC0 := Aside0.mk hc0
 clear hr0 hc0
 have H : (slices_Index_int_int.l0 k l0 a1 (l0.length : Int) 0) = some r := h
 clear h
 have H' := Aside0.mk H
 clear H
 go_enter Try.func110, Try.ntmps110
 go_wp2
 go_loopg [8] k (fun kq v8 w' => ∃ (x8_1 : Int), v8 = .int .i64 x8_1 ∧ Aside0 (slices_Index_int_int.l0 kq l0 a1 (l0.length : Int) x8_1 = some r) ∧ Aside0 (kq ≤ k) ∧ Drawn0 w w')
 case atStart => exact ⟨(0), rs, H', ⟨Nat.le_refl _⟩, by repeat (first | exact Drawn0.refl _ | apply Drawn0.step)⟩
 case round =>
  clear H'
  try clear c1; try clear p2
  obtain ⟨x8_1, rfl, HA, HK1, ⟨m1, rfl⟩⟩ := hrel
  cases gk with
  | zero => exact absurd HA.out (by simp [slices_Index_int_int.l0])
  | succ k1 =>
   have H := HA.out
   clear HA
   simp only [slices_Index_int_int.l0] at H
   by_cases c3 : x8_1 < (l0.length : Int)
   ·rw [if_pos c3] at H
    have c3b0 : decide (x8_1 < (l0.length : Int)) = true := decide_eq_true c3
    clear c3
    by_cases c4 : 0 ≤ x8_1
    ·rw [if_pos c4] at H
     have c4b0 : decide (0 ≤ x8_1) = true := decide_eq_true c4
     clear c4
     by_cases c5 : x8_1 < (l0.length : Int)
     ·rw [if_pos c5] at H
      have c5b0 : decide (x8_1 < (l0.length : Int)) = true := decide_eq_true c5
      clear c5
      by_cases c6 : a1 = (rd l0 x8_1)
      ·rw [if_pos c6] at H
       have c6b0 : (a1 == (rd l0 x8_1)) = true := beq_iff_eq.mpr c6
       have c6b1 : (a1 != (rd l0 x8_1)) = false := bne_eq_false_iff_eq.mpr c6
       clear c6
       obtain rfl := Option.some.inj H
       have p253 : 0 ≤ (x8_1 : Int) := od
       have q253 : x8_1 < (l0.length : Int) := od
       obtain ⟨ad253, e253, hx253_0⟩ := Kd.at_int HR0.out x8_1 p253 q253
       cases e253
       replace p253 := eq_true p253
       replace q253 := eq_true q253
       go_wp2
       go_ret
       exact ⟨by first | rfl | (simp; done) | (simp [*]; done), by repeat (first | exact Drawn0.refl _ | apply Drawn0.step)⟩
      rw [if_neg c6] at H
      have c6b0 : (a1 == (rd l0 x8_1)) = false := beq_eq_false_iff_ne.mpr c6
      have c6b1 : (a1 != (rd l0 x8_1)) = true := bne_iff_ne.mpr c6
      have H' := Aside0.mk H
      clear H
      have p253 : 0 ≤ (x8_1 : Int) := od
      have q253 : x8_1 < (l0.length : Int) := od
      obtain ⟨ad253, e253, hx253_0⟩ := Kd.at_int HR0.out x8_1 p253 q253
      cases e253
      replace p253 := eq_true p253
      replace q253 := eq_true q253
      go_wp2
      go_roundg k1
      case measure => have := HK1.out; omega
      case rel => exact ⟨(wrap64 (x8_1 + 1)), rs, H', ⟨by have := HK1.out; omega⟩, by repeat (first | exact Drawn0.refl _ | apply Drawn0.step)⟩
     rw [if_neg c5] at H
     exact absurd H (by simp)
    rw [if_neg c4] at H
    exact absurd H (by simp)
   rw [if_neg c3] at H
   have c3b0 : decide (x8_1 < (l0.length : Int)) = false := decide_eq_false c3
   clear c3
   obtain rfl := Option.some.inj H
   go_wp2
   go_ret
   exact ⟨by first | rfl | (simp; done) | (simp [*]; done), by repeat (first | exact Drawn0.refl _ | apply Drawn0.step)⟩

/-! ### slices_Contains_int_int: function 67 -/
def slices_Contains_int_int.f (k : Nat) (l0 : List Int) (a1 : Int) : Option (Bool) := (slices_Index_int_int.f k l0 a1).bind fun t254 => (some (decide (t254 ≥ 0)))
theorem slices_Contains_int_int.mono : ∀ a0 a1 k, LeO (slices_Contains_int_int.f k a0 a1) (slices_Contains_int_int.f (k + 1) a0 a1) := by
 intro a0 a1 k
 unfold slices_Contains_int_int.f
 repeat' first
   | (with_reducible exact slices_Index_int_int.mono _ _ _)
   | (with_reducible exact LeO.refl _)
   | (with_reducible exact LeO.none _)
   | (with_reducible refine LeO.ite ?_ ?_)
   | (with_reducible refine LeO.bind ?_ (fun _ => ?_))
   | exact slices_Index_int_int.mono _ _ _
   | exact LeO.none _
   | refine LeO.ite ?_ ?_
   | refine LeO.bind ?_ (fun _ => ?_)
set_option maxHeartbeats 8000000 in
set_option maxRecDepth 100000 in
theorem slices_Contains_int_int.calls (k : Nat) (A0 : Option Addr) (c0 : Nat) (l0 : List Int) (a1 : Int) (r : Bool) (w : World) (hr0 : Kd.C (Kd.int .i64) w A0 l0.length l0) (hc0 : l0.length ≤ c0) (h : slices_Contains_int_int.f k l0 a1 = some r) :
  Calls Try.prog 67 #[.slice A0 l0.length c0, .int .i64 a1] w fun e w' => e = .returned (.bool r) ∧ Drawn0 w w' := by
 have HR0 := Aside0.mk hr0
 have HC0 := Aside0.mk hc0
 clear hr0 hc0
 have H : ((slices_Index_int_int.f k l0 a1).bind fun t254 => (some (decide (t254 ≥ 0)))) = some r := h
 clear h
 replace H := Option.bind_eq_some_iff.mp H
 obtain ⟨t254, A30, H⟩ := H
 replace H : (some (decide (t254 ≥ 0))) = some r := H
 have A3 := Aside0.mk A30
 clear A30
 obtain rfl := Option.some.inj H
 go_enter Try.func67, Try.ntmps67
 go_wp2_with (first | ((with_reducible refine gate_callee (f := 110) rfl ?_); refine gl 7 Try.func110 #[.slice A0 l0.length c0, .int .i64 a1] ?_; (with_reducible refine (slices_Index_int_int.calls k _ _ l0 a1 t254 _ ?side1 ?side2 A3.out).mono ?_); (case side1 => repeat (first | exact HR0.out | (with_reducible refine Kd.C_alloc ?_ _) | (with_reducible refine Kd.C_drewN ?_ _) | (with_reducible refine Kd.C_drew ?_))); (case side2 => exact HC0.out); rintro e w' ⟨rfl, ⟨nd, rfl⟩⟩; refine ⟨_, rfl, ?_⟩))
 go_ret
 exact ⟨by first | rfl | (simp; done) | (simp [*]; done), by repeat (first | exact Drawn0.refl _ | apply Drawn0.step)⟩

/-! ### impl_copyItems: function 68 -/
def impl_copyItems.f (l0 : List (S68)) : Option ((List (S68))) := (some (([] : List (S68)) : List (S68))).bind fun y255 => (if y255.length + l0.length < 3518437208883 then (some (y255 ++ l0)) else (none))
set_option maxHeartbeats 8000000 in
set_option maxRecDepth 100000 in
theorem impl_copyItems.calls (A0 : Option Addr) (c0 : Nat) (l0 : List (S68)) (r : List (S68)) (w : World) (hr0 : Kd.C k68 w A0 l0.length l0) (hc0 : l0.length ≤ c0) (h : impl_copyItems.f l0 = some r) :
  Calls Try.prog 68 #[.slice A0 l0.length c0] w fun e w' => ∃ v0_ : Value, e = .returned (v0_) ∧ Kd.R k68 68 w' w.heap.size (fun _ => True) v0_ r ∧ Below w.heap.size w w' := by
 have HR0 := Aside0.mk hr0
 have HC0 := Aside0.mk hc0
 clear hr0 hc0
 have HB := Aside0.mk (Below.refl w.heap.size w)
 have H : ((some (([] : List (S68)) : List (S68))).bind fun y255 => (if y255.length + l0.length < 3518437208883 then (some (y255 ++ l0)) else (none))) = some r := h
 clear h
 obtain ⟨y255, hy255⟩ : ∃ y_ : List (S68), y_ = (([] : List (S68))) := ⟨_, rfl⟩
 replace H : (if y255.length + l0.length < 3518437208883 then (some (y255 ++ l0)) else (none)) = some r := by first | (rw [hy255]; with_reducible exact H) | (have H2_ := (Option.bind_some _ _).symm.trans H; rw [hy255]; with_reducible exact H2_) | (have H2_ := (Option.bind_some _ _).symm.trans H; with_reducible exact H2_) | with_reducible exact H | (rw [hy255]; exact H) | exact H
 have Ny255 := Aside0.mk hy255
 clear hy255
 by_cases c2 : y255.length + l0.length < 3518437208883
 ·rw [if_pos c2] at H
  have LMc2 := Aside0.mk c2
  clear c2
  obtain ⟨y258, hy258⟩ : ∃ y_ : List (S68), y_ = (y255 ++ l0) := ⟨_, rfl⟩
  replace H : (some y258) = some r := by first | (rw [hy258]; with_reducible exact H) | (have H2_ := (Option.bind_some _ _).symm.trans H; rw [hy258]; with_reducible exact H2_) | (have H2_ := (Option.bind_some _ _).symm.trans H; with_reducible exact H2_) | with_reducible exact H | (rw [hy258]; exact H) | exact H
  have Ny258 := Aside0.mk hy258
  clear hy258
  obtain rfl := Option.some.inj H
  go_enter Try.func68, Try.ntmps68
  have HO257 := Aside0.mk (show Kd.R k68 68 w w.heap.size (fun _ => True) (.slice none 0 0) y255 from by rw [Ny255.out]; exact Kd.R_nil _ _ _ _ _)
  go_wp2_with (first | ((with_reducible refine gate_builtin (b := .append) (xs := #[.const (.slice none 0 0), .tmp 3]) rfl ?_); at_builtin; refine Kd.R_append_rows k68 (w0 := w) w.heap.size rfl (.const (.slice none 0 0)) (.tmp 3) 28 68 (.agg #[(.string ⟨#[]⟩), (.string ⟨#[]⟩), (.int .i64 0)]) 40 rfl Try.underlying28 info68 rfl (by decide) (by omega) (.slice none 0 0) y255 l0 _ _ _ (fun _ => True) (fun _ => False) rfl rfl ?aO ?aR (fun _ _ h => h) (fun _ h => h.elim) ?aF ?aB ?aS ?aL ?_; (case aR => repeat (first | exact (Kd.C_below HR0.out HB.out) | (with_reducible refine Kd.C_alloc ?_ _) | (with_reducible refine Kd.C_drewN ?_ _) | (with_reducible refine Kd.C_drew ?_))); (case aB => exact (be HB)); (case aF => exact (fun _ _ => trivial)); (case aO => exact (ro HO257)); (case aS => exact (below_size (be HB))); (case aL => have := LMc2.out; omega); intro v259 w5 ho hb hg hat; rw [← Ny258.out] at ho; replace HB := Aside0.mk (hb); have HO260 := Aside0.mk (ho); clear HO257; clear ho hb hg hat))
  go_ret
  exact ⟨_, er, by (with_reducible repeat (first | apply Kd.R_alloc | apply Kd.R_drewN | apply Kd.R_drew)); exact HO260.out, be HB⟩
 rw [if_neg c2] at H
 exact absurd H (by simp)

end Go.Proofs.Ytfjhkediaholmaa.QFnExactDrop
