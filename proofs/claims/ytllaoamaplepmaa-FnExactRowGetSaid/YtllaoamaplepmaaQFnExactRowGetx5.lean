-- made by a program of this session (myprint.py)
import Derived.Test.YtllaoamaplepmaaQFnExactRowGetx0
import Derived.Test.YtllaoamaplepmaaQFnExactRowGetx4
namespace Go.Proofs.Ytllaoamaplepmaa.QFnExactRowGet
open Go.RowKit Go.Proofs.YtllaoamaplepmaaW.PrintWords Go.Proofs.YtllaoamaplepmaaW.PrintLast Go.Proofs.YtllaoamaplepmaaW.PrintMore
attribute [local go_sem] max2_int min2_int max_two min_two max_three min_three max_four min_four   -- for this text's walks alone
set_option linter.unusedVariables false
set_option linter.unusedSimpArgs false

/-! ### spec_l10Without: function 104 -/
def spec_l10Without.l0 : Nat → ByteArray → List (S84) → List (S84) → Int → Int → Option ((List (S84)))
 | 0, _, _, _, _, _ => none
 | k + 1, x1, x5, x9, x10, x11 => if x11 < x10 then (if 0 ≤ x11 then (if x11 < (x9.length : Int) then (if ((rd_T84 x9 x11).f0).toList = x1.toList then (spec_l10Without.l0 k x1 x5 x9 x10 (wrap64 (x11 + 1))) else (if x5.length < 3518437208883 then (spec_l10Without.l0 k x1 (x5 ++ [(⟨(rd_T84 x9 x11).f0, (rd_T84 x9 x11).f1, (rd_T84 x9 x11).f2⟩ : S84)]) x9 x10 (wrap64 (x11 + 1))) else (none))) else (none)) else (none)) else (some x5)
def spec_l10Without.f (k : Nat) (l0 : List (S84)) (a1 : ByteArray) : Option ((List (S84))) := spec_l10Without.l0 k a1 (([] : List (S84))) l0 (l0.length : Int) 0
theorem spec_l10Without.mono_l : ∀ k, (∀ y0 y1 y2 y3 y4, LeO (spec_l10Without.l0 k y0 y1 y2 y3 y4) (spec_l10Without.l0 (k + 1) y0 y1 y2 y3 y4))
 | 0 => fun _ _ _ _ _ r h => by simp [spec_l10Without.l0] at h
 | k + 1 => by
  have ih0 := spec_l10Without.mono_l k
  ·intro y0 y1 y2 y3 y4
   unfold spec_l10Without.l0
   repeat' first
   | (with_reducible exact ih0 _ _ _ _ _)
   | (with_reducible exact LeO.refl _)
   | (with_reducible exact LeO.none _)
   | (with_reducible refine LeO.ite ?_ ?_)
   | (with_reducible refine LeO.bind ?_ (fun _ => ?_))
   | exact ih0 _ _ _ _ _
   | exact LeO.none _
   | refine LeO.ite ?_ ?_
   | refine LeO.bind ?_ (fun _ => ?_)
theorem spec_l10Without.mono : ∀ a0 a1 k, LeO (spec_l10Without.f k a0 a1) (spec_l10Without.f (k + 1) a0 a1) := by
 intro a0 a1 k
 have ih0 := spec_l10Without.mono_l k
 unfold spec_l10Without.f
 repeat' first
   | (with_reducible exact ih0 _ _ _ _ _)
   | (with_reducible exact LeO.refl _)
   | (with_reducible exact LeO.none _)
   | (with_reducible refine LeO.ite ?_ ?_)
   | (with_reducible refine LeO.bind ?_ (fun _ => ?_))
   | exact ih0 _ _ _ _ _
   | exact LeO.none _
   | refine LeO.ite ?_ ?_
   | refine LeO.bind ?_ (fun _ => ?_)
set_option maxHeartbeats 8000000 in
set_option maxRecDepth 100000 in
theorem spec_l10Without.calls (k : Nat) (A0 : Option Addr) (c0 : Nat) (l0 : List (S84)) (a1 : ByteArray) (r : List (S84)) (w : World) (hr0 : Kd.C k84 w A0 l0.length l0) (hc0 : l0.length ≤ c0) (h : spec_l10Without.f k l0 a1 = some r) :
  Calls Try.prog 104 #[.slice A0 l0.length c0, .string a1] w fun e w' => ∃ v0_ : Value, e = .returned (v0_) ∧ Kd.R k84 84 w' w.heap.size (fun _ => True) v0_ r ∧ Below w.heap.size w w' := by
 have hu84 := Try.underlying84
 have HR0 := Aside0.mk hr0
 have HC0 := Aside0.mk hc0
 clear hr0 hc0
 have HB := Aside0.mk (Below.refl w.heap.size w)
 have H : (spec_l10Without.l0 k a1 (([] : List (S84))) l0 (l0.length : Int) 0) = some r := h
 clear h
 obtain ⟨y169, hy169⟩ : ∃ y_ : List (S84), y_ = (([] : List (S84))) := ⟨_, rfl⟩
 replace H : (spec_l10Without.l0 k a1 y169 l0 (l0.length : Int) 0) = some r := by first | (rw [hy169]; with_reducible exact H) | (have H2_ := (Option.bind_some _ _).symm.trans H; rw [hy169]; with_reducible exact H2_) | (have H2_ := (Option.bind_some _ _).symm.trans H; with_reducible exact H2_) | with_reducible exact H | (rw [hy169]; exact H) | exact H
 have Ny169 := Aside0.mk hy169
 clear hy169
 have H' := Aside0.mk H
 clear H
 go_enter Try.func104, Try.ntmps104
 go_wp2_with (first | ((with_reducible refine gate_dst (N := 8) rfl ?_); refine Kd.R_lit k84 _ 84 ?hg (N := 8) ?hd (xs := ([] : List (S84))) (inner := []) (ok := fun _ => True) (okp := fun _ => True) ?hr ?hp (fun _ hk => hk) trivial (Below.refl _ _) (Nat.le_refl _) (by simp) ?_; (case hd => rfl); (case hg => rfl); (case hr => first | (go_simp; done) | (go_simp; rfl)); (case hp => exact (Reps.none _ _)); intro v170 w3 ho4 hb hg_ hnew_; clear hg_ hnew_; (first | rw [← Ny169.out] at ho4 | (simp only [Int.reduceToNat] at ho4; rw [← Ny169.out] at ho4)); have HO171 := Aside0.mk (Kd.R_lower ho4 (below_size (be HB))); replace HB := s0 HB hb; clear hb ho4))
 go_loopg [5, 11] k (fun kq v5 v11 w' => ∃ (x5_1 : List (S84)) (x11_1 : Int), v11 = .int .i64 x11_1 ∧ Aside0 (spec_l10Without.l0 kq a1 x5_1 l0 (l0.length : Int) x11_1 = some r) ∧ Aside0 (kq ≤ k) ∧ Aside0 (Kd.R k84 84 w' w.heap.size (fun _ => True) v5 x5_1) ∧ Aside0 (Below w.heap.size w w'))
 case atStart => exact ⟨(y169), (0), rs, H', ⟨Nat.le_refl _⟩, ⟨ro HO171⟩, ⟨be HB⟩⟩
 case round =>
  clear H'
  try clear c1; try clear p2
  obtain ⟨x5_1, x11_1, rfl, HA, HK1, HO_5, HB⟩ := hrel
  cases gk with
  | zero => exact absurd HA.out (by simp [spec_l10Without.l0])
  | succ k1 =>
   have H := HA.out
   clear HA
   simp only [spec_l10Without.l0] at H
   by_cases c5 : x11_1 < (l0.length : Int)
   ·rw [if_pos c5] at H
    have c5b0 : decide (x11_1 < (l0.length : Int)) = true := decide_eq_true c5
    clear c5
    by_cases c6 : 0 ≤ x11_1
    ·rw [if_pos c6] at H
     have c6b0 : decide (0 ≤ x11_1) = true := decide_eq_true c6
     clear c6
     by_cases c7 : x11_1 < (l0.length : Int)
     ·rw [if_pos c7] at H
      have c7b0 : decide (x11_1 < (l0.length : Int)) = true := decide_eq_true c7
      clear c7
      by_cases c8 : ((rd_T84 l0 x11_1).f0).toList = a1.toList
      ·rw [if_pos c8] at H
       have c8b0 : (((rd_T84 l0 x11_1).f0).toList == a1.toList) = true := beq_iff_eq.mpr c8
       have c8b1 : (((rd_T84 l0 x11_1).f0).toList != a1.toList) = false := bne_eq_false_iff_eq.mpr c8
       clear c8
       have H' := Aside0.mk H
       clear H
       have p172 : 0 ≤ (x11_1 : Int) := od
       have q172 : x11_1 < (l0.length : Int) := od
       obtain ⟨ad172, e172, hx172_0, hx172_1, hx172_2⟩ := at_T84 HR0.out x11_1 p172 q172
       cases e172
       replace hx172_0 := hc HB hx172_0
       replace hx172_1 := hc HB hx172_1
       replace hx172_2 := hc HB hx172_2
       replace p172 := eq_true p172
       replace q172 := eq_true q172
       go_wp2_with (first | ((with_reducible refine gate_dst (N := 7) rfl ?_); refine bx 7 #[.string (⟨#[]⟩ : ByteArray), .string (⟨#[]⟩ : ByteArray), .int .i64 0] 84 ?_; intro gb173 hg w9 hbox hb; replace HO_5 := Aside0.mk (Kd.R_below (Kd.R_elderB (ro HO_5) gb173 (Nat.le_of_eq hg.symm)) hb); have BK173 := am hbox; have GW173 := gs0 hg HB; have GE173 := gs0 hg HB; replace HB := s0 HB hb; clear hb hbox hg; have hcz10_0 := bz3 BK173))
       go_roundg k1
       case measure => have := HK1.out; omega
       case rel => exact ⟨(x5_1), (wrap64 (x11_1 + 1)), rs, H', ⟨by have := HK1.out; omega⟩, ⟨by (with_reducible repeat (first | apply Kd.R_alloc | apply Kd.R_drewN | apply Kd.R_drew)); exact Kd.R_mono (Kd.R_far (p := ⟨gb173, 2, none⟩) (Kd.R_far (p := ⟨gb173, 1, none⟩) (Kd.R_far (p := ⟨gb173, 0, none⟩) (Kd.R_mono HO_5.out (fun k_ hk => (⟨hk, hk.2⟩ : _ ∧ k_ ≠ gb173))) (fun _ hk => hk.2) (.string ((rd_T84 l0 x11_1).f0))) (fun _ hk => hk.2) (.string ((rd_T84 l0 x11_1).f1))) (fun _ hk => hk.2) (.int .i64 ((rd_T84 l0 x11_1).f2))) (fun _ hk => trivial)⟩, ⟨be1 HB GE173⟩⟩
      rw [if_neg c8] at H
      have c8b0 : (((rd_T84 l0 x11_1).f0).toList == a1.toList) = false := beq_eq_false_iff_ne.mpr c8
      have c8b1 : (((rd_T84 l0 x11_1).f0).toList != a1.toList) = true := bne_iff_ne.mpr c8
      by_cases c11 : x5_1.length < 3518437208883
      ·rw [if_pos c11] at H
       have LMc11 := Aside0.mk c11
       clear c11
       obtain ⟨y174, hy174⟩ : ∃ y_ : List (S84), y_ = (x5_1 ++ [(⟨(rd_T84 l0 x11_1).f0, (rd_T84 l0 x11_1).f1, (rd_T84 l0 x11_1).f2⟩ : S84)]) := ⟨_, rfl⟩
       replace H : (spec_l10Without.l0 k1 a1 y174 l0 (l0.length : Int) (wrap64 (x11_1 + 1))) = some r := by first | (rw [hy174]; with_reducible exact H) | (have H2_ := (Option.bind_some _ _).symm.trans H; rw [hy174]; with_reducible exact H2_) | (have H2_ := (Option.bind_some _ _).symm.trans H; with_reducible exact H2_) | with_reducible exact H | (rw [hy174]; exact H) | exact H
       have Ny174 := Aside0.mk hy174
       clear hy174
       have H' := Aside0.mk H
       clear H
       have p172 : 0 ≤ (x11_1 : Int) := od
       have q172 : x11_1 < (l0.length : Int) := od
       obtain ⟨ad172, e172, hx172_0, hx172_1, hx172_2⟩ := at_T84 HR0.out x11_1 p172 q172
       cases e172
       replace hx172_0 := hc HB hx172_0
       replace hx172_1 := hc HB hx172_1
       replace hx172_2 := hc HB hx172_2
       replace p172 := eq_true p172
       replace q172 := eq_true q172
       go_wp2_with (first | ((with_reducible refine gate_dst (N := 7) rfl ?_); refine bx 7 #[.string (⟨#[]⟩ : ByteArray), .string (⟨#[]⟩ : ByteArray), .int .i64 0] 84 ?_; intro gb173 hg w12 hbox hb; replace HO_5 := Aside0.mk (Kd.R_below (Kd.R_elderB (ro HO_5) gb173 (Nat.le_of_eq hg.symm)) hb); have BK173 := am hbox; have GW173 := gs0 hg HB; have GE173 := gs0 hg HB; replace HB := s0 HB hb; clear hb hbox hg; have hcz13_0 := bz3 BK173) | ((with_reducible refine gate_builtin (b := .append) (xs := #[.tmp 19, .tmp 21]) rfl ?_); at_builtin; refine Kd.R_append k84 (w0 := w) w.heap.size rfl (.tmp 19) (.tmp 21) 51 84 (.agg #[(.string ⟨#[]⟩), (.string ⟨#[]⟩), (.int .i64 0)]) 40 rfl Try.underlying51 info84 rfl (by decide) (by omega) u5 x5_1 (⟨(rd_T84 l0 x11_1).f0, (rd_T84 l0 x11_1).f1, (rd_T84 l0 x11_1).f2⟩ : S84) [.string ((rd_T84 l0 x11_1).f0), .string ((rd_T84 l0 x11_1).f1), .int .i64 ((rd_T84 l0 x11_1).f2)] (fun k_ => k_ ≠ gb173) (fun _ => False) rfl (by first | (go_simp; done) | (go_simp; rfl)) ?aP (fun _ hk => hk.elim) ?aF ?aO ?aB ?aS ?aL ?_; (case aP => exact k84_mkM _ _ _ (⟨(rd_T84 l0 x11_1).f0, (rd_T84 l0 x11_1).f1, (rd_T84 l0 x11_1).f2⟩ : S84)); (case aB => exact (be1 HB GE173)); (case aF => exact (fun k_ hk => Kd.freshB (g := gb173) (o := .cells #[.string ((rd_T84 l0 x11_1).f0), .string ((rd_T84 l0 x11_1).f1), .int .i64 ((rd_T84 l0 x11_1).f2)] 84 (0, 0)) (by (with_reducible repeat (first | refine blk_drewN ?_ _ | refine blk_drew ?_ | refine blk_alloc ?_ _)); refine blk_put (cs := #[.string ((rd_T84 l0 x11_1).f0), .string ((rd_T84 l0 x11_1).f1), .int .i64 0]) ?_ 2 _ rfl; (with_reducible repeat (first | refine blk_drewN ?_ _ | refine blk_drew ?_ | refine blk_alloc ?_ _)); refine blk_put (cs := #[.string ((rd_T84 l0 x11_1).f0), .string (⟨#[]⟩ : ByteArray), .int .i64 0]) ?_ 1 _ rfl; (with_reducible repeat (first | refine blk_drewN ?_ _ | refine blk_drew ?_ | refine blk_alloc ?_ _)); refine blk_put (cs := #[.string (⟨#[]⟩ : ByteArray), .string (⟨#[]⟩ : ByteArray), .int .i64 0]) ?_ 0 _ rfl; (with_reducible repeat (first | refine blk_drewN ?_ _ | refine blk_drew ?_ | refine blk_alloc ?_ _)); exact BK173.out) k_ hk)); (case aO => exact (by (with_reducible repeat (first | apply Kd.R_alloc | apply Kd.R_drewN | apply Kd.R_drew)); exact Kd.R_mono (Kd.R_far (p := ⟨gb173, 2, none⟩) (Kd.R_far (p := ⟨gb173, 1, none⟩) (Kd.R_far (p := ⟨gb173, 0, none⟩) (Kd.R_mono HO_5.out (fun k_ hk => (⟨hk, hk.2⟩ : _ ∧ k_ ≠ gb173))) (fun _ hk => hk.2) (.string ((rd_T84 l0 x11_1).f0))) (fun _ hk => hk.2) (.string ((rd_T84 l0 x11_1).f1))) (fun _ hk => hk.2) (.int .i64 ((rd_T84 l0 x11_1).f2))) (fun _ hk => hk.1.2))); (case aS => exact (below_size (be1 HB GE173))); (case aL => have := LMc11.out; omega); intro v175 w14 ho hb hg hat; rw [← Ny174.out] at ho; replace BK173 := Aside0.mk (blk_grown (g := gb173) (o := .cells #[.string ((rd_T84 l0 x11_1).f0), .string ((rd_T84 l0 x11_1).f1), .int .i64 ((rd_T84 l0 x11_1).f2)] 84 (0, 0)) (by (with_reducible repeat (first | refine blk_drewN ?_ _ | refine blk_drew ?_ | refine blk_alloc ?_ _)); refine blk_put (cs := #[.string ((rd_T84 l0 x11_1).f0), .string ((rd_T84 l0 x11_1).f1), .int .i64 0]) ?_ 2 _ rfl; (with_reducible repeat (first | refine blk_drewN ?_ _ | refine blk_drew ?_ | refine blk_alloc ?_ _)); refine blk_put (cs := #[.string ((rd_T84 l0 x11_1).f0), .string (⟨#[]⟩ : ByteArray), .int .i64 0]) ?_ 1 _ rfl; (with_reducible repeat (first | refine blk_drewN ?_ _ | refine blk_drew ?_ | refine blk_alloc ?_ _)); refine blk_put (cs := #[.string (⟨#[]⟩ : ByteArray), .string (⟨#[]⟩ : ByteArray), .int .i64 0]) ?_ 0 _ rfl; (with_reducible repeat (first | refine blk_drewN ?_ _ | refine blk_drew ?_ | refine blk_alloc ?_ _)); exact BK173.out) hg (Kd.R_away HO_5.out (fun _ hk => hk.2))); replace HB := Aside0.mk (hb); have HO176 := Aside0.mk (ho); clear HO_5; clear ho hb hg hat))
       go_roundg k1
       case measure => have := HK1.out; omega
       case rel => exact ⟨(y174), (wrap64 (x11_1 + 1)), rs, H', ⟨by have := HK1.out; omega⟩, ⟨by (with_reducible repeat (first | apply Kd.R_alloc | apply Kd.R_drewN | apply Kd.R_drew)); exact Kd.R_mono HO176.out (fun _ hk => trivial)⟩, ⟨be1 HB GE173⟩⟩
      rw [if_neg c11] at H
      exact absurd H (by simp)
     rw [if_neg c7] at H
     exact absurd H (by simp)
    rw [if_neg c6] at H
    exact absurd H (by simp)
   rw [if_neg c5] at H
   have c5b0 : decide (x11_1 < (l0.length : Int)) = false := decide_eq_false c5
   clear c5
   obtain rfl := Option.some.inj H
   go_wp2
   go_ret
   exact ⟨_, er, by (with_reducible repeat (first | apply Kd.R_alloc | apply Kd.R_drewN | apply Kd.R_drew)); exact HO_5.out, be HB⟩

/-! ### spec_l11Touch: function 88 -/
def spec_l11Touch.f (k : Nat) (a0_0 : Int) (a0_1 : Int) (l0_2 : List (S84)) (a1 : Int) : Option (Int × Int × (List (S84))) := if 0 ≤ a1 then (if a1 < (l0_2.length : Int) then (if a0_0 = 2 then ((spec_l10Without.f k l0_2 ((rd_T84 l0_2 a1).f0)).bind fun t181 => ((some (([(⟨(rd_T84 l0_2 a1).f0, (rd_T84 l0_2 a1).f1, (rd_T84 l0_2 a1).f2⟩ : S84)] : List (S84)) : List (S84))).bind fun y184 => (if t181.length + y184.length < 3518437208883 then (some (a0_0, a0_1, (t181 ++ y184))) else (none)))) else (if a0_0 = 3 then (some (a0_0, a0_1, (l0_2.set (a1 : Int).toNat (⟨(rd_T84 l0_2 a1).f0, (rd_T84 l0_2 a1).f1, 1⟩ : S84)))) else (some (a0_0, a0_1, l0_2)))) else (none)) else (none)
theorem spec_l11Touch.mono : ∀ a0 a1 a2 a3 k, LeO (spec_l11Touch.f k a0 a1 a2 a3) (spec_l11Touch.f (k + 1) a0 a1 a2 a3) := by
 intro a0 a1 a2 a3 k
 unfold spec_l11Touch.f
 repeat' first
   | (with_reducible exact spec_l10Without.mono _ _ _)
   | (with_reducible exact LeO.refl _)
   | (with_reducible exact LeO.none _)
   | (with_reducible refine LeO.ite ?_ ?_)
   | (with_reducible refine LeO.bind ?_ (fun _ => ?_))
   | exact spec_l10Without.mono _ _ _
   | exact LeO.none _
   | refine LeO.ite ?_ ?_
   | refine LeO.bind ?_ (fun _ => ?_)
def spec_l11Touch.T4 : Bool × List (List Nat × List Nat) := (true, [([], []), ([0], [0]), ([], []), ([2], [2]), ([1, 3], [1, 3]), ([], []), ([5], [5]), ([4, 6, 4], [4, 6]), ([0, 1, 2, 3, 4, 5, 6, 7], []), ([8, 7, 7, 0, 1, 2, 3, 4, 5, 6, 7], [7, 8])])
def spec_l11Touch.B4 : List Nat := [0, 1, 0, 4, 15, 0, 32, 127, 255, 511]
theorem spec_l11Touch.tab4 : rtab .any (opsOf Try.f88 4) = spec_l11Touch.T4 := by kernel_rfl
theorem spec_l11Touch.bits4 : waitsOk spec_l11Touch.T4.2 spec_l11Touch.B4 = true := by kernel_rfl
set_option maxHeartbeats 8000000 in
set_option maxRecDepth 100000 in
theorem spec_l11Touch.calls (k : Nat) (a0_0 : Int) (a0_1 : Int) (P0_2_ : Nat → Prop) (u9000_ : Value) (l0_2 : List (S84)) (a1 : Int) (r1 : Int) (r2 : Int) (r3 : List (S84)) (w0 w : World) (hB : Below w0.heap.size w0 w) (ho0_2 : Kd.R k84 84 w w0.heap.size P0_2_ u9000_ l0_2) (h : spec_l11Touch.f k a0_0 a0_1 l0_2 a1 = some (r1, r2, r3)) :
  Calls Try.prog 88 #[.agg #[.int .i64 a0_0, .int .i64 a0_1, u9000_], .int .i64 a1] w fun e w' => ∃ v2_ : Value, e = .returned (.agg #[.int .i64 r1, .int .i64 r2, v2_]) ∧ Kd.R k84 84 w' w0.heap.size (fun k_ => (P0_2_ k_ ∨ w.heap.size ≤ k_)) v2_ r3 ∧ Below w0.heap.size w0 w' ∧ Kept w w' (fun k_ => P0_2_ k_) := by
 have hu53 := Try.underlying53
 have hu84 := Try.underlying84
 have HO0_2 := Aside0.mk (show Kd.R k84 84 w w0.heap.size (fun k_ => (P0_2_ k_ ∨ w.heap.size ≤ k_)) u9000_ l0_2 from Kd.R_mono ho0_2 (fun k_ hk => (.inl hk)))
 have HK := Aside0.mk (Kept.refl w (fun k_ => P0_2_ k_))
 have HW0 := Aside0.mk hB.size
 have HB := Aside0.mk hB
 clear hB
 have H : (if 0 ≤ a1 then (if a1 < (l0_2.length : Int) then (if a0_0 = 2 then ((spec_l10Without.f k l0_2 ((rd_T84 l0_2 a1).f0)).bind fun t181 => ((some (([(⟨(rd_T84 l0_2 a1).f0, (rd_T84 l0_2 a1).f1, (rd_T84 l0_2 a1).f2⟩ : S84)] : List (S84)) : List (S84))).bind fun y184 => (if t181.length + y184.length < 3518437208883 then (some (a0_0, a0_1, (t181 ++ y184))) else (none)))) else (if a0_0 = 3 then (some (a0_0, a0_1, (l0_2.set (a1 : Int).toNat (⟨(rd_T84 l0_2 a1).f0, (rd_T84 l0_2 a1).f1, 1⟩ : S84)))) else (some (a0_0, a0_1, l0_2)))) else (none)) else (none)) = some (r1, r2, r3) := h
 clear h
 by_cases c3 : 0 ≤ a1
 ·rw [if_pos c3] at H
  have c3b0 : decide (0 ≤ a1) = true := decide_eq_true c3
  clear c3
  by_cases c4 : a1 < (l0_2.length : Int)
  ·rw [if_pos c4] at H
   have c4b0 : decide (a1 < (l0_2.length : Int)) = true := decide_eq_true c4
   clear c4
   by_cases c5 : a0_0 = 2
   ·rw [if_pos c5] at H
    have c5b0 : (a0_0 == 2) = true := beq_iff_eq.mpr c5
    have c5b1 : (a0_0 != 2) = false := bne_eq_false_iff_eq.mpr c5
    clear c5
    replace H := Option.bind_eq_some_iff.mp H
    obtain ⟨t181, A60, H⟩ := H
    replace H : ((some (([(⟨(rd_T84 l0_2 a1).f0, (rd_T84 l0_2 a1).f1, (rd_T84 l0_2 a1).f2⟩ : S84)] : List (S84)) : List (S84))).bind fun y184 => (if t181.length + y184.length < 3518437208883 then (some (a0_0, a0_1, (t181 ++ y184))) else (none))) = some (r1, r2, r3) := H
    have A6 := Aside0.mk A60
    clear A60
    obtain ⟨y184, hy184⟩ : ∃ y_ : List (S84), y_ = (([(⟨(rd_T84 l0_2 a1).f0, (rd_T84 l0_2 a1).f1, (rd_T84 l0_2 a1).f2⟩ : S84)] : List (S84))) := ⟨_, rfl⟩
    replace H : (if t181.length + y184.length < 3518437208883 then (some (a0_0, a0_1, (t181 ++ y184))) else (none)) = some (r1, r2, r3) := by first | (rw [hy184]; with_reducible exact H) | (have H2_ := (Option.bind_some _ _).symm.trans H; rw [hy184]; with_reducible exact H2_) | (have H2_ := (Option.bind_some _ _).symm.trans H; with_reducible exact H2_) | with_reducible exact H | (rw [hy184]; exact H) | exact H
    have Ny184 := Aside0.mk hy184
    clear hy184
    by_cases c7 : t181.length + y184.length < 3518437208883
    ·rw [if_pos c7] at H
     have LMc7 := Aside0.mk c7
     clear c7
     obtain ⟨y187, hy187⟩ : ∃ y_ : List (S84), y_ = (t181 ++ y184) := ⟨_, rfl⟩
     replace H : (some (a0_0, a0_1, y187)) = some (r1, r2, r3) := by first | (rw [hy187]; with_reducible exact H) | (have H2_ := (Option.bind_some _ _).symm.trans H; rw [hy187]; with_reducible exact H2_) | (have H2_ := (Option.bind_some _ _).symm.trans H; with_reducible exact H2_) | with_reducible exact H | (rw [hy187]; exact H) | exact H
     have Ny187 := Aside0.mk hy187
     clear hy187
     simp only [Option.some.injEq, Prod.mk.injEq] at H
     obtain ⟨rfl, rfl, rfl⟩ := H
     obtain ⟨Ao8, co8, eo8⟩ := Kd.R_slice HO0_2.out
     subst eo8
     go_enter Try.func88, Try.ntmps88
     try go_wp2_with (first | ((with_reducible refine gate_dst (N := 2) rfl ?_); refine bx 2 #[.int .i64 a0_0, .int .i64 a0_1, .slice Ao8 l0_2.length co8] 53 ?_; intro gb177 hg w9 hbox hb; replace HO0_2 := rb HO0_2 hb; have BK177 := am hbox; have GW177 := Aside0.mk ((by rw [hg]; exact (by first | exact HK.out.1 | exact (show Kept w _ (fun k_ => P0_2_ k_) from by repeat (first | (with_reducible first | exact HK.out | apply Kept.alloc | apply Kept.drewN | apply Kept.drew) | exact HK.out)).1) : w.heap.size ≤ gb177)); replace HK := Aside0.mk (Kept.below (S := (fun k_ => P0_2_ k_)) (by repeat (first | (with_reducible first | exact HK.out | apply Kept.alloc | apply Kept.drewN | apply Kept.drew) | exact HK.out)) hb); have GE177 := Aside0.mk ((by rw [hg]; exact (below_size (be HB)) : w0.heap.size ≤ gb177)); replace HB := s0 HB hb; clear hb hbox hg) | ((with_reducible refine gate_dst (N := 4) rfl ?_); refine bx 4 #[.int .i64 0, .int .i64 0, .slice none 0 0] 53 ?_; intro gb178 hg w10 hbox hb; replace HO0_2 := rb HO0_2 hb; have BK178 := am hbox; have GW178 := Aside0.mk ((by rw [hg]; exact (by first | exact HK.out.1 | exact (show Kept w _ (fun k_ => P0_2_ k_) from by repeat (first | (with_reducible first | exact HK.out | apply Kept.alloc | apply Kept.drewN | apply Kept.drew | refine Kept.setCell ?_ (.inr GW177.out) _) | exact HK.out)).1) : w.heap.size ≤ gb178)); replace HK := Aside0.mk (Kept.below (S := (fun k_ => P0_2_ k_)) (by repeat (first | (with_reducible first | exact HK.out | apply Kept.alloc | apply Kept.drewN | apply Kept.drew | refine Kept.setCell ?_ (.inr GW177.out) _) | exact HK.out)) hb); have GE178 := Aside0.mk ((by rw [hg]; exact (below_size (be1 HB GE177)) : w0.heap.size ≤ gb178)); replace HB := Aside0.mk (below_step (be1 HB GE177) hb); have NB177_178 := Aside0.mk ((by rw [hg]; exact Nat.ne_of_lt (bl BK177) : gb177 ≠ gb178)); have NB178_177 := Aside0.mk ((by rw [hg]; exact Nat.ne_of_gt (bl BK177) : gb178 ≠ gb177)); replace BK177 := bb BK177 hb; clear hb hbox hg; have hnb11 := NB177_178.out; have hnc11 := NB178_177.out; have hcz12_0 := bz3 BK177; have p179 : 0 ≤ (a1 : Int) := od; have q179 : a1 < (l0_2.length : Int) := od; obtain ⟨ad179, e179, hx179_0, hx179_1, hx179_2⟩ := at_T84 (Kd.R_reads' HO0_2.out).2.2 a1 p179 q179; cases e179; replace p179 := eq_true p179; replace q179 := eq_true q179) | ((with_reducible refine gate_dst (N := 5) rfl ?_); refine bx 5 #[.string (⟨#[]⟩ : ByteArray), .string (⟨#[]⟩ : ByteArray), .int .i64 0] 84 ?_; intro gb180 hg w13 hbox hb; replace HO0_2 := Aside0.mk (Kd.R_below (Kd.R_elderB (ro HO0_2) gb180 (Nat.le_of_eq hg.symm)) hb); have BK180 := am hbox; have GW180 := Aside0.mk ((by rw [hg]; exact (by first | exact HK.out.1 | exact (show Kept w _ (fun k_ => P0_2_ k_) from by repeat (first | (with_reducible first | exact HK.out | apply Kept.alloc | apply Kept.drewN | apply Kept.drew | refine Kept.setCell ?_ (.inr GW177.out) _ | refine Kept.setCell ?_ (.inr GW178.out) _) | exact HK.out)).1) : w.heap.size ≤ gb180)); replace HK := Aside0.mk (Kept.below (S := (fun k_ => P0_2_ k_)) (by repeat (first | (with_reducible first | exact HK.out | apply Kept.alloc | apply Kept.drewN | apply Kept.drew | refine Kept.setCell ?_ (.inr GW177.out) _ | refine Kept.setCell ?_ (.inr GW178.out) _) | exact HK.out)) hb); have GE180 := Aside0.mk ((by rw [hg]; exact (below_size (be2 HB GE177 GE178)) : w0.heap.size ≤ gb180)); replace HB := Aside0.mk (below_step (be2 HB GE177 GE178) hb); have NB177_180 := Aside0.mk ((by rw [hg]; exact Nat.ne_of_lt (bl BK177) : gb177 ≠ gb180)); have NB180_177 := Aside0.mk ((by rw [hg]; exact Nat.ne_of_gt (bl BK177) : gb180 ≠ gb177)); replace BK177 := bb BK177 hb; have NB178_180 := Aside0.mk ((by rw [hg]; exact Nat.ne_of_lt (bl BK178) : gb178 ≠ gb180)); have NB180_178 := Aside0.mk ((by rw [hg]; exact Nat.ne_of_gt (bl BK178) : gb180 ≠ gb178)); replace BK178 := bb BK178 hb; clear hb hbox hg; have hnb14 := NB180_177.out; have hnc14 := NB177_180.out; have hnb15 := NB180_178.out; have hnc15 := NB178_180.out; have hcz16_0 := bz3 BK180; have hcz17_0 := bz3 BK177))
     have n0_ : Aside0 (Kd.R k84 84 (((w13.setCell ⟨gb180, 0, none⟩ (.string ((rd_T84 l0_2 a1).f0))).setCell ⟨gb180, 1, none⟩ (.string ((rd_T84 l0_2 a1).f1))).setCell ⟨gb180, 2, none⟩ (.int .i64 ((rd_T84 l0_2 a1).f2))) w0.heap.size (fun k_ => (P0_2_ k_ ∨ w.heap.size ≤ k_) ∧ k_ ≠ gb180) (.slice (some ad179) l0_2.length co8) l0_2) := ⟨by (with_reducible repeat (first | apply Kd.R_alloc | apply Kd.R_drewN | apply Kd.R_drew)); exact Kd.R_mono (Kd.R_far (p := ⟨gb180, 2, none⟩) (Kd.R_far (p := ⟨gb180, 1, none⟩) (Kd.R_far (p := ⟨gb180, 0, none⟩) (Kd.R_mono HO0_2.out (fun k_ hk => (⟨hk, hk.2⟩ : _ ∧ k_ ≠ gb180))) (fun _ hk => hk.2) (.string ((rd_T84 l0_2 a1).f0))) (fun _ hk => hk.2) (.string ((rd_T84 l0_2 a1).f1))) (fun _ hk => hk.2) (.int .i64 ((rd_T84 l0_2 a1).f2))) (fun _ hk => ⟨hk.1.1, hk.1.2⟩)⟩
     have n1_ : Aside0 ((((w13.setCell ⟨gb180, 0, none⟩ (.string ((rd_T84 l0_2 a1).f0))).setCell ⟨gb180, 1, none⟩ (.string ((rd_T84 l0_2 a1).f1))).setCell ⟨gb180, 2, none⟩ (.int .i64 ((rd_T84 l0_2 a1).f2))).heap[gb177]? = some (.cells #[.int .i64 a0_0, .int .i64 a0_1, .slice (some ad179) l0_2.length co8] 53 (0, 0))) := ⟨by (with_reducible repeat (first | refine blk_drewN ?_ _ | refine blk_drew ?_ | refine blk_alloc ?_ _)); refine blk_far ?_ NB177_180.out _; (with_reducible repeat (first | refine blk_drewN ?_ _ | refine blk_drew ?_ | refine blk_alloc ?_ _)); refine blk_far ?_ NB177_180.out _; (with_reducible repeat (first | refine blk_drewN ?_ _ | refine blk_drew ?_ | refine blk_alloc ?_ _)); refine blk_far ?_ NB177_180.out _; (with_reducible repeat (first | refine blk_drewN ?_ _ | refine blk_drew ?_ | refine blk_alloc ?_ _)); exact BK177.out⟩
     have n2_ : Aside0 ((((w13.setCell ⟨gb180, 0, none⟩ (.string ((rd_T84 l0_2 a1).f0))).setCell ⟨gb180, 1, none⟩ (.string ((rd_T84 l0_2 a1).f1))).setCell ⟨gb180, 2, none⟩ (.int .i64 ((rd_T84 l0_2 a1).f2))).heap[gb178]? = some (.cells #[.int .i64 0, .int .i64 0, .slice none 0 0] 53 (0, 0))) := ⟨by (with_reducible repeat (first | refine blk_drewN ?_ _ | refine blk_drew ?_ | refine blk_alloc ?_ _)); refine blk_far ?_ NB178_180.out _; (with_reducible repeat (first | refine blk_drewN ?_ _ | refine blk_drew ?_ | refine blk_alloc ?_ _)); refine blk_far ?_ NB178_180.out _; (with_reducible repeat (first | refine blk_drewN ?_ _ | refine blk_drew ?_ | refine blk_alloc ?_ _)); refine blk_far ?_ NB178_180.out _; (with_reducible repeat (first | refine blk_drewN ?_ _ | refine blk_drew ?_ | refine blk_alloc ?_ _)); exact BK178.out⟩
     have n3_ : Aside0 ((((w13.setCell ⟨gb180, 0, none⟩ (.string ((rd_T84 l0_2 a1).f0))).setCell ⟨gb180, 1, none⟩ (.string ((rd_T84 l0_2 a1).f1))).setCell ⟨gb180, 2, none⟩ (.int .i64 ((rd_T84 l0_2 a1).f2))).heap[gb180]? = some (.cells #[.string ((rd_T84 l0_2 a1).f0), .string ((rd_T84 l0_2 a1).f1), .int .i64 ((rd_T84 l0_2 a1).f2)] 84 (0, 0))) := ⟨by (with_reducible repeat (first | refine blk_drewN ?_ _ | refine blk_drew ?_ | refine blk_alloc ?_ _)); refine blk_put (cs := #[.string ((rd_T84 l0_2 a1).f0), .string ((rd_T84 l0_2 a1).f1), .int .i64 0]) ?_ 2 _ rfl; (with_reducible repeat (first | refine blk_drewN ?_ _ | refine blk_drew ?_ | refine blk_alloc ?_ _)); refine blk_put (cs := #[.string ((rd_T84 l0_2 a1).f0), .string (⟨#[]⟩ : ByteArray), .int .i64 0]) ?_ 1 _ rfl; (with_reducible repeat (first | refine blk_drewN ?_ _ | refine blk_drew ?_ | refine blk_alloc ?_ _)); refine blk_put (cs := #[.string (⟨#[]⟩ : ByteArray), .string (⟨#[]⟩ : ByteArray), .int .i64 0]) ?_ 0 _ rfl; (with_reducible repeat (first | refine blk_drewN ?_ _ | refine blk_drew ?_ | refine blk_alloc ?_ _)); exact BK180.out⟩
     have n4_ : Aside0 (Kept w (((w13.setCell ⟨gb180, 0, none⟩ (.string ((rd_T84 l0_2 a1).f0))).setCell ⟨gb180, 1, none⟩ (.string ((rd_T84 l0_2 a1).f1))).setCell ⟨gb180, 2, none⟩ (.int .i64 ((rd_T84 l0_2 a1).f2))) (fun k_ => P0_2_ k_)) := ⟨by repeat (first | (with_reducible first | exact HK.out | apply Kept.alloc | apply Kept.drewN | apply Kept.drew | refine Kept.setCell ?_ (.inr GW177.out) _ | refine Kept.setCell ?_ (.inr GW178.out) _ | refine Kept.setCell ?_ (.inr GW180.out) _) | exact HK.out)⟩
     have n5_ : Aside0 (Below w0.heap.size w0 (((w13.setCell ⟨gb180, 0, none⟩ (.string ((rd_T84 l0_2 a1).f0))).setCell ⟨gb180, 1, none⟩ (.string ((rd_T84 l0_2 a1).f1))).setCell ⟨gb180, 2, none⟩ (.int .i64 ((rd_T84 l0_2 a1).f2)))) := ⟨be3 HB GE177 GE178 GE180⟩
     (try clear HO0_2)
     (try clear BK177)
     (try clear BK178)
     (try clear BK180)
     (try clear HK)
     (try clear HB)
     generalize (((w13.setCell ⟨gb180, 0, none⟩ (.string ((rd_T84 l0_2 a1).f0))).setCell ⟨gb180, 1, none⟩ (.string ((rd_T84 l0_2 a1).f1))).setCell ⟨gb180, 2, none⟩ (.int .i64 ((rd_T84 l0_2 a1).f2))) = w18 at n0_ n1_ n2_ n3_ n4_ n5_ ⊢
     have HO0_2 := n0_
     have BK177 := n1_
     have BK178 := n2_
     have BK180 := n3_
     have HK := n4_
     have HB := n5_
     clear n0_ n1_ n2_ n3_ n4_ n5_
     have n0_ := Aside0.mk (Kd.R_drew HO0_2.out)
     have n1_ := Aside0.mk (blk_drew BK177.out)
     have n2_ := Aside0.mk (blk_drew BK178.out)
     have n3_ := Aside0.mk (blk_drew BK180.out)
     have n4_ := Aside0.mk (Kept.drew HK.out)
     have n5_ := Aside0.mk (below_drew1 HB.out)
     clear HO0_2
     clear BK177
     clear BK178
     clear BK180
     clear HK
     clear HB
     have HO0_2 := n0_
     have BK177 := n1_
     have BK178 := n2_
     have BK180 := n3_
     have HK := n4_
     have HB := n5_
     clear n0_ n1_ n2_ n3_ n4_ n5_
     refine start_ (n := 10) (S := fun w' => w'.cell? ⟨gb177, 0, none⟩ = some (.int .i64 a0_0) ∧ w'.cell? ⟨gb177, 1, none⟩ = some (.int .i64 a0_1) ∧ w'.cell? ⟨gb177, 2, none⟩ = some (.slice (some ad179) l0_2.length co8) ∧ w'.cell? ⟨gb180, 0, none⟩ = some (.string ((rd_T84 l0_2 a1).f0)) ∧ w'.cell? ⟨gb180, 1, none⟩ = some (.string ((rd_T84 l0_2 a1).f1)) ∧ w'.cell? ⟨gb180, 2, none⟩ = some (.int .i64 ((rd_T84 l0_2 a1).f2))) (ds := [9]) (bv 10 0x0) (by kernel_rfl) rfl rfl ⟨bc0 BK177, bc1 BK177, bc2 BK177, bc0 BK180, bc1 BK180, bc2 BK180⟩ (fun hHeld => ?_); refine with_tabW spec_l11Touch.tab4 spec_l11Touch.bits4 (fun HT_ HW_ => ?_)
     generalize w18.drew = w19 at HO0_2 BK177 BK178 BK180 HK HB hHeld ⊢
     refine py HT_ 0 15 (bv 10 0x1) ?_
     refine py HT_ 2 17 (bv 10 0x5) ?_
     refine tk HT_ HW_ hHeld 1 16 (bv 10 0x7) ?_
     refine tk HT_ HW_ hHeld 3 18 (bv 10 0xf) ?_
     refine tk HT_ HW_ hHeld 5 20 (bv 10 0x2f) ?_
     refine join_ (σ := Value × Value) 3 (bv 10 0x7f) (fun s_ => [(19, s_.1), (21, s_.2)]) (fun s_ w' => (w'.cell? ⟨gb177, 0, none⟩ = some (.int .i64 a0_0) ∧ w'.cell? ⟨gb177, 1, none⟩ = some (.int .i64 a0_1) ∧ w'.cell? ⟨gb177, 2, none⟩ = some (.slice (some ad179) l0_2.length co8) ∧ w'.cell? ⟨gb180, 0, none⟩ = some (.string ((rd_T84 l0_2 a1).f0)) ∧ w'.cell? ⟨gb180, 1, none⟩ = some (.string ((rd_T84 l0_2 a1).f1)) ∧ w'.cell? ⟨gb180, 2, none⟩ = some (.int .i64 ((rd_T84 l0_2 a1).f2))) ∧ (Kd.R k84 84 w' w0.heap.size (fun k_ => (P0_2_ k_ ∨ w.heap.size ≤ k_) ∧ some k_ ≠ (s_.1 : Value).ownBlock ∧ some k_ ≠ (s_.2 : Value).ownBlock ∧ k_ ≠ gb180) (.slice (some ad179) l0_2.length co8) l0_2) ∧ (Kd.R k84 84 w' w0.heap.size (fun k_ => (P0_2_ k_ ∨ w.heap.size ≤ k_) ∧ some k_ ≠ (.slice (some ad179) l0_2.length co8 : Value).ownBlock ∧ some k_ ≠ (s_.2 : Value).ownBlock ∧ k_ ≠ gb180) s_.1 t181) ∧ (Kd.R k84 84 w' w0.heap.size (fun k_ => (P0_2_ k_ ∨ w.heap.size ≤ k_) ∧ some k_ ≠ (.slice (some ad179) l0_2.length co8 : Value).ownBlock ∧ some k_ ≠ (s_.1 : Value).ownBlock ∧ k_ ≠ gb180) s_.2 y184) ∧ (w'.heap[gb177]? = some (.cells #[.int .i64 a0_0, .int .i64 a0_1, .slice (some ad179) l0_2.length co8] 53 (0, 0))) ∧ (w'.heap[gb178]? = some (.cells #[.int .i64 0, .int .i64 0, .slice none 0 0] 53 (0, 0))) ∧ (w'.heap[gb180]? = some (.cells #[.string ((rd_T84 l0_2 a1).f0), .string ((rd_T84 l0_2 a1).f1), .int .i64 ((rd_T84 l0_2 a1).f2)] 84 (0, 0))) ∧ (Kept w w' (fun k_ => P0_2_ k_)) ∧ (Below w0.heap.size w0 w')) ?_ ?_
     rotate_left
     ·intro hCont
      refine two_ (i := 4) (j := 6) (Ni := some 19) (Nj := some 21) (bv 10 0x3f) (bv 10 0x6f) rfl rfl rfl rfl (two_of HT_.out (by kernel_rfl)) (by decide) (by decide) (fun K hK => ?_) (fun K hK => ?_)
      ·skip
       refine goes_ Try.func104 (by kernel_rfl) rfl #[.slice (some ad179) l0_2.length co8, .string ((rd_T84 l0_2 a1).f0)] (by rfl) rfl rfl ml ?_
       with_reducible refine (spec_l10Without.calls k _ _ l0_2 ((rd_T84 l0_2 a1).f0) t181 _ ?side1 ?side2 A6.out).mono ?_
       (case side1 => exact cr HO0_2)
       (case side2 => exact (Kd.R_reads' HO0_2.out).2.1)
       rintro e w20 ⟨v182, rfl, ho0, hb⟩
       refine ⟨_, rfl, ?_⟩
       have n0_ := Aside0.mk (Kd.R_elder' (ro HO0_2) (Kd.R_base ho0) hb)
       have n1_ := Aside0.mk (Kd.R_lower (Kd.R_newB (nw (Kd.R_newM (M := fun k_ => (P0_2_ k_ ∨ w.heap.size ≤ k_)) ho0 (by first | exact HK.out.1 | exact (show Kept w _ (fun k_ => P0_2_ k_) from by repeat (first | (with_reducible first | exact HK.out | apply Kept.alloc | apply Kept.drewN | apply Kept.drew | refine Kept.setCell ?_ (.inr GW177.out) _ | refine Kept.setCell ?_ (.inr GW178.out) _ | refine Kept.setCell ?_ (.inr GW180.out) _) | exact HK.out)).1) (fun k_ h_ => .inr h_)) HO0_2) (g := gb180) (o := .cells #[.string ((rd_T84 l0_2 a1).f0), .string ((rd_T84 l0_2 a1).f1), .int .i64 ((rd_T84 l0_2 a1).f2)] 84 (0, 0)) (bk BK180)) (below_size (be3 HB GE177 GE178 GE180)))
       have n2_ := bb BK177 hb
       have n3_ := bb BK178 hb
       have n4_ := bb BK180 hb
       have n5_ := Aside0.mk (Kept.below (S := (fun k_ => P0_2_ k_)) (by repeat (first | (with_reducible first | exact HK.out | apply Kept.alloc | apply Kept.drewN | apply Kept.drew | refine Kept.setCell ?_ (.inr GW177.out) _ | refine Kept.setCell ?_ (.inr GW178.out) _ | refine Kept.setCell ?_ (.inr GW180.out) _) | exact HK.out)) hb)
       have n6_ := Aside0.mk (below_step (be3 HB GE177 GE178 GE180) hb)
       clear HO0_2
       clear BK177
       clear BK178
       clear BK180
       clear HK
       clear HB
       have HO0_2 := n0_
       have HO183 := n1_
       have BK177 := n2_
       have BK178 := n3_
       have BK180 := n4_
       have HK := n5_
       have HB := n6_
       clear n0_ n1_ n2_ n3_ n4_ n5_ n6_
       (try clear hb)
       (try clear hb2)
       (try clear hk)
       (try clear hi)
       (try clear ho0)
       refine hK.out _ _ ⟨bc0 BK177, bc1 BK177, bc2 BK177, bc0 BK180, bc1 BK180, bc2 BK180⟩ (fun hHeld => ?_)
       clear hK K
       refine norm_ (a' := ?_) ?_ ?_
       rotate_left
       ·show Act.put _ (some 19) _ = _
        simp only [aP]
        rfl
       refine one_ (i := 6) (N := some 21) (bv 10 0x7f) rfl rfl (one_of HT_.out (by kernel_rfl)) (by decide) (fun K hK => ?_)
       refine Kd.R_lit_step k84 _ 84 ?hg (N := 21) ?hd (xs := ([(⟨(rd_T84 l0_2 a1).f0, (rd_T84 l0_2 a1).f1, (rd_T84 l0_2 a1).f2⟩ : S84)] : List (S84))) (inner := [.string ((rd_T84 l0_2 a1).f0), .string ((rd_T84 l0_2 a1).f1), .int .i64 ((rd_T84 l0_2 a1).f2)]) (ok := fun _ => True) (okp := fun _ => True) ?hr ?hp (fun _ hk => hk) trivial (Below.refl _ _) (Nat.le_refl _) (by simp) ?_; (case hd => rfl); (case hg => rfl); (case hr => first | (go_simp; done) | (go_simp; rfl)); (case hp => exact (Reps.c3 (show Kd.M k84 _ _ _ (⟨(rd_T84 l0_2 a1).f0, (rd_T84 l0_2 a1).f1, (rd_T84 l0_2 a1).f2⟩ : S84) [.string ((rd_T84 l0_2 a1).f0), .string ((rd_T84 l0_2 a1).f1), .int .i64 ((rd_T84 l0_2 a1).f2)] from (k84_mkM _ _ _ (⟨(rd_T84 l0_2 a1).f0, (rd_T84 l0_2 a1).f1, (rd_T84 l0_2 a1).f2⟩ : S84) )) (Reps.none _ _)))
       intro v185 w21 ho22 hb hg_ hnew_
       clear hg_ hnew_
       (first | rw [← Ny184.out] at ho22 | (simp only [Int.reduceToNat] at ho22; rw [← Ny184.out] at ho22))
       have n0_ := Aside0.mk (Kd.R_elder' (ro HO0_2) (Kd.R_base ho22) hb)
       have n1_ := Aside0.mk (Kd.R_elder' (ro HO183) (Kd.R_base ho22) hb)
       have n2_ := Aside0.mk (Kd.R_lower (Kd.R_newB (nw (nw (Kd.R_newM (M := fun k_ => (P0_2_ k_ ∨ w.heap.size ≤ k_)) ho22 (by first | exact HK.out.1 | exact (show Kept w _ (fun k_ => P0_2_ k_) from by repeat (first | (with_reducible first | exact HK.out | apply Kept.alloc | apply Kept.drewN | apply Kept.drew | refine Kept.setCell ?_ (.inr GW177.out) _ | refine Kept.setCell ?_ (.inr GW178.out) _ | refine Kept.setCell ?_ (.inr GW180.out) _) | exact HK.out)).1) (fun k_ h_ => .inr h_)) HO0_2) HO183) (g := gb180) (o := .cells #[.string ((rd_T84 l0_2 a1).f0), .string ((rd_T84 l0_2 a1).f1), .int .i64 ((rd_T84 l0_2 a1).f2)] 84 (0, 0)) (bk BK180)) (below_size (be3 HB GE177 GE178 GE180)))
       have n3_ := bb BK177 hb
       have n4_ := bb BK178 hb
       have n5_ := bb BK180 hb
       have n6_ := Aside0.mk (Kept.below (S := (fun k_ => P0_2_ k_)) (by repeat (first | (with_reducible first | exact HK.out | apply Kept.alloc | apply Kept.drewN | apply Kept.drew | refine Kept.setCell ?_ (.inr GW177.out) _ | refine Kept.setCell ?_ (.inr GW178.out) _ | refine Kept.setCell ?_ (.inr GW180.out) _) | exact HK.out)) hb)
       have n7_ := Aside0.mk (below_step (be3 HB GE177 GE178 GE180) hb)
       clear HO0_2
       clear HO183
       clear BK177
       clear BK178
       clear BK180
       clear HK
       clear HB
       have HO0_2 := n0_
       have HO183 := n1_
       have HO186 := n2_
       have BK177 := n3_
       have BK178 := n4_
       have BK180 := n5_
       have HK := n6_
       have HB := n7_
       clear n0_ n1_ n2_ n3_ n4_ n5_ n6_ n7_
       clear hb ho22
       refine hK.out _ _ ⟨bc0 BK177, bc1 BK177, bc2 BK177, bc0 BK180, bc1 BK180, bc2 BK180⟩ (fun hHeld => ?_)
       clear hK K
       refine norm_ (a' := ?_) ?_ ?_
       rotate_left
       ·show Act.put _ (some 21) _ = _
        simp only [aP]
        rfl
       exact norm_ (by simp only [putAll, Act.put, List.setIfInBounds_toArray, List.set_cons_zero, List.set_cons_succ]) (hCont (v182, v185) _ ⟨hHeld, (by (with_reducible repeat (first | apply Kd.R_alloc | apply Kd.R_drewN | apply Kd.R_drew)); exact rm HO0_2), (by (with_reducible repeat (first | apply Kd.R_alloc | apply Kd.R_drewN | apply Kd.R_drew)); exact rm HO183), (by (with_reducible repeat (first | apply Kd.R_alloc | apply Kd.R_drewN | apply Kd.R_drew)); exact rm HO186), (bk BK177), (bk BK178), (bk BK180), (by repeat (first | (with_reducible first | exact HK.out | apply Kept.alloc | apply Kept.drewN | apply Kept.drew | refine Kept.setCell ?_ (.inr GW177.out) _ | refine Kept.setCell ?_ (.inr GW178.out) _ | refine Kept.setCell ?_ (.inr GW180.out) _) | exact HK.out)), (be3 HB GE177 GE178 GE180)⟩)
      skip
      refine Kd.R_lit_step k84 _ 84 ?hg (N := 21) ?hd (xs := ([(⟨(rd_T84 l0_2 a1).f0, (rd_T84 l0_2 a1).f1, (rd_T84 l0_2 a1).f2⟩ : S84)] : List (S84))) (inner := [.string ((rd_T84 l0_2 a1).f0), .string ((rd_T84 l0_2 a1).f1), .int .i64 ((rd_T84 l0_2 a1).f2)]) (ok := fun _ => True) (okp := fun _ => True) ?hr ?hp (fun _ hk => hk) trivial (Below.refl _ _) (Nat.le_refl _) (by simp) ?_; (case hd => rfl); (case hg => rfl); (case hr => first | (go_simp; done) | (go_simp; rfl)); (case hp => exact (Reps.c3 (show Kd.M k84 _ _ _ (⟨(rd_T84 l0_2 a1).f0, (rd_T84 l0_2 a1).f1, (rd_T84 l0_2 a1).f2⟩ : S84) [.string ((rd_T84 l0_2 a1).f0), .string ((rd_T84 l0_2 a1).f1), .int .i64 ((rd_T84 l0_2 a1).f2)] from (k84_mkM _ _ _ (⟨(rd_T84 l0_2 a1).f0, (rd_T84 l0_2 a1).f1, (rd_T84 l0_2 a1).f2⟩ : S84) )) (Reps.none _ _)))
      intro v185 w20 ho21 hb hg_ hnew_
      clear hg_ hnew_
      (first | rw [← Ny184.out] at ho21 | (simp only [Int.reduceToNat] at ho21; rw [← Ny184.out] at ho21))
      have n0_ := Aside0.mk (Kd.R_elder' (ro HO0_2) (Kd.R_base ho21) hb)
      have n1_ := Aside0.mk (Kd.R_lower (Kd.R_newB (nw (Kd.R_newM (M := fun k_ => (P0_2_ k_ ∨ w.heap.size ≤ k_)) ho21 (by first | exact HK.out.1 | exact (show Kept w _ (fun k_ => P0_2_ k_) from by repeat (first | (with_reducible first | exact HK.out | apply Kept.alloc | apply Kept.drewN | apply Kept.drew | refine Kept.setCell ?_ (.inr GW177.out) _ | refine Kept.setCell ?_ (.inr GW178.out) _ | refine Kept.setCell ?_ (.inr GW180.out) _) | exact HK.out)).1) (fun k_ h_ => .inr h_)) HO0_2) (g := gb180) (o := .cells #[.string ((rd_T84 l0_2 a1).f0), .string ((rd_T84 l0_2 a1).f1), .int .i64 ((rd_T84 l0_2 a1).f2)] 84 (0, 0)) (bk BK180)) (below_size (be3 HB GE177 GE178 GE180)))
      have n2_ := bb BK177 hb
      have n3_ := bb BK178 hb
      have n4_ := bb BK180 hb
      have n5_ := Aside0.mk (Kept.below (S := (fun k_ => P0_2_ k_)) (by repeat (first | (with_reducible first | exact HK.out | apply Kept.alloc | apply Kept.drewN | apply Kept.drew | refine Kept.setCell ?_ (.inr GW177.out) _ | refine Kept.setCell ?_ (.inr GW178.out) _ | refine Kept.setCell ?_ (.inr GW180.out) _) | exact HK.out)) hb)
      have n6_ := Aside0.mk (below_step (be3 HB GE177 GE178 GE180) hb)
      clear HO0_2
      clear BK177
      clear BK178
      clear BK180
      clear HK
      clear HB
      have HO0_2 := n0_
      have HO186 := n1_
      have BK177 := n2_
      have BK178 := n3_
      have BK180 := n4_
      have HK := n5_
      have HB := n6_
      clear n0_ n1_ n2_ n3_ n4_ n5_ n6_
      clear hb ho21
      refine hK.out _ _ ⟨bc0 BK177, bc1 BK177, bc2 BK177, bc0 BK180, bc1 BK180, bc2 BK180⟩ (fun hHeld => ?_)
      clear hK K
      refine norm_ (a' := ?_) ?_ ?_
      rotate_left
      ·show Act.put _ (some 21) _ = _
       simp only [aP]
       rfl
      refine one_ (i := 4) (N := some 19) (bv 10 0x7f) rfl rfl (one_of HT_.out (by kernel_rfl)) (by decide) (fun K hK => ?_)
      refine goes_ Try.func104 (by kernel_rfl) rfl #[.slice (some ad179) l0_2.length co8, .string ((rd_T84 l0_2 a1).f0)] (by rfl) rfl rfl ml ?_
      with_reducible refine (spec_l10Without.calls k _ _ l0_2 ((rd_T84 l0_2 a1).f0) t181 _ ?side1 ?side2 A6.out).mono ?_
      (case side1 => exact cr HO0_2)
      (case side2 => exact (Kd.R_reads' HO0_2.out).2.1)
      rintro e w22 ⟨v182, rfl, ho0, hb⟩
      refine ⟨_, rfl, ?_⟩
      have n0_ := Aside0.mk (Kd.R_elder' (ro HO0_2) (Kd.R_base ho0) hb)
      have n1_ := Aside0.mk (Kd.R_elder' (ro HO186) (Kd.R_base ho0) hb)
      have n2_ := Aside0.mk (Kd.R_lower (Kd.R_newB (nw (nw (Kd.R_newM (M := fun k_ => (P0_2_ k_ ∨ w.heap.size ≤ k_)) ho0 (by first | exact HK.out.1 | exact (show Kept w _ (fun k_ => P0_2_ k_) from by repeat (first | (with_reducible first | exact HK.out | apply Kept.alloc | apply Kept.drewN | apply Kept.drew | refine Kept.setCell ?_ (.inr GW177.out) _ | refine Kept.setCell ?_ (.inr GW178.out) _ | refine Kept.setCell ?_ (.inr GW180.out) _) | exact HK.out)).1) (fun k_ h_ => .inr h_)) HO0_2) HO186) (g := gb180) (o := .cells #[.string ((rd_T84 l0_2 a1).f0), .string ((rd_T84 l0_2 a1).f1), .int .i64 ((rd_T84 l0_2 a1).f2)] 84 (0, 0)) (bk BK180)) (below_size (be3 HB GE177 GE178 GE180)))
      have n3_ := bb BK177 hb
      have n4_ := bb BK178 hb
      have n5_ := bb BK180 hb
      have n6_ := Aside0.mk (Kept.below (S := (fun k_ => P0_2_ k_)) (by repeat (first | (with_reducible first | exact HK.out | apply Kept.alloc | apply Kept.drewN | apply Kept.drew | refine Kept.setCell ?_ (.inr GW177.out) _ | refine Kept.setCell ?_ (.inr GW178.out) _ | refine Kept.setCell ?_ (.inr GW180.out) _) | exact HK.out)) hb)
      have n7_ := Aside0.mk (below_step (be3 HB GE177 GE178 GE180) hb)
      clear HO0_2
      clear HO186
      clear BK177
      clear BK178
      clear BK180
      clear HK
      clear HB
      have HO0_2 := n0_
      have HO186 := n1_
      have HO183 := n2_
      have BK177 := n3_
      have BK178 := n4_
      have BK180 := n5_
      have HK := n6_
      have HB := n7_
      clear n0_ n1_ n2_ n3_ n4_ n5_ n6_ n7_
      (try clear hb)
      (try clear hb2)
      (try clear hk)
      (try clear hi)
      (try clear ho0)
      refine hK.out _ _ ⟨bc0 BK177, bc1 BK177, bc2 BK177, bc0 BK180, bc1 BK180, bc2 BK180⟩ (fun hHeld => ?_)
      clear hK K
      refine norm_ (a' := ?_) ?_ ?_
      rotate_left
      ·show Act.put _ (some 19) _ = _
       simp only [aP]
       rfl
      exact norm_ (by simp only [putAll, Act.put, List.setIfInBounds_toArray, List.set_cons_zero, List.set_cons_succ]) (hCont (v182, v185) _ ⟨hHeld, (by (with_reducible repeat (first | apply Kd.R_alloc | apply Kd.R_drewN | apply Kd.R_drew)); exact rm HO0_2), (by (with_reducible repeat (first | apply Kd.R_alloc | apply Kd.R_drewN | apply Kd.R_drew)); exact rm HO183), (by (with_reducible repeat (first | apply Kd.R_alloc | apply Kd.R_drewN | apply Kd.R_drew)); exact rm HO186), (bk BK177), (bk BK178), (bk BK180), (by repeat (first | (with_reducible first | exact HK.out | apply Kept.alloc | apply Kept.drewN | apply Kept.drew | refine Kept.setCell ?_ (.inr GW177.out) _ | refine Kept.setCell ?_ (.inr GW178.out) _ | refine Kept.setCell ?_ (.inr GW180.out) _) | exact HK.out)), (be3 HB GE177 GE178 GE180)⟩)
     rintro ⟨v182, v185⟩ w23 ⟨hS_, h0_, h1_, h2_, h3_, h4_, h5_, h6_, h7_⟩
     have n0_ : Aside0 (Kd.R k84 84 w23 w0.heap.size (fun k_ => (P0_2_ k_ ∨ w.heap.size ≤ k_) ∧ some k_ ≠ (v182 : Value).ownBlock ∧ some k_ ≠ (v185 : Value).ownBlock ∧ k_ ≠ gb180) (.slice (some ad179) l0_2.length co8) l0_2) := ⟨h0_⟩
     have n1_ : Aside0 (Kd.R k84 84 w23 w0.heap.size (fun k_ => (P0_2_ k_ ∨ w.heap.size ≤ k_) ∧ some k_ ≠ (.slice (some ad179) l0_2.length co8 : Value).ownBlock ∧ some k_ ≠ (v185 : Value).ownBlock ∧ k_ ≠ gb180) v182 t181) := ⟨h1_⟩
     have n2_ : Aside0 (Kd.R k84 84 w23 w0.heap.size (fun k_ => (P0_2_ k_ ∨ w.heap.size ≤ k_) ∧ some k_ ≠ (.slice (some ad179) l0_2.length co8 : Value).ownBlock ∧ some k_ ≠ (v182 : Value).ownBlock ∧ k_ ≠ gb180) v185 y184) := ⟨h2_⟩
     have n3_ : Aside0 (w23.heap[gb177]? = some (.cells #[.int .i64 a0_0, .int .i64 a0_1, .slice (some ad179) l0_2.length co8] 53 (0, 0))) := ⟨h3_⟩
     have n4_ : Aside0 (w23.heap[gb178]? = some (.cells #[.int .i64 0, .int .i64 0, .slice none 0 0] 53 (0, 0))) := ⟨h4_⟩
     have n5_ : Aside0 (w23.heap[gb180]? = some (.cells #[.string ((rd_T84 l0_2 a1).f0), .string ((rd_T84 l0_2 a1).f1), .int .i64 ((rd_T84 l0_2 a1).f2)] 84 (0, 0))) := ⟨h5_⟩
     have n6_ : Aside0 (Kept w w23 (fun k_ => P0_2_ k_)) := ⟨h6_⟩
     have n7_ : Aside0 (Below w0.heap.size w0 w23) := ⟨h7_⟩
     clear HO0_2
     clear BK177
     clear BK178
     clear BK180
     clear HK
     clear HB
     clear h0_ h1_ h2_ h3_ h4_ h5_ h6_ h7_
     have HO0_2 := n0_
     have HO183 := n1_
     have HO186 := n2_
     have BK177 := n3_
     have BK178 := n4_
     have BK180 := n5_
     have HK := n6_
     have HB := n7_
     clear n0_ n1_ n2_ n3_ n4_ n5_ n6_ n7_
     have hHeld : w23.cell? ⟨gb177, 0, none⟩ = some (.int .i64 a0_0) ∧ w23.cell? ⟨gb177, 1, none⟩ = some (.int .i64 a0_1) ∧ w23.cell? ⟨gb177, 2, none⟩ = some (.slice (some ad179) l0_2.length co8) ∧ w23.cell? ⟨gb180, 0, none⟩ = some (.string ((rd_T84 l0_2 a1).f0)) ∧ w23.cell? ⟨gb180, 1, none⟩ = some (.string ((rd_T84 l0_2 a1).f1)) ∧ w23.cell? ⟨gb180, 2, none⟩ = some (.int .i64 ((rd_T84 l0_2 a1).f2)) := hS_
     obtain ⟨Ao25, co25, eo25⟩ := Kd.R_slice HO186.out
     (first | subst eo25 | (injection eo25 with f1_ f2_ f3_; have f4_ := f1_.symm; have f5_ := f3_.symm; clear f1_ f2_ f3_; subst f4_; subst f5_))
     refine norm_ (a' := ?_) ?_ ?_
     rotate_left
     ·simp only [putAll, Act.put, List.setIfInBounds_toArray, List.set_cons_zero, List.set_cons_succ]
      rfl
     refine one_ (i := 7) (N := some 22) (bv 10 0xff) rfl rfl (one_of HT_.out (by kernel_rfl)) (by decide) (fun K hK => ?_)
     refine Kd.R_append_rows_step k84 (w0 := w0) w0.heap.size (by rfl) (.tmp 19) (.tmp 21) 51 84 (.agg #[(.string ⟨#[]⟩), (.string ⟨#[]⟩), (.int .i64 0)]) 40 rfl Try.underlying51 info84 rfl (by decide) (by omega) v182 t181 y184 _ _ _ (fun k_ => (P0_2_ k_ ∨ w.heap.size ≤ k_) ∧ some k_ ≠ (.slice (some ad179) l0_2.length co8 : Value).ownBlock ∧ nb k_ Ao25 y184.length co25 ∧ k_ ≠ gb180) (fun _ => False) rfl rfl ?aO ?aR (fun _ _ h => h) (fun _ h => h.elim) ?aF ?aB ?aS ?aL ?_
     (case aR => repeat (first | exact (Kd.R_reads' HO186.out).2.2 | (with_reducible refine Kd.C_alloc ?_ _) | (with_reducible refine Kd.C_drewN ?_ _) | (with_reducible refine Kd.C_drew ?_)))
     (case aB => exact (be3 HB GE177 GE178 GE180))
     (case aF => exact (fun k_ hk => ⟨(.inr (Nat.le_trans (by first | exact HK.out.1 | exact (show Kept w _ (fun k_ => P0_2_ k_) from by repeat (first | (with_reducible first | exact HK.out | apply Kept.alloc | apply Kept.drewN | apply Kept.drew | refine Kept.setCell ?_ (.inr GW177.out) _ | refine Kept.setCell ?_ (.inr GW178.out) _ | refine Kept.setCell ?_ (.inr GW180.out) _) | exact HK.out)).1) hk)), Kd.fresh' (Kd.R_lt (ro HO0_2)) k_ hk, Kd.fresh' (Kd.R_lt (ro HO186)) k_ hk, Kd.freshB (g := gb180) (o := .cells #[.string ((rd_T84 l0_2 a1).f0), .string ((rd_T84 l0_2 a1).f1), .int .i64 ((rd_T84 l0_2 a1).f2)] 84 (0, 0)) (bk BK180) k_ hk⟩))
     (case aO => exact (ro HO183))
     (case aS => exact (below_size (be3 HB GE177 GE178 GE180)))
     (case aL => have := LMc7.out; omega)
     intro v188 w24 ho hb hg hat
     rw [← Ny187.out] at ho
     have n0_ := Aside0.mk (Kd.R_after (ok := (fun k_ => (P0_2_ k_ ∨ w.heap.size ≤ k_) ∧ nb k_ Ao25 y184.length co25 ∧ k_ ≠ gb180)) (by (with_reducible repeat (first | apply Kd.R_alloc | apply Kd.R_drewN | apply Kd.R_drew)); exact rm HO0_2) hg hat)
     have n1_ := Aside0.mk (blk_grown (g := gb177) (o := .cells #[.int .i64 a0_0, .int .i64 a0_1, .slice (some ad179) l0_2.length co8] 53 (0, 0)) (bk BK177) hg (Kd.R_ne HO183.out BK177.out (by decide)))
     have n2_ := Aside0.mk (blk_grown (g := gb178) (o := .cells #[.int .i64 0, .int .i64 0, .slice none 0 0] 53 (0, 0)) (bk BK178) hg (Kd.R_ne HO183.out BK178.out (by decide)))
     have n3_ := Aside0.mk (blk_grown (g := gb180) (o := .cells #[.string ((rd_T84 l0_2 a1).f0), .string ((rd_T84 l0_2 a1).f1), .int .i64 ((rd_T84 l0_2 a1).f2)] 84 (0, 0)) (bk BK180) hg (Kd.R_away HO183.out (fun _ hk => hk.2.2.2)))
     have n4_ := Aside0.mk (Kd.R_after (ok := (fun k_ => (P0_2_ k_ ∨ w.heap.size ≤ k_) ∧ some k_ ≠ (.slice (some ad179) l0_2.length co8 : Value).ownBlock ∧ k_ ≠ gb180)) (by (with_reducible repeat (first | apply Kd.R_alloc | apply Kd.R_drewN | apply Kd.R_drew)); exact rm HO186) hg hat)
     have n5_ := Aside0.mk (hb)
     have n6_ := Aside0.mk (Kept.of_grown (S := (fun k_ => P0_2_ k_)) hg (by repeat (first | (with_reducible first | exact HK.out | apply Kept.alloc | apply Kept.drewN | apply Kept.drew | refine Kept.setCell ?_ (.inr GW177.out) _ | refine Kept.setCell ?_ (.inr GW178.out) _ | refine Kept.setCell ?_ (.inr GW180.out) _) | exact HK.out)) (fun k_ e_ => (HO183.out.1 k_ e_).1))
     have n7_ := Aside0.mk (ho)
     clear HO0_2
     clear BK177
     clear BK178
     clear BK180
     clear HO186
     clear HB
     clear HK
     clear HO183
     have HO0_2 := n0_
     have BK177 := n1_
     have BK178 := n2_
     have BK180 := n3_
     have HO186 := n4_
     have HB := n5_
     have HK := n6_
     have HO189 := n7_
     clear n0_ n1_ n2_ n3_ n4_ n5_ n6_ n7_
     clear ho hb hg hat
     obtain ⟨Ao26, co26, eo26⟩ := Kd.R_slice HO189.out
     (first | subst eo26 | (injection eo26 with f1_ f2_ f3_; have f4_ := f1_.symm; have f5_ := f3_.symm; clear f1_ f2_ f3_; subst f4_; subst f5_))
     refine hK.out _ _ ⟨bc0 BK177, bc1 BK177, bc2 BK177, bc0 BK180, bc1 BK180, bc2 BK180⟩ (fun hHeld => ?_)
     clear hK K
     refine norm_ (a' := ?_) ?_ ?_
     rotate_left
     ·show Act.put _ (some 22) _ = _
      simp only [aP]
      rfl
     refine py HT_ 8 23 (bv 10 0x1ff) ?_
     refine last_ (i := 9) (N := none) (bv 10 0x3ff) rfl rfl (one_of HT_.out (by kernel_rfl)) (by decide) (fun K hK => ?_)
     have hs27 : w24.cell? ⟨gb177, 2, none⟩ = some (.slice (some ad179) l0_2.length co8) := bc2 BK177
     have hfs27 := blk_frozen BK177.out 2
     have hns27_1 := NB178_177.out
     have hns27_2 := NB180_177.out
     have hms27_1 := NB177_178.out
     have hms27_2 := NB177_180.out
     refine skip_ (w1 := ?_) (by rfl) rfl ?_ ?_
     rotate_left
     ·go_simp
      rfl
     refine hK.out _ _ ?_
     clear hK K
     refine done_ (done_of HT_.out (by kernel_rfl)) ?_
     have hcz28_0 := bz3 BK177
     have hcz29_0 := bz3 BK178
     try go_wp2
     refine bodyPost_ret (results_cell_row rfl _ _ gb178 53 #[.int .i64 a0_0, .int .i64 a0_1, .slice Ao26 y187.length co26] (0, 0) _ rfl (by (with_reducible repeat (first | refine blk_drewN ?_ _ | refine blk_drew ?_ | refine blk_alloc ?_ _)); refine blk_put (cs := #[.int .i64 a0_0, .int .i64 a0_1, .slice none 0 0]) ?_ 2 _ rfl; (with_reducible repeat (first | refine blk_drewN ?_ _ | refine blk_drew ?_ | refine blk_alloc ?_ _)); refine blk_put (cs := #[.int .i64 a0_0, .int .i64 0, .slice none 0 0]) ?_ 1 _ rfl; (with_reducible repeat (first | refine blk_drewN ?_ _ | refine blk_drew ?_ | refine blk_alloc ?_ _)); refine blk_put (cs := #[.int .i64 0, .int .i64 0, .slice none 0 0]) ?_ 0 _ rfl; (with_reducible repeat (first | refine blk_drewN ?_ _ | refine blk_drew ?_ | refine blk_alloc ?_ _)); refine blk_far ?_ NB178_177.out _; (with_reducible repeat (first | refine blk_drewN ?_ _ | refine blk_drew ?_ | refine blk_alloc ?_ _)); exact BK178.out) Try.underlying53 rfl (by kernel_rfl)) rfl ?_
     exact ⟨_, er, by (with_reducible repeat (first | apply Kd.R_alloc | apply Kd.R_drewN | apply Kd.R_drew)); exact Kd.R_mono (Kd.R_far (p := ⟨gb178, 2, none⟩) (Kd.R_far (p := ⟨gb178, 1, none⟩) (Kd.R_far (p := ⟨gb178, 0, none⟩) (Kd.R_far (p := ⟨gb177, 2, none⟩) (Kd.R_types (Kd.R_types HO189.out BK177.out (by decide)) BK178.out (by decide)) (fun _ hk => hk.1.2) (.slice Ao26 y187.length co26)) (fun _ hk => hk.2) (.int .i64 a0_0)) (fun _ hk => hk.2) (.int .i64 a0_1)) (fun _ hk => hk.2) (.slice Ao26 y187.length co26)) (fun _ hk => hk.1.1.1), be3 HB GE177 GE178 GE180, by repeat (first | (with_reducible first | exact HK.out | apply Kept.alloc | apply Kept.drewN | apply Kept.drew | refine Kept.setCell ?_ (.inr GW177.out) _ | refine Kept.setCell ?_ (.inr GW178.out) _ | refine Kept.setCell ?_ (.inr GW180.out) _) | exact HK.out)⟩
    rw [if_neg c7] at H
    exact absurd H (by simp)
   rw [if_neg c5] at H
   have c5b0 : (a0_0 == 2) = false := beq_eq_false_iff_ne.mpr c5
   have c5b1 : (a0_0 != 2) = true := bne_iff_ne.mpr c5
   by_cases c30 : a0_0 = 3
   ·rw [if_pos c30] at H
    have c30b0 : (a0_0 == 3) = true := beq_iff_eq.mpr c30
    have c30b1 : (a0_0 != 3) = false := bne_eq_false_iff_eq.mpr c30
    clear c30
    obtain ⟨y190, hy190⟩ : ∃ y_ : List (S84), y_ = (l0_2.set (a1 : Int).toNat (⟨(rd_T84 l0_2 a1).f0, (rd_T84 l0_2 a1).f1, 1⟩ : S84)) := ⟨_, rfl⟩
    replace H : (some (a0_0, a0_1, y190)) = some (r1, r2, r3) := by first | (rw [hy190]; with_reducible exact H) | (have H2_ := (Option.bind_some _ _).symm.trans H; rw [hy190]; with_reducible exact H2_) | (have H2_ := (Option.bind_some _ _).symm.trans H; with_reducible exact H2_) | with_reducible exact H | (rw [hy190]; exact H) | exact H
    have Ny190 := Aside0.mk hy190
    clear hy190
    simp only [Option.some.injEq, Prod.mk.injEq] at H
    obtain ⟨rfl, rfl, rfl⟩ := H
    obtain ⟨Ao32, co32, eo32⟩ := Kd.R_slice HO0_2.out
    subst eo32
    go_enter Try.func88, Try.ntmps88
    go_wp2_with (first | ((with_reducible refine gate_dst (N := 2) rfl ?_); refine bx 2 #[.int .i64 a0_0, .int .i64 a0_1, .slice Ao32 l0_2.length co32] 53 ?_; intro gb177 hg w33 hbox hb; replace HO0_2 := rb HO0_2 hb; have BK177 := am hbox; have GW177 := Aside0.mk ((by rw [hg]; exact (by first | exact HK.out.1 | exact (show Kept w _ (fun k_ => P0_2_ k_) from by repeat (first | (with_reducible first | exact HK.out | apply Kept.alloc | apply Kept.drewN | apply Kept.drew) | exact HK.out)).1) : w.heap.size ≤ gb177)); replace HK := Aside0.mk (Kept.below (S := (fun k_ => P0_2_ k_)) (by repeat (first | (with_reducible first | exact HK.out | apply Kept.alloc | apply Kept.drewN | apply Kept.drew) | exact HK.out)) hb); have GE177 := Aside0.mk ((by rw [hg]; exact (below_size (be HB)) : w0.heap.size ≤ gb177)); replace HB := s0 HB hb; clear hb hbox hg) | ((with_reducible refine gate_dst (N := 4) rfl ?_); refine bx 4 #[.int .i64 0, .int .i64 0, .slice none 0 0] 53 ?_; intro gb178 hg w34 hbox hb; replace HO0_2 := rb HO0_2 hb; have BK178 := am hbox; have GW178 := Aside0.mk ((by rw [hg]; exact (by first | exact HK.out.1 | exact (show Kept w _ (fun k_ => P0_2_ k_) from by repeat (first | (with_reducible first | exact HK.out | apply Kept.alloc | apply Kept.drewN | apply Kept.drew | refine Kept.setCell ?_ (.inr GW177.out) _) | exact HK.out)).1) : w.heap.size ≤ gb178)); replace HK := Aside0.mk (Kept.below (S := (fun k_ => P0_2_ k_)) (by repeat (first | (with_reducible first | exact HK.out | apply Kept.alloc | apply Kept.drewN | apply Kept.drew | refine Kept.setCell ?_ (.inr GW177.out) _) | exact HK.out)) hb); have GE178 := Aside0.mk ((by rw [hg]; exact (below_size (be1 HB GE177)) : w0.heap.size ≤ gb178)); replace HB := Aside0.mk (below_step (be1 HB GE177) hb); have NB177_178 := Aside0.mk ((by rw [hg]; exact Nat.ne_of_lt (bl BK177) : gb177 ≠ gb178)); have NB178_177 := Aside0.mk ((by rw [hg]; exact Nat.ne_of_gt (bl BK177) : gb178 ≠ gb177)); replace BK177 := bb BK177 hb; clear hb hbox hg; have hnb35 := NB177_178.out; have hnc35 := NB178_177.out; have hcz36_0 := bz3 BK177; have p179 : 0 ≤ (a1 : Int) := od; have q179 : a1 < (l0_2.length : Int) := od; obtain ⟨ad179, e179, hx179_0, hx179_1, hx179_2⟩ := at_T84 (Kd.R_reads' HO0_2.out).2.2 a1 p179 q179; cases e179; replace p179 := eq_true p179; replace q179 := eq_true q179) | ((with_reducible refine gate_dst (N := 5) rfl ?_); refine bx 5 #[.string (⟨#[]⟩ : ByteArray), .string (⟨#[]⟩ : ByteArray), .int .i64 0] 84 ?_; intro gb180 hg w37 hbox hb; replace HO0_2 := Aside0.mk (Kd.R_below (Kd.R_elderB (ro HO0_2) gb180 (Nat.le_of_eq hg.symm)) hb); have BK180 := am hbox; have GW180 := Aside0.mk ((by rw [hg]; exact (by first | exact HK.out.1 | exact (show Kept w _ (fun k_ => P0_2_ k_) from by repeat (first | (with_reducible first | exact HK.out | apply Kept.alloc | apply Kept.drewN | apply Kept.drew | refine Kept.setCell ?_ (.inr GW177.out) _ | refine Kept.setCell ?_ (.inr GW178.out) _) | exact HK.out)).1) : w.heap.size ≤ gb180)); replace HK := Aside0.mk (Kept.below (S := (fun k_ => P0_2_ k_)) (by repeat (first | (with_reducible first | exact HK.out | apply Kept.alloc | apply Kept.drewN | apply Kept.drew | refine Kept.setCell ?_ (.inr GW177.out) _ | refine Kept.setCell ?_ (.inr GW178.out) _) | exact HK.out)) hb); have GE180 := Aside0.mk ((by rw [hg]; exact (below_size (be2 HB GE177 GE178)) : w0.heap.size ≤ gb180)); replace HB := Aside0.mk (below_step (be2 HB GE177 GE178) hb); have NB177_180 := Aside0.mk ((by rw [hg]; exact Nat.ne_of_lt (bl BK177) : gb177 ≠ gb180)); have NB180_177 := Aside0.mk ((by rw [hg]; exact Nat.ne_of_gt (bl BK177) : gb180 ≠ gb177)); replace BK177 := bb BK177 hb; have NB178_180 := Aside0.mk ((by rw [hg]; exact Nat.ne_of_lt (bl BK178) : gb178 ≠ gb180)); have NB180_178 := Aside0.mk ((by rw [hg]; exact Nat.ne_of_gt (bl BK178) : gb180 ≠ gb178)); replace BK178 := bb BK178 hb; clear hb hbox hg; have hnb38 := NB180_177.out; have hnc38 := NB177_180.out; have hnb39 := NB180_178.out; have hnc39 := NB178_180.out; have hcz40_0 := bz3 BK180) | ((with_reducible refine gate_store (t := 84) (p := 5) rfl ?_); refine store_event (t := 84) (p := 5) (v := ?vo_w41) (w1 := (((w37.setCell ⟨gb180, 0, none⟩ (.string ((rd_T84 l0_2 a1).f0))).setCell ⟨gb180, 1, none⟩ (.string ((rd_T84 l0_2 a1).f1))).setCell ⟨gb180, 2, none⟩ (.int .i64 ((rd_T84 l0_2 a1).f2)))) ?hg ?ho ?hn ?hr ?_; (case ho => rfl); (case hg => rfl); (case hn => rfl); (case hr => first | (go_simp; done) | (go_simp; rfl)); intro w41 hw; have n0_ : Aside0 (Kd.R k84 84 w41 w0.heap.size (fun k_ => (P0_2_ k_ ∨ w.heap.size ≤ k_) ∧ k_ ≠ gb180) (.slice (some ad179) l0_2.length co32) l0_2) := ⟨(by rw [hw]; exact (by (with_reducible repeat (first | apply Kd.R_alloc | apply Kd.R_drewN | apply Kd.R_drew)); exact Kd.R_mono (Kd.R_far (p := ⟨gb180, 2, none⟩) (Kd.R_far (p := ⟨gb180, 1, none⟩) (Kd.R_far (p := ⟨gb180, 0, none⟩) (Kd.R_mono HO0_2.out (fun k_ hk => (⟨hk, hk.2⟩ : _ ∧ k_ ≠ gb180))) (fun _ hk => hk.2) (.string ((rd_T84 l0_2 a1).f0))) (fun _ hk => hk.2) (.string ((rd_T84 l0_2 a1).f1))) (fun _ hk => hk.2) (.int .i64 ((rd_T84 l0_2 a1).f2))) (fun _ hk => ⟨hk.1.1, hk.1.2⟩)))⟩; have n1_ : Aside0 (w41.heap[gb177]? = some (.cells #[.int .i64 a0_0, .int .i64 a0_1, .slice (some ad179) l0_2.length co32] 53 (0, 0))) := ⟨(by rw [hw]; exact (bf1 BK177 NB177_180))⟩; have n2_ : Aside0 (w41.heap[gb178]? = some (.cells #[.int .i64 0, .int .i64 0, .slice none 0 0] 53 (0, 0))) := ⟨(by rw [hw]; exact (bf1 BK178 NB178_180))⟩; have n3_ : Aside0 (w41.heap[gb180]? = some (.cells #[.string ((rd_T84 l0_2 a1).f0), .string ((rd_T84 l0_2 a1).f1), .int .i64 ((rd_T84 l0_2 a1).f2)] 84 (0, 0))) := ⟨(by rw [hw]; exact (by (with_reducible repeat (first | refine blk_drewN ?_ _ | refine blk_drew ?_ | refine blk_alloc ?_ _)); refine blk_put (cs := #[.string ((rd_T84 l0_2 a1).f0), .string ((rd_T84 l0_2 a1).f1), .int .i64 0]) ?_ 2 _ rfl; (with_reducible repeat (first | refine blk_drewN ?_ _ | refine blk_drew ?_ | refine blk_alloc ?_ _)); refine blk_put (cs := #[.string ((rd_T84 l0_2 a1).f0), .string (⟨#[]⟩ : ByteArray), .int .i64 0]) ?_ 1 _ rfl; (with_reducible repeat (first | refine blk_drewN ?_ _ | refine blk_drew ?_ | refine blk_alloc ?_ _)); refine blk_put (cs := #[.string (⟨#[]⟩ : ByteArray), .string (⟨#[]⟩ : ByteArray), .int .i64 0]) ?_ 0 _ rfl; (with_reducible repeat (first | refine blk_drewN ?_ _ | refine blk_drew ?_ | refine blk_alloc ?_ _)); exact BK180.out))⟩; have n4_ : Aside0 (Kept w w41 (fun k_ => P0_2_ k_)) := ⟨(by rw [hw]; exact (by repeat (first | (with_reducible first | exact HK.out | apply Kept.alloc | apply Kept.drewN | apply Kept.drew | refine Kept.setCell ?_ (.inr GW177.out) _ | refine Kept.setCell ?_ (.inr GW178.out) _ | refine Kept.setCell ?_ (.inr GW180.out) _) | exact HK.out)))⟩; have n5_ : Aside0 (Below w0.heap.size w0 w41) := ⟨(by rw [hw]; exact (be3 HB GE177 GE178 GE180))⟩; clear hw; clear HO0_2; clear BK177; clear BK178; clear BK180; clear HK; clear HB; have HO0_2 := n0_; have BK177 := n1_; have BK178 := n2_; have BK180 := n3_; have HK := n4_; have HB := n5_; clear n0_ n1_ n2_ n3_ n4_ n5_; have hcz42_0 := bz3 BK177; have p31 : 0 ≤ (a1 : Int) := od; have q31 : (a1 : Int) < ((l0_2.length : Int) : Int) := od; obtain ⟨go31, co31, eo31, gb31, gl31, cl31, HG31⟩ := Kd.R_form HO0_2.out (by omega); (first | cases eo31 | (injection eo31 with ea_ en_ ec_; (first | subst ea_ | (injection ea_ with ea_; subst ea_)); subst ec_; clear en_)); have GB31 := Aside0.mk gb31; have GG31 := Aside0.mk HG31; clear gb31 gl31 HG31; have HMgo31 := Aside0.mk (show (P0_2_ go31 ∨ w.heap.size ≤ go31) from (HO0_2.out.1 _ rfl).1); (first | simp only [add_plain] at hx179_0 | skip); (first | simp only [add_plain] at hx179_1 | skip); (first | simp only [add_plain] at hx179_2 | skip); obtain ⟨ce31, hcl31, hM31, hcc31, hfr31⟩ := Kd.R_elem HO0_2.out z84 (a1 : Int) p31 q31; obtain rfl := k84_openM hM31; have hx31_0 : w41.cell? ⟨go31, (a1 : Int).toNat * 3, none⟩ = some (.string ((rd_T84 l0_2 a1).f0)) := hcc31 0 _ rfl; have hx31_1 : w41.cell? ⟨go31, (a1 : Int).toNat * 3 + 1, none⟩ = some (.string ((rd_T84 l0_2 a1).f1)) := hcc31 1 _ rfl; have hx31_2 : w41.cell? ⟨go31, (a1 : Int).toNat * 3 + 2, none⟩ = some (.int .i64 ((rd_T84 l0_2 a1).f2)) := hcc31 2 _ rfl; have hf31_0 : w41.frozen? ⟨go31, (a1 : Int).toNat * 3, none⟩ = false := hfr31 0; have hf31_1 : w41.frozen? ⟨go31, (a1 : Int).toNat * 3 + 1, none⟩ = false := hfr31 1; have hf31_2 : w41.frozen? ⟨go31, (a1 : Int).toNat * 3 + 2, none⟩ = false := hfr31 2; clear hcl31 hcc31 hfr31 hM31; replace p31 := eq_true p31; replace q31 := eq_true q31; have HX43 := Aside0.mk (show Kd.R k84 84 w41 w0.heap.size (fun k_ => (P0_2_ k_ ∨ w.heap.size ≤ k_) ∧ k_ ≠ gb180) (.slice (some ⟨go31, 0, none⟩) l0_2.length co32) l0_2 from (ro HO0_2)); obtain ⟨ce43, hcl43, hM43, hcc43, hfr43⟩ := Kd.R_elem HX43.out z84 (a1 : Int) (od) (by have h_ : (a1 : Int) < ((l0_2.length : Int) : Int) := od; first | exact h_ | (have e_ := (Kd.R_reads' HO0_2.out).1; omega) | simpa using h_); obtain rfl := k84_openM hM43; have HP43 := Kd.R_seg HX43.out (a1 : Int) (od) (by have h_ : (a1 : Int) < ((l0_2.length : Int) : Int) := od; first | exact h_ | (have e_ := (Kd.R_reads' HO0_2.out).1; omega) | simpa using h_) (seg := [.int .i64 1]) (j := 2) hcl43 hcc43 (show 3 ≤ 3 from by decide) (x' := (⟨(rd_T84 l0_2 a1).f0, (rd_T84 l0_2 a1).f1, 1⟩ : S84)) (k84_mkM _ _ _ (⟨(rd_T84 l0_2 a1).f0, (rd_T84 l0_2 a1).f1, 1⟩ : S84) ) (fun _ hk => hk); have hx43_2 := hcc43 2 _ rfl; (try simp only [show (k84).sz = 3 from rfl, Nat.mul_one, Nat.add_zero] at hx43_2); have hf43_2 := hfr43 2; (try simp only [show (k84).sz = 3 from rfl, Nat.mul_one, Nat.add_zero] at hf43_2); clear hcl43 hcc43 hfr43 hM43) | ((with_reducible refine gate_store (t := 3) (p := 30) rfl ?_); refine store_event (t := 3) (p := 30) (v := ?vo_w44) (w1 := (w41.setCell ⟨go31, (a1 : Int).toNat * 3 + 2, none⟩ (.int .i64 1))) ?hg ?ho ?hn ?hr ?_; (case ho => rfl); (case hg => rfl); (case hn => rfl); (case hr => first | (go_simp; done) | (go_simp; rfl)); intro w44 hw; have hg : w41.grownBy w44 (some go31) := (by rw [hw]; exact HP43.2); have hp_ : Kd.R k84 84 w44 w0.heap.size (fun k_ => (P0_2_ k_ ∨ w.heap.size ≤ k_) ∧ k_ ≠ gb180) (.slice (some ⟨go31, 0, none⟩) l0_2.length co32) y190 := (by rw [hw, Ny190.out]; exact HP43.1); clear HP43; replace BK177 := Aside0.mk (blk_grown (g := gb177) (o := .cells #[.int .i64 a0_0, .int .i64 a0_1, .slice (some ⟨go31, 0, none⟩) l0_2.length co32] 53 (0, 0)) (bk BK177) hg (Kd.R_ne HO0_2.out BK177.out (by decide))); replace BK178 := Aside0.mk (blk_grown (g := gb178) (o := .cells #[.int .i64 0, .int .i64 0, .slice none 0 0] 53 (0, 0)) (bk BK178) hg (Kd.R_ne HO0_2.out BK178.out (by decide))); replace BK180 := Aside0.mk (blk_grown (g := gb180) (o := .cells #[.string ((rd_T84 l0_2 a1).f0), .string ((rd_T84 l0_2 a1).f1), .int .i64 ((rd_T84 l0_2 a1).f2)] 84 (0, 0)) (bk BK180) hg (Kd.R_away HO0_2.out (fun _ hk => hk.2))); replace HB := Aside0.mk ((by rw [hw]; exact below_set (HB.out) GB31.out : Below w0.heap.size w0 w44)); replace HK := Aside0.mk (Kept.of_grown (S := (fun k_ => P0_2_ k_)) hg (by repeat (first | (with_reducible first | exact HK.out | apply Kept.alloc | apply Kept.drewN | apply Kept.drew | refine Kept.setCell ?_ (.inr GW177.out) _ | refine Kept.setCell ?_ (.inr GW178.out) _ | refine Kept.setCell ?_ (.inr GW180.out) _) | exact HK.out)) (fun k_ e_ => (HO0_2.out.1 k_ e_).1)); replace HO0_2 := Aside0.mk (hp_); clear hg hw hp_; have hcz45_0 := bz3 BK177; have hcz46_0 := bz3 BK178))
    refine bodyPost_ret (results_cell_row rfl _ _ gb178 53 #[.int .i64 a0_0, .int .i64 a0_1, .slice (some ⟨go31, 0, none⟩) l0_2.length co32] (0, 0) _ rfl (by (with_reducible repeat (first | refine blk_drewN ?_ _ | refine blk_drew ?_ | refine blk_alloc ?_ _)); refine blk_put (cs := #[.int .i64 a0_0, .int .i64 a0_1, .slice none 0 0]) ?_ 2 _ rfl; (with_reducible repeat (first | refine blk_drewN ?_ _ | refine blk_drew ?_ | refine blk_alloc ?_ _)); refine blk_put (cs := #[.int .i64 a0_0, .int .i64 0, .slice none 0 0]) ?_ 1 _ rfl; (with_reducible repeat (first | refine blk_drewN ?_ _ | refine blk_drew ?_ | refine blk_alloc ?_ _)); refine blk_put (cs := #[.int .i64 0, .int .i64 0, .slice none 0 0]) ?_ 0 _ rfl; (with_reducible repeat (first | refine blk_drewN ?_ _ | refine blk_drew ?_ | refine blk_alloc ?_ _)); exact BK178.out) Try.underlying53 rfl (by kernel_rfl)) rfl ?_
    exact ⟨_, er, by (with_reducible repeat (first | apply Kd.R_alloc | apply Kd.R_drewN | apply Kd.R_drew)); exact Kd.R_mono (Kd.R_far (p := ⟨gb178, 2, none⟩) (Kd.R_far (p := ⟨gb178, 1, none⟩) (Kd.R_far (p := ⟨gb178, 0, none⟩) (Kd.R_types HO0_2.out BK178.out (by decide)) (fun _ hk => hk.2) (.int .i64 a0_0)) (fun _ hk => hk.2) (.int .i64 a0_1)) (fun _ hk => hk.2) (.slice (some ⟨go31, 0, none⟩) l0_2.length co32)) (fun _ hk => hk.1.1), be3 HB GE177 GE178 GE180, by repeat (first | (with_reducible first | exact HK.out | apply Kept.alloc | apply Kept.drewN | apply Kept.drew | refine Kept.setCell ?_ (.inr GW177.out) _ | refine Kept.setCell ?_ (.inr GW178.out) _ | refine Kept.setCell ?_ (.inr GW180.out) _) | exact HK.out)⟩
   rw [if_neg c30] at H
   have c30b0 : (a0_0 == 3) = false := beq_eq_false_iff_ne.mpr c30
   have c30b1 : (a0_0 != 3) = true := bne_iff_ne.mpr c30
   simp only [Option.some.injEq, Prod.mk.injEq] at H
   obtain ⟨rfl, rfl, rfl⟩ := H
   obtain ⟨Ao47, co47, eo47⟩ := Kd.R_slice HO0_2.out
   subst eo47
   go_enter Try.func88, Try.ntmps88
   go_wp2_with (first | ((with_reducible refine gate_dst (N := 2) rfl ?_); refine bx 2 #[.int .i64 a0_0, .int .i64 a0_1, .slice Ao47 l0_2.length co47] 53 ?_; intro gb177 hg w48 hbox hb; replace HO0_2 := rb HO0_2 hb; have BK177 := am hbox; have GW177 := Aside0.mk ((by rw [hg]; exact (by first | exact HK.out.1 | exact (show Kept w _ (fun k_ => P0_2_ k_) from by repeat (first | (with_reducible first | exact HK.out | apply Kept.alloc | apply Kept.drewN | apply Kept.drew) | exact HK.out)).1) : w.heap.size ≤ gb177)); replace HK := Aside0.mk (Kept.below (S := (fun k_ => P0_2_ k_)) (by repeat (first | (with_reducible first | exact HK.out | apply Kept.alloc | apply Kept.drewN | apply Kept.drew) | exact HK.out)) hb); have GE177 := Aside0.mk ((by rw [hg]; exact (below_size (be HB)) : w0.heap.size ≤ gb177)); replace HB := s0 HB hb; clear hb hbox hg) | ((with_reducible refine gate_dst (N := 4) rfl ?_); refine bx 4 #[.int .i64 0, .int .i64 0, .slice none 0 0] 53 ?_; intro gb178 hg w49 hbox hb; replace HO0_2 := rb HO0_2 hb; have BK178 := am hbox; have GW178 := Aside0.mk ((by rw [hg]; exact (by first | exact HK.out.1 | exact (show Kept w _ (fun k_ => P0_2_ k_) from by repeat (first | (with_reducible first | exact HK.out | apply Kept.alloc | apply Kept.drewN | apply Kept.drew | refine Kept.setCell ?_ (.inr GW177.out) _) | exact HK.out)).1) : w.heap.size ≤ gb178)); replace HK := Aside0.mk (Kept.below (S := (fun k_ => P0_2_ k_)) (by repeat (first | (with_reducible first | exact HK.out | apply Kept.alloc | apply Kept.drewN | apply Kept.drew | refine Kept.setCell ?_ (.inr GW177.out) _) | exact HK.out)) hb); have GE178 := Aside0.mk ((by rw [hg]; exact (below_size (be1 HB GE177)) : w0.heap.size ≤ gb178)); replace HB := Aside0.mk (below_step (be1 HB GE177) hb); have NB177_178 := Aside0.mk ((by rw [hg]; exact Nat.ne_of_lt (bl BK177) : gb177 ≠ gb178)); have NB178_177 := Aside0.mk ((by rw [hg]; exact Nat.ne_of_gt (bl BK177) : gb178 ≠ gb177)); replace BK177 := bb BK177 hb; clear hb hbox hg; have hnb50 := NB177_178.out; have hnc50 := NB178_177.out; have hcz51_0 := bz3 BK177; have p179 : 0 ≤ (a1 : Int) := od; have q179 : a1 < (l0_2.length : Int) := od; obtain ⟨ad179, e179, hx179_0, hx179_1, hx179_2⟩ := at_T84 (Kd.R_reads' HO0_2.out).2.2 a1 p179 q179; cases e179; replace p179 := eq_true p179; replace q179 := eq_true q179) | ((with_reducible refine gate_dst (N := 5) rfl ?_); refine bx 5 #[.string (⟨#[]⟩ : ByteArray), .string (⟨#[]⟩ : ByteArray), .int .i64 0] 84 ?_; intro gb180 hg w52 hbox hb; replace HO0_2 := Aside0.mk (Kd.R_below (Kd.R_elderB (ro HO0_2) gb180 (Nat.le_of_eq hg.symm)) hb); have BK180 := am hbox; have GW180 := Aside0.mk ((by rw [hg]; exact (by first | exact HK.out.1 | exact (show Kept w _ (fun k_ => P0_2_ k_) from by repeat (first | (with_reducible first | exact HK.out | apply Kept.alloc | apply Kept.drewN | apply Kept.drew | refine Kept.setCell ?_ (.inr GW177.out) _ | refine Kept.setCell ?_ (.inr GW178.out) _) | exact HK.out)).1) : w.heap.size ≤ gb180)); replace HK := Aside0.mk (Kept.below (S := (fun k_ => P0_2_ k_)) (by repeat (first | (with_reducible first | exact HK.out | apply Kept.alloc | apply Kept.drewN | apply Kept.drew | refine Kept.setCell ?_ (.inr GW177.out) _ | refine Kept.setCell ?_ (.inr GW178.out) _) | exact HK.out)) hb); have GE180 := Aside0.mk ((by rw [hg]; exact (below_size (be2 HB GE177 GE178)) : w0.heap.size ≤ gb180)); replace HB := Aside0.mk (below_step (be2 HB GE177 GE178) hb); have NB177_180 := Aside0.mk ((by rw [hg]; exact Nat.ne_of_lt (bl BK177) : gb177 ≠ gb180)); have NB180_177 := Aside0.mk ((by rw [hg]; exact Nat.ne_of_gt (bl BK177) : gb180 ≠ gb177)); replace BK177 := bb BK177 hb; have NB178_180 := Aside0.mk ((by rw [hg]; exact Nat.ne_of_lt (bl BK178) : gb178 ≠ gb180)); have NB180_178 := Aside0.mk ((by rw [hg]; exact Nat.ne_of_gt (bl BK178) : gb180 ≠ gb178)); replace BK178 := bb BK178 hb; clear hb hbox hg; have hnb53 := NB180_177.out; have hnc53 := NB177_180.out; have hnb54 := NB180_178.out; have hnc54 := NB178_180.out; have hcz55_0 := bz3 BK180; have hcz56_0 := bz3 BK177; have hcz57_0 := bz3 BK178))
   refine bodyPost_ret (results_cell_row rfl _ _ gb178 53 #[.int .i64 a0_0, .int .i64 a0_1, .slice (some ad179) l0_2.length co47] (0, 0) _ rfl (by (with_reducible repeat (first | refine blk_drewN ?_ _ | refine blk_drew ?_ | refine blk_alloc ?_ _)); refine blk_put (cs := #[.int .i64 a0_0, .int .i64 a0_1, .slice none 0 0]) ?_ 2 _ rfl; (with_reducible repeat (first | refine blk_drewN ?_ _ | refine blk_drew ?_ | refine blk_alloc ?_ _)); refine blk_put (cs := #[.int .i64 a0_0, .int .i64 0, .slice none 0 0]) ?_ 1 _ rfl; (with_reducible repeat (first | refine blk_drewN ?_ _ | refine blk_drew ?_ | refine blk_alloc ?_ _)); refine blk_put (cs := #[.int .i64 0, .int .i64 0, .slice none 0 0]) ?_ 0 _ rfl; (with_reducible repeat (first | refine blk_drewN ?_ _ | refine blk_drew ?_ | refine blk_alloc ?_ _)); refine blk_far ?_ NB178_180.out _; (with_reducible repeat (first | refine blk_drewN ?_ _ | refine blk_drew ?_ | refine blk_alloc ?_ _)); refine blk_far ?_ NB178_180.out _; (with_reducible repeat (first | refine blk_drewN ?_ _ | refine blk_drew ?_ | refine blk_alloc ?_ _)); refine blk_far ?_ NB178_180.out _; (with_reducible repeat (first | refine blk_drewN ?_ _ | refine blk_drew ?_ | refine blk_alloc ?_ _)); exact BK178.out) Try.underlying53 rfl (by kernel_rfl)) rfl ?_
   exact ⟨_, er, by (with_reducible repeat (first | apply Kd.R_alloc | apply Kd.R_drewN | apply Kd.R_drew)); exact Kd.R_mono (Kd.R_far (p := ⟨gb178, 2, none⟩) (Kd.R_far (p := ⟨gb178, 1, none⟩) (Kd.R_far (p := ⟨gb178, 0, none⟩) (Kd.R_far (p := ⟨gb180, 2, none⟩) (Kd.R_far (p := ⟨gb180, 1, none⟩) (Kd.R_far (p := ⟨gb180, 0, none⟩) (Kd.R_types (Kd.R_mono HO0_2.out (fun k_ hk => (⟨hk, hk.2⟩ : _ ∧ k_ ≠ gb180))) BK178.out (by decide)) (fun _ hk => hk.1.2) (.string ((rd_T84 l0_2 a1).f0))) (fun _ hk => hk.1.2) (.string ((rd_T84 l0_2 a1).f1))) (fun _ hk => hk.1.2) (.int .i64 ((rd_T84 l0_2 a1).f2))) (fun _ hk => hk.2) (.int .i64 a0_0)) (fun _ hk => hk.2) (.int .i64 a0_1)) (fun _ hk => hk.2) (.slice (some ad179) l0_2.length co47)) (fun _ hk => hk.1.1.1), be3 HB GE177 GE178 GE180, by repeat (first | (with_reducible first | exact HK.out | apply Kept.alloc | apply Kept.drewN | apply Kept.drew | refine Kept.setCell ?_ (.inr GW177.out) _ | refine Kept.setCell ?_ (.inr GW178.out) _ | refine Kept.setCell ?_ (.inr GW180.out) _) | exact HK.out)⟩
  rw [if_neg c4] at H
  exact absurd H (by simp)
 rw [if_neg c3] at H
 exact absurd H (by simp)

/-! ### spec_RowGet: function 52 -/
def spec_RowGet.f (k : Nat) (a0_0 : Int) (a0_1 : Int) (l0_2 : List (S84)) (a1 : ByteArray) : Option (Int × Int × (List (S84)) × ByteArray × Bool) := (spec_RowOk.f k a0_0 a0_1 l0_2).bind fun t193 => (if t193 = true then ((spec_l11Copy.f a0_0 a0_1 l0_2).bind fun bt194 => ((spec_l10At.f k l0_2 a1).bind fun t200 => (if t200 < 0 then (some (bt194.1, bt194.2.1, bt194.2.2, (⟨#[]⟩ : ByteArray), false)) else ((spec_l11Touch.f k bt194.1 bt194.2.1 bt194.2.2 t200).bind fun bt201 => (if 0 ≤ t200 then (if t200 < (l0_2.length : Int) then (some (bt201.1, bt201.2.1, bt201.2.2, (rd_T84 l0_2 t200).f1, true)) else (none)) else (none)))))) else (some (0, 0, ([] : List (S84)), (⟨#[]⟩ : ByteArray), false)))
theorem spec_RowGet.mono : ∀ a0 a1 a2 a3 k, LeO (spec_RowGet.f k a0 a1 a2 a3) (spec_RowGet.f (k + 1) a0 a1 a2 a3) := by
 intro a0 a1 a2 a3 k
 unfold spec_RowGet.f
 repeat' first
   | (with_reducible exact spec_RowOk.mono _ _ _ _)
   | (with_reducible exact spec_l10At.mono _ _ _)
   | (with_reducible exact spec_l11Touch.mono _ _ _ _ _)
   | (with_reducible exact LeO.refl _)
   | (with_reducible exact LeO.none _)
   | (with_reducible refine LeO.ite ?_ ?_)
   | (with_reducible refine LeO.bind ?_ (fun _ => ?_))
   | exact spec_RowOk.mono _ _ _ _
   | exact spec_l10At.mono _ _ _
   | exact spec_l11Touch.mono _ _ _ _ _
   | exact LeO.none _
   | refine LeO.ite ?_ ?_
   | refine LeO.bind ?_ (fun _ => ?_)
def spec_RowGet.T7 : Bool × List (List Nat × List Nat) := (true, [([], []), ([], []), ([0, 1], [0, 1]), ([], []), ([3], [3]), ([], []), ([4, 5], [4, 5]), ([6], [6]), ([7], [7]), ([2, 2, 0, 1, 2], [2]), ([8, 9, 0, 1, 2, 3, 4, 5, 6, 7, 8, 9], [8]), ([10, 0, 1, 2, 3, 4, 5, 6, 7, 8, 9, 10], [])])
def spec_RowGet.B7 : List Nat := [0, 0, 3, 0, 8, 0, 56, 120, 248, 7, 1023, 2047]
theorem spec_RowGet.tab7 : rtab .any (opsOf Try.f52 7) = spec_RowGet.T7 := by kernel_rfl
theorem spec_RowGet.bits7 : waitsOk spec_RowGet.T7.2 spec_RowGet.B7 = true := by kernel_rfl
set_option maxHeartbeats 8000000 in
set_option maxRecDepth 100000 in
theorem spec_RowGet.calls (k : Nat) (a0_0 : Int) (a0_1 : Int) (A0_2 : Option Addr) (c0_2 : Nat) (l0_2 : List (S84)) (a1 : ByteArray) (r1 : Int) (r2 : Int) (r3 : List (S84)) (r4 : ByteArray) (r5 : Bool) (w : World) (hr0_2 : Kd.C k84 w A0_2 l0_2.length l0_2) (hc0_2 : l0_2.length ≤ c0_2) (h : spec_RowGet.f k a0_0 a0_1 l0_2 a1 = some (r1, r2, r3, r4, r5)) :
  Calls Try.prog 52 #[.agg #[.int .i64 a0_0, .int .i64 a0_1, .slice A0_2 l0_2.length c0_2], .string a1] w fun e w' => ∃ v2_ : Value, e = .returned (.tuple #[.agg #[.int .i64 r1, .int .i64 r2, v2_], .string r4, .bool r5]) ∧ Kd.R k84 84 w' w.heap.size (fun _ => True) v2_ r3 ∧ Below w.heap.size w w' := by
 have hu53 := Try.underlying53
 have HR0_2 := Aside0.mk hr0_2
 have HC0_2 := Aside0.mk hc0_2
 clear hr0_2 hc0_2
 have HB := Aside0.mk (Below.refl w.heap.size w)
 have H : ((spec_RowOk.f k a0_0 a0_1 l0_2).bind fun t193 => (if t193 = true then ((spec_l11Copy.f a0_0 a0_1 l0_2).bind fun bt194 => ((spec_l10At.f k l0_2 a1).bind fun t200 => (if t200 < 0 then (some (bt194.1, bt194.2.1, bt194.2.2, (⟨#[]⟩ : ByteArray), false)) else ((spec_l11Touch.f k bt194.1 bt194.2.1 bt194.2.2 t200).bind fun bt201 => (if 0 ≤ t200 then (if t200 < (l0_2.length : Int) then (some (bt201.1, bt201.2.1, bt201.2.2, (rd_T84 l0_2 t200).f1, true)) else (none)) else (none)))))) else (some (0, 0, ([] : List (S84)), (⟨#[]⟩ : ByteArray), false)))) = some (r1, r2, r3, r4, r5) := h
 clear h
 replace H := Option.bind_eq_some_iff.mp H
 obtain ⟨t193, A30, H⟩ := H
 replace H : (if t193 = true then ((spec_l11Copy.f a0_0 a0_1 l0_2).bind fun bt194 => ((spec_l10At.f k l0_2 a1).bind fun t200 => (if t200 < 0 then (some (bt194.1, bt194.2.1, bt194.2.2, (⟨#[]⟩ : ByteArray), false)) else ((spec_l11Touch.f k bt194.1 bt194.2.1 bt194.2.2 t200).bind fun bt201 => (if 0 ≤ t200 then (if t200 < (l0_2.length : Int) then (some (bt201.1, bt201.2.1, bt201.2.2, (rd_T84 l0_2 t200).f1, true)) else (none)) else (none)))))) else (some (0, 0, ([] : List (S84)), (⟨#[]⟩ : ByteArray), false))) = some (r1, r2, r3, r4, r5) := H
 have A3 := Aside0.mk A30
 clear A30
 by_cases c4 : t193 = true
 ·subst c4
  have H1 : ((spec_l11Copy.f a0_0 a0_1 l0_2).bind fun bt194 => ((spec_l10At.f k l0_2 a1).bind fun t200 => (if t200 < 0 then (some (bt194.1, bt194.2.1, bt194.2.2, (⟨#[]⟩ : ByteArray), false)) else ((spec_l11Touch.f k bt194.1 bt194.2.1 bt194.2.2 t200).bind fun bt201 => (if 0 ≤ t200 then (if t200 < (l0_2.length : Int) then (some (bt201.1, bt201.2.1, bt201.2.2, (rd_T84 l0_2 t200).f1, true)) else (none)) else (none)))))) = some (r1, r2, r3, r4, r5) := by rw [if_pos rfl] at H; exact H
  clear H
  have H := H1
  clear H1
  replace H := Option.bind_eq_some_iff.mp H
  obtain ⟨⟨t194, t195, t196⟩, A50, H⟩ := H
  replace H : ((spec_l10At.f k l0_2 a1).bind fun t200 => (if t200 < 0 then (some (t194, t195, t196, (⟨#[]⟩ : ByteArray), false)) else ((spec_l11Touch.f k t194 t195 t196 t200).bind fun bt201 => (if 0 ≤ t200 then (if t200 < (l0_2.length : Int) then (some (bt201.1, bt201.2.1, bt201.2.2, (rd_T84 l0_2 t200).f1, true)) else (none)) else (none))))) = some (r1, r2, r3, r4, r5) := H
  have A5 := Aside0.mk A50
  clear A50
  replace H := Option.bind_eq_some_iff.mp H
  obtain ⟨t200, A60, H⟩ := H
  replace H : (if t200 < 0 then (some (t194, t195, t196, (⟨#[]⟩ : ByteArray), false)) else ((spec_l11Touch.f k t194 t195 t196 t200).bind fun bt201 => (if 0 ≤ t200 then (if t200 < (l0_2.length : Int) then (some (bt201.1, bt201.2.1, bt201.2.2, (rd_T84 l0_2 t200).f1, true)) else (none)) else (none)))) = some (r1, r2, r3, r4, r5) := H
  have A6 := Aside0.mk A60
  clear A60
  by_cases c7 : t200 < 0
  ·rw [if_pos c7] at H
   have c7b0 : decide (t200 < 0) = true := decide_eq_true c7
   clear c7
   simp only [Option.some.injEq, Prod.mk.injEq] at H
   obtain ⟨rfl, rfl, rfl, rfl, rfl⟩ := H
   go_enter Try.func52, Try.ntmps52
   go_wp2_with (first | ((with_reducible refine gate_dst (N := 2) rfl ?_); refine bx 2 #[.int .i64 a0_0, .int .i64 a0_1, .slice A0_2 l0_2.length c0_2] 53 ?_; intro gb191 hg w8 hbox hb; have BK191 := am hbox; have GW191 := gs0 hg HB; have GE191 := gs0 hg HB; replace HB := s0 HB hb; clear hb hbox hg) | ((with_reducible refine gate_dst (N := 4) rfl ?_); refine bx 4 #[.int .i64 0, .int .i64 0, .slice none 0 0] 53 ?_; intro gb192 hg w9 hbox hb; have BK192 := am hbox; have GW192 := gs1 hg HB GE191; have GE192 := gs1 hg HB GE191; replace HB := Aside0.mk (below_step (be1 HB GE191) hb); have NB191_192 := Aside0.mk ((by rw [hg]; exact Nat.ne_of_lt (bl BK191) : gb191 ≠ gb192)); have NB192_191 := Aside0.mk ((by rw [hg]; exact Nat.ne_of_gt (bl BK191) : gb192 ≠ gb191)); replace BK191 := bb BK191 hb; clear hb hbox hg; have hnb10 := NB191_192.out; have hnc10 := NB192_191.out; have hcz11_0 := bz3 BK191) | ((with_reducible refine gate_callee (f := 42) rfl ?_); refine gl 10 Try.func42 #[.agg #[.int .i64 a0_0, .int .i64 a0_1, .slice A0_2 l0_2.length c0_2]] ?_; (with_reducible refine (spec_RowOk.calls k a0_0 a0_1 _ _ l0_2 true _ (cb HR0_2 HB) HC0_2.out A3.out).mono ?_); rintro e w12 ⟨rfl, hb⟩; refine ⟨_, rfl, ?_⟩; replace BK191 := bb BK191 hb; replace BK192 := bb BK192 hb; replace HB := Aside0.mk (below_step (be2 HB GE191 GE192) hb); (try clear hb); have hcz13_0 := bz3 BK191) | ((with_reducible refine gate_callee (f := 87) rfl ?_); refine gl 14 Try.func87 #[.agg #[.int .i64 a0_0, .int .i64 a0_1, .slice A0_2 l0_2.length c0_2]] ?_; (with_reducible refine (spec_l11Copy.calls a0_0 a0_1 _ _ l0_2 t194 t195 t196 _ (cb HR0_2 HB) HC0_2.out A5.out).mono ?_); rintro e w14 ⟨v197, rfl, ho0, hb⟩; refine ⟨_, rfl, ?_⟩; have HO198 := Aside0.mk (Kd.R_lower ho0 (below_size (be2 HB GE191 GE192))); replace BK191 := bb BK191 hb; replace BK192 := bb BK192 hb; replace HB := Aside0.mk (below_step (be2 HB GE191 GE192) hb); (try clear hb); (try clear ho0)) | ((with_reducible refine gate_dst (N := 7) rfl ?_); refine bx 7 #[.int .i64 0, .int .i64 0, .slice none 0 0] 53 ?_; intro gb199 hg w15 hbox hb; replace HO198 := rb HO198 hb; have BK199 := am hbox; have GW199 := gs2 hg HB GE191 GE192; have GE199 := gs2 hg HB GE191 GE192; replace HB := Aside0.mk (below_step (be2 HB GE191 GE192) hb); have NB191_199 := Aside0.mk ((by rw [hg]; exact Nat.ne_of_lt (bl BK191) : gb191 ≠ gb199)); have NB199_191 := Aside0.mk ((by rw [hg]; exact Nat.ne_of_gt (bl BK191) : gb199 ≠ gb191)); replace BK191 := bb BK191 hb; have NB192_199 := Aside0.mk ((by rw [hg]; exact Nat.ne_of_lt (bl BK192) : gb192 ≠ gb199)); have NB199_192 := Aside0.mk ((by rw [hg]; exact Nat.ne_of_gt (bl BK192) : gb199 ≠ gb192)); replace BK192 := bb BK192 hb; clear hb hbox hg; have hnb16 := NB199_191.out; have hnc16 := NB191_199.out; have hnb17 := NB199_192.out; have hnc17 := NB192_199.out; have hcz18_0 := bz3 BK199; obtain ⟨Ao19, co19, eo19⟩ := Kd.R_slice HO198.out; subst eo19; have hcz20_0 := bz3 BK191) | ((with_reducible refine gate_callee (f := 81) rfl ?_); refine gl 18 Try.func81 #[.slice A0_2 l0_2.length c0_2, .string a1] ?_; (with_reducible refine (spec_l10At.calls k _ _ l0_2 a1 t200 _ ?side1 HC0_2.out A6.out).mono ?_); (case side1 => exact Kd.C_below HR0_2.out (be3 HB GE191 GE192 GE199)); rintro e w21 ⟨rfl, hb⟩; refine ⟨_, rfl, ?_⟩; replace HO198 := Aside0.mk (Kd.R_below (rf HO198 BK199) hb); replace BK191 := Aside0.mk (blk_below (g := gb191) (o := .cells #[.int .i64 a0_0, .int .i64 a0_1, .slice A0_2 l0_2.length c0_2] 53 (0, 0)) (bf1 BK191 NB191_199) hb); replace BK192 := Aside0.mk (blk_below (g := gb192) (o := .cells #[.int .i64 0, .int .i64 0, .slice none 0 0] 53 (0, 0)) (bf1 BK192 NB192_199) hb); replace BK199 := Aside0.mk (blk_below (g := gb199) (o := .cells #[.int .i64 t194, .int .i64 t195, .slice Ao19 t196.length co19] 53 (0, 0)) (by (with_reducible repeat (first | refine blk_drewN ?_ _ | refine blk_drew ?_ | refine blk_alloc ?_ _)); refine blk_put (cs := #[.int .i64 t194, .int .i64 t195, .slice none 0 0]) ?_ 2 _ rfl; (with_reducible repeat (first | refine blk_drewN ?_ _ | refine blk_drew ?_ | refine blk_alloc ?_ _)); refine blk_put (cs := #[.int .i64 t194, .int .i64 0, .slice none 0 0]) ?_ 1 _ rfl; (with_reducible repeat (first | refine blk_drewN ?_ _ | refine blk_drew ?_ | refine blk_alloc ?_ _)); refine blk_put (cs := #[.int .i64 0, .int .i64 0, .slice none 0 0]) ?_ 0 _ rfl; (with_reducible repeat (first | refine blk_drewN ?_ _ | refine blk_drew ?_ | refine blk_alloc ?_ _)); exact BK199.out) hb); replace HB := Aside0.mk (below_step (be3 HB GE191 GE192 GE199) hb); (try clear hb); have hcz22_0 := bz3 BK199; have hcz23_0 := bz3 BK192))
   refine bodyPost_ret (results_ctt rfl _ _ gb192 53 #[.int .i64 t194, .int .i64 t195, .slice Ao19 t196.length co19] (0, 0) _ rfl (by (with_reducible repeat (first | refine blk_drewN ?_ _ | refine blk_drew ?_ | refine blk_alloc ?_ _)); refine blk_put (cs := #[.int .i64 t194, .int .i64 t195, .slice none 0 0]) ?_ 2 _ rfl; (with_reducible repeat (first | refine blk_drewN ?_ _ | refine blk_drew ?_ | refine blk_alloc ?_ _)); refine blk_put (cs := #[.int .i64 t194, .int .i64 0, .slice none 0 0]) ?_ 1 _ rfl; (with_reducible repeat (first | refine blk_drewN ?_ _ | refine blk_drew ?_ | refine blk_alloc ?_ _)); refine blk_put (cs := #[.int .i64 0, .int .i64 0, .slice none 0 0]) ?_ 0 _ rfl; (with_reducible repeat (first | refine blk_drewN ?_ _ | refine blk_drew ?_ | refine blk_alloc ?_ _)); exact BK192.out) Try.underlying53 rfl (by kernel_rfl)) rfl ?_
   exact ⟨_, er, by (with_reducible repeat (first | apply Kd.R_alloc | apply Kd.R_drewN | apply Kd.R_drew)); exact Kd.R_mono (Kd.R_far (p := ⟨gb192, 2, none⟩) (Kd.R_far (p := ⟨gb192, 1, none⟩) (Kd.R_far (p := ⟨gb192, 0, none⟩) (Kd.R_types HO198.out BK192.out (by decide)) (fun _ hk => hk.2) (.int .i64 t194)) (fun _ hk => hk.2) (.int .i64 t195)) (fun _ hk => hk.2) (.slice Ao19 t196.length co19)) (fun _ hk => trivial), be3 HB GE191 GE192 GE199⟩
  rw [if_neg c7] at H
  have c7b0 : decide (t200 < 0) = false := decide_eq_false c7
  clear c7
  replace H := Option.bind_eq_some_iff.mp H
  obtain ⟨⟨t201, t202, t203⟩, A240, H⟩ := H
  replace H : (if 0 ≤ t200 then (if t200 < (l0_2.length : Int) then (some (t201, t202, t203, (rd_T84 l0_2 t200).f1, true)) else (none)) else (none)) = some (r1, r2, r3, r4, r5) := H
  have A24 := Aside0.mk A240
  clear A240
  by_cases c25 : 0 ≤ t200
  ·rw [if_pos c25] at H
   have c25b0 : decide (0 ≤ t200) = true := decide_eq_true c25
   clear c25
   by_cases c26 : t200 < (l0_2.length : Int)
   ·rw [if_pos c26] at H
    have c26b0 : decide (t200 < (l0_2.length : Int)) = true := decide_eq_true c26
    clear c26
    simp only [Option.some.injEq, Prod.mk.injEq] at H
    obtain ⟨rfl, rfl, rfl, rfl, rfl⟩ := H
    go_enter Try.func52, Try.ntmps52
    try go_wp2_with (first | ((with_reducible refine gate_dst (N := 2) rfl ?_); refine bx 2 #[.int .i64 a0_0, .int .i64 a0_1, .slice A0_2 l0_2.length c0_2] 53 ?_; intro gb191 hg w27 hbox hb; have BK191 := am hbox; have GW191 := gs0 hg HB; have GE191 := gs0 hg HB; replace HB := s0 HB hb; clear hb hbox hg) | ((with_reducible refine gate_dst (N := 4) rfl ?_); refine bx 4 #[.int .i64 0, .int .i64 0, .slice none 0 0] 53 ?_; intro gb192 hg w28 hbox hb; have BK192 := am hbox; have GW192 := gs1 hg HB GE191; have GE192 := gs1 hg HB GE191; replace HB := Aside0.mk (below_step (be1 HB GE191) hb); have NB191_192 := Aside0.mk ((by rw [hg]; exact Nat.ne_of_lt (bl BK191) : gb191 ≠ gb192)); have NB192_191 := Aside0.mk ((by rw [hg]; exact Nat.ne_of_gt (bl BK191) : gb192 ≠ gb191)); replace BK191 := bb BK191 hb; clear hb hbox hg; have hnb29 := NB191_192.out; have hnc29 := NB192_191.out; have hcz30_0 := bz3 BK191) | ((with_reducible refine gate_callee (f := 42) rfl ?_); refine gl 10 Try.func42 #[.agg #[.int .i64 a0_0, .int .i64 a0_1, .slice A0_2 l0_2.length c0_2]] ?_; (with_reducible refine (spec_RowOk.calls k a0_0 a0_1 _ _ l0_2 true _ (cb HR0_2 HB) HC0_2.out A3.out).mono ?_); rintro e w31 ⟨rfl, hb⟩; refine ⟨_, rfl, ?_⟩; replace BK191 := bb BK191 hb; replace BK192 := bb BK192 hb; replace HB := Aside0.mk (below_step (be2 HB GE191 GE192) hb); (try clear hb); have hcz32_0 := bz3 BK191) | ((with_reducible refine gate_callee (f := 87) rfl ?_); refine gl 14 Try.func87 #[.agg #[.int .i64 a0_0, .int .i64 a0_1, .slice A0_2 l0_2.length c0_2]] ?_; (with_reducible refine (spec_l11Copy.calls a0_0 a0_1 _ _ l0_2 t194 t195 t196 _ (cb HR0_2 HB) HC0_2.out A5.out).mono ?_); rintro e w33 ⟨v197, rfl, ho0, hb⟩; refine ⟨_, rfl, ?_⟩; have HO198 := Aside0.mk (Kd.R_lower ho0 (below_size (be2 HB GE191 GE192))); replace BK191 := bb BK191 hb; replace BK192 := bb BK192 hb; replace HB := Aside0.mk (below_step (be2 HB GE191 GE192) hb); (try clear hb); (try clear ho0)) | ((with_reducible refine gate_dst (N := 7) rfl ?_); refine bx 7 #[.int .i64 0, .int .i64 0, .slice none 0 0] 53 ?_; intro gb199 hg w34 hbox hb; replace HO198 := rb HO198 hb; have BK199 := am hbox; have GW199 := gs2 hg HB GE191 GE192; have GE199 := gs2 hg HB GE191 GE192; replace HB := Aside0.mk (below_step (be2 HB GE191 GE192) hb); have NB191_199 := Aside0.mk ((by rw [hg]; exact Nat.ne_of_lt (bl BK191) : gb191 ≠ gb199)); have NB199_191 := Aside0.mk ((by rw [hg]; exact Nat.ne_of_gt (bl BK191) : gb199 ≠ gb191)); replace BK191 := bb BK191 hb; have NB192_199 := Aside0.mk ((by rw [hg]; exact Nat.ne_of_lt (bl BK192) : gb192 ≠ gb199)); have NB199_192 := Aside0.mk ((by rw [hg]; exact Nat.ne_of_gt (bl BK192) : gb199 ≠ gb192)); replace BK192 := bb BK192 hb; clear hb hbox hg; have hnb35 := NB199_191.out; have hnc35 := NB191_199.out; have hnb36 := NB199_192.out; have hnc36 := NB192_199.out; have hcz37_0 := bz3 BK199; obtain ⟨Ao38, co38, eo38⟩ := Kd.R_slice HO198.out; subst eo38; have hcz39_0 := bz3 BK191) | ((with_reducible refine gate_callee (f := 81) rfl ?_); refine gl 18 Try.func81 #[.slice A0_2 l0_2.length c0_2, .string a1] ?_; (with_reducible refine (spec_l10At.calls k _ _ l0_2 a1 t200 _ ?side1 HC0_2.out A6.out).mono ?_); (case side1 => exact Kd.C_below HR0_2.out (be3 HB GE191 GE192 GE199)); rintro e w40 ⟨rfl, hb⟩; refine ⟨_, rfl, ?_⟩; replace HO198 := Aside0.mk (Kd.R_below (rf HO198 BK199) hb); replace BK191 := Aside0.mk (blk_below (g := gb191) (o := .cells #[.int .i64 a0_0, .int .i64 a0_1, .slice A0_2 l0_2.length c0_2] 53 (0, 0)) (bf1 BK191 NB191_199) hb); replace BK192 := Aside0.mk (blk_below (g := gb192) (o := .cells #[.int .i64 0, .int .i64 0, .slice none 0 0] 53 (0, 0)) (bf1 BK192 NB192_199) hb); replace BK199 := Aside0.mk (blk_below (g := gb199) (o := .cells #[.int .i64 t194, .int .i64 t195, .slice Ao38 t196.length co38] 53 (0, 0)) (by (with_reducible repeat (first | refine blk_drewN ?_ _ | refine blk_drew ?_ | refine blk_alloc ?_ _)); refine blk_put (cs := #[.int .i64 t194, .int .i64 t195, .slice none 0 0]) ?_ 2 _ rfl; (with_reducible repeat (first | refine blk_drewN ?_ _ | refine blk_drew ?_ | refine blk_alloc ?_ _)); refine blk_put (cs := #[.int .i64 t194, .int .i64 0, .slice none 0 0]) ?_ 1 _ rfl; (with_reducible repeat (first | refine blk_drewN ?_ _ | refine blk_drew ?_ | refine blk_alloc ?_ _)); refine blk_put (cs := #[.int .i64 0, .int .i64 0, .slice none 0 0]) ?_ 0 _ rfl; (with_reducible repeat (first | refine blk_drewN ?_ _ | refine blk_drew ?_ | refine blk_alloc ?_ _)); exact BK199.out) hb); replace HB := Aside0.mk (below_step (be3 HB GE191 GE192 GE199) hb); (try clear hb)))
    have n0_ := Aside0.mk (Kd.R_drew HO198.out)
    have n1_ := Aside0.mk (blk_drew BK191.out)
    have n2_ := Aside0.mk (blk_drew BK192.out)
    have n3_ := Aside0.mk (blk_drew BK199.out)
    have n4_ := Aside0.mk (below_drew1 HB.out)
    clear HO198
    clear BK191
    clear BK192
    clear BK199
    clear HB
    have HO198 := n0_
    have BK191 := n1_
    have BK192 := n2_
    have BK199 := n3_
    have HB := n4_
    clear n0_ n1_ n2_ n3_ n4_
    have p206 : 0 ≤ (t200 : Int) := od
    have q206 : t200 < (l0_2.length : Int) := od
    obtain ⟨ad206, e206, hx206_0, hx206_1, hx206_2⟩ := at_T84 HR0_2.out t200 p206 q206
    have hw206_2 := hx206_2
    have hw206_1 := hx206_1
    have hw206_0 := hx206_0
    cases e206
    replace hx206_0 := hc HB hx206_0
    replace hx206_1 := hc HB hx206_1
    replace hx206_2 := hc HB hx206_2
    replace p206 := eq_true p206
    replace q206 := eq_true q206
    refine start_ (n := 12) (S := fun w' => w'.cell? ⟨gb199, 0, none⟩ = some (.int .i64 t194) ∧ w'.cell? ⟨gb199, 1, none⟩ = some (.int .i64 t195) ∧ w'.cell? ⟨gb199, 2, none⟩ = some (.slice Ao38 t196.length co38) ∧ w'.cell? ⟨gb191, 0, none⟩ = some (.int .i64 a0_0) ∧ w'.cell? ⟨gb191, 1, none⟩ = some (.int .i64 a0_1) ∧ w'.cell? ⟨gb191, 2, none⟩ = some (.slice (some ad206) l0_2.length c0_2) ∧ w'.cell? (ad206.add ((t200).toNat * 3)) = some (.string ((rd_T84 l0_2 t200).f0)) ∧ w'.cell? ⟨(ad206.add ((t200).toNat * 3)).block, (ad206.add ((t200).toNat * 3)).off + 1, none⟩ = some (.string ((rd_T84 l0_2 t200).f1)) ∧ w'.cell? ⟨(ad206.add ((t200).toNat * 3)).block, (ad206.add ((t200).toNat * 3)).off + 2, none⟩ = some (.int .i64 ((rd_T84 l0_2 t200).f2))) (ds := []) (bv 12 0x0) (by kernel_rfl) rfl rfl ⟨bc0 BK199, bc1 BK199, bc2 BK199, bc0 BK191, bc1 BK191, bc2 BK191, ((HB.out.cell (World.block_lt_of_cell? w _ hw206_0)).trans hw206_0), ((HB.out.cell (World.block_lt_of_cell? w _ hw206_1)).trans hw206_1), ((HB.out.cell (World.block_lt_of_cell? w _ hw206_2)).trans hw206_2)⟩ (fun hHeld => ?_); refine with_tabW spec_RowGet.tab7 spec_RowGet.bits7 (fun HT_ HW_ => ?_)
    generalize w40.drew = w41 at HO198 BK191 BK192 BK199 HB hx206_0 hx206_1 hx206_2 hHeld ⊢
    refine py HT_ 1 23 (bv 12 0x2) ?_
    refine py HT_ 3 25 (bv 12 0xa) ?_
    refine py HT_ 5 27 (bv 12 0x2a) ?_
    refine tk HT_ HW_ hHeld 0 22 (bv 12 0x2b) ?_
    refine tk HT_ HW_ hHeld 4 26 (bv 12 0x3b) ?_
    refine py HT_ 6 28 (bv 12 0x7b) ?_
    refine py HT_ 7 29 (bv 12 0xfb) ?_
    refine tk HT_ HW_ hHeld 8 30 (bv 12 0x1fb) ?_
    refine one_ (i := 2) (N := some 24) (bv 12 0x1ff) rfl rfl (one_of HT_.out (by kernel_rfl)) (by decide) (fun K hK => ?_)
    refine goes_ Try.func88 (by kernel_rfl) rfl #[.agg #[.int .i64 t194, .int .i64 t195, .slice Ao38 t196.length co38], .int .i64 t200] (by rfl) rfl rfl ml ?_
    with_reducible refine (spec_l11Touch.calls k t194 t195 (fun k_ => some k_ = (.slice Ao38 t196.length co38 : Value).ownBlock) (.slice Ao38 t196.length co38) t196 t200 t201 t202 t203 w _ ?side1 ?side2 A24.out).mono ?_
    (case side1 => repeat (first | (with_reducible first | exact HB.out | apply below_alloc | apply pw_below_drewN | apply below_drew1 | refine below_set ?_ GE191.out | refine below_set ?_ GE192.out | refine below_set ?_ GE199.out) | exact HB.out))
    (case side2 => exact Kd.R_tight rfl HO198.out)
    rintro e w42 ⟨v204, rfl, ho0, hb, hkp⟩
    refine ⟨_, rfl, ?_⟩
    have n0_ := Aside0.mk (blk_kept (bk BK191) hkp (fun hs_ => (fun e_ => (Kd.R_ne HO198.out BK191.out (by decide)) e_) hs_))
    have n1_ := Aside0.mk (blk_kept (bk BK192) hkp (fun hs_ => (fun e_ => (Kd.R_ne HO198.out BK192.out (by decide)) e_) hs_))
    have n2_ := Aside0.mk (blk_kept (bk BK199) hkp (fun hs_ => (fun e_ => (Kd.R_ne HO198.out BK199.out (by decide)) e_) hs_))
    have n3_ := Aside0.mk (Kd.R_mono (ok' := fun k_ => True) ho0 (fun k_ hk_ => trivial))
    have n4_ := Aside0.mk (hb)
    clear BK191
    clear BK192
    clear BK199
    clear HB
    clear HO198
    have BK191 := n0_
    have BK192 := n1_
    have BK199 := n2_
    have HO205 := n3_
    have HB := n4_
    clear n0_ n1_ n2_ n3_ n4_
    (try clear hb)
    (try clear hkp)
    (try clear ho0)
    obtain ⟨Ao45, co45, eo45⟩ := Kd.R_slice HO205.out
    (first | subst eo45 | (injection eo45 with f1_ f2_ f3_; have f4_ := f1_.symm; have f5_ := f3_.symm; clear f1_ f2_ f3_; subst f4_; subst f5_))
    refine hK.out _ _ ⟨bc0 BK199, bc1 BK199, bc2 BK199, bc0 BK191, bc1 BK191, bc2 BK191, ((HB.out.cell (World.block_lt_of_cell? w _ hw206_0)).trans hw206_0), ((HB.out.cell (World.block_lt_of_cell? w _ hw206_1)).trans hw206_1), ((HB.out.cell (World.block_lt_of_cell? w _ hw206_2)).trans hw206_2)⟩ (fun hHeld => ?_)
    clear hK K
    refine norm_ (a' := ?_) ?_ ?_
    rotate_left
    ·show Act.put _ (some 24) _ = _
     simp only [aP]
     rfl
    refine one_ (i := 9) (N := none) (bv 12 0x3ff) rfl rfl (one_of HT_.out (by kernel_rfl)) (by decide) (fun K hK => ?_)
    have hs43 : w42.cell? ⟨gb192, 0, none⟩ = some (.int .i64 0) := bc0 BK192
    have hfs43 := blk_frozen BK192.out 0
    have hns43_0 := NB191_192.out
    have hns43_2 := NB199_192.out
    have hms43_0 := NB192_191.out
    have hms43_2 := NB192_199.out
    have hs44 : w42.cell? ⟨gb192, 1, none⟩ = some (.int .i64 0) := bc1 BK192
    have hfs44 := blk_frozen BK192.out 1
    have hns44_0 := NB191_192.out
    have hns44_2 := NB199_192.out
    have hms44_0 := NB192_191.out
    have hms44_2 := NB192_199.out
    have hs46 : w42.cell? ⟨gb192, 2, none⟩ = some (.slice none 0 0) := bc2 BK192
    have hfs46 := blk_frozen BK192.out 2
    have hns46_0 := NB191_192.out
    have hns46_2 := NB199_192.out
    have hms46_0 := NB192_191.out
    have hms46_2 := NB192_199.out
    refine skip_ (w1 := ?_) (by rfl) rfl ?_ ?_
    rotate_left
    ·go_simp
     rfl
    refine hK.out _ _ ⟨((cell_far (p := ⟨gb192, _, none⟩) NB199_192.out _).trans (((cell_far (p := ⟨gb192, _, none⟩) NB199_192.out _).trans (((cell_far (p := ⟨gb192, _, none⟩) NB199_192.out _).trans (hHeld.1)))))), ((cell_far (p := ⟨gb192, _, none⟩) NB199_192.out _).trans (((cell_far (p := ⟨gb192, _, none⟩) NB199_192.out _).trans (((cell_far (p := ⟨gb192, _, none⟩) NB199_192.out _).trans (hHeld.2.1)))))), ((cell_far (p := ⟨gb192, _, none⟩) NB199_192.out _).trans (((cell_far (p := ⟨gb192, _, none⟩) NB199_192.out _).trans (((cell_far (p := ⟨gb192, _, none⟩) NB199_192.out _).trans (hHeld.2.2.1)))))), ((cell_far (p := ⟨gb192, _, none⟩) NB191_192.out _).trans (((cell_far (p := ⟨gb192, _, none⟩) NB191_192.out _).trans (((cell_far (p := ⟨gb192, _, none⟩) NB191_192.out _).trans (hHeld.2.2.2.1)))))), ((cell_far (p := ⟨gb192, _, none⟩) NB191_192.out _).trans (((cell_far (p := ⟨gb192, _, none⟩) NB191_192.out _).trans (((cell_far (p := ⟨gb192, _, none⟩) NB191_192.out _).trans (hHeld.2.2.2.2.1)))))), ((cell_far (p := ⟨gb192, _, none⟩) NB191_192.out _).trans (((cell_far (p := ⟨gb192, _, none⟩) NB191_192.out _).trans (((cell_far (p := ⟨gb192, _, none⟩) NB191_192.out _).trans (hHeld.2.2.2.2.2.1)))))), ((cell_far (p := ⟨gb192, _, none⟩) (by first | exact Nat.ne_of_lt (Nat.lt_of_lt_of_le (by have := World.block_lt_of_cell? _ _ hw206_0; first | rwa [add_block] at this | exact this) GW192.out) | (rw [add_block]; exact Nat.ne_of_lt (Nat.lt_of_lt_of_le (by have := World.block_lt_of_cell? _ _ hw206_0; first | rwa [add_block] at this | exact this) GW192.out)) | (show (Addr.add _ _).block ≠ _; rw [add_block]; exact Nat.ne_of_lt (Nat.lt_of_lt_of_le (by have := World.block_lt_of_cell? _ _ hw206_0; first | rwa [add_block] at this | exact this) GW192.out)) | (dsimp only; exact Nat.ne_of_lt (Nat.lt_of_lt_of_le (by have := World.block_lt_of_cell? _ _ hw206_0; first | rwa [add_block] at this | exact this) GW192.out))) _).trans (((cell_far (p := ⟨gb192, _, none⟩) (by first | exact Nat.ne_of_lt (Nat.lt_of_lt_of_le (by have := World.block_lt_of_cell? _ _ hw206_0; first | rwa [add_block] at this | exact this) GW192.out) | (rw [add_block]; exact Nat.ne_of_lt (Nat.lt_of_lt_of_le (by have := World.block_lt_of_cell? _ _ hw206_0; first | rwa [add_block] at this | exact this) GW192.out)) | (show (Addr.add _ _).block ≠ _; rw [add_block]; exact Nat.ne_of_lt (Nat.lt_of_lt_of_le (by have := World.block_lt_of_cell? _ _ hw206_0; first | rwa [add_block] at this | exact this) GW192.out)) | (dsimp only; exact Nat.ne_of_lt (Nat.lt_of_lt_of_le (by have := World.block_lt_of_cell? _ _ hw206_0; first | rwa [add_block] at this | exact this) GW192.out))) _).trans (((cell_far (p := ⟨gb192, _, none⟩) (by first | exact Nat.ne_of_lt (Nat.lt_of_lt_of_le (by have := World.block_lt_of_cell? _ _ hw206_0; first | rwa [add_block] at this | exact this) GW192.out) | (rw [add_block]; exact Nat.ne_of_lt (Nat.lt_of_lt_of_le (by have := World.block_lt_of_cell? _ _ hw206_0; first | rwa [add_block] at this | exact this) GW192.out)) | (show (Addr.add _ _).block ≠ _; rw [add_block]; exact Nat.ne_of_lt (Nat.lt_of_lt_of_le (by have := World.block_lt_of_cell? _ _ hw206_0; first | rwa [add_block] at this | exact this) GW192.out)) | (dsimp only; exact Nat.ne_of_lt (Nat.lt_of_lt_of_le (by have := World.block_lt_of_cell? _ _ hw206_0; first | rwa [add_block] at this | exact this) GW192.out))) _).trans (hHeld.2.2.2.2.2.2.1)))))), ((cell_far (p := ⟨gb192, _, none⟩) (by first | exact Nat.ne_of_lt (Nat.lt_of_lt_of_le (by have := World.block_lt_of_cell? _ _ hw206_1; first | rwa [add_block] at this | exact this) GW192.out) | (rw [add_block]; exact Nat.ne_of_lt (Nat.lt_of_lt_of_le (by have := World.block_lt_of_cell? _ _ hw206_1; first | rwa [add_block] at this | exact this) GW192.out)) | (show (Addr.add _ _).block ≠ _; rw [add_block]; exact Nat.ne_of_lt (Nat.lt_of_lt_of_le (by have := World.block_lt_of_cell? _ _ hw206_1; first | rwa [add_block] at this | exact this) GW192.out)) | (dsimp only; exact Nat.ne_of_lt (Nat.lt_of_lt_of_le (by have := World.block_lt_of_cell? _ _ hw206_1; first | rwa [add_block] at this | exact this) GW192.out))) _).trans (((cell_far (p := ⟨gb192, _, none⟩) (by first | exact Nat.ne_of_lt (Nat.lt_of_lt_of_le (by have := World.block_lt_of_cell? _ _ hw206_1; first | rwa [add_block] at this | exact this) GW192.out) | (rw [add_block]; exact Nat.ne_of_lt (Nat.lt_of_lt_of_le (by have := World.block_lt_of_cell? _ _ hw206_1; first | rwa [add_block] at this | exact this) GW192.out)) | (show (Addr.add _ _).block ≠ _; rw [add_block]; exact Nat.ne_of_lt (Nat.lt_of_lt_of_le (by have := World.block_lt_of_cell? _ _ hw206_1; first | rwa [add_block] at this | exact this) GW192.out)) | (dsimp only; exact Nat.ne_of_lt (Nat.lt_of_lt_of_le (by have := World.block_lt_of_cell? _ _ hw206_1; first | rwa [add_block] at this | exact this) GW192.out))) _).trans (((cell_far (p := ⟨gb192, _, none⟩) (by first | exact Nat.ne_of_lt (Nat.lt_of_lt_of_le (by have := World.block_lt_of_cell? _ _ hw206_1; first | rwa [add_block] at this | exact this) GW192.out) | (rw [add_block]; exact Nat.ne_of_lt (Nat.lt_of_lt_of_le (by have := World.block_lt_of_cell? _ _ hw206_1; first | rwa [add_block] at this | exact this) GW192.out)) | (show (Addr.add _ _).block ≠ _; rw [add_block]; exact Nat.ne_of_lt (Nat.lt_of_lt_of_le (by have := World.block_lt_of_cell? _ _ hw206_1; first | rwa [add_block] at this | exact this) GW192.out)) | (dsimp only; exact Nat.ne_of_lt (Nat.lt_of_lt_of_le (by have := World.block_lt_of_cell? _ _ hw206_1; first | rwa [add_block] at this | exact this) GW192.out))) _).trans (hHeld.2.2.2.2.2.2.2.1)))))), ((cell_far (p := ⟨gb192, _, none⟩) (by first | exact Nat.ne_of_lt (Nat.lt_of_lt_of_le (by have := World.block_lt_of_cell? _ _ hw206_2; first | rwa [add_block] at this | exact this) GW192.out) | (rw [add_block]; exact Nat.ne_of_lt (Nat.lt_of_lt_of_le (by have := World.block_lt_of_cell? _ _ hw206_2; first | rwa [add_block] at this | exact this) GW192.out)) | (show (Addr.add _ _).block ≠ _; rw [add_block]; exact Nat.ne_of_lt (Nat.lt_of_lt_of_le (by have := World.block_lt_of_cell? _ _ hw206_2; first | rwa [add_block] at this | exact this) GW192.out)) | (dsimp only; exact Nat.ne_of_lt (Nat.lt_of_lt_of_le (by have := World.block_lt_of_cell? _ _ hw206_2; first | rwa [add_block] at this | exact this) GW192.out))) _).trans (((cell_far (p := ⟨gb192, _, none⟩) (by first | exact Nat.ne_of_lt (Nat.lt_of_lt_of_le (by have := World.block_lt_of_cell? _ _ hw206_2; first | rwa [add_block] at this | exact this) GW192.out) | (rw [add_block]; exact Nat.ne_of_lt (Nat.lt_of_lt_of_le (by have := World.block_lt_of_cell? _ _ hw206_2; first | rwa [add_block] at this | exact this) GW192.out)) | (show (Addr.add _ _).block ≠ _; rw [add_block]; exact Nat.ne_of_lt (Nat.lt_of_lt_of_le (by have := World.block_lt_of_cell? _ _ hw206_2; first | rwa [add_block] at this | exact this) GW192.out)) | (dsimp only; exact Nat.ne_of_lt (Nat.lt_of_lt_of_le (by have := World.block_lt_of_cell? _ _ hw206_2; first | rwa [add_block] at this | exact this) GW192.out))) _).trans (((cell_far (p := ⟨gb192, _, none⟩) (by first | exact Nat.ne_of_lt (Nat.lt_of_lt_of_le (by have := World.block_lt_of_cell? _ _ hw206_2; first | rwa [add_block] at this | exact this) GW192.out) | (rw [add_block]; exact Nat.ne_of_lt (Nat.lt_of_lt_of_le (by have := World.block_lt_of_cell? _ _ hw206_2; first | rwa [add_block] at this | exact this) GW192.out)) | (show (Addr.add _ _).block ≠ _; rw [add_block]; exact Nat.ne_of_lt (Nat.lt_of_lt_of_le (by have := World.block_lt_of_cell? _ _ hw206_2; first | rwa [add_block] at this | exact this) GW192.out)) | (dsimp only; exact Nat.ne_of_lt (Nat.lt_of_lt_of_le (by have := World.block_lt_of_cell? _ _ hw206_2; first | rwa [add_block] at this | exact this) GW192.out))) _).trans (hHeld.2.2.2.2.2.2.2.2))))))⟩ (fun hHeld => ?_)
    clear hK K
    refine py HT_ 10 5 (bv 12 0x7ff) ?_
    refine py HT_ 11 6 (bv 12 0xfff) ?_
    refine done_ (done_of HT_.out (by kernel_rfl)) ?_
    try go_wp2
    refine bodyPost_ret (results_ctt rfl _ _ gb192 53 #[.int .i64 t201, .int .i64 t202, .slice Ao45 t203.length co45] (0, 0) _ rfl (by (with_reducible repeat (first | refine blk_drewN ?_ _ | refine blk_drew ?_ | refine blk_alloc ?_ _)); refine blk_put (cs := #[.int .i64 t201, .int .i64 t202, .slice none 0 0]) ?_ 2 _ rfl; (with_reducible repeat (first | refine blk_drewN ?_ _ | refine blk_drew ?_ | refine blk_alloc ?_ _)); refine blk_put (cs := #[.int .i64 t201, .int .i64 0, .slice none 0 0]) ?_ 1 _ rfl; (with_reducible repeat (first | refine blk_drewN ?_ _ | refine blk_drew ?_ | refine blk_alloc ?_ _)); refine blk_put (cs := #[.int .i64 0, .int .i64 0, .slice none 0 0]) ?_ 0 _ rfl; (with_reducible repeat (first | refine blk_drewN ?_ _ | refine blk_drew ?_ | refine blk_alloc ?_ _)); exact BK192.out) Try.underlying53 rfl (by kernel_rfl)) rfl ?_
    exact ⟨_, er, by (with_reducible repeat (first | apply Kd.R_alloc | apply Kd.R_drewN | apply Kd.R_drew)); exact Kd.R_mono (Kd.R_far (p := ⟨gb192, 2, none⟩) (Kd.R_far (p := ⟨gb192, 1, none⟩) (Kd.R_far (p := ⟨gb192, 0, none⟩) (Kd.R_types HO205.out BK192.out (by decide)) (fun _ hk => hk.2) (.int .i64 t201)) (fun _ hk => hk.2) (.int .i64 t202)) (fun _ hk => hk.2) (.slice Ao45 t203.length co45)) (fun _ hk => trivial), be3 HB GE191 GE192 GE199⟩
   rw [if_neg c26] at H
   exact absurd H (by simp)
  rw [if_neg c25] at H
  exact absurd H (by simp)
 replace c4 := Bool.eq_false_iff.mpr c4
 subst c4
 have H1 : (some (0, 0, ([] : List (S84)), (⟨#[]⟩ : ByteArray), false)) = some (r1, r2, r3, r4, r5) := by rw [if_neg (show ¬ (false = true) by decide)] at H; exact H
 clear H
 have H := H1
 clear H1
 simp only [Option.some.injEq, Prod.mk.injEq] at H
 obtain ⟨rfl, rfl, rfl, rfl, rfl⟩ := H
 go_enter Try.func52, Try.ntmps52
 go_wp2_with (first | ((with_reducible refine gate_dst (N := 2) rfl ?_); refine bx 2 #[.int .i64 a0_0, .int .i64 a0_1, .slice A0_2 l0_2.length c0_2] 53 ?_; intro gb191 hg w47 hbox hb; have BK191 := am hbox; have GW191 := gs0 hg HB; have GE191 := gs0 hg HB; replace HB := s0 HB hb; clear hb hbox hg) | ((with_reducible refine gate_dst (N := 4) rfl ?_); refine bx 4 #[.int .i64 0, .int .i64 0, .slice none 0 0] 53 ?_; intro gb192 hg w48 hbox hb; have BK192 := am hbox; have GW192 := gs1 hg HB GE191; have GE192 := gs1 hg HB GE191; replace HB := Aside0.mk (below_step (be1 HB GE191) hb); have NB191_192 := Aside0.mk ((by rw [hg]; exact Nat.ne_of_lt (bl BK191) : gb191 ≠ gb192)); have NB192_191 := Aside0.mk ((by rw [hg]; exact Nat.ne_of_gt (bl BK191) : gb192 ≠ gb191)); replace BK191 := bb BK191 hb; clear hb hbox hg; have hnb49 := NB191_192.out; have hnc49 := NB192_191.out; have hcz50_0 := bz3 BK191) | ((with_reducible refine gate_callee (f := 42) rfl ?_); refine gl 10 Try.func42 #[.agg #[.int .i64 a0_0, .int .i64 a0_1, .slice A0_2 l0_2.length c0_2]] ?_; (with_reducible refine (spec_RowOk.calls k a0_0 a0_1 _ _ l0_2 false _ (cb HR0_2 HB) HC0_2.out A3.out).mono ?_); rintro e w51 ⟨rfl, hb⟩; refine ⟨_, rfl, ?_⟩; replace BK191 := bb BK191 hb; replace BK192 := bb BK192 hb; replace HB := Aside0.mk (below_step (be2 HB GE191 GE192) hb); (try clear hb); have hcz52_0 := bz3 BK192))
 refine bodyPost_ret (results_ctt rfl _ _ gb192 53 #[.int .i64 0, .int .i64 0, .slice none 0 0] (0, 0) _ rfl (by (with_reducible repeat (first | refine blk_drewN ?_ _ | refine blk_drew ?_ | refine blk_alloc ?_ _)); refine blk_put (cs := #[.int .i64 0, .int .i64 0, .slice none 0 0]) ?_ 2 _ rfl; (with_reducible repeat (first | refine blk_drewN ?_ _ | refine blk_drew ?_ | refine blk_alloc ?_ _)); refine blk_put (cs := #[.int .i64 0, .int .i64 0, .slice none 0 0]) ?_ 1 _ rfl; (with_reducible repeat (first | refine blk_drewN ?_ _ | refine blk_drew ?_ | refine blk_alloc ?_ _)); refine blk_put (cs := #[.int .i64 0, .int .i64 0, .slice none 0 0]) ?_ 0 _ rfl; (with_reducible repeat (first | refine blk_drewN ?_ _ | refine blk_drew ?_ | refine blk_alloc ?_ _)); exact BK192.out) Try.underlying53 rfl (by kernel_rfl)) rfl ?_
 exact ⟨_, er, by first | exact Kd.R_nil _ _ _ _ _ | exact Kd.N_nil _ _ _ _ _ | exact Kd.V_nil _ _ _ _ _ | exact Kd.Q_nil _ _ _ _ _ | exact Kd.S_nil _ _ _ _ _, be2 HB GE191 GE192⟩

/-! ### impl_within: function 62 -/
def impl_within.f (a0 : Int) (a1 : Int) (a2 : Int) : Option (Bool) := if a0 ≥ a1 then (some (decide (a0 ≤ a2))) else (some false)
set_option maxHeartbeats 8000000 in
set_option maxRecDepth 100000 in
theorem impl_within.calls (a0 : Int) (a1 : Int) (a2 : Int) (r : Bool) (w : World) (h : impl_within.f a0 a1 a2 = some r) :
  Calls Try.prog 62 #[.int .i64 a0, .int .i64 a1, .int .i64 a2] w fun e w' => e = .returned (.bool r) ∧ Drawn0 w w' := by
 have H : (if a0 ≥ a1 then (some (decide (a0 ≤ a2))) else (some false)) = some r := h
 clear h
 by_cases c4 : a0 ≥ a1
 ·rw [if_pos c4] at H
  have c4b0 : decide (a1 ≤ a0) = true := decide_eq_true c4
  clear c4
  obtain rfl := Option.some.inj H
  go_enter Try.func62, Try.ntmps62
  go_wp2
  go_ret
  exact ⟨by first | rfl | (simp; done) | (simp [*]; done), by repeat (first | exact Drawn0.refl _ | apply Drawn0.step)⟩
 rw [if_neg c4] at H
 have c4b0 : decide (a1 ≤ a0) = false := decide_eq_false c4
 clear c4
 obtain rfl := Option.some.inj H
 go_enter Try.func62, Try.ntmps62
 go_wp2
 go_ret
 exact ⟨by first | rfl | (simp; done) | (simp [*]; done), by repeat (first | exact Drawn0.refl _ | apply Drawn0.step)⟩

end Go.Proofs.Ytllaoamaplepmaa.QFnExactRowGet
