-- made by a program of this session (myprint.py)
import Derived.Test.YtdgpidhlbpaolaaOw
import Derived.Test.YtdgpidhlbpaolaaSh
import Derived.Test.YtdgpidhlbpaolaaQFnExactGiveUpx0
import Derived.Test.YtdgpidhlbpaolaaQFnExactGiveUpx5
import Derived.Test.YtdgpidhlbpaolaaQFnExactGiveUpx7
namespace Go.Proofs.Ytdgpidhlbpaolaa.QFnExactGiveUp
open Go.RowKit Go.Proofs.YtdgpidhlbpaolaaW.PrintWords Go.Proofs.YtdgpidhlbpaolaaW.PrintLast Go.Proofs.YtdgpidhlbpaolaaW.PrintMore
attribute [local go_sem] max2_int min2_int max_two min_two max_three min_three max_four min_four   -- for this text's walks alone
set_option linter.unusedVariables false
set_option linter.unusedSimpArgs false

/-! ### spec_l08But: function 78 -/
def spec_l08But.l0 : Nat → Int → List Int → List Int → Int → Int → Option (List Int)
 | 0, _, _, _, _, _ => none
 | k + 1, x1, x5, x9, x10, x11 => if x11 < x10 then (if 0 ≤ x11 then (if x11 < (x9.length : Int) then (if (rd x9 x11) = x1 then (spec_l08But.l0 k x1 x5 x9 x10 (wrap64 (x11 + 1))) else (if x5.length < 17592186044416 then (spec_l08But.l0 k x1 (x5 ++ [rd x9 x11]) x9 x10 (wrap64 (x11 + 1))) else (none))) else (none)) else (none)) else (some x5)
def spec_l08But.f (k : Nat) (l0 : List Int) (a1 : Int) : Option (List Int) := spec_l08But.l0 k a1 (([] : List Int)) l0 (l0.length : Int) 0
theorem spec_l08But.mono_l : ∀ k, (∀ y0 y1 y2 y3 y4, LeO (spec_l08But.l0 k y0 y1 y2 y3 y4) (spec_l08But.l0 (k + 1) y0 y1 y2 y3 y4))
 | 0 => fun _ _ _ _ _ r h => by simp [spec_l08But.l0] at h
 | k + 1 => by
  have ih0 := spec_l08But.mono_l k
  ·intro y0 y1 y2 y3 y4
   unfold spec_l08But.l0
   repeat' first
   | (with_reducible exact ih0 _ _ _ _ _)
   | (with_reducible exact LeO.refl _)
   | (with_reducible exact LeO.none _)
   | (with_reducible refine LeO.ite ?_ ?_)
   | (with_reducible refine LeO.bind ?_ (fun _ => ?_))
   | exact ih0 _ _ _ _ _
   | exact LeO.none _
   | refine LeO.ite ?_ ?_
   | refine LeO.bind ?_ (fun _ => ?_)
theorem spec_l08But.mono : ∀ a0 a1 k, LeO (spec_l08But.f k a0 a1) (spec_l08But.f (k + 1) a0 a1) := by
 intro a0 a1 k
 have ih0 := spec_l08But.mono_l k
 unfold spec_l08But.f
 repeat' first
   | (with_reducible exact ih0 _ _ _ _ _)
   | (with_reducible exact LeO.refl _)
   | (with_reducible exact LeO.none _)
   | (with_reducible refine LeO.ite ?_ ?_)
   | (with_reducible refine LeO.bind ?_ (fun _ => ?_))
   | exact ih0 _ _ _ _ _
   | exact LeO.none _
   | refine LeO.ite ?_ ?_
   | refine LeO.bind ?_ (fun _ => ?_)
set_option maxHeartbeats 8000000 in
set_option maxRecDepth 100000 in
theorem spec_l08But.calls (k : Nat) (A0 : Option Addr) (c0 : Nat) (l0 : List Int) (a1 : Int) (r : List Int) (w : World) (hr0 : Kd.C (Kd.int .i64) w A0 l0.length l0) (hc0 : l0.length ≤ c0) (h : spec_l08But.f k l0 a1 = some r) :
  Calls Try.prog 78 #[.slice A0 l0.length c0, .int .i64 a1] w fun e w' => ∃ v0_ : Value, e = .returned (v0_) ∧ Kd.R (Kd.int .i64) 3 w' w.heap.size (fun _ => True) v0_ r ∧ Below w.heap.size w w' := by
 have HR0 := Aside0.mk hr0
 have HC0 := Aside0.mk hc0
 clear hr0 hc0
 have HB := Aside0.mk (Below.refl w.heap.size w)
 have H : (spec_l08But.l0 k a1 (([] : List Int)) l0 (l0.length : Int) 0) = some r := h
 clear h
 obtain ⟨y287, hy287⟩ : ∃ y_ : List Int, y_ = (([] : List Int)) := ⟨_, rfl⟩
 replace H : (spec_l08But.l0 k a1 y287 l0 (l0.length : Int) 0) = some r := by first | (rw [hy287]; with_reducible exact H) | (have H2_ := (Option.bind_some _ _).symm.trans H; rw [hy287]; with_reducible exact H2_) | (have H2_ := (Option.bind_some _ _).symm.trans H; with_reducible exact H2_) | with_reducible exact H | (rw [hy287]; exact H) | exact H
 have Ny287 := Aside0.mk hy287
 clear hy287
 have H' := Aside0.mk H
 clear H
 go_enter Try.func78, Try.ntmps78
 go_wp2_with (first | ((with_reducible refine gate_dst (N := 8) rfl ?_); refine Kd.R_lit (Kd.int .i64) _ 3 ?hg (N := 8) ?hd (xs := ([] : List Int)) (inner := []) (ok := fun _ => True) (okp := fun _ => True) ?hr ?hp (fun _ hk => hk) trivial (Below.refl _ _) (Nat.le_refl _) (by simp) ?_; (case hd => rfl); (case hg => rfl); (case hr => first | (go_simp; done) | (go_simp; rfl)); (case hp => exact (Reps.none _ _)); intro v288 w3 ho4 hb hg_ hnew_; clear hg_ hnew_; (first | rw [← Ny287.out] at ho4 | (simp only [Int.reduceToNat] at ho4; rw [← Ny287.out] at ho4)); have HO289 := Aside0.mk (Kd.R_lower ho4 (below_size (be HB))); replace HB := s0 HB hb; clear hb ho4))
 go_loopg [5, 11] k (fun kq v5 v11 w' => ∃ (x5_1 : List Int) (x11_1 : Int), v11 = .int .i64 x11_1 ∧ Aside0 (spec_l08But.l0 kq a1 x5_1 l0 (l0.length : Int) x11_1 = some r) ∧ Aside0 (kq ≤ k) ∧ Aside0 (Kd.R (Kd.int .i64) 3 w' w.heap.size (fun _ => True) v5 x5_1) ∧ Aside0 (Below w.heap.size w w'))
 case atStart => exact ⟨(y287), (0), rs, H', ⟨Nat.le_refl _⟩, ⟨ro HO289⟩, ⟨be HB⟩⟩
 case round =>
  clear H'
  try clear p2
  obtain ⟨x5_1, x11_1, rfl, HA, HK1, HO_5, HB⟩ := hrel
  cases gk with
  | zero => exact absurd HA.out (by simp [spec_l08But.l0])
  | succ k1 =>
   have H := HA.out
   clear HA
   simp only [spec_l08But.l0] at H
   by_cases c5 : x11_1 < (l0.length : Int)
   ·rw [if_pos c5] at H
    have c5b0 : decide (x11_1 < (l0.length : Int)) = true := decide_eq_true c5
    clear c5
    by_cases c6 : 0 ≤ x11_1
    ·rw [if_pos c6] at H
     have c6b0 : decide (0 ≤ x11_1) = true := decide_eq_true c6
     clear c6
     by_cases c7 : x11_1 < (l0.length : Int)
     ·rw [if_pos c7] at H
      have c7b0 : decide (x11_1 < (l0.length : Int)) = true := decide_eq_true c7
      clear c7
      by_cases c8 : (rd l0 x11_1) = a1
      ·rw [if_pos c8] at H
       have c8b0 : ((rd l0 x11_1) == a1) = true := beq_iff_eq.mpr c8
       have c8b1 : ((rd l0 x11_1) != a1) = false := bne_eq_false_iff_eq.mpr c8
       clear c8
       have H' := Aside0.mk H
       clear H
       have p290 : 0 ≤ (x11_1 : Int) := od
       have q290 : x11_1 < (l0.length : Int) := od
       obtain ⟨ad290, e290, hx290_0⟩ := Kd.at_int HR0.out x11_1 p290 q290
       cases e290
       replace hx290_0 := hc HB hx290_0
       replace p290 := eq_true p290
       replace q290 := eq_true q290
       go_wp2
       go_roundg k1
       case measure => have := HK1.out; omega
       case rel => exact ⟨(x5_1), (wrap64 (x11_1 + 1)), rs, H', ⟨by have := HK1.out; omega⟩, ⟨ro HO_5⟩, ⟨be HB⟩⟩
      rw [if_neg c8] at H
      have c8b0 : ((rd l0 x11_1) == a1) = false := beq_eq_false_iff_ne.mpr c8
      have c8b1 : ((rd l0 x11_1) != a1) = true := bne_iff_ne.mpr c8
      by_cases c9 : x5_1.length < 17592186044416
      ·rw [if_pos c9] at H
       have LMc9 := Aside0.mk c9
       clear c9
       obtain ⟨y291, hy291⟩ : ∃ y_ : List Int, y_ = (x5_1 ++ [rd l0 x11_1]) := ⟨_, rfl⟩
       replace H : (spec_l08But.l0 k1 a1 y291 l0 (l0.length : Int) (wrap64 (x11_1 + 1))) = some r := by first | (rw [hy291]; with_reducible exact H) | (have H2_ := (Option.bind_some _ _).symm.trans H; rw [hy291]; with_reducible exact H2_) | (have H2_ := (Option.bind_some _ _).symm.trans H; with_reducible exact H2_) | with_reducible exact H | (rw [hy291]; exact H) | exact H
       have Ny291 := Aside0.mk hy291
       clear hy291
       have H' := Aside0.mk H
       clear H
       have p290 : 0 ≤ (x11_1 : Int) := od
       have q290 : x11_1 < (l0.length : Int) := od
       obtain ⟨ad290, e290, hx290_0⟩ := Kd.at_int HR0.out x11_1 p290 q290
       cases e290
       replace hx290_0 := hc HB hx290_0
       replace p290 := eq_true p290
       replace q290 := eq_true q290
       go_wp2_with (first | ((with_reducible refine gate_builtin (b := .append) (xs := #[.tmp 18, .tmp 20]) rfl ?_); at_builtin; refine Kd.R_append (Kd.int .i64) (w0 := w) w.heap.size rfl (.tmp 18) (.tmp 20) 22 3 (.int .i64 0) 8 rfl Try.underlying22 info3 rfl (by decide) (by omega) u5 x5_1 (rd l0 x11_1) [.int .i64 (rd l0 x11_1)] (fun _ => True) (fun _ => False) rfl rfl ?aP (fun _ hk => hk.elim) ?aF ?aO ?aB ?aS ?aL ?_; (case aP => exact rfl); (case aB => exact (be HB)); (case aF => exact (fun _ _ => trivial)); (case aO => exact (ro HO_5)); (case aS => exact (below_size (be HB))); (case aL => have := LMc9.out; omega); intro v292 w10 ho hb hg hat; rw [← Ny291.out] at ho; replace HB := Aside0.mk (hb); have HO293 := Aside0.mk (ho); clear HO_5; clear ho hb hg hat))
       go_roundg k1
       case measure => have := HK1.out; omega
       case rel => exact ⟨(y291), (wrap64 (x11_1 + 1)), rs, H', ⟨by have := HK1.out; omega⟩, ⟨ro HO293⟩, ⟨be HB⟩⟩
      rw [if_neg c9] at H
      exact absurd H (by simp)
     rw [if_neg c7] at H
     exact absurd H (by simp)
    rw [if_neg c6] at H
    exact absurd H (by simp)
   rw [if_neg c5] at H
   have c5b0 : decide (x11_1 < (l0.length : Int)) = false := decide_eq_false c5
   clear c5
   obtain rfl := Option.some.inj H
   go_wp2
   go_ret
   exact ⟨_, er, by (with_reducible repeat (first | apply Kd.R_alloc | apply Kd.R_drewN | apply Kd.R_drew)); exact HO_5.out, be HB⟩

/-! ### spec_GiveUp: function 38 -/
def spec_GiveUp.j0 : Nat → Int → Bool → List Int → Int → List Int → List (S70) → List Int → Option (List Int × Int × List Int × (List (S70)) × List Int × Bool)
 | 0, _, _, _, _, _, _, _ => none
 | k + 1, x1, x18, x295000, x295001, x295002, x295003, x295004 => if x18 = true then (some (([] : List Int), 0, ([] : List Int), ([] : List (S70)), ([] : List Int), false)) else ((spec_l09Copy.f x295000 x295001 x295002 x295003 x295004).bind fun bt298 => ((spec_Retire.f k x295001 x295002 x295003 x1).bind fun bt312 => (if bt312.2.2.2 = true then ((spec_l08But.f k bt298.2.2.2.2 x1).bind fun t321 => (some (bt298.1, bt312.1, bt312.2.1, bt312.2.2.1, t321, true))) else (some (([] : List Int), 0, ([] : List Int), ([] : List (S70)), ([] : List Int), false)))))
def spec_GiveUp.f (k : Nat) (l0_0 : List Int) (a0_1 : Int) (l0_2 : List Int) (l0_3 : List (S70)) (l0_4 : List Int) (a1 : Int) : Option (List Int × Int × List Int × (List (S70)) × List Int × Bool) := (spec_PoolOk.f k l0_0 a0_1 l0_2 l0_3 l0_4).bind fun t296 => (if t296 = true then ((spec_l03Has.f k l0_4 a1).bind fun t297 => (spec_GiveUp.j0 k a1 (!t297) l0_0 a0_1 l0_2 l0_3 l0_4)) else (spec_GiveUp.j0 k a1 true l0_0 a0_1 l0_2 l0_3 l0_4))
theorem spec_GiveUp.mono_l : ∀ k, (∀ y0 y1 y2 y3 y4 y5 y6, LeO (spec_GiveUp.j0 k y0 y1 y2 y3 y4 y5 y6) (spec_GiveUp.j0 (k + 1) y0 y1 y2 y3 y4 y5 y6))
 | 0 => fun _ _ _ _ _ _ _ r h => by simp [spec_GiveUp.j0] at h
 | k + 1 => by
  have ih0 := spec_GiveUp.mono_l k
  ·intro y0 y1 y2 y3 y4 y5 y6
   unfold spec_GiveUp.j0
   repeat' first
   | (with_reducible exact ih0 _ _ _ _ _ _ _)
   | (with_reducible exact spec_PoolOk.mono _ _ _ _ _ _)
   | (with_reducible exact spec_Retire.mono _ _ _ _ _)
   | (with_reducible exact spec_l03Has.mono _ _ _)
   | (with_reducible exact spec_l08But.mono _ _ _)
   | (with_reducible exact LeO.refl _)
   | (with_reducible exact LeO.none _)
   | (with_reducible refine LeO.ite ?_ ?_)
   | (with_reducible refine LeO.bind ?_ (fun _ => ?_))
   | exact ih0 _ _ _ _ _ _ _
   | exact spec_PoolOk.mono _ _ _ _ _ _
   | exact spec_Retire.mono _ _ _ _ _
   | exact spec_l03Has.mono _ _ _
   | exact spec_l08But.mono _ _ _
   | exact LeO.none _
   | refine LeO.ite ?_ ?_
   | refine LeO.bind ?_ (fun _ => ?_)
theorem spec_GiveUp.mono : ∀ a0 a1 a2 a3 a4 a5 k, LeO (spec_GiveUp.f k a0 a1 a2 a3 a4 a5) (spec_GiveUp.f (k + 1) a0 a1 a2 a3 a4 a5) := by
 intro a0 a1 a2 a3 a4 a5 k
 have ih0 := spec_GiveUp.mono_l k
 unfold spec_GiveUp.f
 repeat' first
   | (with_reducible exact ih0 _ _ _ _ _ _ _)
   | (with_reducible exact spec_PoolOk.mono _ _ _ _ _ _)
   | (with_reducible exact spec_Retire.mono _ _ _ _ _)
   | (with_reducible exact spec_l03Has.mono _ _ _)
   | (with_reducible exact spec_l08But.mono _ _ _)
   | (with_reducible exact LeO.refl _)
   | (with_reducible exact LeO.none _)
   | (with_reducible refine LeO.ite ?_ ?_)
   | (with_reducible refine LeO.bind ?_ (fun _ => ?_))
   | exact ih0 _ _ _ _ _ _ _
   | exact spec_PoolOk.mono _ _ _ _ _ _
   | exact spec_Retire.mono _ _ _ _ _
   | exact spec_l03Has.mono _ _ _
   | exact spec_l08But.mono _ _ _
   | exact LeO.none _
   | refine LeO.ite ?_ ?_
   | refine LeO.bind ?_ (fun _ => ?_)
set_option maxHeartbeats 8000000 in
set_option maxRecDepth 100000 in
theorem spec_GiveUp.calls (k : Nat) (A0_0 : Option Addr) (c0_0 : Nat) (l0_0 : List Int) (a0_1 : Int) (A0_2 : Option Addr) (c0_2 : Nat) (l0_2 : List Int) (A0_3 : Option Addr) (c0_3 : Nat) (l0_3 : List (S70)) (A0_4 : Option Addr) (c0_4 : Nat) (l0_4 : List Int) (a1 : Int) (r1 : List Int) (r2 : Int) (r3 : List Int) (r4 : List (S70)) (r5 : List Int) (r6 : Bool) (w : World) (hr0_0 : Kd.C (Kd.int .i64) w A0_0 l0_0.length l0_0) (hc0_0 : l0_0.length ≤ c0_0) (hr0_2 : Kd.C (Kd.int .i64) w A0_2 l0_2.length l0_2) (hc0_2 : l0_2.length ≤ c0_2) (hr0_3 : Kd.C k70 w A0_3 l0_3.length l0_3) (hc0_3 : l0_3.length ≤ c0_3) (hr0_4 : Kd.C (Kd.int .i64) w A0_4 l0_4.length l0_4) (hc0_4 : l0_4.length ≤ c0_4) (h : spec_GiveUp.f k l0_0 a0_1 l0_2 l0_3 l0_4 a1 = some (r1, r2, r3, r4, r5, r6)) :
  Calls Try.prog 38 #[.agg #[.slice A0_0 l0_0.length c0_0, .int .i64 a0_1, .slice A0_2 l0_2.length c0_2, .slice A0_3 l0_3.length c0_3, .slice A0_4 l0_4.length c0_4], .int .i64 a1] w fun e w' => ∃ v0_ v2_ v3_ v4_ : Value, e = .returned (.tuple #[.agg #[v0_, .int .i64 r2, v2_, v3_, v4_], .bool r6]) ∧ Kd.R (Kd.int .i64) 3 w' w.heap.size (fun k_ => some k_ ≠ (v2_ : Value).ownBlock ∧ some k_ ≠ (v4_ : Value).ownBlock) v0_ r1 ∧ Kd.R (Kd.int .i64) 3 w' w.heap.size (fun k_ => some k_ ≠ (v0_ : Value).ownBlock ∧ some k_ ≠ (v4_ : Value).ownBlock) v2_ r3 ∧ Kd.R k70 70 w' w.heap.size (fun _ => True) v3_ r4 ∧ Kd.R (Kd.int .i64) 3 w' w.heap.size (fun k_ => some k_ ≠ (v0_ : Value).ownBlock ∧ some k_ ≠ (v2_ : Value).ownBlock) v4_ r5 ∧ Below w.heap.size w w' := by
 have hu27 := Try.underlying27
 have hu25 := Try.underlying25
 have HR0_0 := Aside0.mk hr0_0
 have HC0_0 := Aside0.mk hc0_0
 clear hr0_0 hc0_0
 have HR0_2 := Aside0.mk hr0_2
 have HC0_2 := Aside0.mk hc0_2
 clear hr0_2 hc0_2
 have HR0_3 := Aside0.mk hr0_3
 have HC0_3 := Aside0.mk hc0_3
 clear hr0_3 hc0_3
 have HR0_4 := Aside0.mk hr0_4
 have HC0_4 := Aside0.mk hc0_4
 clear hr0_4 hc0_4
 have HB := Aside0.mk (Below.refl w.heap.size w)
 have H : ((spec_PoolOk.f k l0_0 a0_1 l0_2 l0_3 l0_4).bind fun t296 => (if t296 = true then ((spec_l03Has.f k l0_4 a1).bind fun t297 => (spec_GiveUp.j0 k a1 (!t297) l0_0 a0_1 l0_2 l0_3 l0_4)) else (spec_GiveUp.j0 k a1 true l0_0 a0_1 l0_2 l0_3 l0_4))) = some (r1, r2, r3, r4, r5, r6) := h
 clear h
 have HC3 := Aside0.mk H
 clear H
 go_enter Try.func38, Try.ntmps38
 go_upto_region 1 with (first | ((with_reducible refine gate_dst (N := 2) rfl ?_); refine bx 2 #[.slice A0_0 l0_0.length c0_0, .int .i64 a0_1, .slice A0_2 l0_2.length c0_2, .slice A0_3 l0_3.length c0_3, .slice A0_4 l0_4.length c0_4] 27 ?_; intro gb294 hg w4 hbox hb; have BK294 := am hbox; have GW294 := gs0 hg HB; have GE294 := gs0 hg HB; replace HB := s0 HB hb; clear hb hbox hg) | ((with_reducible refine gate_dst (N := 4) rfl ?_); refine bx 4 #[.slice none 0 0, .int .i64 0, .slice none 0 0, .slice none 0 0, .slice none 0 0] 27 ?_; intro gb295 hg w5 hbox hb; have BK295 := am hbox; have GW295 := gs1 hg HB GE294; have GE295 := gs1 hg HB GE294; replace HB := Aside0.mk (below_step (be1 HB GE294) hb); have NB294_295 := Aside0.mk ((by rw [hg]; exact Nat.ne_of_lt (bl BK294) : gb294 ≠ gb295)); have NB295_294 := Aside0.mk ((by rw [hg]; exact Nat.ne_of_gt (bl BK294) : gb295 ≠ gb294)); replace BK294 := bb BK294 hb; clear hb hbox hg))
 (try simp only [Act.put, List.setIfInBounds_toArray, List.set_cons_zero, List.set_cons_succ])
 go_cut [18] (fun v18 wc => ∃ (kq : Nat) (x18_2 : Bool), v18 = .bool x18_2 ∧ Aside0 (spec_GiveUp.j0 kq a1 x18_2 l0_0 a0_1 l0_2 l0_3 l0_4 = some (r1, r2, r3, r4, r5, r6)) ∧ Aside0 (kq ≤ k) ∧ Aside0 (wc.heap[gb294]? = some (.cells #[(.slice A0_0 l0_0.length c0_0), .int .i64 a0_1, (.slice A0_2 l0_2.length c0_2), (.slice A0_3 l0_3.length c0_3), (.slice A0_4 l0_4.length c0_4)] 27 (0, 0))) ∧ Aside0 (wc.heap[gb295]? = some (.cells #[(.slice none 0 0), .int .i64 0, (.slice none 0 0), (.slice none 0 0), (.slice none 0 0)] 27 (0, 0))) ∧ Aside0 (Below w.heap.size w wc))
 case first =>
  have H := HC3.out
  clear HC3
  replace H := Option.bind_eq_some_iff.mp H
  obtain ⟨t296, A60, H⟩ := H
  replace H : (if t296 = true then ((spec_l03Has.f k l0_4 a1).bind fun t297 => (spec_GiveUp.j0 k a1 (!t297) l0_0 a0_1 l0_2 l0_3 l0_4)) else (spec_GiveUp.j0 k a1 true l0_0 a0_1 l0_2 l0_3 l0_4)) = some (r1, r2, r3, r4, r5, r6) := H
  have A6 := Aside0.mk A60
  clear A60
  by_cases c7 : t296 = true
  ·subst c7
   have H1 : ((spec_l03Has.f k l0_4 a1).bind fun t297 => (spec_GiveUp.j0 k a1 (!t297) l0_0 a0_1 l0_2 l0_3 l0_4)) = some (r1, r2, r3, r4, r5, r6) := by rw [if_pos rfl] at H; exact H
   clear H
   have H := H1
   clear H1
   replace H := Option.bind_eq_some_iff.mp H
   obtain ⟨t297, A80, H⟩ := H
   replace H : (spec_GiveUp.j0 k a1 (!t297) l0_0 a0_1 l0_2 l0_3 l0_4) = some (r1, r2, r3, r4, r5, r6) := H
   have A8 := Aside0.mk A80
   clear A80
   have H' := Aside0.mk H
   clear H
   have hnb9 := NB294_295.out
   have hnc9 := NB295_294.out
   have hcz10_0 := bz5 BK294
   go_wp2_with (first | ((with_reducible refine gate_callee (f := 20) rfl ?_); refine gl 10 Try.func20 #[.agg #[.slice A0_0 l0_0.length c0_0, .int .i64 a0_1, .slice A0_2 l0_2.length c0_2, .slice A0_3 l0_3.length c0_3, .slice A0_4 l0_4.length c0_4]] ?_; (with_reducible refine (spec_PoolOk.calls k _ _ l0_0 a0_1 _ _ l0_2 _ _ l0_3 _ _ l0_4 true _ (cb HR0_0 HB) HC0_0.out (cb HR0_2 HB) HC0_2.out (cb HR0_3 HB) HC0_3.out (cb HR0_4 HB) HC0_4.out A6.out).mono ?_); rintro e w11 ⟨rfl, hb⟩; refine ⟨_, rfl, ?_⟩; replace BK294 := bb BK294 hb; replace BK295 := bb BK295 hb; replace HB := Aside0.mk (below_step (be2 HB GE294 GE295) hb); (try clear hb); have hcz12_0 := bz5 BK294) | (go_at_call 54; (with_reducible refine (spec_l03Has.calls k _ _ l0_4 a1 t297 _ (cb HR0_4 HB) HC0_4.out A8.out).mono ?_); rintro e w' ⟨rfl, ⟨nd, rfl⟩⟩))
   go_meet
   case rel => exact ⟨_, (!t297), rs, H', ⟨by first | omega | exact Nat.le_refl _⟩, ⟨bk BK294⟩, ⟨bk BK295⟩, ⟨be2 HB GE294 GE295⟩⟩
  replace c7 := Bool.eq_false_iff.mpr c7
  subst c7
  have H1 : (spec_GiveUp.j0 k a1 true l0_0 a0_1 l0_2 l0_3 l0_4) = some (r1, r2, r3, r4, r5, r6) := by rw [if_neg (show ¬ (false = true) by decide)] at H; exact H
  clear H
  have H := H1
  clear H1
  have H' := Aside0.mk H
  clear H
  have hnb13 := NB294_295.out
  have hnc13 := NB295_294.out
  have hcz14_0 := bz5 BK294
  go_wp2_with (first | ((with_reducible refine gate_callee (f := 20) rfl ?_); refine gl 10 Try.func20 #[.agg #[.slice A0_0 l0_0.length c0_0, .int .i64 a0_1, .slice A0_2 l0_2.length c0_2, .slice A0_3 l0_3.length c0_3, .slice A0_4 l0_4.length c0_4]] ?_; (with_reducible refine (spec_PoolOk.calls k _ _ l0_0 a0_1 _ _ l0_2 _ _ l0_3 _ _ l0_4 false _ (cb HR0_0 HB) HC0_0.out (cb HR0_2 HB) HC0_2.out (cb HR0_3 HB) HC0_3.out (cb HR0_4 HB) HC0_4.out A6.out).mono ?_); rintro e w15 ⟨rfl, hb⟩; refine ⟨_, rfl, ?_⟩; replace BK294 := bb BK294 hb; replace BK295 := bb BK295 hb; replace HB := Aside0.mk (below_step (be2 HB GE294 GE295) hb); (try clear hb)))
  go_meet
  case rel => exact ⟨_, (true), rs, H', ⟨by first | omega | exact Nat.le_refl _⟩, ⟨bk BK294⟩, ⟨bk BK295⟩, ⟨be2 HB GE294 GE295⟩⟩
 case rest =>
  clear HC3
  try clear c1; try clear c2; try clear p2; try clear c3; try clear c7; try clear c9; try clear c13; try clear hcz10_0; try clear hcz12_0; try clear hcz14_0
  obtain ⟨kq, x18_2, rfl, HA, HJ2, BK294, BK295, HB⟩ := hcut
  cases kq with
  | zero => exact absurd HA.out (by simp [spec_GiveUp.j0])
  | succ kj2 =>
   have H := HA.out
   clear HA
   simp only [spec_GiveUp.j0] at H
   by_cases c16 : x18_2 = true
   ·subst c16
    have H1 : (some (([] : List Int), 0, ([] : List Int), ([] : List (S70)), ([] : List Int), false)) = some (r1, r2, r3, r4, r5, r6) := by rw [if_pos rfl] at H; exact H
    clear H
    have H := H1
    clear H1
    simp only [Option.some.injEq, Prod.mk.injEq] at H
    obtain ⟨rfl, rfl, rfl, rfl, rfl, rfl⟩ := H
    have hnb17 := NB295_294.out
    have hnc17 := NB294_295.out
    have hcz18_0 := bz5 BK295
    go_wp2
    refine bodyPost_ret (results_ct rfl _ _ gb295 27 #[.slice none 0 0, .int .i64 0, .slice none 0 0, .slice none 0 0, .slice none 0 0] (0, 0) _ rfl (by (with_reducible repeat (first | refine blk_drewN ?_ _ | refine blk_drew ?_ | refine blk_alloc ?_ _)); refine blk_put (cs := #[.slice none 0 0, .int .i64 0, .slice none 0 0, .slice none 0 0, .slice none 0 0]) ?_ 4 _ rfl; (with_reducible repeat (first | refine blk_drewN ?_ _ | refine blk_drew ?_ | refine blk_alloc ?_ _)); refine blk_put (cs := #[.slice none 0 0, .int .i64 0, .slice none 0 0, .slice none 0 0, .slice none 0 0]) ?_ 3 _ rfl; (with_reducible repeat (first | refine blk_drewN ?_ _ | refine blk_drew ?_ | refine blk_alloc ?_ _)); refine blk_put (cs := #[.slice none 0 0, .int .i64 0, .slice none 0 0, .slice none 0 0, .slice none 0 0]) ?_ 2 _ rfl; (with_reducible repeat (first | refine blk_drewN ?_ _ | refine blk_drew ?_ | refine blk_alloc ?_ _)); refine blk_put (cs := #[.slice none 0 0, .int .i64 0, .slice none 0 0, .slice none 0 0, .slice none 0 0]) ?_ 1 _ rfl; (with_reducible repeat (first | refine blk_drewN ?_ _ | refine blk_drew ?_ | refine blk_alloc ?_ _)); refine blk_put (cs := #[.slice none 0 0, .int .i64 0, .slice none 0 0, .slice none 0 0, .slice none 0 0]) ?_ 0 _ rfl; (with_reducible repeat (first | refine blk_drewN ?_ _ | refine blk_drew ?_ | refine blk_alloc ?_ _)); exact BK295.out) Try.underlying27 rfl (by kernel_rfl)) rfl ?_
    exact ⟨_, _, _, _, er, by first | exact Kd.R_nil _ _ _ _ _ | exact Kd.N_nil _ _ _ _ _ | exact Kd.V_nil _ _ _ _ _ | exact Kd.Q_nil _ _ _ _ _ | exact Kd.S_nil _ _ _ _ _, by first | exact Kd.R_nil _ _ _ _ _ | exact Kd.N_nil _ _ _ _ _ | exact Kd.V_nil _ _ _ _ _ | exact Kd.Q_nil _ _ _ _ _ | exact Kd.S_nil _ _ _ _ _, by first | exact Kd.R_nil _ _ _ _ _ | exact Kd.N_nil _ _ _ _ _ | exact Kd.V_nil _ _ _ _ _ | exact Kd.Q_nil _ _ _ _ _ | exact Kd.S_nil _ _ _ _ _, by first | exact Kd.R_nil _ _ _ _ _ | exact Kd.N_nil _ _ _ _ _ | exact Kd.V_nil _ _ _ _ _ | exact Kd.Q_nil _ _ _ _ _ | exact Kd.S_nil _ _ _ _ _, be2 HB GE294 GE295⟩
   replace c16 := Bool.eq_false_iff.mpr c16
   subst c16
   have H1 : ((spec_l09Copy.f l0_0 a0_1 l0_2 l0_3 l0_4).bind fun bt298 => ((spec_Retire.f kj2 a0_1 l0_2 l0_3 a1).bind fun bt312 => (if bt312.2.2.2 = true then ((spec_l08But.f kj2 bt298.2.2.2.2 a1).bind fun t321 => (some (bt298.1, bt312.1, bt312.2.1, bt312.2.2.1, t321, true))) else (some (([] : List Int), 0, ([] : List Int), ([] : List (S70)), ([] : List Int), false))))) = some (r1, r2, r3, r4, r5, r6) := by rw [if_neg (show ¬ (false = true) by decide)] at H; exact H
   clear H
   have H := H1
   clear H1
   replace H := Option.bind_eq_some_iff.mp H
   obtain ⟨⟨t298, t301, t302, t305, t308⟩, A190, H⟩ := H
   replace H : ((spec_Retire.f kj2 a0_1 l0_2 l0_3 a1).bind fun bt312 => (if bt312.2.2.2 = true then ((spec_l08But.f kj2 t308 a1).bind fun t321 => (some (t298, bt312.1, bt312.2.1, bt312.2.2.1, t321, true))) else (some (([] : List Int), 0, ([] : List Int), ([] : List (S70)), ([] : List Int), false)))) = some (r1, r2, r3, r4, r5, r6) := H
   have A19 := Aside0.mk A190
   clear A190
   replace H := Option.bind_eq_some_iff.mp H
   obtain ⟨⟨t312, t313, t316, t319⟩, A200, H⟩ := H
   replace H : (if t319 = true then ((spec_l08But.f kj2 t308 a1).bind fun t321 => (some (t298, t312, t313, t316, t321, true))) else (some (([] : List Int), 0, ([] : List Int), ([] : List (S70)), ([] : List Int), false))) = some (r1, r2, r3, r4, r5, r6) := H
   have A20 := Aside0.mk A200
   clear A200
   by_cases c21 : t319 = true
   ·subst c21
    have H1 : ((spec_l08But.f kj2 t308 a1).bind fun t321 => (some (t298, t312, t313, t316, t321, true))) = some (r1, r2, r3, r4, r5, r6) := by rw [if_pos rfl] at H; exact H
    clear H
    have H := H1
    clear H1
    replace H := Option.bind_eq_some_iff.mp H
    obtain ⟨t321, A220, H⟩ := H
    replace H : (some (t298, t312, t313, t316, t321, true)) = some (r1, r2, r3, r4, r5, r6) := H
    have A22 := Aside0.mk A220
    clear A220
    simp only [Option.some.injEq, Prod.mk.injEq] at H
    obtain ⟨rfl, rfl, rfl, rfl, rfl, rfl⟩ := H
    have hnb23 := NB294_295.out
    have hnc23 := NB295_294.out
    have hcz24_0 := bz5 BK294
    go_wp2_with (first | ((with_reducible refine gate_callee (f := 64) rfl ?_); refine gl 21 Try.func64 #[.agg #[.slice A0_0 l0_0.length c0_0, .int .i64 a0_1, .slice A0_2 l0_2.length c0_2, .slice A0_3 l0_3.length c0_3, .slice A0_4 l0_4.length c0_4]] ?_; (with_reducible refine (spec_l09Copy.calls _ _ l0_0 a0_1 _ _ l0_2 _ _ l0_3 _ _ l0_4 t298 t301 t302 t305 t308 _ (cb HR0_0 HB) HC0_0.out (cb HR0_2 HB) HC0_2.out (cb HR0_3 HB) HC0_3.out (cb HR0_4 HB) HC0_4.out A19.out).mono ?_); rintro e w25 ⟨v299, v303, v306, v309, rfl, ho0, ho1, ho2, ho3, hb⟩; refine ⟨_, rfl, ?_⟩; have HO300 := Aside0.mk (Kd.R_lower ho0 (below_size (be2 HB GE294 GE295))); have HO304 := Aside0.mk (Kd.R_lower ho1 (below_size (be2 HB GE294 GE295))); have HO307 := Aside0.mk (Kd.R_lower ho2 (below_size (be2 HB GE294 GE295))); have HO310 := Aside0.mk (Kd.R_lower ho3 (below_size (be2 HB GE294 GE295))); replace BK294 := bb BK294 hb; replace BK295 := bb BK295 hb; replace HB := Aside0.mk (below_step (be2 HB GE294 GE295) hb); (try clear hb); (try clear ho0); (try clear ho1); (try clear ho2); (try clear ho3)) | ((with_reducible refine gate_dst (N := 6) rfl ?_); refine bx 6 #[.slice none 0 0, .int .i64 0, .slice none 0 0, .slice none 0 0, .slice none 0 0] 27 ?_; intro gb311 hg w26 hbox hb; replace HO300 := rb HO300 hb; replace HO304 := rb HO304 hb; replace HO307 := rb HO307 hb; replace HO310 := rb HO310 hb; have BK311 := am hbox; have GW311 := gs2 hg HB GE294 GE295; have GE311 := gs2 hg HB GE294 GE295; replace HB := Aside0.mk (below_step (be2 HB GE294 GE295) hb); have NB294_311 := Aside0.mk ((by rw [hg]; exact Nat.ne_of_lt (bl BK294) : gb294 ≠ gb311)); have NB311_294 := Aside0.mk ((by rw [hg]; exact Nat.ne_of_gt (bl BK294) : gb311 ≠ gb294)); replace BK294 := bb BK294 hb; have NB295_311 := Aside0.mk ((by rw [hg]; exact Nat.ne_of_lt (bl BK295) : gb295 ≠ gb311)); have NB311_295 := Aside0.mk ((by rw [hg]; exact Nat.ne_of_gt (bl BK295) : gb311 ≠ gb295)); replace BK295 := bb BK295 hb; clear hb hbox hg; obtain ⟨Ao27, co27, eo27⟩ := Kd.R_slice HO300.out; subst eo27; have hnb28 := NB311_294.out; have hnc28 := NB294_311.out; have hnb29 := NB311_295.out; have hnc29 := NB295_311.out; have hcz30_0 := bz5 BK311; obtain ⟨Ao31, co31, eo31⟩ := Kd.R_slice HO304.out; subst eo31; obtain ⟨Ao32, co32, eo32⟩ := Kd.R_slice HO307.out; subst eo32; obtain ⟨Ao33, co33, eo33⟩ := Kd.R_slice HO310.out; subst eo33; have hcz34_0 := bz5 BK294) | ((with_reducible refine gate_callee (f := 77) rfl ?_); refine gl 26 Try.func77 #[.agg #[.int .i64 a0_1, .slice A0_2 l0_2.length c0_2, .slice A0_3 l0_3.length c0_3], .int .i64 a1] ?_; (with_reducible refine (spec_Retire.calls kj2 a0_1 _ _ l0_2 _ _ l0_3 a1 t312 t313 t316 true _ ?side1 HC0_2.out ?side3 HC0_3.out A20.out).mono ?_); (case side1 => exact Kd.C_below HR0_2.out (be3 HB GE294 GE295 GE311)); (case side3 => exact Kd.C_below HR0_3.out (be3 HB GE294 GE295 GE311)); rintro e w35 ⟨v314, v317, rfl, ho0, ho1, hb⟩; refine ⟨_, rfl, ?_⟩; have HO315 := Aside0.mk (Kd.R_lower (Kd.R_new' (Kd.R_new' (Kd.R_new' ho0 (Kd.R_lt (rf HO300 BK311))) (Kd.R_lt (rf HO304 BK311))) (Kd.R_lt (rf HO310 BK311))) (below_size (be3 HB GE294 GE295 GE311))); replace HO300 := Aside0.mk (Kd.R_elder' (rf HO300 BK311) (Kd.R_base ho0) hb); replace HO304 := Aside0.mk (Kd.R_elder' (rf HO304 BK311) (Kd.R_base ho0) hb); replace HO310 := Aside0.mk (Kd.R_elder' (rf HO310 BK311) (Kd.R_base ho0) hb); have HO318 := Aside0.mk (Kd.R_lower (Kd.R_new' ho1 (Kd.R_lt (rf HO307 BK311))) (below_size (be3 HB GE294 GE295 GE311))); replace HO307 := Aside0.mk (Kd.R_elder' (rf HO307 BK311) (Kd.R_base ho1) hb); replace BK294 := Aside0.mk (blk_below (g := gb294) (o := .cells #[.slice A0_0 l0_0.length c0_0, .int .i64 a0_1, .slice A0_2 l0_2.length c0_2, .slice A0_3 l0_3.length c0_3, .slice A0_4 l0_4.length c0_4] 27 (0, 0)) (bf1 BK294 NB294_311) hb); replace BK295 := Aside0.mk (blk_below (g := gb295) (o := .cells #[.slice none 0 0, .int .i64 0, .slice none 0 0, .slice none 0 0, .slice none 0 0] 27 (0, 0)) (bf1 BK295 NB295_311) hb); replace BK311 := Aside0.mk (blk_below (g := gb311) (o := .cells #[.slice Ao27 t298.length co27, .int .i64 t301, .slice Ao31 t302.length co31, .slice Ao32 t305.length co32, .slice Ao33 t308.length co33] 27 (0, 0)) (by (with_reducible repeat (first | refine blk_drewN ?_ _ | refine blk_drew ?_ | refine blk_alloc ?_ _)); refine blk_put (cs := #[.slice Ao27 t298.length co27, .int .i64 t301, .slice Ao31 t302.length co31, .slice Ao32 t305.length co32, .slice none 0 0]) ?_ 4 _ rfl; (with_reducible repeat (first | refine blk_drewN ?_ _ | refine blk_drew ?_ | refine blk_alloc ?_ _)); refine blk_put (cs := #[.slice Ao27 t298.length co27, .int .i64 t301, .slice Ao31 t302.length co31, .slice none 0 0, .slice none 0 0]) ?_ 3 _ rfl; (with_reducible repeat (first | refine blk_drewN ?_ _ | refine blk_drew ?_ | refine blk_alloc ?_ _)); refine blk_put (cs := #[.slice Ao27 t298.length co27, .int .i64 t301, .slice none 0 0, .slice none 0 0, .slice none 0 0]) ?_ 2 _ rfl; (with_reducible repeat (first | refine blk_drewN ?_ _ | refine blk_drew ?_ | refine blk_alloc ?_ _)); refine blk_put (cs := #[.slice Ao27 t298.length co27, .int .i64 0, .slice none 0 0, .slice none 0 0, .slice none 0 0]) ?_ 1 _ rfl; (with_reducible repeat (first | refine blk_drewN ?_ _ | refine blk_drew ?_ | refine blk_alloc ?_ _)); refine blk_put (cs := #[.slice none 0 0, .int .i64 0, .slice none 0 0, .slice none 0 0, .slice none 0 0]) ?_ 0 _ rfl; (with_reducible repeat (first | refine blk_drewN ?_ _ | refine blk_drew ?_ | refine blk_alloc ?_ _)); exact BK311.out) hb); replace HB := Aside0.mk (below_step (be3 HB GE294 GE295 GE311) hb); (try clear hb); (try clear ho0); (try clear ho1)) | ((with_reducible refine gate_dst (N := 7) rfl ?_); refine bx 7 #[.int .i64 0, .slice none 0 0, .slice none 0 0] 25 ?_; intro gb320 hg w36 hbox hb; replace HO300 := rb HO300 hb; replace HO304 := rb HO304 hb; replace HO307 := rb HO307 hb; replace HO310 := rb HO310 hb; replace HO315 := rb HO315 hb; replace HO318 := rb HO318 hb; have BK320 := am hbox; have GW320 := Aside0.mk ((by rw [hg]; exact (below_size (be3 HB GE294 GE295 GE311)) : w.heap.size ≤ gb320)); have GE320 := Aside0.mk ((by rw [hg]; exact (below_size (be3 HB GE294 GE295 GE311)) : w.heap.size ≤ gb320)); replace HB := Aside0.mk (below_step (be3 HB GE294 GE295 GE311) hb); have NB294_320 := Aside0.mk ((by rw [hg]; exact Nat.ne_of_lt (bl BK294) : gb294 ≠ gb320)); have NB320_294 := Aside0.mk ((by rw [hg]; exact Nat.ne_of_gt (bl BK294) : gb320 ≠ gb294)); replace BK294 := bb BK294 hb; have NB295_320 := Aside0.mk ((by rw [hg]; exact Nat.ne_of_lt (bl BK295) : gb295 ≠ gb320)); have NB320_295 := Aside0.mk ((by rw [hg]; exact Nat.ne_of_gt (bl BK295) : gb320 ≠ gb295)); replace BK295 := bb BK295 hb; have NB311_320 := Aside0.mk ((by rw [hg]; exact Nat.ne_of_lt (bl BK311) : gb311 ≠ gb320)); have NB320_311 := Aside0.mk ((by rw [hg]; exact Nat.ne_of_gt (bl BK311) : gb320 ≠ gb311)); replace BK311 := bb BK311 hb; clear hb hbox hg; have hnb37 := NB320_294.out; have hnc37 := NB294_320.out; have hnb38 := NB320_295.out; have hnc38 := NB295_320.out; have hnb39 := NB320_311.out; have hnc39 := NB311_320.out; have hcz40_0 := bz3 BK320; obtain ⟨Ao41, co41, eo41⟩ := Kd.R_slice HO315.out; subst eo41; obtain ⟨Ao42, co42, eo42⟩ := Kd.R_slice HO318.out; subst eo42; have hcz43_0 := bz5 BK311) | ((with_reducible refine gate_callee (f := 78) rfl ?_); refine gl 37 Try.func78 #[.slice Ao33 t308.length co33, .int .i64 a1] ?_; (with_reducible refine (spec_l08But.calls kj2 _ _ t308 a1 t321 _ ?side1 ((Kd.R_reads' HO310.out).2.1) A22.out).mono ?_); (case side1 => refine (Kd.R_reads' (e := 3) (base := w.heap.size) (ok := fun k_ => ((nb k_ Ao27 t298.length co27 ∧ nb k_ Ao31 t302.length co31) ∧ nb k_ Ao41 t313.length co41)) (n := t308.length) (c := co33) ?_).2.2; exact (by (with_reducible repeat (first | apply Kd.R_alloc | apply Kd.R_drewN | apply Kd.R_drew)); exact (Kd.R_mono (Kd.R_mono (Kd.R_far (p := ⟨gb311, 3, none⟩) (Kd.R_far (p := ⟨gb311, 2, none⟩) (Kd.R_far (p := ⟨gb311, 1, none⟩) (Kd.R_far (p := ⟨gb320, 2, none⟩) (Kd.R_far (p := ⟨gb320, 1, none⟩) (Kd.R_far (p := ⟨gb320, 0, none⟩) (Kd.R_types (Kd.R_types HO310.out BK320.out (by decide)) BK311.out (by decide)) (fun _ hk => hk.1.2) (.int .i64 t312)) (fun _ hk => hk.1.2) (.slice Ao41 t313.length co41)) (fun _ hk => hk.1.2) (.slice Ao42 t316.length co42)) (fun _ hk => hk.2) (.int .i64 t312)) (fun _ hk => hk.2) (.slice Ao41 t313.length co41)) (fun _ hk => hk.2) (.slice Ao42 t316.length co42)) (fun _ h_ => h_.1)) (fun _ h_ => h_.1)))); rintro e w44 ⟨v322, rfl, ho0, hb⟩; refine ⟨_, rfl, ?_⟩; replace HO307 := Aside0.mk (Kd.R_below (by (with_reducible repeat (first | apply Kd.R_alloc | apply Kd.R_drewN | apply Kd.R_drew)); exact (Kd.R_mono (Kd.R_mono (Kd.R_far (p := ⟨gb311, 3, none⟩) (Kd.R_far (p := ⟨gb311, 2, none⟩) (Kd.R_far (p := ⟨gb311, 1, none⟩) (Kd.R_far (p := ⟨gb320, 2, none⟩) (Kd.R_far (p := ⟨gb320, 1, none⟩) (Kd.R_far (p := ⟨gb320, 0, none⟩) (Kd.R_types (Kd.R_types HO307.out BK320.out (by decide)) BK311.out (by decide)) (fun _ hk => hk.1.2) (.int .i64 t312)) (fun _ hk => hk.1.2) (.slice Ao41 t313.length co41)) (fun _ hk => hk.1.2) (.slice Ao42 t316.length co42)) (fun _ hk => hk.2) (.int .i64 t312)) (fun _ hk => hk.2) (.slice Ao41 t313.length co41)) (fun _ hk => hk.2) (.slice Ao42 t316.length co42)) (fun _ h_ => h_.1)) (fun _ h_ => h_.1))) hb); replace HO318 := Aside0.mk (Kd.R_below (by (with_reducible repeat (first | apply Kd.R_alloc | apply Kd.R_drewN | apply Kd.R_drew)); exact (Kd.R_mono (Kd.R_mono (Kd.R_far (p := ⟨gb311, 3, none⟩) (Kd.R_far (p := ⟨gb311, 2, none⟩) (Kd.R_far (p := ⟨gb311, 1, none⟩) (Kd.R_far (p := ⟨gb320, 2, none⟩) (Kd.R_far (p := ⟨gb320, 1, none⟩) (Kd.R_far (p := ⟨gb320, 0, none⟩) (Kd.R_types (Kd.R_types HO318.out BK320.out (by decide)) BK311.out (by decide)) (fun _ hk => hk.1.2) (.int .i64 t312)) (fun _ hk => hk.1.2) (.slice Ao41 t313.length co41)) (fun _ hk => hk.1.2) (.slice Ao42 t316.length co42)) (fun _ hk => hk.2) (.int .i64 t312)) (fun _ hk => hk.2) (.slice Ao41 t313.length co41)) (fun _ hk => hk.2) (.slice Ao42 t316.length co42)) (fun _ h_ => h_.1)) (fun _ h_ => h_.1))) hb); have HO323 := Aside0.mk (Kd.R_lower (Kd.R_new' (Kd.R_new' (Kd.R_new' (Kd.R_new' ho0 (Kd.R_lt (by (with_reducible repeat (first | apply Kd.R_alloc | apply Kd.R_drewN | apply Kd.R_drew)); exact (Kd.R_mono (Kd.R_mono (Kd.R_far (p := ⟨gb311, 3, none⟩) (Kd.R_far (p := ⟨gb311, 2, none⟩) (Kd.R_far (p := ⟨gb311, 1, none⟩) (Kd.R_far (p := ⟨gb320, 2, none⟩) (Kd.R_far (p := ⟨gb320, 1, none⟩) (Kd.R_far (p := ⟨gb320, 0, none⟩) (Kd.R_types (Kd.R_types HO300.out BK320.out (by decide)) BK311.out (by decide)) (fun _ hk => hk.1.2) (.int .i64 t312)) (fun _ hk => hk.1.2) (.slice Ao41 t313.length co41)) (fun _ hk => hk.1.2) (.slice Ao42 t316.length co42)) (fun _ hk => hk.2) (.int .i64 t312)) (fun _ hk => hk.2) (.slice Ao41 t313.length co41)) (fun _ hk => hk.2) (.slice Ao42 t316.length co42)) (fun _ h_ => h_.1)) (fun _ h_ => h_.1))))) (Kd.R_lt (by (with_reducible repeat (first | apply Kd.R_alloc | apply Kd.R_drewN | apply Kd.R_drew)); exact (Kd.R_mono (Kd.R_mono (Kd.R_far (p := ⟨gb311, 3, none⟩) (Kd.R_far (p := ⟨gb311, 2, none⟩) (Kd.R_far (p := ⟨gb311, 1, none⟩) (Kd.R_far (p := ⟨gb320, 2, none⟩) (Kd.R_far (p := ⟨gb320, 1, none⟩) (Kd.R_far (p := ⟨gb320, 0, none⟩) (Kd.R_types (Kd.R_types HO304.out BK320.out (by decide)) BK311.out (by decide)) (fun _ hk => hk.1.2) (.int .i64 t312)) (fun _ hk => hk.1.2) (.slice Ao41 t313.length co41)) (fun _ hk => hk.1.2) (.slice Ao42 t316.length co42)) (fun _ hk => hk.2) (.int .i64 t312)) (fun _ hk => hk.2) (.slice Ao41 t313.length co41)) (fun _ hk => hk.2) (.slice Ao42 t316.length co42)) (fun _ h_ => h_.1)) (fun _ h_ => h_.1))))) (Kd.R_lt (by (with_reducible repeat (first | apply Kd.R_alloc | apply Kd.R_drewN | apply Kd.R_drew)); exact (Kd.R_mono (Kd.R_mono (Kd.R_far (p := ⟨gb311, 3, none⟩) (Kd.R_far (p := ⟨gb311, 2, none⟩) (Kd.R_far (p := ⟨gb311, 1, none⟩) (Kd.R_far (p := ⟨gb320, 2, none⟩) (Kd.R_far (p := ⟨gb320, 1, none⟩) (Kd.R_far (p := ⟨gb320, 0, none⟩) (Kd.R_types (Kd.R_types HO310.out BK320.out (by decide)) BK311.out (by decide)) (fun _ hk => hk.1.2) (.int .i64 t312)) (fun _ hk => hk.1.2) (.slice Ao41 t313.length co41)) (fun _ hk => hk.1.2) (.slice Ao42 t316.length co42)) (fun _ hk => hk.2) (.int .i64 t312)) (fun _ hk => hk.2) (.slice Ao41 t313.length co41)) (fun _ hk => hk.2) (.slice Ao42 t316.length co42)) (fun _ h_ => h_.1)) (fun _ h_ => h_.1))))) (Kd.R_lt (by (with_reducible repeat (first | apply Kd.R_alloc | apply Kd.R_drewN | apply Kd.R_drew)); exact (Kd.R_mono (Kd.R_mono (Kd.R_far (p := ⟨gb311, 3, none⟩) (Kd.R_far (p := ⟨gb311, 2, none⟩) (Kd.R_far (p := ⟨gb311, 1, none⟩) (Kd.R_far (p := ⟨gb320, 2, none⟩) (Kd.R_far (p := ⟨gb320, 1, none⟩) (Kd.R_far (p := ⟨gb320, 0, none⟩) (Kd.R_types (Kd.R_types HO315.out BK320.out (by decide)) BK311.out (by decide)) (fun _ hk => hk.1.2) (.int .i64 t312)) (fun _ hk => hk.1.2) (.slice Ao41 t313.length co41)) (fun _ hk => hk.1.2) (.slice Ao42 t316.length co42)) (fun _ hk => hk.2) (.int .i64 t312)) (fun _ hk => hk.2) (.slice Ao41 t313.length co41)) (fun _ hk => hk.2) (.slice Ao42 t316.length co42)) (fun _ h_ => h_.1)) (fun _ h_ => h_.1))))) (below_size (be4 HB GE294 GE295 GE311 GE320))); replace HO300 := Aside0.mk (Kd.R_elder' (by (with_reducible repeat (first | apply Kd.R_alloc | apply Kd.R_drewN | apply Kd.R_drew)); exact (Kd.R_mono (Kd.R_mono (Kd.R_far (p := ⟨gb311, 3, none⟩) (Kd.R_far (p := ⟨gb311, 2, none⟩) (Kd.R_far (p := ⟨gb311, 1, none⟩) (Kd.R_far (p := ⟨gb320, 2, none⟩) (Kd.R_far (p := ⟨gb320, 1, none⟩) (Kd.R_far (p := ⟨gb320, 0, none⟩) (Kd.R_types (Kd.R_types HO300.out BK320.out (by decide)) BK311.out (by decide)) (fun _ hk => hk.1.2) (.int .i64 t312)) (fun _ hk => hk.1.2) (.slice Ao41 t313.length co41)) (fun _ hk => hk.1.2) (.slice Ao42 t316.length co42)) (fun _ hk => hk.2) (.int .i64 t312)) (fun _ hk => hk.2) (.slice Ao41 t313.length co41)) (fun _ hk => hk.2) (.slice Ao42 t316.length co42)) (fun _ h_ => h_.1)) (fun _ h_ => h_.1))) (Kd.R_base ho0) hb); replace HO304 := Aside0.mk (Kd.R_elder' (by (with_reducible repeat (first | apply Kd.R_alloc | apply Kd.R_drewN | apply Kd.R_drew)); exact (Kd.R_mono (Kd.R_mono (Kd.R_far (p := ⟨gb311, 3, none⟩) (Kd.R_far (p := ⟨gb311, 2, none⟩) (Kd.R_far (p := ⟨gb311, 1, none⟩) (Kd.R_far (p := ⟨gb320, 2, none⟩) (Kd.R_far (p := ⟨gb320, 1, none⟩) (Kd.R_far (p := ⟨gb320, 0, none⟩) (Kd.R_types (Kd.R_types HO304.out BK320.out (by decide)) BK311.out (by decide)) (fun _ hk => hk.1.2) (.int .i64 t312)) (fun _ hk => hk.1.2) (.slice Ao41 t313.length co41)) (fun _ hk => hk.1.2) (.slice Ao42 t316.length co42)) (fun _ hk => hk.2) (.int .i64 t312)) (fun _ hk => hk.2) (.slice Ao41 t313.length co41)) (fun _ hk => hk.2) (.slice Ao42 t316.length co42)) (fun _ h_ => h_.1)) (fun _ h_ => h_.1))) (Kd.R_base ho0) hb); replace HO310 := Aside0.mk (Kd.R_elder' (by (with_reducible repeat (first | apply Kd.R_alloc | apply Kd.R_drewN | apply Kd.R_drew)); exact (Kd.R_mono (Kd.R_mono (Kd.R_far (p := ⟨gb311, 3, none⟩) (Kd.R_far (p := ⟨gb311, 2, none⟩) (Kd.R_far (p := ⟨gb311, 1, none⟩) (Kd.R_far (p := ⟨gb320, 2, none⟩) (Kd.R_far (p := ⟨gb320, 1, none⟩) (Kd.R_far (p := ⟨gb320, 0, none⟩) (Kd.R_types (Kd.R_types HO310.out BK320.out (by decide)) BK311.out (by decide)) (fun _ hk => hk.1.2) (.int .i64 t312)) (fun _ hk => hk.1.2) (.slice Ao41 t313.length co41)) (fun _ hk => hk.1.2) (.slice Ao42 t316.length co42)) (fun _ hk => hk.2) (.int .i64 t312)) (fun _ hk => hk.2) (.slice Ao41 t313.length co41)) (fun _ hk => hk.2) (.slice Ao42 t316.length co42)) (fun _ h_ => h_.1)) (fun _ h_ => h_.1))) (Kd.R_base ho0) hb); replace HO315 := Aside0.mk (Kd.R_elder' (by (with_reducible repeat (first | apply Kd.R_alloc | apply Kd.R_drewN | apply Kd.R_drew)); exact (Kd.R_mono (Kd.R_mono (Kd.R_far (p := ⟨gb311, 3, none⟩) (Kd.R_far (p := ⟨gb311, 2, none⟩) (Kd.R_far (p := ⟨gb311, 1, none⟩) (Kd.R_far (p := ⟨gb320, 2, none⟩) (Kd.R_far (p := ⟨gb320, 1, none⟩) (Kd.R_far (p := ⟨gb320, 0, none⟩) (Kd.R_types (Kd.R_types HO315.out BK320.out (by decide)) BK311.out (by decide)) (fun _ hk => hk.1.2) (.int .i64 t312)) (fun _ hk => hk.1.2) (.slice Ao41 t313.length co41)) (fun _ hk => hk.1.2) (.slice Ao42 t316.length co42)) (fun _ hk => hk.2) (.int .i64 t312)) (fun _ hk => hk.2) (.slice Ao41 t313.length co41)) (fun _ hk => hk.2) (.slice Ao42 t316.length co42)) (fun _ h_ => h_.1)) (fun _ h_ => h_.1))) (Kd.R_base ho0) hb); replace BK294 := Aside0.mk (blk_below (g := gb294) (o := .cells #[.slice A0_0 l0_0.length c0_0, .int .i64 a0_1, .slice A0_2 l0_2.length c0_2, .slice A0_3 l0_3.length c0_3, .slice A0_4 l0_4.length c0_4] 27 (0, 0)) (bf2 BK294 NB294_311 NB294_320) hb); replace BK295 := Aside0.mk (blk_below (g := gb295) (o := .cells #[.slice none 0 0, .int .i64 0, .slice none 0 0, .slice none 0 0, .slice none 0 0] 27 (0, 0)) (bf2 BK295 NB295_311 NB295_320) hb); replace BK311 := Aside0.mk (blk_below (g := gb311) (o := .cells #[.slice Ao27 t298.length co27, .int .i64 t312, .slice Ao41 t313.length co41, .slice Ao42 t316.length co42, .slice Ao33 t308.length co33] 27 (0, 0)) (by (with_reducible repeat (first | refine blk_drewN ?_ _ | refine blk_drew ?_ | refine blk_alloc ?_ _)); refine blk_put (cs := #[.slice Ao27 t298.length co27, .int .i64 t312, .slice Ao41 t313.length co41, .slice Ao32 t305.length co32, .slice Ao33 t308.length co33]) ?_ 3 _ rfl; (with_reducible repeat (first | refine blk_drewN ?_ _ | refine blk_drew ?_ | refine blk_alloc ?_ _)); refine blk_put (cs := #[.slice Ao27 t298.length co27, .int .i64 t312, .slice Ao31 t302.length co31, .slice Ao32 t305.length co32, .slice Ao33 t308.length co33]) ?_ 2 _ rfl; (with_reducible repeat (first | refine blk_drewN ?_ _ | refine blk_drew ?_ | refine blk_alloc ?_ _)); refine blk_put (cs := #[.slice Ao27 t298.length co27, .int .i64 t301, .slice Ao31 t302.length co31, .slice Ao32 t305.length co32, .slice Ao33 t308.length co33]) ?_ 1 _ rfl; (with_reducible repeat (first | refine blk_drewN ?_ _ | refine blk_drew ?_ | refine blk_alloc ?_ _)); refine blk_far ?_ NB311_320.out _; (with_reducible repeat (first | refine blk_drewN ?_ _ | refine blk_drew ?_ | refine blk_alloc ?_ _)); refine blk_far ?_ NB311_320.out _; (with_reducible repeat (first | refine blk_drewN ?_ _ | refine blk_drew ?_ | refine blk_alloc ?_ _)); refine blk_far ?_ NB311_320.out _; (with_reducible repeat (first | refine blk_drewN ?_ _ | refine blk_drew ?_ | refine blk_alloc ?_ _)); exact BK311.out) hb); replace BK320 := Aside0.mk (blk_below (g := gb320) (o := .cells #[.int .i64 t312, .slice Ao41 t313.length co41, .slice Ao42 t316.length co42] 25 (0, 0)) (by (with_reducible repeat (first | refine blk_drewN ?_ _ | refine blk_drew ?_ | refine blk_alloc ?_ _)); refine blk_far ?_ NB320_311.out _; (with_reducible repeat (first | refine blk_drewN ?_ _ | refine blk_drew ?_ | refine blk_alloc ?_ _)); refine blk_far ?_ NB320_311.out _; (with_reducible repeat (first | refine blk_drewN ?_ _ | refine blk_drew ?_ | refine blk_alloc ?_ _)); refine blk_far ?_ NB320_311.out _; (with_reducible repeat (first | refine blk_drewN ?_ _ | refine blk_drew ?_ | refine blk_alloc ?_ _)); refine blk_put (cs := #[.int .i64 t312, .slice Ao41 t313.length co41, .slice none 0 0]) ?_ 2 _ rfl; (with_reducible repeat (first | refine blk_drewN ?_ _ | refine blk_drew ?_ | refine blk_alloc ?_ _)); refine blk_put (cs := #[.int .i64 t312, .slice none 0 0, .slice none 0 0]) ?_ 1 _ rfl; (with_reducible repeat (first | refine blk_drewN ?_ _ | refine blk_drew ?_ | refine blk_alloc ?_ _)); refine blk_put (cs := #[.int .i64 0, .slice none 0 0, .slice none 0 0]) ?_ 0 _ rfl; (with_reducible repeat (first | refine blk_drewN ?_ _ | refine blk_drew ?_ | refine blk_alloc ?_ _)); exact BK320.out) hb); replace HB := Aside0.mk (below_step (be4 HB GE294 GE295 GE311 GE320) hb); (try clear hb); (try clear ho0); obtain ⟨Ao45, co45, eo45⟩ := Kd.R_slice HO323.out; subst eo45; have hcz46_0 := bz5 BK311; have hcz47_0 := bz5 BK295))
    refine bodyPost_ret (results_ct rfl _ _ gb295 27 #[.slice Ao27 t298.length co27, .int .i64 t312, .slice Ao41 t313.length co41, .slice Ao42 t316.length co42, .slice Ao45 t321.length co45] (0, 0) _ rfl (by (with_reducible repeat (first | refine blk_drewN ?_ _ | refine blk_drew ?_ | refine blk_alloc ?_ _)); refine blk_put (cs := #[.slice Ao27 t298.length co27, .int .i64 t312, .slice Ao41 t313.length co41, .slice Ao42 t316.length co42, .slice none 0 0]) ?_ 4 _ rfl; (with_reducible repeat (first | refine blk_drewN ?_ _ | refine blk_drew ?_ | refine blk_alloc ?_ _)); refine blk_put (cs := #[.slice Ao27 t298.length co27, .int .i64 t312, .slice Ao41 t313.length co41, .slice none 0 0, .slice none 0 0]) ?_ 3 _ rfl; (with_reducible repeat (first | refine blk_drewN ?_ _ | refine blk_drew ?_ | refine blk_alloc ?_ _)); refine blk_put (cs := #[.slice Ao27 t298.length co27, .int .i64 t312, .slice none 0 0, .slice none 0 0, .slice none 0 0]) ?_ 2 _ rfl; (with_reducible repeat (first | refine blk_drewN ?_ _ | refine blk_drew ?_ | refine blk_alloc ?_ _)); refine blk_put (cs := #[.slice Ao27 t298.length co27, .int .i64 0, .slice none 0 0, .slice none 0 0, .slice none 0 0]) ?_ 1 _ rfl; (with_reducible repeat (first | refine blk_drewN ?_ _ | refine blk_drew ?_ | refine blk_alloc ?_ _)); refine blk_put (cs := #[.slice none 0 0, .int .i64 0, .slice none 0 0, .slice none 0 0, .slice none 0 0]) ?_ 0 _ rfl; (with_reducible repeat (first | refine blk_drewN ?_ _ | refine blk_drew ?_ | refine blk_alloc ?_ _)); refine blk_far ?_ NB295_311.out _; (with_reducible repeat (first | refine blk_drewN ?_ _ | refine blk_drew ?_ | refine blk_alloc ?_ _)); exact BK295.out) Try.underlying27 rfl (by kernel_rfl)) rfl ?_
    exact ⟨_, _, _, _, er, by (with_reducible repeat (first | apply Kd.R_alloc | apply Kd.R_drewN | apply Kd.R_drew)); exact Kd.R_mono (Kd.R_far (p := ⟨gb295, 4, none⟩) (Kd.R_far (p := ⟨gb295, 3, none⟩) (Kd.R_far (p := ⟨gb295, 2, none⟩) (Kd.R_far (p := ⟨gb295, 1, none⟩) (Kd.R_far (p := ⟨gb295, 0, none⟩) (Kd.R_far (p := ⟨gb311, 4, none⟩) (Kd.R_types (Kd.R_types HO300.out BK311.out (by decide)) BK295.out (by decide)) (fun _ hk => hk.1.2) (.slice Ao45 t321.length co45)) (fun _ hk => hk.2) (.slice Ao27 t298.length co27)) (fun _ hk => hk.2) (.int .i64 t312)) (fun _ hk => hk.2) (.slice Ao41 t313.length co41)) (fun _ hk => hk.2) (.slice Ao42 t316.length co42)) (fun _ hk => hk.2) (.slice Ao45 t321.length co45)) (fun _ hk => ⟨hk.1.1.1.2, hk.1.1.2⟩), by (with_reducible repeat (first | apply Kd.R_alloc | apply Kd.R_drewN | apply Kd.R_drew)); exact Kd.R_mono (Kd.R_far (p := ⟨gb295, 4, none⟩) (Kd.R_far (p := ⟨gb295, 3, none⟩) (Kd.R_far (p := ⟨gb295, 2, none⟩) (Kd.R_far (p := ⟨gb295, 1, none⟩) (Kd.R_far (p := ⟨gb295, 0, none⟩) (Kd.R_far (p := ⟨gb311, 4, none⟩) (Kd.R_types (Kd.R_types HO315.out BK311.out (by decide)) BK295.out (by decide)) (fun _ hk => hk.1.2) (.slice Ao45 t321.length co45)) (fun _ hk => hk.2) (.slice Ao27 t298.length co27)) (fun _ hk => hk.2) (.int .i64 t312)) (fun _ hk => hk.2) (.slice Ao41 t313.length co41)) (fun _ hk => hk.2) (.slice Ao42 t316.length co42)) (fun _ hk => hk.2) (.slice Ao45 t321.length co45)) (fun _ hk => ⟨hk.1.1.1.1.1.2, hk.1.1.2⟩), by (with_reducible repeat (first | apply Kd.R_alloc | apply Kd.R_drewN | apply Kd.R_drew)); exact Kd.R_mono (Kd.R_far (p := ⟨gb295, 4, none⟩) (Kd.R_far (p := ⟨gb295, 3, none⟩) (Kd.R_far (p := ⟨gb295, 2, none⟩) (Kd.R_far (p := ⟨gb295, 1, none⟩) (Kd.R_far (p := ⟨gb295, 0, none⟩) (Kd.R_far (p := ⟨gb311, 4, none⟩) (Kd.R_types (Kd.R_types HO318.out BK311.out (by decide)) BK295.out (by decide)) (fun _ hk => hk.1.2) (.slice Ao45 t321.length co45)) (fun _ hk => hk.2) (.slice Ao27 t298.length co27)) (fun _ hk => hk.2) (.int .i64 t312)) (fun _ hk => hk.2) (.slice Ao41 t313.length co41)) (fun _ hk => hk.2) (.slice Ao42 t316.length co42)) (fun _ hk => hk.2) (.slice Ao45 t321.length co45)) (fun _ hk => trivial), by (with_reducible repeat (first | apply Kd.R_alloc | apply Kd.R_drewN | apply Kd.R_drew)); exact Kd.R_mono (Kd.R_far (p := ⟨gb295, 4, none⟩) (Kd.R_far (p := ⟨gb295, 3, none⟩) (Kd.R_far (p := ⟨gb295, 2, none⟩) (Kd.R_far (p := ⟨gb295, 1, none⟩) (Kd.R_far (p := ⟨gb295, 0, none⟩) (Kd.R_far (p := ⟨gb311, 4, none⟩) (Kd.R_types (Kd.R_types HO323.out BK311.out (by decide)) BK295.out (by decide)) (fun _ hk => hk.1.2) (.slice Ao45 t321.length co45)) (fun _ hk => hk.2) (.slice Ao27 t298.length co27)) (fun _ hk => hk.2) (.int .i64 t312)) (fun _ hk => hk.2) (.slice Ao41 t313.length co41)) (fun _ hk => hk.2) (.slice Ao42 t316.length co42)) (fun _ hk => hk.2) (.slice Ao45 t321.length co45)) (fun _ hk => ⟨hk.1.1.1.1.1.2, hk.1.1.2⟩), be4 HB GE294 GE295 GE311 GE320⟩
   replace c21 := Bool.eq_false_iff.mpr c21
   subst c21
   have H1 : (some (([] : List Int), 0, ([] : List Int), ([] : List (S70)), ([] : List Int), false)) = some (r1, r2, r3, r4, r5, r6) := by rw [if_neg (show ¬ (false = true) by decide)] at H; exact H
   clear H
   have H := H1
   clear H1
   simp only [Option.some.injEq, Prod.mk.injEq] at H
   obtain ⟨rfl, rfl, rfl, rfl, rfl, rfl⟩ := H
   have hnb48 := NB294_295.out
   have hnc48 := NB295_294.out
   have hcz49_0 := bz5 BK294
   go_wp2_with (first | ((with_reducible refine gate_callee (f := 64) rfl ?_); refine gl 21 Try.func64 #[.agg #[.slice A0_0 l0_0.length c0_0, .int .i64 a0_1, .slice A0_2 l0_2.length c0_2, .slice A0_3 l0_3.length c0_3, .slice A0_4 l0_4.length c0_4]] ?_; (with_reducible refine (spec_l09Copy.calls _ _ l0_0 a0_1 _ _ l0_2 _ _ l0_3 _ _ l0_4 t298 t301 t302 t305 t308 _ (cb HR0_0 HB) HC0_0.out (cb HR0_2 HB) HC0_2.out (cb HR0_3 HB) HC0_3.out (cb HR0_4 HB) HC0_4.out A19.out).mono ?_); rintro e w50 ⟨v299, v303, v306, v309, rfl, ho0, ho1, ho2, ho3, hb⟩; refine ⟨_, rfl, ?_⟩; have HO300 := Aside0.mk (Kd.R_lower ho0 (below_size (be2 HB GE294 GE295))); have HO304 := Aside0.mk (Kd.R_lower ho1 (below_size (be2 HB GE294 GE295))); have HO307 := Aside0.mk (Kd.R_lower ho2 (below_size (be2 HB GE294 GE295))); have HO310 := Aside0.mk (Kd.R_lower ho3 (below_size (be2 HB GE294 GE295))); replace BK294 := bb BK294 hb; replace BK295 := bb BK295 hb; replace HB := Aside0.mk (below_step (be2 HB GE294 GE295) hb); (try clear hb); (try clear ho0); (try clear ho1); (try clear ho2); (try clear ho3)) | ((with_reducible refine gate_dst (N := 6) rfl ?_); refine bx 6 #[.slice none 0 0, .int .i64 0, .slice none 0 0, .slice none 0 0, .slice none 0 0] 27 ?_; intro gb311 hg w51 hbox hb; replace HO300 := rb HO300 hb; replace HO304 := rb HO304 hb; replace HO307 := rb HO307 hb; replace HO310 := rb HO310 hb; have BK311 := am hbox; have GW311 := gs2 hg HB GE294 GE295; have GE311 := gs2 hg HB GE294 GE295; replace HB := Aside0.mk (below_step (be2 HB GE294 GE295) hb); have NB294_311 := Aside0.mk ((by rw [hg]; exact Nat.ne_of_lt (bl BK294) : gb294 ≠ gb311)); have NB311_294 := Aside0.mk ((by rw [hg]; exact Nat.ne_of_gt (bl BK294) : gb311 ≠ gb294)); replace BK294 := bb BK294 hb; have NB295_311 := Aside0.mk ((by rw [hg]; exact Nat.ne_of_lt (bl BK295) : gb295 ≠ gb311)); have NB311_295 := Aside0.mk ((by rw [hg]; exact Nat.ne_of_gt (bl BK295) : gb311 ≠ gb295)); replace BK295 := bb BK295 hb; clear hb hbox hg; obtain ⟨Ao52, co52, eo52⟩ := Kd.R_slice HO300.out; subst eo52; have hnb53 := NB311_294.out; have hnc53 := NB294_311.out; have hnb54 := NB311_295.out; have hnc54 := NB295_311.out; have hcz55_0 := bz5 BK311; obtain ⟨Ao56, co56, eo56⟩ := Kd.R_slice HO304.out; subst eo56; obtain ⟨Ao57, co57, eo57⟩ := Kd.R_slice HO307.out; subst eo57; obtain ⟨Ao58, co58, eo58⟩ := Kd.R_slice HO310.out; subst eo58; have hcz59_0 := bz5 BK294) | ((with_reducible refine gate_callee (f := 77) rfl ?_); refine gl 26 Try.func77 #[.agg #[.int .i64 a0_1, .slice A0_2 l0_2.length c0_2, .slice A0_3 l0_3.length c0_3], .int .i64 a1] ?_; (with_reducible refine (spec_Retire.calls kj2 a0_1 _ _ l0_2 _ _ l0_3 a1 t312 t313 t316 false _ ?side1 HC0_2.out ?side3 HC0_3.out A20.out).mono ?_); (case side1 => exact Kd.C_below HR0_2.out (be3 HB GE294 GE295 GE311)); (case side3 => exact Kd.C_below HR0_3.out (be3 HB GE294 GE295 GE311)); rintro e w60 ⟨v314, v317, rfl, ho0, ho1, hb⟩; refine ⟨_, rfl, ?_⟩; have HO315 := Aside0.mk (Kd.R_lower (Kd.R_new' (Kd.R_new' (Kd.R_new' ho0 (Kd.R_lt (rf HO300 BK311))) (Kd.R_lt (rf HO304 BK311))) (Kd.R_lt (rf HO310 BK311))) (below_size (be3 HB GE294 GE295 GE311))); replace HO300 := Aside0.mk (Kd.R_elder' (rf HO300 BK311) (Kd.R_base ho0) hb); replace HO304 := Aside0.mk (Kd.R_elder' (rf HO304 BK311) (Kd.R_base ho0) hb); replace HO310 := Aside0.mk (Kd.R_elder' (rf HO310 BK311) (Kd.R_base ho0) hb); have HO318 := Aside0.mk (Kd.R_lower (Kd.R_new' ho1 (Kd.R_lt (rf HO307 BK311))) (below_size (be3 HB GE294 GE295 GE311))); replace HO307 := Aside0.mk (Kd.R_elder' (rf HO307 BK311) (Kd.R_base ho1) hb); replace BK294 := Aside0.mk (blk_below (g := gb294) (o := .cells #[.slice A0_0 l0_0.length c0_0, .int .i64 a0_1, .slice A0_2 l0_2.length c0_2, .slice A0_3 l0_3.length c0_3, .slice A0_4 l0_4.length c0_4] 27 (0, 0)) (bf1 BK294 NB294_311) hb); replace BK295 := Aside0.mk (blk_below (g := gb295) (o := .cells #[.slice none 0 0, .int .i64 0, .slice none 0 0, .slice none 0 0, .slice none 0 0] 27 (0, 0)) (bf1 BK295 NB295_311) hb); replace BK311 := Aside0.mk (blk_below (g := gb311) (o := .cells #[.slice Ao52 t298.length co52, .int .i64 t301, .slice Ao56 t302.length co56, .slice Ao57 t305.length co57, .slice Ao58 t308.length co58] 27 (0, 0)) (by (with_reducible repeat (first | refine blk_drewN ?_ _ | refine blk_drew ?_ | refine blk_alloc ?_ _)); refine blk_put (cs := #[.slice Ao52 t298.length co52, .int .i64 t301, .slice Ao56 t302.length co56, .slice Ao57 t305.length co57, .slice none 0 0]) ?_ 4 _ rfl; (with_reducible repeat (first | refine blk_drewN ?_ _ | refine blk_drew ?_ | refine blk_alloc ?_ _)); refine blk_put (cs := #[.slice Ao52 t298.length co52, .int .i64 t301, .slice Ao56 t302.length co56, .slice none 0 0, .slice none 0 0]) ?_ 3 _ rfl; (with_reducible repeat (first | refine blk_drewN ?_ _ | refine blk_drew ?_ | refine blk_alloc ?_ _)); refine blk_put (cs := #[.slice Ao52 t298.length co52, .int .i64 t301, .slice none 0 0, .slice none 0 0, .slice none 0 0]) ?_ 2 _ rfl; (with_reducible repeat (first | refine blk_drewN ?_ _ | refine blk_drew ?_ | refine blk_alloc ?_ _)); refine blk_put (cs := #[.slice Ao52 t298.length co52, .int .i64 0, .slice none 0 0, .slice none 0 0, .slice none 0 0]) ?_ 1 _ rfl; (with_reducible repeat (first | refine blk_drewN ?_ _ | refine blk_drew ?_ | refine blk_alloc ?_ _)); refine blk_put (cs := #[.slice none 0 0, .int .i64 0, .slice none 0 0, .slice none 0 0, .slice none 0 0]) ?_ 0 _ rfl; (with_reducible repeat (first | refine blk_drewN ?_ _ | refine blk_drew ?_ | refine blk_alloc ?_ _)); exact BK311.out) hb); replace HB := Aside0.mk (below_step (be3 HB GE294 GE295 GE311) hb); (try clear hb); (try clear ho0); (try clear ho1)) | ((with_reducible refine gate_dst (N := 7) rfl ?_); refine bx 7 #[.int .i64 0, .slice none 0 0, .slice none 0 0] 25 ?_; intro gb320 hg w61 hbox hb; replace HO300 := rb HO300 hb; replace HO304 := rb HO304 hb; replace HO307 := rb HO307 hb; replace HO310 := rb HO310 hb; replace HO315 := rb HO315 hb; replace HO318 := rb HO318 hb; have BK320 := am hbox; have GW320 := Aside0.mk ((by rw [hg]; exact (below_size (be3 HB GE294 GE295 GE311)) : w.heap.size ≤ gb320)); have GE320 := Aside0.mk ((by rw [hg]; exact (below_size (be3 HB GE294 GE295 GE311)) : w.heap.size ≤ gb320)); replace HB := Aside0.mk (below_step (be3 HB GE294 GE295 GE311) hb); have NB294_320 := Aside0.mk ((by rw [hg]; exact Nat.ne_of_lt (bl BK294) : gb294 ≠ gb320)); have NB320_294 := Aside0.mk ((by rw [hg]; exact Nat.ne_of_gt (bl BK294) : gb320 ≠ gb294)); replace BK294 := bb BK294 hb; have NB295_320 := Aside0.mk ((by rw [hg]; exact Nat.ne_of_lt (bl BK295) : gb295 ≠ gb320)); have NB320_295 := Aside0.mk ((by rw [hg]; exact Nat.ne_of_gt (bl BK295) : gb320 ≠ gb295)); replace BK295 := bb BK295 hb; have NB311_320 := Aside0.mk ((by rw [hg]; exact Nat.ne_of_lt (bl BK311) : gb311 ≠ gb320)); have NB320_311 := Aside0.mk ((by rw [hg]; exact Nat.ne_of_gt (bl BK311) : gb320 ≠ gb311)); replace BK311 := bb BK311 hb; clear hb hbox hg; have hnb62 := NB320_294.out; have hnc62 := NB294_320.out; have hnb63 := NB320_295.out; have hnc63 := NB295_320.out; have hnb64 := NB320_311.out; have hnc64 := NB311_320.out; have hcz65_0 := bz3 BK320; obtain ⟨Ao66, co66, eo66⟩ := Kd.R_slice HO315.out; subst eo66; obtain ⟨Ao67, co67, eo67⟩ := Kd.R_slice HO318.out; subst eo67; have hcz68_0 := bz5 BK295))
   refine bodyPost_ret (results_ct rfl _ _ gb295 27 #[.slice none 0 0, .int .i64 0, .slice none 0 0, .slice none 0 0, .slice none 0 0] (0, 0) _ rfl (by (with_reducible repeat (first | refine blk_drewN ?_ _ | refine blk_drew ?_ | refine blk_alloc ?_ _)); refine blk_put (cs := #[.slice none 0 0, .int .i64 0, .slice none 0 0, .slice none 0 0, .slice none 0 0]) ?_ 4 _ rfl; (with_reducible repeat (first | refine blk_drewN ?_ _ | refine blk_drew ?_ | refine blk_alloc ?_ _)); refine blk_put (cs := #[.slice none 0 0, .int .i64 0, .slice none 0 0, .slice none 0 0, .slice none 0 0]) ?_ 3 _ rfl; (with_reducible repeat (first | refine blk_drewN ?_ _ | refine blk_drew ?_ | refine blk_alloc ?_ _)); refine blk_put (cs := #[.slice none 0 0, .int .i64 0, .slice none 0 0, .slice none 0 0, .slice none 0 0]) ?_ 2 _ rfl; (with_reducible repeat (first | refine blk_drewN ?_ _ | refine blk_drew ?_ | refine blk_alloc ?_ _)); refine blk_put (cs := #[.slice none 0 0, .int .i64 0, .slice none 0 0, .slice none 0 0, .slice none 0 0]) ?_ 1 _ rfl; (with_reducible repeat (first | refine blk_drewN ?_ _ | refine blk_drew ?_ | refine blk_alloc ?_ _)); refine blk_put (cs := #[.slice none 0 0, .int .i64 0, .slice none 0 0, .slice none 0 0, .slice none 0 0]) ?_ 0 _ rfl; (with_reducible repeat (first | refine blk_drewN ?_ _ | refine blk_drew ?_ | refine blk_alloc ?_ _)); refine blk_far ?_ NB295_320.out _; (with_reducible repeat (first | refine blk_drewN ?_ _ | refine blk_drew ?_ | refine blk_alloc ?_ _)); refine blk_far ?_ NB295_320.out _; (with_reducible repeat (first | refine blk_drewN ?_ _ | refine blk_drew ?_ | refine blk_alloc ?_ _)); refine blk_far ?_ NB295_320.out _; (with_reducible repeat (first | refine blk_drewN ?_ _ | refine blk_drew ?_ | refine blk_alloc ?_ _)); exact BK295.out) Try.underlying27 rfl (by kernel_rfl)) rfl ?_
   exact ⟨_, _, _, _, er, by first | exact Kd.R_nil _ _ _ _ _ | exact Kd.N_nil _ _ _ _ _ | exact Kd.V_nil _ _ _ _ _ | exact Kd.Q_nil _ _ _ _ _ | exact Kd.S_nil _ _ _ _ _, by first | exact Kd.R_nil _ _ _ _ _ | exact Kd.N_nil _ _ _ _ _ | exact Kd.V_nil _ _ _ _ _ | exact Kd.Q_nil _ _ _ _ _ | exact Kd.S_nil _ _ _ _ _, by first | exact Kd.R_nil _ _ _ _ _ | exact Kd.N_nil _ _ _ _ _ | exact Kd.V_nil _ _ _ _ _ | exact Kd.Q_nil _ _ _ _ _ | exact Kd.S_nil _ _ _ _ _, by first | exact Kd.R_nil _ _ _ _ _ | exact Kd.N_nil _ _ _ _ _ | exact Kd.V_nil _ _ _ _ _ | exact Kd.Q_nil _ _ _ _ _ | exact Kd.S_nil _ _ _ _ _, be4 HB GE294 GE295 GE311 GE320⟩

/-! ### impl_copyInts: function 57 -/
def impl_copyInts.f (l0 : List Int) : Option (List Int) := (some (([] : List Int) : List Int)).bind fun y324 => (if y324.length + l0.length < 17592186044416 then (some (y324 ++ l0)) else (none))
set_option maxHeartbeats 8000000 in
set_option maxRecDepth 100000 in
theorem impl_copyInts.calls (A0 : Option Addr) (c0 : Nat) (l0 : List Int) (r : List Int) (w : World) (hr0 : Kd.C (Kd.int .i64) w A0 l0.length l0) (hc0 : l0.length ≤ c0) (h : impl_copyInts.f l0 = some r) :
  Calls Try.prog 57 #[.slice A0 l0.length c0] w fun e w' => ∃ v0_ : Value, e = .returned (v0_) ∧ Kd.R (Kd.int .i64) 3 w' w.heap.size (fun _ => True) v0_ r ∧ Below w.heap.size w w' := by
 have HR0 := Aside0.mk hr0
 have HC0 := Aside0.mk hc0
 clear hr0 hc0
 have HB := Aside0.mk (Below.refl w.heap.size w)
 have H : ((some (([] : List Int) : List Int)).bind fun y324 => (if y324.length + l0.length < 17592186044416 then (some (y324 ++ l0)) else (none))) = some r := h
 clear h
 obtain ⟨y324, hy324⟩ : ∃ y_ : List Int, y_ = (([] : List Int)) := ⟨_, rfl⟩
 replace H : (if y324.length + l0.length < 17592186044416 then (some (y324 ++ l0)) else (none)) = some r := by first | (rw [hy324]; with_reducible exact H) | (have H2_ := (Option.bind_some _ _).symm.trans H; rw [hy324]; with_reducible exact H2_) | (have H2_ := (Option.bind_some _ _).symm.trans H; with_reducible exact H2_) | with_reducible exact H | (rw [hy324]; exact H) | exact H
 have Ny324 := Aside0.mk hy324
 clear hy324
 by_cases c2 : y324.length + l0.length < 17592186044416
 ·rw [if_pos c2] at H
  have LMc2 := Aside0.mk c2
  clear c2
  obtain ⟨y327, hy327⟩ : ∃ y_ : List Int, y_ = (y324 ++ l0) := ⟨_, rfl⟩
  replace H : (some y327) = some r := by first | (rw [hy327]; with_reducible exact H) | (have H2_ := (Option.bind_some _ _).symm.trans H; rw [hy327]; with_reducible exact H2_) | (have H2_ := (Option.bind_some _ _).symm.trans H; with_reducible exact H2_) | with_reducible exact H | (rw [hy327]; exact H) | exact H
  have Ny327 := Aside0.mk hy327
  clear hy327
  obtain rfl := Option.some.inj H
  go_enter Try.func57, Try.ntmps57
  have HO326 := Aside0.mk (show Kd.R (Kd.int .i64) 3 w w.heap.size (fun _ => True) (.slice none 0 0) y324 from by rw [Ny324.out]; exact Kd.R_nil _ _ _ _ _)
  go_wp2_with (first | ((with_reducible refine gate_builtin (b := .append) (xs := #[.const (.slice none 0 0), .tmp 3]) rfl ?_); at_builtin; refine Kd.R_append_rows (Kd.int .i64) (w0 := w) w.heap.size rfl (.const (.slice none 0 0)) (.tmp 3) 22 3 (.int .i64 0) 8 rfl Try.underlying22 info3 rfl (by decide) (by omega) (.slice none 0 0) y324 l0 _ _ _ (fun _ => True) (fun _ => False) rfl rfl ?aO ?aR (fun _ _ h => h) (fun _ h => h.elim) ?aF ?aB ?aS ?aL ?_; (case aR => repeat (first | exact (Kd.C_below HR0.out HB.out) | (with_reducible refine Kd.C_alloc ?_ _) | (with_reducible refine Kd.C_drewN ?_ _) | (with_reducible refine Kd.C_drew ?_))); (case aB => exact (be HB)); (case aF => exact (fun _ _ => trivial)); (case aO => exact (ro HO326)); (case aS => exact (below_size (be HB))); (case aL => have := LMc2.out; omega); intro v328 w5 ho hb hg hat; rw [← Ny327.out] at ho; replace HB := Aside0.mk (hb); have HO329 := Aside0.mk (ho); clear HO326; clear ho hb hg hat))
  go_ret
  exact ⟨_, er, by (with_reducible repeat (first | apply Kd.R_alloc | apply Kd.R_drewN | apply Kd.R_drew)); exact HO329.out, be HB⟩
 rw [if_neg c2] at H
 exact absurd H (by simp)

/-! ### slices_Sort_int_int: function 58 -/
def slices_Sort_int_int.f (k : Nat) (l0 : List Int) : Option (List Int) := match k with | 0 => none | _ + 1 => if l0.length < 4611686018427387904 then some (l0.mergeSort fun x y => decide (x ≤ y)) else none
theorem slices_Sort_int_int.mono : ∀ a0 k, LeO (slices_Sort_int_int.f k a0) (slices_Sort_int_int.f (k + 1) a0) := by
 intro a0 k
 cases k with
 | zero => exact LeO.none _
 | succ k => exact LeO.refl _
set_option maxHeartbeats 8000000 in
set_option maxRecDepth 100000 in
theorem slices_Sort_int_int.calls (k : Nat) (P0_ : Nat → Prop) (u9000_ : Value) (l0 : List Int) (r : List Int) (w0 w : World) (hB : Below w0.heap.size w0 w) (ho0 : Kd.R (Kd.int .i64) 3 w w0.heap.size P0_ u9000_ l0) (h : slices_Sort_int_int.f k l0 = some r) :
  Calls Try.prog 58 #[u9000_] w fun e w' => e = .returned (.tuple #[]) ∧ Kd.R (Kd.int .i64) 3 w' w0.heap.size (fun k_ => (P0_ k_ ∨ w.heap.size ≤ k_)) u9000_ r ∧ Below w0.heap.size w0 w' ∧ Kept w w' (fun k_ => P0_ k_) := by
 cases k with
 | zero => cases h
 | succ k =>
 have h' : (if l0.length < 4611686018427387904 then some (l0.mergeSort fun x y => decide (x ≤ y)) else none) = some r := h
 clear h
 by_cases hlen : l0.length < 4611686018427387904
 case neg => rw [if_neg hlen] at h'; cases h'
 rw [if_pos hlen] at h'
 obtain rfl := Option.some.inj h'
 clear h'
 rcases Nat.eq_zero_or_pos l0.length with hz | hn
 ·obtain rfl := List.length_eq_zero_iff.1 hz
  obtain ⟨A, c, rfl⟩ := Kd.R_slice ho0
  refine (Try.slices_Sort_int_none A c w).mono ?_
  rintro e w' ⟨rfl, rfl⟩
  refine ⟨rfl, ?_, hB, Kept.refl _ _⟩
  rw [List.mergeSort_nil]
  exact Kd.R_mono ho0 (fun k_ hk => (.inl hk))
 obtain ⟨g, cap, cur, rfl, hg, hh, hc1, hc2, hs, ht, hok⟩ := Ow.opened ho0 hn
 have hm : cap ≤ 9223372036854775807 := hc2
 refine (Try.slices_Sort_int g 0 cap l0 w (Go.holds_of_blockI hh ht) (blk_lt hh) hlen).mono ?_
 rintro e w' ⟨rfl, n, os, rfl⟩
 have hgr := Go.grownBy_sortedI (w := w) (g := g) (n := n) (os := os) (l0.mergeSort fun x y => decide (x ≤ y)).toArray
 have hl : (l0.mergeSort fun x y => decide (x ≤ y)).length = l0.length := List.length_mergeSort _
 refine ⟨rfl, ?_, ?_, ?_⟩
 ·have hm := Ow.made (α := Int) (enc := Value.int .i64) (h1 := fun _ => rfl) (base := w0.heap.size) (ok := fun k_ => (P0_ k_ ∨ w.heap.size ≤ k_)) (xs := l0.mergeSort fun x y => decide (x ≤ y)) (cap := cap) (.inl hok) hg (Go.heap_sortedI (n := n) (os := os) (l0.mergeSort fun x y => decide (x ≤ y)).toArray hh) (by rw [hl]; exact hc1) hc2 (by unfold Go.Sort.putCells; rw [Array.size_mapIdx]; exact hs) (Go.take_putCellsI _ _ (by rw [hl]; omega))
  rw [hl] at hm
  exact hm
 ·exact ⟨hgr.os.trans hB.os, hgr.tape.trans hB.tape, hgr.output.trans hB.output, Nat.le_trans hB.size hgr.size, fun i hi => (hgr.block i (Nat.lt_of_lt_of_le hi hB.size) (fun he => by have := Option.some.inj he; omega)).trans (hB.block i hi)⟩
 ·exact (Kept.refl w _).of_grown hgr (fun k hk => .inl (Option.some.inj hk ▸ hok))


/-! ### impl_within: function 46 -/
def impl_within.f (a0 : Int) (a1 : Int) (a2 : Int) : Option (Bool) := if a0 ≥ a1 then (some (decide (a0 ≤ a2))) else (some false)
set_option maxHeartbeats 8000000 in
set_option maxRecDepth 100000 in
theorem impl_within.calls (a0 : Int) (a1 : Int) (a2 : Int) (r : Bool) (w : World) (h : impl_within.f a0 a1 a2 = some r) :
  Calls Try.prog 46 #[.int .i64 a0, .int .i64 a1, .int .i64 a2] w fun e w' => e = .returned (.bool r) ∧ Drawn0 w w' := by
 have H : (if a0 ≥ a1 then (some (decide (a0 ≤ a2))) else (some false)) = some r := h
 clear h
 by_cases c4 : a0 ≥ a1
 ·rw [if_pos c4] at H
  have c4b0 : decide (a1 ≤ a0) = true := decide_eq_true c4
  clear c4
  obtain rfl := Option.some.inj H
  go_enter Try.func46, Try.ntmps46
  go_wp2
  go_ret
  exact ⟨by first | rfl | (simp; done) | (simp [*]; done), by repeat (first | exact Drawn0.refl _ | apply Drawn0.step)⟩
 rw [if_neg c4] at H
 have c4b0 : decide (a1 ≤ a0) = false := decide_eq_false c4
 clear c4
 obtain rfl := Option.some.inj H
 go_enter Try.func46, Try.ntmps46
 go_wp2
 go_ret
 exact ⟨by first | rfl | (simp; done) | (simp [*]; done), by repeat (first | exact Drawn0.refl _ | apply Drawn0.step)⟩

/-! ### impl_Ages_inLimbo: function 62 -/
def impl_Ages_inLimbo.l0 : Nat → Int → List (S70) → Int → Int → Option (Int)
 | 0, _, _, _, _ => none
 | k + 1, x1, x8, x9, x10 => if x10 < x9 then (if 0 ≤ x10 then (if x10 < (x8.length : Int) then (if ((rd_T70 x8 x10).f0) = x1 then (some x10) else (impl_Ages_inLimbo.l0 k x1 x8 x9 (wrap64 (x10 + 1)))) else (none)) else (none)) else (some (-1))
def impl_Ages_inLimbo.f (k : Nat) (a0_0 : Int) (l0_1 : List Int) (l0_2 : List (S70)) (a1 : Int) : Option (Int) := impl_Ages_inLimbo.l0 k a1 l0_2 (l0_2.length : Int) 0
theorem impl_Ages_inLimbo.mono_l : ∀ k, (∀ y0 y1 y2 y3, LeO (impl_Ages_inLimbo.l0 k y0 y1 y2 y3) (impl_Ages_inLimbo.l0 (k + 1) y0 y1 y2 y3))
 | 0 => fun _ _ _ _ r h => by simp [impl_Ages_inLimbo.l0] at h
 | k + 1 => by
  have ih0 := impl_Ages_inLimbo.mono_l k
  ·intro y0 y1 y2 y3
   unfold impl_Ages_inLimbo.l0
   repeat' first
   | (with_reducible exact ih0 _ _ _ _)
   | (with_reducible exact LeO.refl _)
   | (with_reducible exact LeO.none _)
   | (with_reducible refine LeO.ite ?_ ?_)
   | (with_reducible refine LeO.bind ?_ (fun _ => ?_))
   | exact ih0 _ _ _ _
   | exact LeO.none _
   | refine LeO.ite ?_ ?_
   | refine LeO.bind ?_ (fun _ => ?_)
theorem impl_Ages_inLimbo.mono : ∀ a0 a1 a2 a3 k, LeO (impl_Ages_inLimbo.f k a0 a1 a2 a3) (impl_Ages_inLimbo.f (k + 1) a0 a1 a2 a3) := by
 intro a0 a1 a2 a3 k
 have ih0 := impl_Ages_inLimbo.mono_l k
 unfold impl_Ages_inLimbo.f
 repeat' first
   | (with_reducible exact ih0 _ _ _ _)
   | (with_reducible exact LeO.refl _)
   | (with_reducible exact LeO.none _)
   | (with_reducible refine LeO.ite ?_ ?_)
   | (with_reducible refine LeO.bind ?_ (fun _ => ?_))
   | exact ih0 _ _ _ _
   | exact LeO.none _
   | refine LeO.ite ?_ ?_
   | refine LeO.bind ?_ (fun _ => ?_)
set_option maxHeartbeats 8000000 in
set_option maxRecDepth 100000 in
theorem impl_Ages_inLimbo.calls (k : Nat) (a0_0 : Int) (A0_1 : Option Addr) (c0_1 : Nat) (l0_1 : List Int) (A0_2 : Option Addr) (c0_2 : Nat) (l0_2 : List (S70)) (a1 : Int) (r : Int) (w : World) (hr0_1 : Kd.C (Kd.int .i64) w A0_1 l0_1.length l0_1) (hc0_1 : l0_1.length ≤ c0_1) (hr0_2 : Kd.C k70 w A0_2 l0_2.length l0_2) (hc0_2 : l0_2.length ≤ c0_2) (h : impl_Ages_inLimbo.f k a0_0 l0_1 l0_2 a1 = some r) :
  Calls Try.prog 62 #[.agg #[.int .i64 a0_0, .slice A0_1 l0_1.length c0_1, .slice A0_2 l0_2.length c0_2], .int .i64 a1] w fun e w' => e = .returned (.int .i64 r) ∧ Below w.heap.size w w' := by
 have hu25 := Try.underlying25
 have hu70 := Try.underlying70
 have HR0_1 := Aside0.mk hr0_1
 have HC0_1 := Aside0.mk hc0_1
 clear hr0_1 hc0_1
 have HR0_2 := Aside0.mk hr0_2
 have HC0_2 := Aside0.mk hc0_2
 clear hr0_2 hc0_2
 have HB := Aside0.mk (Below.refl w.heap.size w)
 have H : (impl_Ages_inLimbo.l0 k a1 l0_2 (l0_2.length : Int) 0) = some r := h
 clear h
 have H' := Aside0.mk H
 clear H
 go_enter Try.func62, Try.ntmps62
 go_wp2_with (first | ((with_reducible refine gate_dst (N := 2) rfl ?_); refine bx 2 #[.int .i64 a0_0, .slice A0_1 l0_1.length c0_1, .slice A0_2 l0_2.length c0_2] 25 ?_; intro gb331 hg w3 hbox hb; have BK331 := am hbox; have GW331 := gs0 hg HB; have GE331 := gs0 hg HB; replace HB := s0 HB hb; clear hb hbox hg; have hcz4_0 := bz3 BK331))
 go_loopg [10] k (fun kq v10 w' => ∃ (x10_1 : Int), v10 = .int .i64 x10_1 ∧ Aside0 (impl_Ages_inLimbo.l0 kq a1 l0_2 (l0_2.length : Int) x10_1 = some r) ∧ Aside0 (kq ≤ k) ∧ Aside0 (w'.heap[gb331]? = some (.cells #[.int .i64 a0_0, (.slice A0_1 l0_1.length c0_1), (.slice A0_2 l0_2.length c0_2)] 25 (0, 0))) ∧ Aside0 (Below w.heap.size w w'))
 case atStart => exact ⟨(0), rs, H', ⟨Nat.le_refl _⟩, ⟨bk BK331⟩, ⟨be1 HB GE331⟩⟩
 case round =>
  clear H'
  try clear p2; try clear hcz4_0
  obtain ⟨x10_1, rfl, HA, HK1, BK331, HB⟩ := hrel
  cases gk with
  | zero => exact absurd HA.out (by simp [impl_Ages_inLimbo.l0])
  | succ k1 =>
   have H := HA.out
   clear HA
   simp only [impl_Ages_inLimbo.l0] at H
   by_cases c5 : x10_1 < (l0_2.length : Int)
   ·rw [if_pos c5] at H
    have c5b0 : decide (x10_1 < (l0_2.length : Int)) = true := decide_eq_true c5
    clear c5
    by_cases c6 : 0 ≤ x10_1
    ·rw [if_pos c6] at H
     have c6b0 : decide (0 ≤ x10_1) = true := decide_eq_true c6
     clear c6
     by_cases c7 : x10_1 < (l0_2.length : Int)
     ·rw [if_pos c7] at H
      have c7b0 : decide (x10_1 < (l0_2.length : Int)) = true := decide_eq_true c7
      clear c7
      by_cases c8 : ((rd_T70 l0_2 x10_1).f0) = a1
      ·rw [if_pos c8] at H
       have c8b0 : (((rd_T70 l0_2 x10_1).f0) == a1) = true := beq_iff_eq.mpr c8
       have c8b1 : (((rd_T70 l0_2 x10_1).f0) != a1) = false := bne_eq_false_iff_eq.mpr c8
       clear c8
       obtain rfl := Option.some.inj H
       have p332 : 0 ≤ (x10_1 : Int) := od
       have q332 : x10_1 < (l0_2.length : Int) := od
       obtain ⟨ad332, e332, hx332_0, hx332_1⟩ := at_T70 HR0_2.out x10_1 p332 q332
       cases e332
       replace hx332_0 := hc HB hx332_0
       replace hx332_1 := hc HB hx332_1
       replace p332 := eq_true p332
       replace q332 := eq_true q332
       go_wp2_with (first | ((with_reducible refine gate_dst (N := 6) rfl ?_); refine bx 6 #[.int .i64 0, .int .i64 0] 70 ?_; intro gb333 hg w9 hbox hb; have BK333 := am hbox; have GW333 := gs1 hg HB GE331; have GE333 := gs1 hg HB GE331; replace HB := Aside0.mk (below_step (be1 HB GE331) hb); have NB331_333 := Aside0.mk ((by rw [hg]; exact Nat.ne_of_lt (bl BK331) : gb331 ≠ gb333)); have NB333_331 := Aside0.mk ((by rw [hg]; exact Nat.ne_of_gt (bl BK331) : gb333 ≠ gb331)); replace BK331 := bb BK331 hb; clear hb hbox hg; have hnb10 := NB333_331.out; have hnc10 := NB331_333.out; have hcz11_0 := bz2 BK333))
       go_ret
       exact ⟨er, be2 HB GE331 GE333⟩
      rw [if_neg c8] at H
      have c8b0 : (((rd_T70 l0_2 x10_1).f0) == a1) = false := beq_eq_false_iff_ne.mpr c8
      have c8b1 : (((rd_T70 l0_2 x10_1).f0) != a1) = true := bne_iff_ne.mpr c8
      have H' := Aside0.mk H
      clear H
      have p332 : 0 ≤ (x10_1 : Int) := od
      have q332 : x10_1 < (l0_2.length : Int) := od
      obtain ⟨ad332, e332, hx332_0, hx332_1⟩ := at_T70 HR0_2.out x10_1 p332 q332
      cases e332
      replace hx332_0 := hc HB hx332_0
      replace hx332_1 := hc HB hx332_1
      replace p332 := eq_true p332
      replace q332 := eq_true q332
      go_wp2_with (first | ((with_reducible refine gate_dst (N := 6) rfl ?_); refine bx 6 #[.int .i64 0, .int .i64 0] 70 ?_; intro gb333 hg w12 hbox hb; have BK333 := am hbox; have GW333 := gs1 hg HB GE331; have GE333 := gs1 hg HB GE331; replace HB := Aside0.mk (below_step (be1 HB GE331) hb); have NB331_333 := Aside0.mk ((by rw [hg]; exact Nat.ne_of_lt (bl BK331) : gb331 ≠ gb333)); have NB333_331 := Aside0.mk ((by rw [hg]; exact Nat.ne_of_gt (bl BK331) : gb333 ≠ gb331)); replace BK331 := bb BK331 hb; clear hb hbox hg; have hnb13 := NB333_331.out; have hnc13 := NB331_333.out; have hcz14_0 := bz2 BK333))
      go_roundg k1
      case measure => have := HK1.out; omega
      case rel => exact ⟨(wrap64 (x10_1 + 1)), rs, H', ⟨by have := HK1.out; omega⟩, ⟨by (with_reducible repeat (first | refine blk_drewN ?_ _ | refine blk_drew ?_ | refine blk_alloc ?_ _)); refine blk_far ?_ NB331_333.out _; (with_reducible repeat (first | refine blk_drewN ?_ _ | refine blk_drew ?_ | refine blk_alloc ?_ _)); refine blk_far ?_ NB331_333.out _; (with_reducible repeat (first | refine blk_drewN ?_ _ | refine blk_drew ?_ | refine blk_alloc ?_ _)); exact BK331.out⟩, ⟨be2 HB GE331 GE333⟩⟩
     rw [if_neg c7] at H
     exact absurd H (by simp)
    rw [if_neg c6] at H
    exact absurd H (by simp)
   rw [if_neg c5] at H
   have c5b0 : decide (x10_1 < (l0_2.length : Int)) = false := decide_eq_false c5
   clear c5
   obtain rfl := Option.some.inj H
   go_wp2
   go_ret
   exact ⟨er, be1 HB GE331⟩

/-! ### impl_isNum: function 93 -/
def impl_isNum.f (a0 : Int) : Option (Bool) := (impl_within.f a0 0 4294967295).bind fun t334 => (some t334)
set_option maxHeartbeats 8000000 in
set_option maxRecDepth 100000 in
theorem impl_isNum.calls (a0 : Int) (r : Bool) (w : World) (h : impl_isNum.f a0 = some r) :
  Calls Try.prog 93 #[.int .i64 a0] w fun e w' => e = .returned (.bool r) ∧ Drawn0 w w' := by
 have H : ((impl_within.f a0 0 4294967295).bind fun t334 => (some t334)) = some r := h
 clear h
 replace H := Option.bind_eq_some_iff.mp H
 obtain ⟨t334, A20, H⟩ := H
 replace H : (some t334) = some r := H
 have A2 := Aside0.mk A20
 clear A20
 obtain rfl := Option.some.inj H
 go_enter Try.func93, Try.ntmps93
 go_wp2_with (first | ((with_reducible refine gate_callee (f := 46) rfl ?_); refine gl 4 Try.func46 #[.int .i64 a0, .int .i64 0, .int .i64 4294967295] ?_; (with_reducible refine (impl_within.calls a0 0 4294967295 t334 _ A2.out).mono ?_); rintro e w' ⟨rfl, ⟨nd, rfl⟩⟩; refine ⟨_, rfl, ?_⟩))
 go_ret
 exact ⟨by first | rfl | (simp; done) | (simp [*]; done), by repeat (first | exact Drawn0.refl _ | apply Drawn0.step)⟩

end Go.Proofs.Ytdgpidhlbpaolaa.QFnExactGiveUp
