-- made by a program of this session (myprint.py)
import Derived.Test.YtfjhkediaholmaaQFnSweepx0
import Derived.Test.YtfjhkediaholmaaQFnSweepx1
import Derived.Test.YtfjhkediaholmaaQFnSweepx2
namespace Go.Proofs.Ytfjhkediaholmaa.QFnSweep
open Go.RowKit Go.Proofs.YtfjhkediaholmaaW.PrintWords Go.Proofs.YtfjhkediaholmaaW.PrintLast Go.Proofs.YtfjhkediaholmaaW.PrintMore
attribute [local go_sem] max2_int min2_int max_two min_two max_three min_three max_four min_four   -- for this text's walks alone
set_option linter.unusedVariables false
set_option linter.unusedSimpArgs false

/-! ### impl_ThreeNew: function 22 -/
def impl_ThreeNew.f (k : Nat) (a0 : Int) (a1 : Int) : Option (Int × Int × (List (S68)) × (List (S68)) × List Int × Bool) := (impl_ThreeOk.f k a0 a1 ([] : List (S68)) ([] : List (S68)) ([] : List Int)).bind fun t138 => (if t138 = true then (some (a0, a1, ([] : List (S68)), ([] : List (S68)), ([] : List Int), true)) else (some (0, 0, ([] : List (S68)), ([] : List (S68)), ([] : List Int), false)))
theorem impl_ThreeNew.mono : ∀ a0 a1 k, LeO (impl_ThreeNew.f k a0 a1) (impl_ThreeNew.f (k + 1) a0 a1) := by
 intro a0 a1 k
 unfold impl_ThreeNew.f
 repeat' first
   | (with_reducible exact impl_ThreeOk.mono _ _ _ _ _ _)
   | (with_reducible exact LeO.refl _)
   | (with_reducible exact LeO.none _)
   | (with_reducible refine LeO.ite ?_ ?_)
   | (with_reducible refine LeO.bind ?_ (fun _ => ?_))
   | exact impl_ThreeOk.mono _ _ _ _ _ _
   | exact LeO.none _
   | refine LeO.ite ?_ ?_
   | refine LeO.bind ?_ (fun _ => ?_)
set_option maxHeartbeats 8000000 in
set_option maxRecDepth 100000 in
theorem impl_ThreeNew.calls (k : Nat) (a0 : Int) (a1 : Int) (r1 : Int) (r2 : Int) (r3 : List (S68)) (r4 : List (S68)) (r5 : List Int) (r6 : Bool) (w : World) (h : impl_ThreeNew.f k a0 a1 = some (r1, r2, r3, r4, r5, r6)) :
  Calls Try.prog 22 #[.int .i64 a0, .int .i64 a1] w fun e w' => ∃ v2_ v3_ v4_ : Value, e = .returned (.tuple #[.agg #[.int .i64 r1, .int .i64 r2, v2_, v3_, v4_], .bool r6]) ∧ Kd.R k68 68 w' w.heap.size (fun k_ => some k_ ≠ (v3_ : Value).ownBlock) v2_ r3 ∧ Kd.R k68 68 w' w.heap.size (fun k_ => some k_ ≠ (v2_ : Value).ownBlock) v3_ r4 ∧ Kd.R (Kd.int .i64) 3 w' w.heap.size (fun _ => True) v4_ r5 ∧ Below w.heap.size w w' := by
 have hu30 := Try.underlying30
 have HB := Aside0.mk (Below.refl w.heap.size w)
 have H : ((impl_ThreeOk.f k a0 a1 ([] : List (S68)) ([] : List (S68)) ([] : List Int)).bind fun t138 => (if t138 = true then (some (a0, a1, ([] : List (S68)), ([] : List (S68)), ([] : List Int), true)) else (some (0, 0, ([] : List (S68)), ([] : List (S68)), ([] : List Int), false)))) = some (r1, r2, r3, r4, r5, r6) := h
 clear h
 replace H := Option.bind_eq_some_iff.mp H
 obtain ⟨t138, A30, H⟩ := H
 replace H : (if t138 = true then (some (a0, a1, ([] : List (S68)), ([] : List (S68)), ([] : List Int), true)) else (some (0, 0, ([] : List (S68)), ([] : List (S68)), ([] : List Int), false))) = some (r1, r2, r3, r4, r5, r6) := H
 have A3 := Aside0.mk A30
 clear A30
 by_cases c4 : t138 = true
 ·subst c4
  have H1 : (some (a0, a1, ([] : List (S68)), ([] : List (S68)), ([] : List Int), true)) = some (r1, r2, r3, r4, r5, r6) := by rw [if_pos rfl] at H; exact H
  clear H
  have H := H1
  clear H1
  simp only [Option.some.injEq, Prod.mk.injEq] at H
  obtain ⟨rfl, rfl, rfl, rfl, rfl, rfl⟩ := H
  go_enter Try.func22, Try.ntmps22
  go_wp2_with (first | ((with_reducible refine gate_dst (N := 4) rfl ?_); refine bx 4 #[.int .i64 0, .int .i64 0, .slice none 0 0, .slice none 0 0, .slice none 0 0] 30 ?_; intro gb136 hg w5 hbox hb; have BK136 := am hbox; have GW136 := gs0 hg HB; have GE136 := gs0 hg HB; replace HB := s0 HB hb; clear hb hbox hg) | ((with_reducible refine gate_dst (N := 6) rfl ?_); refine bx 6 #[.int .i64 0, .int .i64 0, .slice none 0 0, .slice none 0 0, .slice none 0 0] 30 ?_; intro gb137 hg w6 hbox hb; have BK137 := am hbox; have GW137 := gs1 hg HB GE136; have GE137 := gs1 hg HB GE136; replace HB := Aside0.mk (below_step (be1 HB GE136) hb); have NB136_137 := nl hg BK136; have NB137_136 := ng hg BK136; replace BK136 := bb BK136 hb; clear hb hbox hg; have hnb7 := NB137_136.out; have hnc7 := NB136_137.out; have hcz8_0 := bz5 BK137) | ((with_reducible refine gate_callee (f := 19) rfl ?_); refine gl 11 Try.func19 #[.agg #[.int .i64 a0, .int .i64 a1, .slice none 0 0, .slice none 0 0, .slice none 0 0]] ?_; (refine (impl_ThreeOk.calls k a0 a1 _ _ ([] : List (S68)) _ _ ([] : List (S68)) _ _ ([] : List Int) true _ ?side1 ?side2 ?side3 ?side4 ?side5 ?side6 A3.out).mono ?_); (case side1 => exact Kd.C_nil _ _); (case side2 => exact Nat.le_refl _); (case side3 => exact Kd.C_nil _ _); (case side4 => exact Nat.le_refl _); (case side5 => exact Kd.C_nil _ _); (case side6 => exact Nat.le_refl _); rintro e w9 ⟨rfl, hb⟩; refine ⟨_, rfl, ?_⟩; replace BK136 := Aside0.mk (blk_below (g := gb136) (o := .cells #[.int .i64 0, .int .i64 0, .slice none 0 0, .slice none 0 0, .slice none 0 0] 30 (0, 0)) (bf1 BK136 NB136_137) hb); replace BK137 := Aside0.mk (blk_below (g := gb137) (o := .cells #[.int .i64 a0, .int .i64 a1, .slice none 0 0, .slice none 0 0, .slice none 0 0] 30 (0, 0)) (bp BK137) hb); replace HB := Aside0.mk (below_step (be2 HB GE136 GE137) hb); (try clear hb); have hcz10_0 := bz5 BK137; have hcz11_0 := bz5 BK136))
  refine bodyPost_ret (results_ct rfl _ _ gb136 30 #[.int .i64 a0, .int .i64 a1, .slice none 0 0, .slice none 0 0, .slice none 0 0] (0, 0) _ rfl (bp BK136) Try.underlying30 rfl (by kernel_rfl)) rfl ?_
  exact ⟨_, _, _, er, by first | exact Kd.R_nil _ _ _ _ _ | exact Kd.N_nil _ _ _ _ _ | exact Kd.V_nil _ _ _ _ _ | exact Kd.Q_nil _ _ _ _ _ | exact Kd.S_nil _ _ _ _ _, by first | exact Kd.R_nil _ _ _ _ _ | exact Kd.N_nil _ _ _ _ _ | exact Kd.V_nil _ _ _ _ _ | exact Kd.Q_nil _ _ _ _ _ | exact Kd.S_nil _ _ _ _ _, by first | exact Kd.R_nil _ _ _ _ _ | exact Kd.N_nil _ _ _ _ _ | exact Kd.V_nil _ _ _ _ _ | exact Kd.Q_nil _ _ _ _ _ | exact Kd.S_nil _ _ _ _ _, be2 HB GE136 GE137⟩
 replace c4 := Bool.eq_false_iff.mpr c4
 subst c4
 have H1 : (some (0, 0, ([] : List (S68)), ([] : List (S68)), ([] : List Int), false)) = some (r1, r2, r3, r4, r5, r6) := by rw [if_neg (show ¬ (false = true) by decide)] at H; exact H
 clear H
 have H := H1
 clear H1
 simp only [Option.some.injEq, Prod.mk.injEq] at H
 obtain ⟨rfl, rfl, rfl, rfl, rfl, rfl⟩ := H
 go_enter Try.func22, Try.ntmps22
 go_wp2_with (first | ((with_reducible refine gate_dst (N := 4) rfl ?_); refine bx 4 #[.int .i64 0, .int .i64 0, .slice none 0 0, .slice none 0 0, .slice none 0 0] 30 ?_; intro gb136 hg w12 hbox hb; have BK136 := am hbox; have GW136 := gs0 hg HB; have GE136 := gs0 hg HB; replace HB := s0 HB hb; clear hb hbox hg) | ((with_reducible refine gate_dst (N := 6) rfl ?_); refine bx 6 #[.int .i64 0, .int .i64 0, .slice none 0 0, .slice none 0 0, .slice none 0 0] 30 ?_; intro gb137 hg w13 hbox hb; have BK137 := am hbox; have GW137 := gs1 hg HB GE136; have GE137 := gs1 hg HB GE136; replace HB := Aside0.mk (below_step (be1 HB GE136) hb); have NB136_137 := nl hg BK136; have NB137_136 := ng hg BK136; replace BK136 := bb BK136 hb; clear hb hbox hg; have hnb14 := NB137_136.out; have hnc14 := NB136_137.out; have hcz15_0 := bz5 BK137) | ((with_reducible refine gate_callee (f := 19) rfl ?_); refine gl 11 Try.func19 #[.agg #[.int .i64 a0, .int .i64 a1, .slice none 0 0, .slice none 0 0, .slice none 0 0]] ?_; (refine (impl_ThreeOk.calls k a0 a1 _ _ ([] : List (S68)) _ _ ([] : List (S68)) _ _ ([] : List Int) false _ ?side1 ?side2 ?side3 ?side4 ?side5 ?side6 A3.out).mono ?_); (case side1 => exact Kd.C_nil _ _); (case side2 => exact Nat.le_refl _); (case side3 => exact Kd.C_nil _ _); (case side4 => exact Nat.le_refl _); (case side5 => exact Kd.C_nil _ _); (case side6 => exact Nat.le_refl _); rintro e w16 ⟨rfl, hb⟩; refine ⟨_, rfl, ?_⟩; replace BK136 := Aside0.mk (blk_below (g := gb136) (o := .cells #[.int .i64 0, .int .i64 0, .slice none 0 0, .slice none 0 0, .slice none 0 0] 30 (0, 0)) (bf1 BK136 NB136_137) hb); replace BK137 := Aside0.mk (blk_below (g := gb137) (o := .cells #[.int .i64 a0, .int .i64 a1, .slice none 0 0, .slice none 0 0, .slice none 0 0] 30 (0, 0)) (bp BK137) hb); replace HB := Aside0.mk (below_step (be2 HB GE136 GE137) hb); (try clear hb); have hcz17_0 := bz5 BK136))
 refine bodyPost_ret (results_ct rfl _ _ gb136 30 #[.int .i64 0, .int .i64 0, .slice none 0 0, .slice none 0 0, .slice none 0 0] (0, 0) _ rfl (bp BK136) Try.underlying30 rfl (by kernel_rfl)) rfl ?_
 exact ⟨_, _, _, er, by first | exact Kd.R_nil _ _ _ _ _ | exact Kd.N_nil _ _ _ _ _ | exact Kd.V_nil _ _ _ _ _ | exact Kd.Q_nil _ _ _ _ _ | exact Kd.S_nil _ _ _ _ _, by first | exact Kd.R_nil _ _ _ _ _ | exact Kd.N_nil _ _ _ _ _ | exact Kd.V_nil _ _ _ _ _ | exact Kd.Q_nil _ _ _ _ _ | exact Kd.S_nil _ _ _ _ _, by first | exact Kd.R_nil _ _ _ _ _ | exact Kd.N_nil _ _ _ _ _ | exact Kd.V_nil _ _ _ _ _ | exact Kd.Q_nil _ _ _ _ _ | exact Kd.S_nil _ _ _ _ _, be2 HB GE136 GE137⟩

/-! ### impl_copyInts: function 115 -/
def impl_copyInts.f (l0 : List Int) : Option (List Int) := (some (([] : List Int) : List Int)).bind fun y139 => (if y139.length + l0.length < 17592186044416 then (some (y139 ++ l0)) else (none))
set_option maxHeartbeats 8000000 in
set_option maxRecDepth 100000 in
theorem impl_copyInts.calls (A0 : Option Addr) (c0 : Nat) (l0 : List Int) (r : List Int) (w : World) (hr0 : Kd.C (Kd.int .i64) w A0 l0.length l0) (hc0 : l0.length ≤ c0) (h : impl_copyInts.f l0 = some r) :
  Calls Try.prog 115 #[.slice A0 l0.length c0] w fun e w' => ∃ v0_ : Value, e = .returned (v0_) ∧ Kd.R (Kd.int .i64) 3 w' w.heap.size (fun _ => True) v0_ r ∧ Below w.heap.size w w' := by
 have HR0 := Aside0.mk hr0
 have HC0 := Aside0.mk hc0
 clear hr0 hc0
 have HB := Aside0.mk (Below.refl w.heap.size w)
 have H : ((some (([] : List Int) : List Int)).bind fun y139 => (if y139.length + l0.length < 17592186044416 then (some (y139 ++ l0)) else (none))) = some r := h
 clear h
 obtain ⟨y139, hy139⟩ : ∃ y_ : List Int, y_ = (([] : List Int)) := ⟨_, rfl⟩
 replace H : (if y139.length + l0.length < 17592186044416 then (some (y139 ++ l0)) else (none)) = some r := by first | (rw [hy139]; with_reducible exact H) | (have H2_ := (Option.bind_some _ _).symm.trans H; rw [hy139]; with_reducible exact H2_) | (have H2_ := (Option.bind_some _ _).symm.trans H; with_reducible exact H2_) | with_reducible exact H | (rw [hy139]; exact H) | exact H
 have Ny139 := Aside0.mk hy139
 clear hy139
 by_cases c2 : y139.length + l0.length < 17592186044416
 ·rw [if_pos c2] at H
  have LMc2 := Aside0.mk c2
  clear c2
  obtain ⟨y142, hy142⟩ : ∃ y_ : List Int, y_ = (y139 ++ l0) := ⟨_, rfl⟩
  replace H : (some y142) = some r := by first | (rw [hy142]; with_reducible exact H) | (have H2_ := (Option.bind_some _ _).symm.trans H; rw [hy142]; with_reducible exact H2_) | (have H2_ := (Option.bind_some _ _).symm.trans H; with_reducible exact H2_) | with_reducible exact H | (rw [hy142]; exact H) | exact H
  have Ny142 := Aside0.mk hy142
  clear hy142
  obtain rfl := Option.some.inj H
  go_enter Try.func115, Try.ntmps115
  have HO141 := Aside0.mk (show Kd.R (Kd.int .i64) 3 w w.heap.size (fun _ => True) (.slice none 0 0) y139 from by rw [Ny139.out]; exact Kd.R_nil _ _ _ _ _)
  go_wp2_with (first | ((with_reducible refine gate_builtin (b := .append) (xs := #[.const (.slice none 0 0), .tmp 3]) rfl ?_); at_builtin; refine Kd.R_append_rows (Kd.int .i64) (w0 := w) w.heap.size rfl (.const (.slice none 0 0)) (.tmp 3) 23 3 (.int .i64 0) 8 rfl Try.underlying23 info3 rfl (by decide) (by omega) (.slice none 0 0) y139 l0 _ _ _ (fun _ => True) (fun _ => False) rfl rfl ?aO ?aR (fun _ _ h => h) (fun _ h => h.elim) ?aF ?aB ?aS ?aL ?_; (case aR => repeat (first | exact (Kd.C_below HR0.out HB.out) | (with_reducible refine Kd.C_alloc ?_ _) | (with_reducible refine Kd.C_drewN ?_ _) | (with_reducible refine Kd.C_drew ?_))); (case aB => exact (be HB)); (case aF => exact (fun _ _ => trivial)); (case aO => exact (ro HO141)); (case aS => exact (below_size (be HB))); (case aL => have := LMc2.out; omega); intro v143 w5 ho hb hg hat; rw [← Ny142.out] at ho; replace HB := Aside0.mk (hb); have HO144 := Aside0.mk (ho); clear HO141; clear ho hb hg hat))
  go_ret
  exact ⟨_, er, (ro HO144), be HB⟩
 rw [if_neg c2] at H
 exact absurd H (by simp)

/-! ### impl_copyThree: function 87 -/
def impl_copyThree.f (a0_0 : Int) (a0_1 : Int) (l0_2 : List (S68)) (l0_3 : List (S68)) (l0_4 : List Int) : Option (Int × Int × (List (S68)) × (List (S68)) × List Int) := (impl_copyItems.f l0_2).bind fun t147 => ((impl_copyItems.f l0_3).bind fun t150 => ((impl_copyInts.f l0_4).bind fun t153 => (some (a0_0, a0_1, t147, t150, t153))))
def impl_copyThree.T1 : Bool × List (List Nat × List Nat) := (true, [([], []), ([0], [0]), ([], []), ([2], [2]), ([], []), ([4], [4]), ([5], [5]), ([], []), ([7], [7]), ([8, 6], [8]), ([], []), ([10], [10]), ([11, 9], [11]), ([1, 3, 6, 9, 12], [1, 3, 6, 9, 12]), ([13, 12, 0, 1, 2, 3, 4, 5, 6, 7, 8, 9, 10, 11, 12, 13], [13])])
def impl_copyThree.B1 : List Nat := [0, 1, 0, 4, 0, 16, 48, 0, 128, 496, 0, 1024, 4080, 8191, 16383]
theorem impl_copyThree.tab1 : rtab .any (opsOf Try.f87 1) = impl_copyThree.T1 := by kernel_rfl
theorem impl_copyThree.bits1 : waitsOk impl_copyThree.T1.2 impl_copyThree.B1 = true := by kernel_rfl
set_option maxHeartbeats 8000000 in
set_option maxRecDepth 100000 in
theorem impl_copyThree.calls (a0_0 : Int) (a0_1 : Int) (A0_2 : Option Addr) (c0_2 : Nat) (l0_2 : List (S68)) (A0_3 : Option Addr) (c0_3 : Nat) (l0_3 : List (S68)) (A0_4 : Option Addr) (c0_4 : Nat) (l0_4 : List Int) (r1 : Int) (r2 : Int) (r3 : List (S68)) (r4 : List (S68)) (r5 : List Int) (w : World) (hr0_2 : Kd.C k68 w A0_2 l0_2.length l0_2) (hc0_2 : l0_2.length ≤ c0_2) (hr0_3 : Kd.C k68 w A0_3 l0_3.length l0_3) (hc0_3 : l0_3.length ≤ c0_3) (hr0_4 : Kd.C (Kd.int .i64) w A0_4 l0_4.length l0_4) (hc0_4 : l0_4.length ≤ c0_4) (h : impl_copyThree.f a0_0 a0_1 l0_2 l0_3 l0_4 = some (r1, r2, r3, r4, r5)) :
  Calls Try.prog 87 #[.agg #[.int .i64 a0_0, .int .i64 a0_1, .slice A0_2 l0_2.length c0_2, .slice A0_3 l0_3.length c0_3, .slice A0_4 l0_4.length c0_4]] w fun e w' => ∃ v2_ v3_ v4_ : Value, e = .returned (.agg #[.int .i64 r1, .int .i64 r2, v2_, v3_, v4_]) ∧ Kd.R k68 68 w' w.heap.size (fun k_ => some k_ ≠ (v3_ : Value).ownBlock) v2_ r3 ∧ Kd.R k68 68 w' w.heap.size (fun k_ => some k_ ≠ (v2_ : Value).ownBlock) v3_ r4 ∧ Kd.R (Kd.int .i64) 3 w' w.heap.size (fun _ => True) v4_ r5 ∧ Below w.heap.size w w' := by
 have hu30 := Try.underlying30
 have HR0_2 := Aside0.mk hr0_2
 have HC0_2 := Aside0.mk hc0_2
 clear hr0_2 hc0_2
 have HR0_3 := Aside0.mk hr0_3
 have HC0_3 := Aside0.mk hc0_3
 clear hr0_3 hc0_3
 have HR0_4 := Aside0.mk hr0_4
 have HC0_4 := Aside0.mk hc0_4
 clear hr0_4 hc0_4
 have HB := Aside0.mk (Below.refl w.heap.size w)
 have H : ((impl_copyItems.f l0_2).bind fun t147 => ((impl_copyItems.f l0_3).bind fun t150 => ((impl_copyInts.f l0_4).bind fun t153 => (some (a0_0, a0_1, t147, t150, t153))))) = some (r1, r2, r3, r4, r5) := h
 clear h
 replace H := Option.bind_eq_some_iff.mp H
 obtain ⟨t147, A20, H⟩ := H
 replace H : ((impl_copyItems.f l0_3).bind fun t150 => ((impl_copyInts.f l0_4).bind fun t153 => (some (a0_0, a0_1, t147, t150, t153)))) = some (r1, r2, r3, r4, r5) := H
 have A2 := Aside0.mk A20
 clear A20
 replace H := Option.bind_eq_some_iff.mp H
 obtain ⟨t150, A30, H⟩ := H
 replace H : ((impl_copyInts.f l0_4).bind fun t153 => (some (a0_0, a0_1, t147, t150, t153))) = some (r1, r2, r3, r4, r5) := H
 have A3 := Aside0.mk A30
 clear A30
 replace H := Option.bind_eq_some_iff.mp H
 obtain ⟨t153, A40, H⟩ := H
 replace H : (some (a0_0, a0_1, t147, t150, t153)) = some (r1, r2, r3, r4, r5) := H
 have A4 := Aside0.mk A40
 clear A40
 simp only [Option.some.injEq, Prod.mk.injEq] at H
 obtain ⟨rfl, rfl, rfl, rfl, rfl⟩ := H
 go_enter Try.func87, Try.ntmps87
 try go_wp2_with (first | ((with_reducible refine gate_dst (N := 1) rfl ?_); refine bx 1 #[.int .i64 a0_0, .int .i64 a0_1, .slice A0_2 l0_2.length c0_2, .slice A0_3 l0_3.length c0_3, .slice A0_4 l0_4.length c0_4] 30 ?_; intro gb145 hg w5 hbox hb; have BK145 := am hbox; have GW145 := gs0 hg HB; have GE145 := gs0 hg HB; replace HB := s0 HB hb; clear hb hbox hg) | ((with_reducible refine gate_dst (N := 2) rfl ?_); refine bx 2 #[.int .i64 0, .int .i64 0, .slice none 0 0, .slice none 0 0, .slice none 0 0] 30 ?_; intro gb146 hg w6 hbox hb; have BK146 := am hbox; have GW146 := gs1 hg HB GE145; have GE146 := gs1 hg HB GE145; replace HB := Aside0.mk (below_step (be1 HB GE145) hb); have NB145_146 := nl hg BK145; have NB146_145 := ng hg BK145; replace BK145 := bb BK145 hb; clear hb hbox hg))
 have n0_ := Aside0.mk (blk_drew BK145.out)
 have n1_ := Aside0.mk (blk_drew BK146.out)
 have n2_ := Aside0.mk (below_drew1 HB.out)
 clear BK145
 clear BK146
 clear HB
 have BK145 := n0_
 have BK146 := n1_
 have HB := n2_
 clear n0_ n1_ n2_
 refine start_ (n := 15) (S := fun w' => w'.cell? ⟨gb145, 0, none⟩ = some (.int .i64 a0_0) ∧ w'.cell? ⟨gb145, 1, none⟩ = some (.int .i64 a0_1) ∧ w'.cell? ⟨gb145, 2, none⟩ = some (.slice A0_2 l0_2.length c0_2) ∧ w'.cell? ⟨gb145, 3, none⟩ = some (.slice A0_3 l0_3.length c0_3) ∧ w'.cell? ⟨gb145, 4, none⟩ = some (.slice A0_4 l0_4.length c0_4)) (ds := []) (bv 15 0x0) (by kernel_rfl) rfl rfl ⟨bc0 BK145, bc1 BK145, bc2 BK145, bc3 BK145, bc4 BK145⟩ (fun hHeld => ?_); refine with_tabW impl_copyThree.tab1 impl_copyThree.bits1 (fun HT_ HW_ => ?_)
 generalize w6.drew = w7 at BK145 BK146 HB hHeld ⊢
 refine py HT_ 0 3 (bv 15 0x1) ?_
 refine py HT_ 2 5 (bv 15 0x5) ?_
 refine py HT_ 4 7 (bv 15 0x15) ?_
 refine py HT_ 7 10 (bv 15 0x95) ?_
 refine py HT_ 10 13 (bv 15 0x495) ?_
 refine tk HT_ HW_ hHeld 1 4 (bv 15 0x497) ?_
 refine tk HT_ HW_ hHeld 3 6 (bv 15 0x49f) ?_
 refine tk HT_ HW_ hHeld 5 8 (bv 15 0x4bf) ?_
 refine tk HT_ HW_ hHeld 8 11 (bv 15 0x5bf) ?_
 refine tk HT_ HW_ hHeld 11 14 (bv 15 0xdbf) ?_
 refine one_ (i := 6) (N := some 9) (bv 15 0xdff) rfl rfl (one_of HT_.out (by kernel_rfl)) (by decide) (fun K hK => ?_)
 refine goes_ Try.func68 (by kernel_rfl) rfl #[.slice A0_2 l0_2.length c0_2] (by rfl) rfl rfl ml ?_
 with_reducible refine (impl_copyItems.calls _ _ l0_2 t147 _ ?side1 ?side2 A2.out).mono ?_
 (case side1 => exact cb HR0_2 HB)
 (case side2 => exact HC0_2.out)
 rintro e w8 ⟨v148, rfl, ho0, hb⟩
 refine ⟨_, rfl, ?_⟩
 have n0_ := Aside0.mk (Kd.R_lower ho0 (below_size (be2 HB GE145 GE146)))
 have n1_ := bb BK145 hb
 have n2_ := bb BK146 hb
 have n3_ := Aside0.mk (below_step (be2 HB GE145 GE146) hb)
 clear BK145
 clear BK146
 clear HB
 have HO149 := n0_
 have BK145 := n1_
 have BK146 := n2_
 have HB := n3_
 clear n0_ n1_ n2_ n3_
 (try clear hb)
 (try clear hb2)
 (try clear hk)
 (try clear hi)
 (try clear ho0)
 refine hK.out _ _ ⟨bc0 BK145, bc1 BK145, bc2 BK145, bc3 BK145, bc4 BK145⟩ (fun hHeld => ?_)
 clear hK K
 refine norm_ (a' := ?_) ?_ ?_
 rotate_left
 ·show Act.put _ (some 9) _ = _
  simp only [aP]
  rfl
 refine one_ (i := 9) (N := some 12) (bv 15 0xfff) rfl rfl (one_of HT_.out (by kernel_rfl)) (by decide) (fun K hK => ?_)
 refine goes_ Try.func68 (by kernel_rfl) rfl #[.slice A0_3 l0_3.length c0_3] (by rfl) rfl rfl ml ?_
 with_reducible refine (impl_copyItems.calls _ _ l0_3 t150 _ ?side1 ?side2 A3.out).mono ?_
 (case side1 => exact cb HR0_3 HB)
 (case side2 => exact HC0_3.out)
 rintro e w9 ⟨v151, rfl, ho0, hb⟩
 refine ⟨_, rfl, ?_⟩
 have n0_ := Aside0.mk (Kd.R_elder' (ro HO149) (Kd.R_base ho0) hb)
 have n1_ := Aside0.mk (Kd.R_lower (nw ho0 HO149) (below_size (be2 HB GE145 GE146)))
 have n2_ := bb BK145 hb
 have n3_ := bb BK146 hb
 have n4_ := Aside0.mk (below_step (be2 HB GE145 GE146) hb)
 clear HO149
 clear BK145
 clear BK146
 clear HB
 have HO149 := n0_
 have HO152 := n1_
 have BK145 := n2_
 have BK146 := n3_
 have HB := n4_
 clear n0_ n1_ n2_ n3_ n4_
 (try clear hb)
 (try clear hb2)
 (try clear hk)
 (try clear hi)
 (try clear ho0)
 refine hK.out _ _ ⟨bc0 BK145, bc1 BK145, bc2 BK145, bc3 BK145, bc4 BK145⟩ (fun hHeld => ?_)
 clear hK K
 refine norm_ (a' := ?_) ?_ ?_
 rotate_left
 ·show Act.put _ (some 12) _ = _
  simp only [aP]
  rfl
 refine one_ (i := 12) (N := some 15) (bv 15 0x1fff) rfl rfl (one_of HT_.out (by kernel_rfl)) (by decide) (fun K hK => ?_)
 refine goes_ Try.func115 (by kernel_rfl) rfl #[.slice A0_4 l0_4.length c0_4] (by rfl) rfl rfl ml ?_
 with_reducible refine (impl_copyInts.calls _ _ l0_4 t153 _ ?side1 ?side2 A4.out).mono ?_
 (case side1 => exact cb HR0_4 HB)
 (case side2 => exact HC0_4.out)
 rintro e w10 ⟨v154, rfl, ho0, hb⟩
 refine ⟨_, rfl, ?_⟩
 have n0_ := rb HO149 hb
 have n1_ := rb HO152 hb
 have n2_ := Aside0.mk (Kd.R_lower ho0 (below_size (be2 HB GE145 GE146)))
 have n3_ := bb BK145 hb
 have n4_ := bb BK146 hb
 have n5_ := Aside0.mk (below_step (be2 HB GE145 GE146) hb)
 clear HO149
 clear HO152
 clear BK145
 clear BK146
 clear HB
 have HO149 := n0_
 have HO152 := n1_
 have HO155 := n2_
 have BK145 := n3_
 have BK146 := n4_
 have HB := n5_
 clear n0_ n1_ n2_ n3_ n4_ n5_
 (try clear hb)
 (try clear hb2)
 (try clear hk)
 (try clear hi)
 (try clear ho0)
 obtain ⟨Ao11, co11, eo11⟩ := Kd.R_slice HO155.out
 (first | subst eo11 | (injection eo11 with f1_ f2_ f3_; have f4_ := f1_.symm; have f5_ := f3_.symm; clear f1_ f2_ f3_; subst f4_; subst f5_))
 obtain ⟨Ao12, co12, eo12⟩ := Kd.R_slice HO152.out
 (first | subst eo12 | (injection eo12 with f1_ f2_ f3_; have f4_ := f1_.symm; have f5_ := f3_.symm; clear f1_ f2_ f3_; subst f4_; subst f5_))
 obtain ⟨Ao13, co13, eo13⟩ := Kd.R_slice HO149.out
 (first | subst eo13 | (injection eo13 with f1_ f2_ f3_; have f4_ := f1_.symm; have f5_ := f3_.symm; clear f1_ f2_ f3_; subst f4_; subst f5_))
 refine hK.out _ _ ⟨bc0 BK145, bc1 BK145, bc2 BK145, bc3 BK145, bc4 BK145⟩ (fun hHeld => ?_)
 clear hK K
 refine norm_ (a' := ?_) ?_ ?_
 rotate_left
 ·show Act.put _ (some 15) _ = _
  simp only [aP]
  rfl
 refine py HT_ 13 16 (bv 15 0x3fff) ?_
 refine one_ (i := 14) (N := none) (bv 15 0x7fff) rfl rfl (one_of HT_.out (by kernel_rfl)) (by decide) (fun K hK => ?_)
 have hs14 : w10.cell? ⟨gb146, 0, none⟩ = some (.int .i64 0) := bc0 BK146
 have hfs14 := blk_frozen BK146.out 0
 have hns14_0 := NB145_146.out
 have hms14_0 := NB146_145.out
 have hs15 : w10.cell? ⟨gb146, 1, none⟩ = some (.int .i64 0) := bc1 BK146
 have hfs15 := blk_frozen BK146.out 1
 have hns15_0 := NB145_146.out
 have hms15_0 := NB146_145.out
 have hs16 : w10.cell? ⟨gb146, 2, none⟩ = some (.slice none 0 0) := bc2 BK146
 have hfs16 := blk_frozen BK146.out 2
 have hns16_0 := NB145_146.out
 have hms16_0 := NB146_145.out
 have hs17 : w10.cell? ⟨gb146, 3, none⟩ = some (.slice none 0 0) := bc3 BK146
 have hfs17 := blk_frozen BK146.out 3
 have hns17_0 := NB145_146.out
 have hms17_0 := NB146_145.out
 have hs18 : w10.cell? ⟨gb146, 4, none⟩ = some (.slice none 0 0) := bc4 BK146
 have hfs18 := blk_frozen BK146.out 4
 have hns18_0 := NB145_146.out
 have hms18_0 := NB146_145.out
 refine skip_ (w1 := ?_) (by rfl) rfl ?_ ?_
 rotate_left
 ·go_simp
  rfl
 refine hK.out _ _ ⟨((cell_far (p := ⟨gb146, _, none⟩) NB145_146.out _).trans (((cell_far (p := ⟨gb146, _, none⟩) NB145_146.out _).trans (((cell_far (p := ⟨gb146, _, none⟩) NB145_146.out _).trans (((cell_far (p := ⟨gb146, _, none⟩) NB145_146.out _).trans (((cell_far (p := ⟨gb146, _, none⟩) NB145_146.out _).trans (hHeld.1)))))))))), ((cell_far (p := ⟨gb146, _, none⟩) NB145_146.out _).trans (((cell_far (p := ⟨gb146, _, none⟩) NB145_146.out _).trans (((cell_far (p := ⟨gb146, _, none⟩) NB145_146.out _).trans (((cell_far (p := ⟨gb146, _, none⟩) NB145_146.out _).trans (((cell_far (p := ⟨gb146, _, none⟩) NB145_146.out _).trans (hHeld.2.1)))))))))), ((cell_far (p := ⟨gb146, _, none⟩) NB145_146.out _).trans (((cell_far (p := ⟨gb146, _, none⟩) NB145_146.out _).trans (((cell_far (p := ⟨gb146, _, none⟩) NB145_146.out _).trans (((cell_far (p := ⟨gb146, _, none⟩) NB145_146.out _).trans (((cell_far (p := ⟨gb146, _, none⟩) NB145_146.out _).trans (hHeld.2.2.1)))))))))), ((cell_far (p := ⟨gb146, _, none⟩) NB145_146.out _).trans (((cell_far (p := ⟨gb146, _, none⟩) NB145_146.out _).trans (((cell_far (p := ⟨gb146, _, none⟩) NB145_146.out _).trans (((cell_far (p := ⟨gb146, _, none⟩) NB145_146.out _).trans (((cell_far (p := ⟨gb146, _, none⟩) NB145_146.out _).trans (hHeld.2.2.2.1)))))))))), ((cell_far (p := ⟨gb146, _, none⟩) NB145_146.out _).trans (((cell_far (p := ⟨gb146, _, none⟩) NB145_146.out _).trans (((cell_far (p := ⟨gb146, _, none⟩) NB145_146.out _).trans (((cell_far (p := ⟨gb146, _, none⟩) NB145_146.out _).trans (((cell_far (p := ⟨gb146, _, none⟩) NB145_146.out _).trans (hHeld.2.2.2.2))))))))))⟩ (fun hHeld => ?_)
 clear hK K
 refine done_ (done_of HT_.out (by kernel_rfl)) ?_
 try go_wp2
 refine bodyPost_ret (results_cell_row rfl _ _ gb146 30 #[.int .i64 a0_0, .int .i64 a0_1, .slice Ao13 t147.length co13, .slice Ao12 t150.length co12, .slice Ao11 t153.length co11] (0, 0) _ rfl (bp BK146) Try.underlying30 rfl (by kernel_rfl)) rfl ?_
 exact ⟨_, _, _, er, by (with_reducible repeat (first | apply Kd.R_alloc | apply Kd.R_drewN | apply Kd.R_drew)); exact Kd.R_mono (Kd.R_far (p := ⟨gb146, 4, none⟩) (Kd.R_far (p := ⟨gb146, 3, none⟩) (Kd.R_far (p := ⟨gb146, 2, none⟩) (Kd.R_far (p := ⟨gb146, 1, none⟩) (Kd.R_far (p := ⟨gb146, 0, none⟩) (Kd.R_types HO149.out BK146.out (by decide)) (fun _ hk => hk.2) (.int .i64 a0_0)) (fun _ hk => hk.2) (.int .i64 a0_1)) (fun _ hk => hk.2) (.slice Ao13 t147.length co13)) (fun _ hk => hk.2) (.slice Ao12 t150.length co12)) (fun _ hk => hk.2) (.slice Ao11 t153.length co11)) (fun _ hk => hk.1.2), by (with_reducible repeat (first | apply Kd.R_alloc | apply Kd.R_drewN | apply Kd.R_drew)); exact Kd.R_mono (Kd.R_far (p := ⟨gb146, 4, none⟩) (Kd.R_far (p := ⟨gb146, 3, none⟩) (Kd.R_far (p := ⟨gb146, 2, none⟩) (Kd.R_far (p := ⟨gb146, 1, none⟩) (Kd.R_far (p := ⟨gb146, 0, none⟩) (Kd.R_types HO152.out BK146.out (by decide)) (fun _ hk => hk.2) (.int .i64 a0_0)) (fun _ hk => hk.2) (.int .i64 a0_1)) (fun _ hk => hk.2) (.slice Ao13 t147.length co13)) (fun _ hk => hk.2) (.slice Ao12 t150.length co12)) (fun _ hk => hk.2) (.slice Ao11 t153.length co11)) (fun _ hk => hk.1.2), by (with_reducible repeat (first | apply Kd.R_alloc | apply Kd.R_drewN | apply Kd.R_drew)); exact Kd.R_mono (Kd.R_far (p := ⟨gb146, 4, none⟩) (Kd.R_far (p := ⟨gb146, 3, none⟩) (Kd.R_far (p := ⟨gb146, 2, none⟩) (Kd.R_far (p := ⟨gb146, 1, none⟩) (Kd.R_far (p := ⟨gb146, 0, none⟩) (Kd.R_types HO155.out BK146.out (by decide)) (fun _ hk => hk.2) (.int .i64 a0_0)) (fun _ hk => hk.2) (.int .i64 a0_1)) (fun _ hk => hk.2) (.slice Ao13 t147.length co13)) (fun _ hk => hk.2) (.slice Ao12 t150.length co12)) (fun _ hk => hk.2) (.slice Ao11 t153.length co11)) (fun _ hk => trivial), be2 HB GE145 GE146⟩

/-! ### impl_Get: function 36 -/
def impl_Get.f (k : Nat) (a0_0 : Int) (a0_1 : Int) (l0_2 : List (S68)) (l0_3 : List (S68)) (l0_4 : List Int) (a1 : ByteArray) : Option (Int × Int × (List (S68)) × (List (S68)) × List Int × ByteArray × Bool) := (impl_ThreeOk.f k a0_0 a0_1 l0_2 l0_3 l0_4).bind fun t158 => (if t158 = true then ((impl_copyThree.f a0_0 a0_1 l0_2 l0_3 l0_4).bind fun bt159 => ((impl_itemAt.f k bt159.2.2.1 a1).bind fun t171 => (if t171 ≥ 0 then (if 0 ≤ t171 then (if t171 < (bt159.2.2.1.length : Int) then ((some (bt159.2.2.1.set (t171 : Int).toNat (⟨(rd_T68 bt159.2.2.1 t171).f0, (rd_T68 bt159.2.2.1 t171).f1, mn 3 (wrap64 (((rd_T68 bt159.2.2.1 t171).f2) + 1))⟩ : S68) : List (S68))).bind fun y173 => (some (bt159.1, bt159.2.1, y173, bt159.2.2.2.1, bt159.2.2.2.2, (rd_T68 y173 t171).f1, true))) else (none)) else (none)) else ((impl_itemAt.f k bt159.2.2.2.1 a1).bind fun t175 => (if t175 ≥ 0 then (if 0 ≤ t175 then (if t175 < (bt159.2.2.2.1.length : Int) then ((some (bt159.2.2.2.1.set (t175 : Int).toNat (⟨(rd_T68 bt159.2.2.2.1 t175).f0, (rd_T68 bt159.2.2.2.1 t175).f1, mn 3 (wrap64 (((rd_T68 bt159.2.2.2.1 t175).f2) + 1))⟩ : S68) : List (S68))).bind fun y177 => (some (bt159.1, bt159.2.1, bt159.2.2.1, y177, bt159.2.2.2.2, (rd_T68 y177 t175).f1, true))) else (none)) else (none)) else (some (bt159.1, bt159.2.1, bt159.2.2.1, bt159.2.2.2.1, bt159.2.2.2.2, (⟨#[]⟩ : ByteArray), false))))))) else (some (0, 0, ([] : List (S68)), ([] : List (S68)), ([] : List Int), (⟨#[]⟩ : ByteArray), false)))
theorem impl_Get.mono : ∀ a0 a1 a2 a3 a4 a5 k, LeO (impl_Get.f k a0 a1 a2 a3 a4 a5) (impl_Get.f (k + 1) a0 a1 a2 a3 a4 a5) := by
 intro a0 a1 a2 a3 a4 a5 k
 unfold impl_Get.f
 repeat' first
   | (with_reducible exact impl_ThreeOk.mono _ _ _ _ _ _)
   | (with_reducible exact impl_itemAt.mono _ _ _)
   | (with_reducible exact LeO.refl _)
   | (with_reducible exact LeO.none _)
   | (with_reducible refine LeO.ite ?_ ?_)
   | (with_reducible refine LeO.bind ?_ (fun _ => ?_))
   | exact impl_ThreeOk.mono _ _ _ _ _ _
   | exact impl_itemAt.mono _ _ _
   | exact LeO.none _
   | refine LeO.ite ?_ ?_
   | refine LeO.bind ?_ (fun _ => ?_)
set_option maxHeartbeats 4000000 in
theorem item_small (k : Nat) (B : Nat) (a b : Int) (go2 c2 : Nat) (l2 : List S68) (v3 v4 : Value) (key : ByteArray) (i : Int) (W : World)
    (hb : W.heap[B]? = some (.cells #[.int .i64 a, .int .i64 b, .slice (some ⟨go2, 0, none⟩) l2.length c2, v3, v4] 30 (0, 0)))
    (hr : Kd.C k68 W (some ⟨go2, 0, none⟩) l2.length l2) (hc : l2.length ≤ c2) (h : impl_itemAt.f k l2 key = some i) (h0 : 0 ≤ i) (h1 : i < (l2.length : Int)) :
    Calls Try.prog 91 #[.pointer (some ⟨B, 0, none⟩), .string key] W fun e w' => e = .returned (.pointer (some ⟨go2, i.toNat * 3, none⟩)) ∧ Below W.heap.size W w' := by
  have hu30 := Try.underlying30
  have BK := Aside0.mk hb
  have HR := Aside0.mk hr
  have HC := Aside0.mk hc
  have A6 := Aside0.mk h
  have HB := Aside0.mk (Below.refl W.heap.size W)
  have c0b : decide (0 ≤ i) = true := decide_eq_true h0
  have c1b : decide (i < (l2.length : Int)) = true := decide_eq_true h1
  have hcz0 := bz5 BK
  clear hb hr hc h h0 h1
  go_enter Try.func91, Try.ntmps91
  go_wp2_with (first | ((with_reducible refine gate_callee (f := 111) rfl ?_); refine gl 12 Try.func111 #[.slice (some ⟨go2, 0, none⟩) l2.length c2, .string key] ?_; (with_reducible refine (impl_itemAt.calls k _ _ l2 key i _ (cb HR HB) HC.out A6.out).mono ?_); rintro e w1 ⟨rfl, hb⟩; refine ⟨_, rfl, ?_⟩; replace BK := bb BK hb; replace HB := Aside0.mk (below_step (be HB) hb); clear hb; have hcz1 := bz5 BK; have p1 : 0 ≤ (i : Int) := od; have q1 : i < (l2.length : Int) := od; replace p1 := eq_true p1; replace q1 := eq_true q1))
  go_ret
  exact ⟨rfl, HB.out⟩
set_option maxHeartbeats 4000000 in
theorem item_main (k : Nat) (B : Nat) (a b : Int) (A2 : Option Addr) (c2 : Nat) (l2 : List S68) (go3 c3 : Nat) (l3 : List S68) (v4 : Value) (key : ByteArray) (i j : Int) (W : World)
    (hb : W.heap[B]? = some (.cells #[.int .i64 a, .int .i64 b, .slice A2 l2.length c2, .slice (some ⟨go3, 0, none⟩) l3.length c3, v4] 30 (0, 0)))
    (hr : Kd.C k68 W A2 l2.length l2) (hc : l2.length ≤ c2) (hr3 : Kd.C k68 W (some ⟨go3, 0, none⟩) l3.length l3) (hc3 : l3.length ≤ c3) (h : impl_itemAt.f k l2 key = some i) (hi : ¬ (0 ≤ i)) (h3 : impl_itemAt.f k l3 key = some j) (h0 : 0 ≤ j) (h1 : j < (l3.length : Int)) :
    Calls Try.prog 91 #[.pointer (some ⟨B, 0, none⟩), .string key] W fun e w' => e = .returned (.pointer (some ⟨go3, j.toNat * 3, none⟩)) ∧ Below W.heap.size W w' := by
  have hu30 := Try.underlying30
  have BK := Aside0.mk hb
  have HR := Aside0.mk hr
  have HC := Aside0.mk hc
  have A6 := Aside0.mk h
  have HR3 := Aside0.mk hr3
  have HC3 := Aside0.mk hc3
  have A7 := Aside0.mk h3
  have HB := Aside0.mk (Below.refl W.heap.size W)
  have cib : decide (0 ≤ i) = false := decide_eq_false hi
  have c0b : decide (0 ≤ j) = true := decide_eq_true h0
  have c1b : decide (j < (l3.length : Int)) = true := decide_eq_true h1
  have hcz0 := bz5 BK
  clear hb hr hc h h0 h1 hi hr3 hc3 h3
  go_enter Try.func91, Try.ntmps91
  go_wp2_with (first | ((with_reducible refine gate_callee (f := 111) rfl ?_); refine gl 12 Try.func111 #[.slice A2 l2.length c2, .string key] ?_; (with_reducible refine (impl_itemAt.calls k _ _ l2 key i _ (cb HR HB) HC.out A6.out).mono ?_); rintro e w1 ⟨rfl, hb⟩; refine ⟨_, rfl, ?_⟩; replace BK := bb BK hb; replace HB := Aside0.mk (below_step (be HB) hb); clear hb; have hcz1 := bz5 BK) | ((with_reducible refine gate_callee (f := 111) rfl ?_); refine gl 26 Try.func111 #[.slice (some ⟨go3, 0, none⟩) l3.length c3, .string key] ?_; (with_reducible refine (impl_itemAt.calls k _ _ l3 key j _ (cb HR3 HB) HC3.out A7.out).mono ?_); rintro e w2 ⟨rfl, hb⟩; refine ⟨_, rfl, ?_⟩; replace BK := bb BK hb; replace HB := Aside0.mk (below_step (be HB) hb); clear hb; have hcz2 := bz5 BK; have p1 : 0 ≤ (j : Int) := od; have q1 : j < (l3.length : Int) := od; replace p1 := eq_true p1; replace q1 := eq_true q1))
  go_ret
  exact ⟨rfl, HB.out⟩
set_option maxHeartbeats 4000000 in
theorem item_none (k : Nat) (B : Nat) (a b : Int) (A2 : Option Addr) (c2 : Nat) (l2 : List S68) (A3 : Option Addr) (c3 : Nat) (l3 : List S68) (v4 : Value) (key : ByteArray) (i j : Int) (W : World)
    (hb : W.heap[B]? = some (.cells #[.int .i64 a, .int .i64 b, .slice A2 l2.length c2, .slice A3 l3.length c3, v4] 30 (0, 0)))
    (hr : Kd.C k68 W A2 l2.length l2) (hc : l2.length ≤ c2) (hr3 : Kd.C k68 W A3 l3.length l3) (hc3 : l3.length ≤ c3) (h : impl_itemAt.f k l2 key = some i) (hi : ¬ (0 ≤ i)) (h3 : impl_itemAt.f k l3 key = some j) (h0 : ¬ (0 ≤ j)) :
    Calls Try.prog 91 #[.pointer (some ⟨B, 0, none⟩), .string key] W fun e w' => e = .returned (.pointer none) ∧ Below W.heap.size W w' := by
  have hu30 := Try.underlying30
  have BK := Aside0.mk hb
  have HR := Aside0.mk hr
  have HC := Aside0.mk hc
  have A6 := Aside0.mk h
  have HR3 := Aside0.mk hr3
  have HC3 := Aside0.mk hc3
  have A7 := Aside0.mk h3
  have HB := Aside0.mk (Below.refl W.heap.size W)
  have cib : decide (0 ≤ i) = false := decide_eq_false hi
  have c0b : decide (0 ≤ j) = false := decide_eq_false h0
  have hcz0 := bz5 BK
  clear hb hr hc h h0 hi hr3 hc3 h3
  go_enter Try.func91, Try.ntmps91
  go_wp2_with (first | ((with_reducible refine gate_callee (f := 111) rfl ?_); refine gl 12 Try.func111 #[.slice A2 l2.length c2, .string key] ?_; (with_reducible refine (impl_itemAt.calls k _ _ l2 key i _ (cb HR HB) HC.out A6.out).mono ?_); rintro e w1 ⟨rfl, hb⟩; refine ⟨_, rfl, ?_⟩; replace BK := bb BK hb; replace HB := Aside0.mk (below_step (be HB) hb); clear hb; have hcz1 := bz5 BK) | ((with_reducible refine gate_callee (f := 111) rfl ?_); refine gl 26 Try.func111 #[.slice A3 l3.length c3, .string key] ?_; (with_reducible refine (impl_itemAt.calls k _ _ l3 key j _ (cb HR3 HB) HC3.out A7.out).mono ?_); rintro e w2 ⟨rfl, hb⟩; refine ⟨_, rfl, ?_⟩; replace BK := bb BK hb; replace HB := Aside0.mk (below_step (be HB) hb); clear hb; have hcz2 := bz5 BK))
  go_ret
  exact ⟨rfl, HB.out⟩
set_option maxHeartbeats 8000000 in
set_option maxRecDepth 100000 in
theorem impl_Get.calls (k : Nat) (a0_0 : Int) (a0_1 : Int) (A0_2 : Option Addr) (c0_2 : Nat) (l0_2 : List (S68)) (A0_3 : Option Addr) (c0_3 : Nat) (l0_3 : List (S68)) (A0_4 : Option Addr) (c0_4 : Nat) (l0_4 : List Int) (a1 : ByteArray) (r1 : Int) (r2 : Int) (r3 : List (S68)) (r4 : List (S68)) (r5 : List Int) (r6 : ByteArray) (r7 : Bool) (w : World) (hr0_2 : Kd.C k68 w A0_2 l0_2.length l0_2) (hc0_2 : l0_2.length ≤ c0_2) (hr0_3 : Kd.C k68 w A0_3 l0_3.length l0_3) (hc0_3 : l0_3.length ≤ c0_3) (hr0_4 : Kd.C (Kd.int .i64) w A0_4 l0_4.length l0_4) (hc0_4 : l0_4.length ≤ c0_4) (h : impl_Get.f k a0_0 a0_1 l0_2 l0_3 l0_4 a1 = some (r1, r2, r3, r4, r5, r6, r7)) :
  Calls Try.prog 36 #[.agg #[.int .i64 a0_0, .int .i64 a0_1, .slice A0_2 l0_2.length c0_2, .slice A0_3 l0_3.length c0_3, .slice A0_4 l0_4.length c0_4], .string a1] w fun e w' => ∃ v2_ v3_ v4_ : Value, e = .returned (.tuple #[.agg #[.int .i64 r1, .int .i64 r2, v2_, v3_, v4_], .string r6, .bool r7]) ∧ Kd.R k68 68 w' w.heap.size (fun k_ => some k_ ≠ (v3_ : Value).ownBlock) v2_ r3 ∧ Kd.R k68 68 w' w.heap.size (fun k_ => some k_ ≠ (v2_ : Value).ownBlock) v3_ r4 ∧ Kd.R (Kd.int .i64) 3 w' w.heap.size (fun _ => True) v4_ r5 ∧ Below w.heap.size w w' := by
 have hu30 := Try.underlying30
 have HR0_2 := Aside0.mk hr0_2
 have HC0_2 := Aside0.mk hc0_2
 clear hr0_2 hc0_2
 have HR0_3 := Aside0.mk hr0_3
 have HC0_3 := Aside0.mk hc0_3
 clear hr0_3 hc0_3
 have HR0_4 := Aside0.mk hr0_4
 have HC0_4 := Aside0.mk hc0_4
 clear hr0_4 hc0_4
 have HB := Aside0.mk (Below.refl w.heap.size w)
 have H : ((impl_ThreeOk.f k a0_0 a0_1 l0_2 l0_3 l0_4).bind fun t158 => (if t158 = true then ((impl_copyThree.f a0_0 a0_1 l0_2 l0_3 l0_4).bind fun bt159 => ((impl_itemAt.f k bt159.2.2.1 a1).bind fun t171 => (if t171 ≥ 0 then (if 0 ≤ t171 then (if t171 < (bt159.2.2.1.length : Int) then ((some (bt159.2.2.1.set (t171 : Int).toNat (⟨(rd_T68 bt159.2.2.1 t171).f0, (rd_T68 bt159.2.2.1 t171).f1, mn 3 (wrap64 (((rd_T68 bt159.2.2.1 t171).f2) + 1))⟩ : S68) : List (S68))).bind fun y173 => (some (bt159.1, bt159.2.1, y173, bt159.2.2.2.1, bt159.2.2.2.2, (rd_T68 y173 t171).f1, true))) else (none)) else (none)) else ((impl_itemAt.f k bt159.2.2.2.1 a1).bind fun t175 => (if t175 ≥ 0 then (if 0 ≤ t175 then (if t175 < (bt159.2.2.2.1.length : Int) then ((some (bt159.2.2.2.1.set (t175 : Int).toNat (⟨(rd_T68 bt159.2.2.2.1 t175).f0, (rd_T68 bt159.2.2.2.1 t175).f1, mn 3 (wrap64 (((rd_T68 bt159.2.2.2.1 t175).f2) + 1))⟩ : S68) : List (S68))).bind fun y177 => (some (bt159.1, bt159.2.1, bt159.2.2.1, y177, bt159.2.2.2.2, (rd_T68 y177 t175).f1, true))) else (none)) else (none)) else (some (bt159.1, bt159.2.1, bt159.2.2.1, bt159.2.2.2.1, bt159.2.2.2.2, (⟨#[]⟩ : ByteArray), false))))))) else (some (0, 0, ([] : List (S68)), ([] : List (S68)), ([] : List Int), (⟨#[]⟩ : ByteArray), false)))) = some (r1, r2, r3, r4, r5, r6, r7) := h
 clear h
 replace H := Option.bind_eq_some_iff.mp H
 obtain ⟨t158, A30, H⟩ := H
 replace H : (if t158 = true then ((impl_copyThree.f a0_0 a0_1 l0_2 l0_3 l0_4).bind fun bt159 => ((impl_itemAt.f k bt159.2.2.1 a1).bind fun t171 => (if t171 ≥ 0 then (if 0 ≤ t171 then (if t171 < (bt159.2.2.1.length : Int) then ((some (bt159.2.2.1.set (t171 : Int).toNat (⟨(rd_T68 bt159.2.2.1 t171).f0, (rd_T68 bt159.2.2.1 t171).f1, mn 3 (wrap64 (((rd_T68 bt159.2.2.1 t171).f2) + 1))⟩ : S68) : List (S68))).bind fun y173 => (some (bt159.1, bt159.2.1, y173, bt159.2.2.2.1, bt159.2.2.2.2, (rd_T68 y173 t171).f1, true))) else (none)) else (none)) else ((impl_itemAt.f k bt159.2.2.2.1 a1).bind fun t175 => (if t175 ≥ 0 then (if 0 ≤ t175 then (if t175 < (bt159.2.2.2.1.length : Int) then ((some (bt159.2.2.2.1.set (t175 : Int).toNat (⟨(rd_T68 bt159.2.2.2.1 t175).f0, (rd_T68 bt159.2.2.2.1 t175).f1, mn 3 (wrap64 (((rd_T68 bt159.2.2.2.1 t175).f2) + 1))⟩ : S68) : List (S68))).bind fun y177 => (some (bt159.1, bt159.2.1, bt159.2.2.1, y177, bt159.2.2.2.2, (rd_T68 y177 t175).f1, true))) else (none)) else (none)) else (some (bt159.1, bt159.2.1, bt159.2.2.1, bt159.2.2.2.1, bt159.2.2.2.2, (⟨#[]⟩ : ByteArray), false))))))) else (some (0, 0, ([] : List (S68)), ([] : List (S68)), ([] : List Int), (⟨#[]⟩ : ByteArray), false))) = some (r1, r2, r3, r4, r5, r6, r7) := H
 have A3 := Aside0.mk A30
 clear A30
 by_cases c4 : t158 = true
 ·subst c4
  have H1 : ((impl_copyThree.f a0_0 a0_1 l0_2 l0_3 l0_4).bind fun bt159 => ((impl_itemAt.f k bt159.2.2.1 a1).bind fun t171 => (if t171 ≥ 0 then (if 0 ≤ t171 then (if t171 < (bt159.2.2.1.length : Int) then ((some (bt159.2.2.1.set (t171 : Int).toNat (⟨(rd_T68 bt159.2.2.1 t171).f0, (rd_T68 bt159.2.2.1 t171).f1, mn 3 (wrap64 (((rd_T68 bt159.2.2.1 t171).f2) + 1))⟩ : S68) : List (S68))).bind fun y173 => (some (bt159.1, bt159.2.1, y173, bt159.2.2.2.1, bt159.2.2.2.2, (rd_T68 y173 t171).f1, true))) else (none)) else (none)) else ((impl_itemAt.f k bt159.2.2.2.1 a1).bind fun t175 => (if t175 ≥ 0 then (if 0 ≤ t175 then (if t175 < (bt159.2.2.2.1.length : Int) then ((some (bt159.2.2.2.1.set (t175 : Int).toNat (⟨(rd_T68 bt159.2.2.2.1 t175).f0, (rd_T68 bt159.2.2.2.1 t175).f1, mn 3 (wrap64 (((rd_T68 bt159.2.2.2.1 t175).f2) + 1))⟩ : S68) : List (S68))).bind fun y177 => (some (bt159.1, bt159.2.1, bt159.2.2.1, y177, bt159.2.2.2.2, (rd_T68 y177 t175).f1, true))) else (none)) else (none)) else (some (bt159.1, bt159.2.1, bt159.2.2.1, bt159.2.2.2.1, bt159.2.2.2.2, (⟨#[]⟩ : ByteArray), false))))))) = some (r1, r2, r3, r4, r5, r6, r7) := by rw [if_pos rfl] at H; exact H
  clear H
  have H := H1
  clear H1
  replace H := Option.bind_eq_some_iff.mp H
  obtain ⟨⟨t159, t160, t161, t164, t167⟩, A50, H⟩ := H
  replace H : ((impl_itemAt.f k t161 a1).bind fun t171 => (if t171 ≥ 0 then (if 0 ≤ t171 then (if t171 < (t161.length : Int) then ((some (t161.set (t171 : Int).toNat (⟨(rd_T68 t161 t171).f0, (rd_T68 t161 t171).f1, mn 3 (wrap64 (((rd_T68 t161 t171).f2) + 1))⟩ : S68) : List (S68))).bind fun y173 => (some (t159, t160, y173, t164, t167, (rd_T68 y173 t171).f1, true))) else (none)) else (none)) else ((impl_itemAt.f k t164 a1).bind fun t175 => (if t175 ≥ 0 then (if 0 ≤ t175 then (if t175 < (t164.length : Int) then ((some (t164.set (t175 : Int).toNat (⟨(rd_T68 t164 t175).f0, (rd_T68 t164 t175).f1, mn 3 (wrap64 (((rd_T68 t164 t175).f2) + 1))⟩ : S68) : List (S68))).bind fun y177 => (some (t159, t160, t161, y177, t167, (rd_T68 y177 t175).f1, true))) else (none)) else (none)) else (some (t159, t160, t161, t164, t167, (⟨#[]⟩ : ByteArray), false)))))) = some (r1, r2, r3, r4, r5, r6, r7) := H
  have A5 := Aside0.mk A50
  clear A50
  replace H := Option.bind_eq_some_iff.mp H
  obtain ⟨t171, A60, H⟩ := H
  replace H : (if t171 ≥ 0 then (if 0 ≤ t171 then (if t171 < (t161.length : Int) then ((some (t161.set (t171 : Int).toNat (⟨(rd_T68 t161 t171).f0, (rd_T68 t161 t171).f1, mn 3 (wrap64 (((rd_T68 t161 t171).f2) + 1))⟩ : S68) : List (S68))).bind fun y173 => (some (t159, t160, y173, t164, t167, (rd_T68 y173 t171).f1, true))) else (none)) else (none)) else ((impl_itemAt.f k t164 a1).bind fun t175 => (if t175 ≥ 0 then (if 0 ≤ t175 then (if t175 < (t164.length : Int) then ((some (t164.set (t175 : Int).toNat (⟨(rd_T68 t164 t175).f0, (rd_T68 t164 t175).f1, mn 3 (wrap64 (((rd_T68 t164 t175).f2) + 1))⟩ : S68) : List (S68))).bind fun y177 => (some (t159, t160, t161, y177, t167, (rd_T68 y177 t175).f1, true))) else (none)) else (none)) else (some (t159, t160, t161, t164, t167, (⟨#[]⟩ : ByteArray), false))))) = some (r1, r2, r3, r4, r5, r6, r7) := H
  have A6 := Aside0.mk A60
  clear A60
  by_cases c7 : t171 ≥ 0
  ·rw [if_pos c7] at H
   have c7b0 : decide (0 ≤ t171) = true := decide_eq_true c7
   clear c7
   by_cases c8 : 0 ≤ t171
   ·rw [if_pos c8] at H
    have c8b0 : decide (0 ≤ t171) = true := decide_eq_true c8
    clear c8
    by_cases c9 : t171 < (t161.length : Int)
    ·rw [if_pos c9] at H
     have c9b0 : decide (t171 < (t161.length : Int)) = true := decide_eq_true c9
     clear c9
     obtain ⟨ji10, hji10⟩ : ∃ j_ : Int, (mn 3 (wrap64 (((rd_T68 t161 t171).f2) + 1))) = j_ := ⟨_, rfl⟩
     replace H : ((some (t161.set (t171 : Int).toNat (⟨(rd_T68 t161 t171).f0, (rd_T68 t161 t171).f1, ji10⟩ : S68) : List (S68))).bind fun y173 => (some (t159, t160, y173, t164, t167, (rd_T68 y173 t171).f1, true))) = some (r1, r2, r3, r4, r5, r6, r7) := by first | (rw [hji10] at H; exact H) | (simp only [hji10] at H ⊢; exact H)
     (try rw [hji10] at A3)
     (try rw [hji10] at A5)
     (try rw [hji10] at A6)
     (try (have hji10h : ji10 ≤ 3 := by (rw [← hji10]; unfold mn; (repeat' split) <;> omega)))
     (try (have hji10g : ji10 ≤ 64 := by omega))
     have hji10_ : (if (wrap64 (((rd_T68 t161 t171).f2) + 1)) < 3 then (wrap64 (((rd_T68 t161 t171).f2) + 1)) else 3) = ji10 := hji10
     obtain ⟨y173, hy173⟩ : ∃ y_ : List (S68), y_ = (t161.set (t171 : Int).toNat (⟨(rd_T68 t161 t171).f0, (rd_T68 t161 t171).f1, ji10⟩ : S68)) := ⟨_, rfl⟩
     replace H : (some (t159, t160, y173, t164, t167, (rd_T68 y173 t171).f1, true)) = some (r1, r2, r3, r4, r5, r6, r7) := by first | (rw [hy173]; with_reducible exact H) | (have H2_ := (Option.bind_some _ _).symm.trans H; rw [hy173]; with_reducible exact H2_) | (have H2_ := (Option.bind_some _ _).symm.trans H; with_reducible exact H2_) | with_reducible exact H | (rw [hy173]; exact H) | exact H
     have Ny173 := Aside0.mk hy173
     clear hy173
     simp only [Option.some.injEq, Prod.mk.injEq] at H
     obtain ⟨rfl, rfl, rfl, rfl, rfl, rfl, rfl⟩ := H
     go_enter Try.func36, Try.ntmps36
     go_wp2_with (first | ((with_reducible refine gate_dst (N := 2) rfl ?_); refine bx 2 #[.int .i64 a0_0, .int .i64 a0_1, .slice A0_2 l0_2.length c0_2, .slice A0_3 l0_3.length c0_3, .slice A0_4 l0_4.length c0_4] 30 ?_; intro gb156 hg w12 hbox hb; have BK156 := am hbox; have GW156 := gs0 hg HB; have GE156 := gs0 hg HB; replace HB := s0 HB hb; clear hb hbox hg) | ((with_reducible refine gate_dst (N := 4) rfl ?_); refine bx 4 #[.int .i64 0, .int .i64 0, .slice none 0 0, .slice none 0 0, .slice none 0 0] 30 ?_; intro gb157 hg w13 hbox hb; have BK157 := am hbox; have GW157 := gs1 hg HB GE156; have GE157 := gs1 hg HB GE156; replace HB := Aside0.mk (below_step (be1 HB GE156) hb); have NB156_157 := nl hg BK156; have NB157_156 := ng hg BK156; replace BK156 := bb BK156 hb; clear hb hbox hg; have hnb14 := NB156_157.out; have hnc14 := NB157_156.out; have hcz15_0 := bz5 BK156) | ((with_reducible refine gate_callee (f := 19) rfl ?_); refine gl 10 Try.func19 #[.agg #[.int .i64 a0_0, .int .i64 a0_1, .slice A0_2 l0_2.length c0_2, .slice A0_3 l0_3.length c0_3, .slice A0_4 l0_4.length c0_4]] ?_; (with_reducible refine (impl_ThreeOk.calls k a0_0 a0_1 _ _ l0_2 _ _ l0_3 _ _ l0_4 true _ (cb HR0_2 HB) HC0_2.out (cb HR0_3 HB) HC0_3.out (cb HR0_4 HB) HC0_4.out A3.out).mono ?_); rintro e w16 ⟨rfl, hb⟩; refine ⟨_, rfl, ?_⟩; replace BK156 := bb BK156 hb; replace BK157 := bb BK157 hb; replace HB := Aside0.mk (below_step (be2 HB GE156 GE157) hb); (try clear hb); have hcz17_0 := bz5 BK156) | ((with_reducible refine gate_callee (f := 87) rfl ?_); refine gl 14 Try.func87 #[.agg #[.int .i64 a0_0, .int .i64 a0_1, .slice A0_2 l0_2.length c0_2, .slice A0_3 l0_3.length c0_3, .slice A0_4 l0_4.length c0_4]] ?_; (with_reducible refine (impl_copyThree.calls a0_0 a0_1 _ _ l0_2 _ _ l0_3 _ _ l0_4 t159 t160 t161 t164 t167 _ (cb HR0_2 HB) HC0_2.out (cb HR0_3 HB) HC0_3.out (cb HR0_4 HB) HC0_4.out A5.out).mono ?_); rintro e w18 ⟨v162, v165, v168, rfl, ho0, ho1, ho2, hb⟩; refine ⟨_, rfl, ?_⟩; have HO163 := Aside0.mk (Kd.R_lower ho0 (below_size (be2 HB GE156 GE157))); have HO166 := Aside0.mk (Kd.R_lower ho1 (below_size (be2 HB GE156 GE157))); have HO169 := Aside0.mk (Kd.R_lower ho2 (below_size (be2 HB GE156 GE157))); replace BK156 := bb BK156 hb; replace BK157 := bb BK157 hb; replace HB := Aside0.mk (below_step (be2 HB GE156 GE157) hb); (try clear hb); (try clear ho0); (try clear ho1); (try clear ho2)) | ((with_reducible refine gate_dst (N := 7) rfl ?_); refine bx 7 #[.int .i64 0, .int .i64 0, .slice none 0 0, .slice none 0 0, .slice none 0 0] 30 ?_; intro gb170 hg w19 hbox hb; replace HO163 := rb HO163 hb; replace HO166 := rb HO166 hb; replace HO169 := rb HO169 hb; have BK170 := am hbox; have GW170 := gs2 hg HB GE156 GE157; have GE170 := gs2 hg HB GE156 GE157; replace HB := Aside0.mk (below_step (be2 HB GE156 GE157) hb); have NB156_170 := nl hg BK156; have NB170_156 := ng hg BK156; replace BK156 := bb BK156 hb; have NB157_170 := nl hg BK157; have NB170_157 := ng hg BK157; replace BK157 := bb BK157 hb; clear hb hbox hg; have hnb20 := NB170_156.out; have hnc20 := NB156_170.out; have hnb21 := NB170_157.out; have hnc21 := NB157_170.out; have hcz22_0 := bz5 BK170; obtain ⟨Ao23, co23, eo23⟩ := Kd.R_slice HO163.out; subst eo23; obtain ⟨Ao24, co24, eo24⟩ := Kd.R_slice HO166.out; subst eo24; obtain ⟨Ao25, co25, eo25⟩ := Kd.R_slice HO169.out; subst eo25) | ((with_reducible refine gate_callee (f := 91) rfl ?_); have p9 : 0 ≤ (t171 : Int) := od; have q9 : (t171 : Int) < ((t161.length : Int) : Int) := od; obtain ⟨go11, cq9, eo9, _⟩ := Kd.R_form HO163.out (by omega); (first | cases eo9 | (injection eo9 with ea_ en_ ec_; (first | subst ea_ | (injection ea_ with ea_; subst ea_)); subst ec_; clear en_)); clear p9 q9; refine gl 16 Try.func91 #[.pointer (some ⟨gb170, 0, none⟩), .string a1] ?_; (with_reducible refine (item_small k gb170 t159 t160 go11 co23 t161 (.slice Ao24 t164.length co24) (.slice Ao25 t167.length co25) a1 t171 _ ?sideP ?side1 ((Kd.R_reads' HO163.out).2.1) A6.out od od).mono ?_); (case sideP => exact (bp BK170)); (case side1 => exact rfr _ HO163 BK170); rintro e w26 ⟨rfl, hb⟩; refine ⟨_, rfl, ?_⟩; replace HO163 := Aside0.mk (Kd.R_below (rf HO163 BK170) hb); replace HO166 := Aside0.mk (Kd.R_below (rf HO166 BK170) hb); replace HO169 := Aside0.mk (Kd.R_below (rf HO169 BK170) hb); replace BK156 := Aside0.mk (blk_below (g := gb156) (o := .cells #[.int .i64 a0_0, .int .i64 a0_1, .slice A0_2 l0_2.length c0_2, .slice A0_3 l0_3.length c0_3, .slice A0_4 l0_4.length c0_4] 30 (0, 0)) (bf1 BK156 NB156_170) hb); replace BK157 := Aside0.mk (blk_below (g := gb157) (o := .cells #[.int .i64 0, .int .i64 0, .slice none 0 0, .slice none 0 0, .slice none 0 0] 30 (0, 0)) (bf1 BK157 NB157_170) hb); replace BK170 := Aside0.mk (blk_below (g := gb170) (o := .cells #[.int .i64 t159, .int .i64 t160, .slice (some ⟨go11, 0, none⟩) t161.length co23, .slice Ao24 t164.length co24, .slice Ao25 t167.length co25] 30 (0, 0)) (bp BK170) hb); replace HB := Aside0.mk (below_step (be3 HB GE156 GE157 GE170) hb); (try clear hb); have hcz27_0 := bz5 BK170; have p11 : 0 ≤ (t171 : Int) := od; have q11 : (t171 : Int) < ((t161.length : Int) : Int) := od; obtain ⟨gz_, cz_, ez_, gb11, gl11, cl11, HG11⟩ := Kd.R_form HO163.out (by omega); have ez2_ : go11 = gz_ := (by cases ez_; rfl); subst ez2_; clear ez_; have GB11 := Aside0.mk gb11; have GG11 := Aside0.mk HG11; clear gb11 gl11 HG11; (first | simp only [add_plain] at hx172_0 | skip); (first | simp only [add_plain] at hx172_1 | skip); (first | simp only [add_plain] at hx172_2 | skip); obtain ⟨ce11, hcl11, hM11, hcc11, hfr11⟩ := Kd.R_elem HO163.out z68 (t171 : Int) p11 q11; obtain rfl := k68_openM hM11; have hx11_0 : w26.cell? ⟨go11, (t171 : Int).toNat * 3, none⟩ = some (.string ((rd_T68 t161 t171).f0)) := hcc11 0 _ rfl; have hx11_1 : w26.cell? ⟨go11, (t171 : Int).toNat * 3 + 1, none⟩ = some (.string ((rd_T68 t161 t171).f1)) := hcc11 1 _ rfl; have hx11_2 : w26.cell? ⟨go11, (t171 : Int).toNat * 3 + 2, none⟩ = some (.int .i64 ((rd_T68 t161 t171).f2)) := hcc11 2 _ rfl; have hf11_0 : w26.frozen? ⟨go11, (t171 : Int).toNat * 3, none⟩ = false := hfr11 0; have hf11_1 : w26.frozen? ⟨go11, (t171 : Int).toNat * 3 + 1, none⟩ = false := hfr11 1; have hf11_2 : w26.frozen? ⟨go11, (t171 : Int).toNat * 3 + 2, none⟩ = false := hfr11 2; clear hcl11 hcc11 hfr11 hM11; replace p11 := eq_true p11; replace q11 := eq_true q11; have HX28 := Aside0.mk (show Kd.R k68 68 w26 w.heap.size (fun k_ => nb k_ Ao24 t164.length co24) (.slice (some ⟨go11, 0, none⟩) t161.length co23) t161 from (ro HO163)); obtain ⟨ce28, hcl28, hM28, hcc28, hfr28⟩ := Kd.R_elem HX28.out z68 (t171 : Int) (od) (by have h_ : (t171 : Int) < ((t161.length : Int) : Int) := od; first | exact h_ | (have e_ := (Kd.R_reads' HO163.out).1; omega) | simpa using h_); obtain rfl := k68_openM hM28; have HP28 := Kd.R_seg HX28.out (t171 : Int) (od) (by have h_ : (t171 : Int) < ((t161.length : Int) : Int) := od; first | exact h_ | (have e_ := (Kd.R_reads' HO163.out).1; omega) | simpa using h_) (seg := [.int .i64 ji10]) (j := 2) hcl28 hcc28 (show 3 ≤ 3 from by decide) (x' := (⟨(rd_T68 t161 t171).f0, (rd_T68 t161 t171).f1, ji10⟩ : S68)) (k68_mkM _ _ _ (⟨(rd_T68 t161 t171).f0, (rd_T68 t161 t171).f1, ji10⟩ : S68) ) (fun _ hk => hk); have hx28_2 := hcc28 2 _ rfl; (try simp only [show (k68).sz = 3 from rfl, Nat.mul_one, Nat.add_zero] at hx28_2); have hf28_2 := hfr28 2; (try simp only [show (k68).sz = 3 from rfl, Nat.mul_one, Nat.add_zero] at hf28_2); clear hcl28 hcc28 hfr28 hM28) | ((with_reducible refine gate_store (t := 3) (p := 28) rfl ?_); refine store_event (t := 3) (p := 28) (v := ?vo_w29) (w1 := (w26.setCell ⟨go11, (t171 : Int).toNat * 3 + 2, none⟩ (.int .i64 ji10))) ?hg ?ho ?hn ?hr ?_; (case ho => rfl); (case hg => rfl); (case hn => rfl); (case hr => first | (go_simp; done) | (go_simp; rfl)); intro w29 hw; have hg : w26.grownBy w29 (some go11) := (by rw [hw]; exact HP28.2); have hp_ : Kd.R k68 68 w29 w.heap.size (fun k_ => nb k_ Ao24 t164.length co24) (.slice (some ⟨go11, 0, none⟩) t161.length co23) y173 := (by rw [hw, Ny173.out]; exact HP28.1); clear HP28; replace BK156 := Aside0.mk (blk_grown (g := gb156) (o := .cells #[.int .i64 a0_0, .int .i64 a0_1, .slice A0_2 l0_2.length c0_2, .slice A0_3 l0_3.length c0_3, .slice A0_4 l0_4.length c0_4] 30 (0, 0)) (bk BK156) hg (Kd.R_ne HO163.out BK156.out (by decide))); replace BK157 := Aside0.mk (blk_grown (g := gb157) (o := .cells #[.int .i64 0, .int .i64 0, .slice none 0 0, .slice none 0 0, .slice none 0 0] 30 (0, 0)) (bk BK157) hg (Kd.R_ne HO163.out BK157.out (by decide))); replace HO166 := Aside0.mk (Kd.R_after (v := (.slice (some ⟨go11, 0, none⟩) t161.length co23)) (v1 := (.slice (some ⟨go11, 0, none⟩) t161.length co23)) (ok := (fun _ => True)) (by (with_reducible repeat (first | apply Kd.R_alloc | apply Kd.R_drewN | apply Kd.R_drew)); exact rm HO166) hg (.inl rfl)); replace HO169 := Aside0.mk (Kd.R_over' (v := (.slice (some ⟨go11, 0, none⟩) t161.length co23)) (ro HO169) (Kd.R_typed HO163.out) (by decide) hg); replace BK170 := Aside0.mk (blk_grown (g := gb170) (o := .cells #[.int .i64 t159, .int .i64 t160, .slice (some ⟨go11, 0, none⟩) t161.length co23, .slice Ao24 t164.length co24, .slice Ao25 t167.length co25] 30 (0, 0)) (bk BK170) hg (Kd.R_ne HO163.out BK170.out (by decide))); replace HO163 := Aside0.mk (hp_); replace HB := Aside0.mk ((by rw [hw]; exact below_set (HB.out) GB11.out : Below w.heap.size w w29)); clear hg hw hp_; have hcz30_0 := bz5 BK170; have p174 : 0 ≤ (t171 : Int) := od; have q174 : t171 < (y173.length : Int) := (by have h_ : (t171 : Int) < ((t161.length : Int) : Int) := od; first | (have e_ := (Kd.R_reads' HO163.out).1; omega) | simpa only [Ny173.out, List.length_set] using h_); have ql174 : ((t171 : Int) < ((t161.length : Int) : Int)) = True := eq_true (od); obtain ⟨ad174, e174, hx174_0, hx174_1, hx174_2⟩ := at_T68 (Kd.R_reads' HO163.out).2.2 t171 p174 q174; obtain rfl : (⟨go11, 0, none⟩ : Addr) = ad174 := (by injection e174); (first | simp only [add_plain] at hx174_0 | simp only [add_at] at hx174_0 | simp only [Addr.add, Nat.zero_add] at hx174_0 | skip); (first | simp only [add_plain] at hx174_1 | simp only [add_at] at hx174_1 | simp only [Addr.add, Nat.zero_add] at hx174_1 | skip); (first | simp only [add_plain] at hx174_2 | simp only [add_at] at hx174_2 | simp only [Addr.add, Nat.zero_add] at hx174_2 | skip); replace p174 := eq_true p174; replace q174 := eq_true q174; have hcz31_0 := bz5 BK157; have hnb9 : gb157 ≠ go11 := fun e_ => (Kd.R_ne HO163.out BK157.out (by decide)) (by rw [e_]; rfl); have hnc9 : go11 ≠ gb157 := fun e_ => hnb9 e_.symm))
     replace HO163 := Aside0.mk (Kd.R_drew HO163.out)
     replace HO166 := Aside0.mk (Kd.R_drew HO166.out)
     replace HO169 := Aside0.mk (Kd.R_drew HO169.out)
     replace BK156 := Aside0.mk (blk_drew BK156.out)
     replace BK157 := Aside0.mk (blk_drew BK157.out)
     replace BK170 := Aside0.mk (blk_drew BK170.out)
     replace HB := Aside0.mk (below_drew1 HB.out)
     have hv9 : w29.drew.cell? ⟨go11, (t171 : Int).toNat * 3 + 1, none⟩ = some (.string ((rd_T68 y173 t171).f1)) := hx174_1
     refine start_ (n := 8) (S := fun w' => w'.cell? ⟨gb170, 0, none⟩ = some (.int .i64 t159) ∧ w'.cell? ⟨gb170, 1, none⟩ = some (.int .i64 t160) ∧ w'.cell? ⟨gb170, 2, none⟩ = some (.slice (some ⟨go11, 0, none⟩) t161.length co23) ∧ w'.cell? ⟨gb170, 3, none⟩ = some (.slice Ao24 t164.length co24) ∧ w'.cell? ⟨gb170, 4, none⟩ = some (.slice Ao25 t167.length co25) ∧ w'.cell? ⟨go11, (t171 : Int).toNat * 3 + 1, none⟩ = some (.string ((rd_T68 y173 t171).f1))) (ds := []) #[false, false, false, false, false, false, false, false] (by kernel_rfl) rfl rfl ⟨bc0 BK170, bc1 BK170, bc2 BK170, bc3 BK170, bc4 BK170, hv9⟩ (fun hHeld => ?_)
     clear hv9
     generalize w29.drew = w99 at HO163 HO166 HO169 BK156 BK157 BK170 HB hHeld ⊢
     refine pure_ (i := 1) (N := some 30) (v := ?_) (a' := ?_) #[false, true, false, false, false, false, false, false] rfl rfl (by kernel_rfl) (fun _ _ _ h => h) (Or.inl ⟨by rfl, ?_⟩) ?_ ?_
     rotate_left
     ·intro w'
      go_simp
      with_reducible rfl
     rotate_left
     ·simp only [aP]
      rfl
     refine pure_ (i := 2) (N := some 31) (v := ?_) (a' := ?_) #[false, true, true, false, false, false, false, false] rfl rfl (by kernel_rfl) (fun _ _ _ h => h) (Or.inl ⟨by rfl, ?_⟩) ?_ ?_
     rotate_left
     ·intro w'
      go_simp
      with_reducible rfl
     rotate_left
     ·simp only [aP]
      rfl
     refine pure_ (i := 3) (N := some 32) (v := ?_) (a' := ?_) #[false, true, true, true, false, false, false, false] rfl rfl (by kernel_rfl) (fun _ _ _ h => h) (Or.inl ⟨by rfl, ?_⟩) ?_ ?_
     rotate_left
     ·intro w'
      go_simp
      with_reducible rfl
     rotate_left
     ·simp only [aP]
      rfl
     refine take_ (i := 0) (N := some 29) (v := ?_) (a' := ?_) #[true, true, true, true, false, false, false, false] rfl rfl (by kernel_rfl) (fun _ _ _ h => h) (Or.inl ⟨by rfl, ?_⟩) hHeld ?_ ?_
     rotate_left
     ·rintro w' ⟨s0, s1, s2, s3, s4, s5⟩
      go_simp
      with_reducible rfl
     rotate_left
     ·simp only [aP]
      rfl
     refine take_ (i := 4) (N := some 33) (v := ?_) (a' := ?_) #[true, true, true, true, true, false, false, false] rfl rfl (by kernel_rfl) (fun _ _ _ h => h) (Or.inl ⟨by rfl, ?_⟩) hHeld ?_ ?_
     rotate_left
     ·rintro w' ⟨s0, s1, s2, s3, s4, s5⟩
      go_simp
      with_reducible rfl
     rotate_left
     ·simp only [aP]
      rfl
     refine one_ (i := 5) (N := none) #[true, true, true, true, true, true, false, false] rfl rfl (by kernel_rfl) (by decide) (fun K hK => ?_)
     have hs09 : w99.cell? ⟨gb157, 0, none⟩ = some (.int .i64 0) := bc0 BK157
     have hfs09 := blk_frozen BK157.out 0
     have hs19 : w99.cell? ⟨gb157, 1, none⟩ = some (.int .i64 0) := bc1 BK157
     have hfs19 := blk_frozen BK157.out 1
     have hs29 : w99.cell? ⟨gb157, 2, none⟩ = some (.slice none 0 0) := bc2 BK157
     have hfs29 := blk_frozen BK157.out 2
     have hs39 : w99.cell? ⟨gb157, 3, none⟩ = some (.slice none 0 0) := bc3 BK157
     have hfs39 := blk_frozen BK157.out 3
     have hs49 : w99.cell? ⟨gb157, 4, none⟩ = some (.slice none 0 0) := bc4 BK157
     have hfs49 := blk_frozen BK157.out 4
     have hns9 := NB170_157.out
     have hms9 := NB157_170.out
     refine skip_ (w1 := ?_) (by rfl) rfl ?_ ?_
     rotate_left
     ·go_simp
      rfl
     refine hK.out _ _ ⟨((cell_far (p := ⟨gb157, _, none⟩) NB170_157.out _).trans ((cell_far (p := ⟨gb157, _, none⟩) NB170_157.out _).trans ((cell_far (p := ⟨gb157, _, none⟩) NB170_157.out _).trans ((cell_far (p := ⟨gb157, _, none⟩) NB170_157.out _).trans ((cell_far (p := ⟨gb157, _, none⟩) NB170_157.out _).trans (hHeld.1)))))), ((cell_far (p := ⟨gb157, _, none⟩) NB170_157.out _).trans ((cell_far (p := ⟨gb157, _, none⟩) NB170_157.out _).trans ((cell_far (p := ⟨gb157, _, none⟩) NB170_157.out _).trans ((cell_far (p := ⟨gb157, _, none⟩) NB170_157.out _).trans ((cell_far (p := ⟨gb157, _, none⟩) NB170_157.out _).trans (hHeld.2.1)))))), ((cell_far (p := ⟨gb157, _, none⟩) NB170_157.out _).trans ((cell_far (p := ⟨gb157, _, none⟩) NB170_157.out _).trans ((cell_far (p := ⟨gb157, _, none⟩) NB170_157.out _).trans ((cell_far (p := ⟨gb157, _, none⟩) NB170_157.out _).trans ((cell_far (p := ⟨gb157, _, none⟩) NB170_157.out _).trans (hHeld.2.2.1)))))), ((cell_far (p := ⟨gb157, _, none⟩) NB170_157.out _).trans ((cell_far (p := ⟨gb157, _, none⟩) NB170_157.out _).trans ((cell_far (p := ⟨gb157, _, none⟩) NB170_157.out _).trans ((cell_far (p := ⟨gb157, _, none⟩) NB170_157.out _).trans ((cell_far (p := ⟨gb157, _, none⟩) NB170_157.out _).trans (hHeld.2.2.2.1)))))), ((cell_far (p := ⟨gb157, _, none⟩) NB170_157.out _).trans ((cell_far (p := ⟨gb157, _, none⟩) NB170_157.out _).trans ((cell_far (p := ⟨gb157, _, none⟩) NB170_157.out _).trans ((cell_far (p := ⟨gb157, _, none⟩) NB170_157.out _).trans ((cell_far (p := ⟨gb157, _, none⟩) NB170_157.out _).trans (hHeld.2.2.2.2.1)))))), ((cell_far (p := ⟨gb157, _, none⟩) hnc9 _).trans ((cell_far (p := ⟨gb157, _, none⟩) hnc9 _).trans ((cell_far (p := ⟨gb157, _, none⟩) hnc9 _).trans ((cell_far (p := ⟨gb157, _, none⟩) hnc9 _).trans ((cell_far (p := ⟨gb157, _, none⟩) hnc9 _).trans (hHeld.2.2.2.2.2))))))⟩ (fun hHeld => ?_)
     clear hK K
     refine pure_ (i := 6) (N := some 5) (v := ?_) (a' := ?_) #[true, true, true, true, true, true, true, false] rfl rfl (by kernel_rfl) (fun _ _ _ h => h) (Or.inl ⟨by rfl, ?_⟩) ?_ ?_
     rotate_left
     ·intro w'
      go_simp
      with_reducible rfl
     rotate_left
     ·simp only [aP]
      rfl
     refine pure_ (i := 7) (N := some 6) (v := ?_) (a' := ?_) #[true, true, true, true, true, true, true, true] rfl rfl (by kernel_rfl) (fun _ _ _ h => h) (Or.inl ⟨by rfl, ?_⟩) ?_ ?_
     rotate_left
     ·intro w'
      go_simp
      with_reducible rfl
     rotate_left
     ·simp only [aP]
      rfl
     refine done_ (by kernel_rfl) ?_
     try go_wp2
     refine bodyPost_ret (results_ctt rfl _ _ gb157 30 #[.int .i64 t159, .int .i64 t160, .slice (some ⟨go11, 0, none⟩) t161.length co23, .slice Ao24 t164.length co24, .slice Ao25 t167.length co25] (0, 0) _ rfl (bp BK157) Try.underlying30 rfl (by kernel_rfl)) rfl ?_
     exact ⟨_, _, _, by first | rfl | (simp [errW_none, errW_some] <;> rfl) | (simp only [← hji10]; first | rfl | (simp [errW_none, errW_some] <;> rfl)) | (simp [*, errW_none, errW_some] <;> rfl), (rf HO163 BK157), by (with_reducible repeat (first | apply Kd.R_alloc | apply Kd.R_drewN | apply Kd.R_drew)); exact Kd.R_mono (Kd.R_far (p := ⟨gb157, 4, none⟩) (Kd.R_far (p := ⟨gb157, 3, none⟩) (Kd.R_far (p := ⟨gb157, 2, none⟩) (Kd.R_far (p := ⟨gb157, 1, none⟩) (Kd.R_far (p := ⟨gb157, 0, none⟩) (Kd.R_types HO166.out BK157.out (by decide)) (fun _ hk => hk.2) (.int .i64 t159)) (fun _ hk => hk.2) (.int .i64 t160)) (fun _ hk => hk.2) (.slice (some ⟨go11, 0, none⟩) t161.length co23)) (fun _ hk => hk.2) (.slice Ao24 t164.length co24)) (fun _ hk => hk.2) (.slice Ao25 t167.length co25)) (fun _ hk => hk.1.2), by (with_reducible repeat (first | apply Kd.R_alloc | apply Kd.R_drewN | apply Kd.R_drew)); exact Kd.R_mono (Kd.R_far (p := ⟨gb157, 4, none⟩) (Kd.R_far (p := ⟨gb157, 3, none⟩) (Kd.R_far (p := ⟨gb157, 2, none⟩) (Kd.R_far (p := ⟨gb157, 1, none⟩) (Kd.R_far (p := ⟨gb157, 0, none⟩) (Kd.R_types HO169.out BK157.out (by decide)) (fun _ hk => hk.2) (.int .i64 t159)) (fun _ hk => hk.2) (.int .i64 t160)) (fun _ hk => hk.2) (.slice (some ⟨go11, 0, none⟩) t161.length co23)) (fun _ hk => hk.2) (.slice Ao24 t164.length co24)) (fun _ hk => hk.2) (.slice Ao25 t167.length co25)) (fun _ hk => trivial), be3 HB GE156 GE157 GE170⟩
    rw [if_neg c9] at H
    exact absurd H (by simp)
   rw [if_neg c8] at H
   exact absurd H (by simp)
  rw [if_neg c7] at H
  have c7b0 : decide (0 ≤ t171) = false := decide_eq_false c7
  clear c7
  replace H := Option.bind_eq_some_iff.mp H
  obtain ⟨t175, A320, H⟩ := H
  replace H : (if t175 ≥ 0 then (if 0 ≤ t175 then (if t175 < (t164.length : Int) then ((some (t164.set (t175 : Int).toNat (⟨(rd_T68 t164 t175).f0, (rd_T68 t164 t175).f1, mn 3 (wrap64 (((rd_T68 t164 t175).f2) + 1))⟩ : S68) : List (S68))).bind fun y177 => (some (t159, t160, t161, y177, t167, (rd_T68 y177 t175).f1, true))) else (none)) else (none)) else (some (t159, t160, t161, t164, t167, (⟨#[]⟩ : ByteArray), false))) = some (r1, r2, r3, r4, r5, r6, r7) := H
  have A32 := Aside0.mk A320
  clear A320
  by_cases c33 : t175 ≥ 0
  ·rw [if_pos c33] at H
   have c33b0 : decide (0 ≤ t175) = true := decide_eq_true c33
   clear c33
   by_cases c34 : 0 ≤ t175
   ·rw [if_pos c34] at H
    have c34b0 : decide (0 ≤ t175) = true := decide_eq_true c34
    clear c34
    by_cases c35 : t175 < (t164.length : Int)
    ·rw [if_pos c35] at H
     have c35b0 : decide (t175 < (t164.length : Int)) = true := decide_eq_true c35
     clear c35
     obtain ⟨ji36, hji36⟩ : ∃ j_ : Int, (mn 3 (wrap64 (((rd_T68 t164 t175).f2) + 1))) = j_ := ⟨_, rfl⟩
     replace H : ((some (t164.set (t175 : Int).toNat (⟨(rd_T68 t164 t175).f0, (rd_T68 t164 t175).f1, ji36⟩ : S68) : List (S68))).bind fun y177 => (some (t159, t160, t161, y177, t167, (rd_T68 y177 t175).f1, true))) = some (r1, r2, r3, r4, r5, r6, r7) := by first | (rw [hji36] at H; exact H) | (simp only [hji36] at H ⊢; exact H)
     (try rw [hji36] at A3)
     (try rw [hji36] at A5)
     (try rw [hji36] at A6)
     (try rw [hji36] at A32)
     (try (have hji36h : ji36 ≤ 3 := by (rw [← hji36]; unfold mn; (repeat' split) <;> omega)))
     (try (have hji36g : ji36 ≤ 64 := by omega))
     have hji36_ : (if (wrap64 (((rd_T68 t164 t175).f2) + 1)) < 3 then (wrap64 (((rd_T68 t164 t175).f2) + 1)) else 3) = ji36 := hji36
     obtain ⟨y177, hy177⟩ : ∃ y_ : List (S68), y_ = (t164.set (t175 : Int).toNat (⟨(rd_T68 t164 t175).f0, (rd_T68 t164 t175).f1, ji36⟩ : S68)) := ⟨_, rfl⟩
     replace H : (some (t159, t160, t161, y177, t167, (rd_T68 y177 t175).f1, true)) = some (r1, r2, r3, r4, r5, r6, r7) := by first | (rw [hy177]; with_reducible exact H) | (have H2_ := (Option.bind_some _ _).symm.trans H; rw [hy177]; with_reducible exact H2_) | (have H2_ := (Option.bind_some _ _).symm.trans H; with_reducible exact H2_) | with_reducible exact H | (rw [hy177]; exact H) | exact H
     have Ny177 := Aside0.mk hy177
     clear hy177
     simp only [Option.some.injEq, Prod.mk.injEq] at H
     obtain ⟨rfl, rfl, rfl, rfl, rfl, rfl, rfl⟩ := H
     go_enter Try.func36, Try.ntmps36
     go_wp2_with (first | ((with_reducible refine gate_dst (N := 2) rfl ?_); refine bx 2 #[.int .i64 a0_0, .int .i64 a0_1, .slice A0_2 l0_2.length c0_2, .slice A0_3 l0_3.length c0_3, .slice A0_4 l0_4.length c0_4] 30 ?_; intro gb156 hg w38 hbox hb; have BK156 := am hbox; have GW156 := gs0 hg HB; have GE156 := gs0 hg HB; replace HB := s0 HB hb; clear hb hbox hg) | ((with_reducible refine gate_dst (N := 4) rfl ?_); refine bx 4 #[.int .i64 0, .int .i64 0, .slice none 0 0, .slice none 0 0, .slice none 0 0] 30 ?_; intro gb157 hg w39 hbox hb; have BK157 := am hbox; have GW157 := gs1 hg HB GE156; have GE157 := gs1 hg HB GE156; replace HB := Aside0.mk (below_step (be1 HB GE156) hb); have NB156_157 := nl hg BK156; have NB157_156 := ng hg BK156; replace BK156 := bb BK156 hb; clear hb hbox hg; have hnb40 := NB156_157.out; have hnc40 := NB157_156.out; have hcz41_0 := bz5 BK156) | ((with_reducible refine gate_callee (f := 19) rfl ?_); refine gl 10 Try.func19 #[.agg #[.int .i64 a0_0, .int .i64 a0_1, .slice A0_2 l0_2.length c0_2, .slice A0_3 l0_3.length c0_3, .slice A0_4 l0_4.length c0_4]] ?_; (with_reducible refine (impl_ThreeOk.calls k a0_0 a0_1 _ _ l0_2 _ _ l0_3 _ _ l0_4 true _ (cb HR0_2 HB) HC0_2.out (cb HR0_3 HB) HC0_3.out (cb HR0_4 HB) HC0_4.out A3.out).mono ?_); rintro e w42 ⟨rfl, hb⟩; refine ⟨_, rfl, ?_⟩; replace BK156 := bb BK156 hb; replace BK157 := bb BK157 hb; replace HB := Aside0.mk (below_step (be2 HB GE156 GE157) hb); (try clear hb); have hcz43_0 := bz5 BK156) | ((with_reducible refine gate_callee (f := 87) rfl ?_); refine gl 14 Try.func87 #[.agg #[.int .i64 a0_0, .int .i64 a0_1, .slice A0_2 l0_2.length c0_2, .slice A0_3 l0_3.length c0_3, .slice A0_4 l0_4.length c0_4]] ?_; (with_reducible refine (impl_copyThree.calls a0_0 a0_1 _ _ l0_2 _ _ l0_3 _ _ l0_4 t159 t160 t161 t164 t167 _ (cb HR0_2 HB) HC0_2.out (cb HR0_3 HB) HC0_3.out (cb HR0_4 HB) HC0_4.out A5.out).mono ?_); rintro e w44 ⟨v162, v165, v168, rfl, ho0, ho1, ho2, hb⟩; refine ⟨_, rfl, ?_⟩; have HO163 := Aside0.mk (Kd.R_lower ho0 (below_size (be2 HB GE156 GE157))); have HO166 := Aside0.mk (Kd.R_lower ho1 (below_size (be2 HB GE156 GE157))); have HO169 := Aside0.mk (Kd.R_lower ho2 (below_size (be2 HB GE156 GE157))); replace BK156 := bb BK156 hb; replace BK157 := bb BK157 hb; replace HB := Aside0.mk (below_step (be2 HB GE156 GE157) hb); (try clear hb); (try clear ho0); (try clear ho1); (try clear ho2)) | ((with_reducible refine gate_dst (N := 7) rfl ?_); refine bx 7 #[.int .i64 0, .int .i64 0, .slice none 0 0, .slice none 0 0, .slice none 0 0] 30 ?_; intro gb170 hg w45 hbox hb; replace HO163 := rb HO163 hb; replace HO166 := rb HO166 hb; replace HO169 := rb HO169 hb; have BK170 := am hbox; have GW170 := gs2 hg HB GE156 GE157; have GE170 := gs2 hg HB GE156 GE157; replace HB := Aside0.mk (below_step (be2 HB GE156 GE157) hb); have NB156_170 := nl hg BK156; have NB170_156 := ng hg BK156; replace BK156 := bb BK156 hb; have NB157_170 := nl hg BK157; have NB170_157 := ng hg BK157; replace BK157 := bb BK157 hb; clear hb hbox hg; have hnb46 := NB170_156.out; have hnc46 := NB156_170.out; have hnb47 := NB170_157.out; have hnc47 := NB157_170.out; have hcz48_0 := bz5 BK170; obtain ⟨Ao49, co49, eo49⟩ := Kd.R_slice HO163.out; subst eo49; obtain ⟨Ao50, co50, eo50⟩ := Kd.R_slice HO166.out; subst eo50; obtain ⟨Ao51, co51, eo51⟩ := Kd.R_slice HO169.out; subst eo51) | ((with_reducible refine gate_callee (f := 91) rfl ?_); have p9 : 0 ≤ (t175 : Int) := od; have q9 : (t175 : Int) < ((t164.length : Int) : Int) := od; obtain ⟨go37, cq9, eo9, _⟩ := Kd.R_form HO166.out (by omega); (first | cases eo9 | (injection eo9 with ea_ en_ ec_; (first | subst ea_ | (injection ea_ with ea_; subst ea_)); subst ec_; clear en_)); clear p9 q9; have hn9 : ¬ (0 ≤ t171) := of_decide_eq_false (by assumption); refine gl 16 Try.func91 #[.pointer (some ⟨gb170, 0, none⟩), .string a1] ?_; (with_reducible refine (item_main k gb170 t159 t160 Ao49 co49 t161 go37 co50 t164 (.slice Ao51 t167.length co51) a1 t171 t175 _ ?sideP ?side1 ((Kd.R_reads' HO163.out).2.1) ?side2 ((Kd.R_reads' HO166.out).2.1) A6.out (by omega) A32.out od od).mono ?_); (case sideP => exact (bp BK170)); (case side1 => exact rfr _ HO163 BK170); (case side2 => exact rfr _ HO166 BK170); rintro e w54 ⟨rfl, hb⟩; refine ⟨_, rfl, ?_⟩; clear hn9; replace HO163 := Aside0.mk (Kd.R_below (rf HO163 BK170) hb); replace HO166 := Aside0.mk (Kd.R_below (rf HO166 BK170) hb); replace HO169 := Aside0.mk (Kd.R_below (rf HO169 BK170) hb); replace BK156 := Aside0.mk (blk_below (g := gb156) (o := .cells #[.int .i64 a0_0, .int .i64 a0_1, .slice A0_2 l0_2.length c0_2, .slice A0_3 l0_3.length c0_3, .slice A0_4 l0_4.length c0_4] 30 (0, 0)) (bf1 BK156 NB156_170) hb); replace BK157 := Aside0.mk (blk_below (g := gb157) (o := .cells #[.int .i64 0, .int .i64 0, .slice none 0 0, .slice none 0 0, .slice none 0 0] 30 (0, 0)) (bf1 BK157 NB157_170) hb); replace BK170 := Aside0.mk (blk_below (g := gb170) (o := .cells #[.int .i64 t159, .int .i64 t160, .slice Ao49 t161.length co49, .slice (some ⟨go37, 0, none⟩) t164.length co50, .slice Ao51 t167.length co51] 30 (0, 0)) (bp BK170) hb); replace HB := Aside0.mk (below_step (be3 HB GE156 GE157 GE170) hb); (try clear hb); have hcz55_0 := bz5 BK170; have p37 : 0 ≤ (t175 : Int) := od; have q37 : (t175 : Int) < ((t164.length : Int) : Int) := od; obtain ⟨gz_, cz_, ez_, gb37, gl37, cl37, HG37⟩ := Kd.R_form HO166.out (by omega); have ez2_ : go37 = gz_ := (by cases ez_; rfl); subst ez2_; clear ez_; have GB37 := Aside0.mk gb37; have GG37 := Aside0.mk HG37; clear gb37 gl37 HG37; (first | simp only [add_plain] at hx176_0 | skip); (first | simp only [add_plain] at hx176_1 | skip); (first | simp only [add_plain] at hx176_2 | skip); obtain ⟨ce37, hcl37, hM37, hcc37, hfr37⟩ := Kd.R_elem HO166.out z68 (t175 : Int) p37 q37; obtain rfl := k68_openM hM37; have hx37_0 : w54.cell? ⟨go37, (t175 : Int).toNat * 3, none⟩ = some (.string ((rd_T68 t164 t175).f0)) := hcc37 0 _ rfl; have hx37_1 : w54.cell? ⟨go37, (t175 : Int).toNat * 3 + 1, none⟩ = some (.string ((rd_T68 t164 t175).f1)) := hcc37 1 _ rfl; have hx37_2 : w54.cell? ⟨go37, (t175 : Int).toNat * 3 + 2, none⟩ = some (.int .i64 ((rd_T68 t164 t175).f2)) := hcc37 2 _ rfl; have hf37_0 : w54.frozen? ⟨go37, (t175 : Int).toNat * 3, none⟩ = false := hfr37 0; have hf37_1 : w54.frozen? ⟨go37, (t175 : Int).toNat * 3 + 1, none⟩ = false := hfr37 1; have hf37_2 : w54.frozen? ⟨go37, (t175 : Int).toNat * 3 + 2, none⟩ = false := hfr37 2; clear hcl37 hcc37 hfr37 hM37; replace p37 := eq_true p37; replace q37 := eq_true q37; have HX56 := Aside0.mk (show Kd.R k68 68 w54 w.heap.size (fun k_ => nb k_ Ao49 t161.length co49) (.slice (some ⟨go37, 0, none⟩) t164.length co50) t164 from (ro HO166)); obtain ⟨ce56, hcl56, hM56, hcc56, hfr56⟩ := Kd.R_elem HX56.out z68 (t175 : Int) (od) (by have h_ : (t175 : Int) < ((t164.length : Int) : Int) := od; first | exact h_ | (have e_ := (Kd.R_reads' HO166.out).1; omega) | simpa using h_); obtain rfl := k68_openM hM56; have HP56 := Kd.R_seg HX56.out (t175 : Int) (od) (by have h_ : (t175 : Int) < ((t164.length : Int) : Int) := od; first | exact h_ | (have e_ := (Kd.R_reads' HO166.out).1; omega) | simpa using h_) (seg := [.int .i64 ji36]) (j := 2) hcl56 hcc56 (show 3 ≤ 3 from by decide) (x' := (⟨(rd_T68 t164 t175).f0, (rd_T68 t164 t175).f1, ji36⟩ : S68)) (k68_mkM _ _ _ (⟨(rd_T68 t164 t175).f0, (rd_T68 t164 t175).f1, ji36⟩ : S68) ) (fun _ hk => hk); have hx56_2 := hcc56 2 _ rfl; (try simp only [show (k68).sz = 3 from rfl, Nat.mul_one, Nat.add_zero] at hx56_2); have hf56_2 := hfr56 2; (try simp only [show (k68).sz = 3 from rfl, Nat.mul_one, Nat.add_zero] at hf56_2); clear hcl56 hcc56 hfr56 hM56) | ((with_reducible refine gate_store (t := 3) (p := 28) rfl ?_); refine store_event (t := 3) (p := 28) (v := ?vo_w57) (w1 := (w54.setCell ⟨go37, (t175 : Int).toNat * 3 + 2, none⟩ (.int .i64 ji36))) ?hg ?ho ?hn ?hr ?_; (case ho => rfl); (case hg => rfl); (case hn => rfl); (case hr => first | (go_simp; done) | (go_simp; rfl)); intro w57 hw; have hg : w54.grownBy w57 (some go37) := (by rw [hw]; exact HP56.2); have hp_ : Kd.R k68 68 w57 w.heap.size (fun k_ => nb k_ Ao49 t161.length co49) (.slice (some ⟨go37, 0, none⟩) t164.length co50) y177 := (by rw [hw, Ny177.out]; exact HP56.1); clear HP56; replace BK156 := Aside0.mk (blk_grown (g := gb156) (o := .cells #[.int .i64 a0_0, .int .i64 a0_1, .slice A0_2 l0_2.length c0_2, .slice A0_3 l0_3.length c0_3, .slice A0_4 l0_4.length c0_4] 30 (0, 0)) (bk BK156) hg (Kd.R_ne HO166.out BK156.out (by decide))); replace BK157 := Aside0.mk (blk_grown (g := gb157) (o := .cells #[.int .i64 0, .int .i64 0, .slice none 0 0, .slice none 0 0, .slice none 0 0] 30 (0, 0)) (bk BK157) hg (Kd.R_ne HO166.out BK157.out (by decide))); replace HO163 := Aside0.mk (Kd.R_after (v := (.slice (some ⟨go37, 0, none⟩) t164.length co50)) (v1 := (.slice (some ⟨go37, 0, none⟩) t164.length co50)) (ok := (fun _ => True)) (by (with_reducible repeat (first | apply Kd.R_alloc | apply Kd.R_drewN | apply Kd.R_drew)); exact rm HO163) hg (.inl rfl)); replace HO169 := Aside0.mk (Kd.R_over' (v := (.slice (some ⟨go37, 0, none⟩) t164.length co50)) (ro HO169) (Kd.R_typed HO166.out) (by decide) hg); replace BK170 := Aside0.mk (blk_grown (g := gb170) (o := .cells #[.int .i64 t159, .int .i64 t160, .slice Ao49 t161.length co49, .slice (some ⟨go37, 0, none⟩) t164.length co50, .slice Ao51 t167.length co51] 30 (0, 0)) (bk BK170) hg (Kd.R_ne HO166.out BK170.out (by decide))); replace HO166 := Aside0.mk (hp_); replace HB := Aside0.mk ((by rw [hw]; exact below_set (HB.out) GB37.out : Below w.heap.size w w57)); clear hg hw hp_; have hcz58_0 := bz5 BK170; have p178 : 0 ≤ (t175 : Int) := od; have q178 : t175 < (y177.length : Int) := (by have h_ : (t175 : Int) < ((t164.length : Int) : Int) := od; first | (have e_ := (Kd.R_reads' HO166.out).1; omega) | simpa only [Ny177.out, List.length_set] using h_); have ql178 : ((t175 : Int) < ((t164.length : Int) : Int)) = True := eq_true (od); obtain ⟨ad178, e178, hx178_0, hx178_1, hx178_2⟩ := at_T68 (Kd.R_reads' HO166.out).2.2 t175 p178 q178; obtain rfl : (⟨go37, 0, none⟩ : Addr) = ad178 := (by injection e178); (first | simp only [add_plain] at hx178_0 | simp only [add_at] at hx178_0 | simp only [Addr.add, Nat.zero_add] at hx178_0 | skip); (first | simp only [add_plain] at hx178_1 | simp only [add_at] at hx178_1 | simp only [Addr.add, Nat.zero_add] at hx178_1 | skip); (first | simp only [add_plain] at hx178_2 | simp only [add_at] at hx178_2 | simp only [Addr.add, Nat.zero_add] at hx178_2 | skip); replace p178 := eq_true p178; replace q178 := eq_true q178; have hcz59_0 := bz5 BK157; have hnb9 : gb157 ≠ go37 := fun e_ => (Kd.R_ne HO166.out BK157.out (by decide)) (by rw [e_]; rfl); have hnc9 : go37 ≠ gb157 := fun e_ => hnb9 e_.symm))
     replace HO163 := Aside0.mk (Kd.R_drew HO163.out)
     replace HO166 := Aside0.mk (Kd.R_drew HO166.out)
     replace HO169 := Aside0.mk (Kd.R_drew HO169.out)
     replace BK156 := Aside0.mk (blk_drew BK156.out)
     replace BK157 := Aside0.mk (blk_drew BK157.out)
     replace BK170 := Aside0.mk (blk_drew BK170.out)
     replace HB := Aside0.mk (below_drew1 HB.out)
     have hv9 : w57.drew.cell? ⟨go37, (t175 : Int).toNat * 3 + 1, none⟩ = some (.string ((rd_T68 y177 t175).f1)) := hx178_1
     refine start_ (n := 8) (S := fun w' => w'.cell? ⟨gb170, 0, none⟩ = some (.int .i64 t159) ∧ w'.cell? ⟨gb170, 1, none⟩ = some (.int .i64 t160) ∧ w'.cell? ⟨gb170, 2, none⟩ = some (.slice Ao49 t161.length co49) ∧ w'.cell? ⟨gb170, 3, none⟩ = some (.slice (some ⟨go37, 0, none⟩) t164.length co50) ∧ w'.cell? ⟨gb170, 4, none⟩ = some (.slice Ao51 t167.length co51) ∧ w'.cell? ⟨go37, (t175 : Int).toNat * 3 + 1, none⟩ = some (.string ((rd_T68 y177 t175).f1))) (ds := []) #[false, false, false, false, false, false, false, false] (by kernel_rfl) rfl rfl ⟨bc0 BK170, bc1 BK170, bc2 BK170, bc3 BK170, bc4 BK170, hv9⟩ (fun hHeld => ?_)
     clear hv9
     generalize w57.drew = w99 at HO163 HO166 HO169 BK156 BK157 BK170 HB hHeld ⊢
     refine pure_ (i := 1) (N := some 30) (v := ?_) (a' := ?_) #[false, true, false, false, false, false, false, false] rfl rfl (by kernel_rfl) (fun _ _ _ h => h) (Or.inl ⟨by rfl, ?_⟩) ?_ ?_
     rotate_left
     ·intro w'
      go_simp
      with_reducible rfl
     rotate_left
     ·simp only [aP]
      rfl
     refine pure_ (i := 2) (N := some 31) (v := ?_) (a' := ?_) #[false, true, true, false, false, false, false, false] rfl rfl (by kernel_rfl) (fun _ _ _ h => h) (Or.inl ⟨by rfl, ?_⟩) ?_ ?_
     rotate_left
     ·intro w'
      go_simp
      with_reducible rfl
     rotate_left
     ·simp only [aP]
      rfl
     refine pure_ (i := 3) (N := some 32) (v := ?_) (a' := ?_) #[false, true, true, true, false, false, false, false] rfl rfl (by kernel_rfl) (fun _ _ _ h => h) (Or.inl ⟨by rfl, ?_⟩) ?_ ?_
     rotate_left
     ·intro w'
      go_simp
      with_reducible rfl
     rotate_left
     ·simp only [aP]
      rfl
     refine take_ (i := 0) (N := some 29) (v := ?_) (a' := ?_) #[true, true, true, true, false, false, false, false] rfl rfl (by kernel_rfl) (fun _ _ _ h => h) (Or.inl ⟨by rfl, ?_⟩) hHeld ?_ ?_
     rotate_left
     ·rintro w' ⟨s0, s1, s2, s3, s4, s5⟩
      go_simp
      with_reducible rfl
     rotate_left
     ·simp only [aP]
      rfl
     refine take_ (i := 4) (N := some 33) (v := ?_) (a' := ?_) #[true, true, true, true, true, false, false, false] rfl rfl (by kernel_rfl) (fun _ _ _ h => h) (Or.inl ⟨by rfl, ?_⟩) hHeld ?_ ?_
     rotate_left
     ·rintro w' ⟨s0, s1, s2, s3, s4, s5⟩
      go_simp
      with_reducible rfl
     rotate_left
     ·simp only [aP]
      rfl
     refine one_ (i := 5) (N := none) #[true, true, true, true, true, true, false, false] rfl rfl (by kernel_rfl) (by decide) (fun K hK => ?_)
     have hs09 : w99.cell? ⟨gb157, 0, none⟩ = some (.int .i64 0) := bc0 BK157
     have hfs09 := blk_frozen BK157.out 0
     have hs19 : w99.cell? ⟨gb157, 1, none⟩ = some (.int .i64 0) := bc1 BK157
     have hfs19 := blk_frozen BK157.out 1
     have hs29 : w99.cell? ⟨gb157, 2, none⟩ = some (.slice none 0 0) := bc2 BK157
     have hfs29 := blk_frozen BK157.out 2
     have hs39 : w99.cell? ⟨gb157, 3, none⟩ = some (.slice none 0 0) := bc3 BK157
     have hfs39 := blk_frozen BK157.out 3
     have hs49 : w99.cell? ⟨gb157, 4, none⟩ = some (.slice none 0 0) := bc4 BK157
     have hfs49 := blk_frozen BK157.out 4
     have hns9 := NB170_157.out
     have hms9 := NB157_170.out
     refine skip_ (w1 := ?_) (by rfl) rfl ?_ ?_
     rotate_left
     ·go_simp
      rfl
     refine hK.out _ _ ⟨((cell_far (p := ⟨gb157, _, none⟩) NB170_157.out _).trans ((cell_far (p := ⟨gb157, _, none⟩) NB170_157.out _).trans ((cell_far (p := ⟨gb157, _, none⟩) NB170_157.out _).trans ((cell_far (p := ⟨gb157, _, none⟩) NB170_157.out _).trans ((cell_far (p := ⟨gb157, _, none⟩) NB170_157.out _).trans (hHeld.1)))))), ((cell_far (p := ⟨gb157, _, none⟩) NB170_157.out _).trans ((cell_far (p := ⟨gb157, _, none⟩) NB170_157.out _).trans ((cell_far (p := ⟨gb157, _, none⟩) NB170_157.out _).trans ((cell_far (p := ⟨gb157, _, none⟩) NB170_157.out _).trans ((cell_far (p := ⟨gb157, _, none⟩) NB170_157.out _).trans (hHeld.2.1)))))), ((cell_far (p := ⟨gb157, _, none⟩) NB170_157.out _).trans ((cell_far (p := ⟨gb157, _, none⟩) NB170_157.out _).trans ((cell_far (p := ⟨gb157, _, none⟩) NB170_157.out _).trans ((cell_far (p := ⟨gb157, _, none⟩) NB170_157.out _).trans ((cell_far (p := ⟨gb157, _, none⟩) NB170_157.out _).trans (hHeld.2.2.1)))))), ((cell_far (p := ⟨gb157, _, none⟩) NB170_157.out _).trans ((cell_far (p := ⟨gb157, _, none⟩) NB170_157.out _).trans ((cell_far (p := ⟨gb157, _, none⟩) NB170_157.out _).trans ((cell_far (p := ⟨gb157, _, none⟩) NB170_157.out _).trans ((cell_far (p := ⟨gb157, _, none⟩) NB170_157.out _).trans (hHeld.2.2.2.1)))))), ((cell_far (p := ⟨gb157, _, none⟩) NB170_157.out _).trans ((cell_far (p := ⟨gb157, _, none⟩) NB170_157.out _).trans ((cell_far (p := ⟨gb157, _, none⟩) NB170_157.out _).trans ((cell_far (p := ⟨gb157, _, none⟩) NB170_157.out _).trans ((cell_far (p := ⟨gb157, _, none⟩) NB170_157.out _).trans (hHeld.2.2.2.2.1)))))), ((cell_far (p := ⟨gb157, _, none⟩) hnc9 _).trans ((cell_far (p := ⟨gb157, _, none⟩) hnc9 _).trans ((cell_far (p := ⟨gb157, _, none⟩) hnc9 _).trans ((cell_far (p := ⟨gb157, _, none⟩) hnc9 _).trans ((cell_far (p := ⟨gb157, _, none⟩) hnc9 _).trans (hHeld.2.2.2.2.2))))))⟩ (fun hHeld => ?_)
     clear hK K
     refine pure_ (i := 6) (N := some 5) (v := ?_) (a' := ?_) #[true, true, true, true, true, true, true, false] rfl rfl (by kernel_rfl) (fun _ _ _ h => h) (Or.inl ⟨by rfl, ?_⟩) ?_ ?_
     rotate_left
     ·intro w'
      go_simp
      with_reducible rfl
     rotate_left
     ·simp only [aP]
      rfl
     refine pure_ (i := 7) (N := some 6) (v := ?_) (a' := ?_) #[true, true, true, true, true, true, true, true] rfl rfl (by kernel_rfl) (fun _ _ _ h => h) (Or.inl ⟨by rfl, ?_⟩) ?_ ?_
     rotate_left
     ·intro w'
      go_simp
      with_reducible rfl
     rotate_left
     ·simp only [aP]
      rfl
     refine done_ (by kernel_rfl) ?_
     try go_wp2
     refine bodyPost_ret (results_ctt rfl _ _ gb157 30 #[.int .i64 t159, .int .i64 t160, .slice Ao49 t161.length co49, .slice (some ⟨go37, 0, none⟩) t164.length co50, .slice Ao51 t167.length co51] (0, 0) _ rfl (bp BK157) Try.underlying30 rfl (by kernel_rfl)) rfl ?_
     exact ⟨_, _, _, by first | rfl | (simp [errW_none, errW_some] <;> rfl) | (simp only [← hji36]; first | rfl | (simp [errW_none, errW_some] <;> rfl)) | (simp [*, errW_none, errW_some] <;> rfl), by (with_reducible repeat (first | apply Kd.R_alloc | apply Kd.R_drewN | apply Kd.R_drew)); exact Kd.R_mono (Kd.R_far (p := ⟨gb157, 4, none⟩) (Kd.R_far (p := ⟨gb157, 3, none⟩) (Kd.R_far (p := ⟨gb157, 2, none⟩) (Kd.R_far (p := ⟨gb157, 1, none⟩) (Kd.R_far (p := ⟨gb157, 0, none⟩) (Kd.R_types HO163.out BK157.out (by decide)) (fun _ hk => hk.2) (.int .i64 t159)) (fun _ hk => hk.2) (.int .i64 t160)) (fun _ hk => hk.2) (.slice Ao49 t161.length co49)) (fun _ hk => hk.2) (.slice (some ⟨go37, 0, none⟩) t164.length co50)) (fun _ hk => hk.2) (.slice Ao51 t167.length co51)) (fun _ hk => hk.1.2), (rf HO166 BK157), by (with_reducible repeat (first | apply Kd.R_alloc | apply Kd.R_drewN | apply Kd.R_drew)); exact Kd.R_mono (Kd.R_far (p := ⟨gb157, 4, none⟩) (Kd.R_far (p := ⟨gb157, 3, none⟩) (Kd.R_far (p := ⟨gb157, 2, none⟩) (Kd.R_far (p := ⟨gb157, 1, none⟩) (Kd.R_far (p := ⟨gb157, 0, none⟩) (Kd.R_types HO169.out BK157.out (by decide)) (fun _ hk => hk.2) (.int .i64 t159)) (fun _ hk => hk.2) (.int .i64 t160)) (fun _ hk => hk.2) (.slice Ao49 t161.length co49)) (fun _ hk => hk.2) (.slice (some ⟨go37, 0, none⟩) t164.length co50)) (fun _ hk => hk.2) (.slice Ao51 t167.length co51)) (fun _ hk => trivial), be3 HB GE156 GE157 GE170⟩
    rw [if_neg c35] at H
    exact absurd H (by simp)
   rw [if_neg c34] at H
   exact absurd H (by simp)
  rw [if_neg c33] at H
  have c33b0 : decide (0 ≤ t175) = false := decide_eq_false c33
  clear c33
  simp only [Option.some.injEq, Prod.mk.injEq] at H
  obtain ⟨rfl, rfl, rfl, rfl, rfl, rfl, rfl⟩ := H
  go_enter Try.func36, Try.ntmps36
  go_wp2_with (first | ((with_reducible refine gate_dst (N := 2) rfl ?_); refine bx 2 #[.int .i64 a0_0, .int .i64 a0_1, .slice A0_2 l0_2.length c0_2, .slice A0_3 l0_3.length c0_3, .slice A0_4 l0_4.length c0_4] 30 ?_; intro gb156 hg w60 hbox hb; have BK156 := am hbox; have GW156 := gs0 hg HB; have GE156 := gs0 hg HB; replace HB := s0 HB hb; clear hb hbox hg) | ((with_reducible refine gate_dst (N := 4) rfl ?_); refine bx 4 #[.int .i64 0, .int .i64 0, .slice none 0 0, .slice none 0 0, .slice none 0 0] 30 ?_; intro gb157 hg w61 hbox hb; have BK157 := am hbox; have GW157 := gs1 hg HB GE156; have GE157 := gs1 hg HB GE156; replace HB := Aside0.mk (below_step (be1 HB GE156) hb); have NB156_157 := nl hg BK156; have NB157_156 := ng hg BK156; replace BK156 := bb BK156 hb; clear hb hbox hg; have hnb62 := NB156_157.out; have hnc62 := NB157_156.out; have hcz63_0 := bz5 BK156) | ((with_reducible refine gate_callee (f := 19) rfl ?_); refine gl 10 Try.func19 #[.agg #[.int .i64 a0_0, .int .i64 a0_1, .slice A0_2 l0_2.length c0_2, .slice A0_3 l0_3.length c0_3, .slice A0_4 l0_4.length c0_4]] ?_; (with_reducible refine (impl_ThreeOk.calls k a0_0 a0_1 _ _ l0_2 _ _ l0_3 _ _ l0_4 true _ (cb HR0_2 HB) HC0_2.out (cb HR0_3 HB) HC0_3.out (cb HR0_4 HB) HC0_4.out A3.out).mono ?_); rintro e w64 ⟨rfl, hb⟩; refine ⟨_, rfl, ?_⟩; replace BK156 := bb BK156 hb; replace BK157 := bb BK157 hb; replace HB := Aside0.mk (below_step (be2 HB GE156 GE157) hb); (try clear hb); have hcz65_0 := bz5 BK156) | ((with_reducible refine gate_callee (f := 87) rfl ?_); refine gl 14 Try.func87 #[.agg #[.int .i64 a0_0, .int .i64 a0_1, .slice A0_2 l0_2.length c0_2, .slice A0_3 l0_3.length c0_3, .slice A0_4 l0_4.length c0_4]] ?_; (with_reducible refine (impl_copyThree.calls a0_0 a0_1 _ _ l0_2 _ _ l0_3 _ _ l0_4 t159 t160 t161 t164 t167 _ (cb HR0_2 HB) HC0_2.out (cb HR0_3 HB) HC0_3.out (cb HR0_4 HB) HC0_4.out A5.out).mono ?_); rintro e w66 ⟨v162, v165, v168, rfl, ho0, ho1, ho2, hb⟩; refine ⟨_, rfl, ?_⟩; have HO163 := Aside0.mk (Kd.R_lower ho0 (below_size (be2 HB GE156 GE157))); have HO166 := Aside0.mk (Kd.R_lower ho1 (below_size (be2 HB GE156 GE157))); have HO169 := Aside0.mk (Kd.R_lower ho2 (below_size (be2 HB GE156 GE157))); replace BK156 := bb BK156 hb; replace BK157 := bb BK157 hb; replace HB := Aside0.mk (below_step (be2 HB GE156 GE157) hb); (try clear hb); (try clear ho0); (try clear ho1); (try clear ho2)) | ((with_reducible refine gate_dst (N := 7) rfl ?_); refine bx 7 #[.int .i64 0, .int .i64 0, .slice none 0 0, .slice none 0 0, .slice none 0 0] 30 ?_; intro gb170 hg w67 hbox hb; replace HO163 := rb HO163 hb; replace HO166 := rb HO166 hb; replace HO169 := rb HO169 hb; have BK170 := am hbox; have GW170 := gs2 hg HB GE156 GE157; have GE170 := gs2 hg HB GE156 GE157; replace HB := Aside0.mk (below_step (be2 HB GE156 GE157) hb); have NB156_170 := nl hg BK156; have NB170_156 := ng hg BK156; replace BK156 := bb BK156 hb; have NB157_170 := nl hg BK157; have NB170_157 := ng hg BK157; replace BK157 := bb BK157 hb; clear hb hbox hg; have hnb68 := NB170_156.out; have hnc68 := NB156_170.out; have hnb69 := NB170_157.out; have hnc69 := NB157_170.out; have hcz70_0 := bz5 BK170; obtain ⟨Ao71, co71, eo71⟩ := Kd.R_slice HO163.out; subst eo71; obtain ⟨Ao72, co72, eo72⟩ := Kd.R_slice HO166.out; subst eo72; obtain ⟨Ao73, co73, eo73⟩ := Kd.R_slice HO169.out; subst eo73) | ((with_reducible refine gate_callee (f := 91) rfl ?_); have hn9 : ¬ (0 ≤ t171) := of_decide_eq_false (by assumption); have hn8 : ¬ (0 ≤ t175) := of_decide_eq_false (by assumption); refine gl 16 Try.func91 #[.pointer (some ⟨gb170, 0, none⟩), .string a1] ?_; (with_reducible refine (item_none k gb170 t159 t160 Ao71 co71 t161 Ao72 co72 t164 (.slice Ao73 t167.length co73) a1 t171 t175 _ ?sideP ?side1 ((Kd.R_reads' HO163.out).2.1) ?side2 ((Kd.R_reads' HO166.out).2.1) A6.out (by omega) A32.out (by omega)).mono ?_); (case sideP => exact (bp BK170)); (case side1 => exact rfr _ HO163 BK170); (case side2 => exact rfr _ HO166 BK170); rintro e w76 ⟨rfl, hb⟩; refine ⟨_, rfl, ?_⟩; clear hn9; clear hn8; replace HO163 := Aside0.mk (Kd.R_below (rf HO163 BK170) hb); replace HO166 := Aside0.mk (Kd.R_below (rf HO166 BK170) hb); replace HO169 := Aside0.mk (Kd.R_below (rf HO169 BK170) hb); replace BK156 := Aside0.mk (blk_below (g := gb156) (o := .cells #[.int .i64 a0_0, .int .i64 a0_1, .slice A0_2 l0_2.length c0_2, .slice A0_3 l0_3.length c0_3, .slice A0_4 l0_4.length c0_4] 30 (0, 0)) (bf1 BK156 NB156_170) hb); replace BK157 := Aside0.mk (blk_below (g := gb157) (o := .cells #[.int .i64 0, .int .i64 0, .slice none 0 0, .slice none 0 0, .slice none 0 0] 30 (0, 0)) (bf1 BK157 NB157_170) hb); replace BK170 := Aside0.mk (blk_below (g := gb170) (o := .cells #[.int .i64 t159, .int .i64 t160, .slice Ao71 t161.length co71, .slice Ao72 t164.length co72, .slice Ao73 t167.length co73] 30 (0, 0)) (bp BK170) hb); replace HB := Aside0.mk (below_step (be3 HB GE156 GE157 GE170) hb); (try clear hb); have hcz77_0 := bz5 BK170; have hcz78_0 := bz5 BK157))
  refine bodyPost_ret (results_ctt rfl _ _ gb157 30 #[.int .i64 t159, .int .i64 t160, .slice Ao71 t161.length co71, .slice Ao72 t164.length co72, .slice Ao73 t167.length co73] (0, 0) _ rfl (bp BK157) Try.underlying30 rfl (by kernel_rfl)) rfl ?_
  exact ⟨_, _, _, er, (rf HO163 BK157), (rf HO166 BK157), by (with_reducible repeat (first | apply Kd.R_alloc | apply Kd.R_drewN | apply Kd.R_drew)); exact Kd.R_mono (Kd.R_far (p := ⟨gb157, 4, none⟩) (Kd.R_far (p := ⟨gb157, 3, none⟩) (Kd.R_far (p := ⟨gb157, 2, none⟩) (Kd.R_far (p := ⟨gb157, 1, none⟩) (Kd.R_far (p := ⟨gb157, 0, none⟩) (Kd.R_types HO169.out BK157.out (by decide)) (fun _ hk => hk.2) (.int .i64 t159)) (fun _ hk => hk.2) (.int .i64 t160)) (fun _ hk => hk.2) (.slice Ao71 t161.length co71)) (fun _ hk => hk.2) (.slice Ao72 t164.length co72)) (fun _ hk => hk.2) (.slice Ao73 t167.length co73)) (fun _ hk => trivial), be3 HB GE156 GE157 GE170⟩
 replace c4 := Bool.eq_false_iff.mpr c4
 subst c4
 have H1 : (some (0, 0, ([] : List (S68)), ([] : List (S68)), ([] : List Int), (⟨#[]⟩ : ByteArray), false)) = some (r1, r2, r3, r4, r5, r6, r7) := by rw [if_neg (show ¬ (false = true) by decide)] at H; exact H
 clear H
 have H := H1
 clear H1
 simp only [Option.some.injEq, Prod.mk.injEq] at H
 obtain ⟨rfl, rfl, rfl, rfl, rfl, rfl, rfl⟩ := H
 go_enter Try.func36, Try.ntmps36
 go_wp2_with (first | ((with_reducible refine gate_dst (N := 2) rfl ?_); refine bx 2 #[.int .i64 a0_0, .int .i64 a0_1, .slice A0_2 l0_2.length c0_2, .slice A0_3 l0_3.length c0_3, .slice A0_4 l0_4.length c0_4] 30 ?_; intro gb156 hg w79 hbox hb; have BK156 := am hbox; have GW156 := gs0 hg HB; have GE156 := gs0 hg HB; replace HB := s0 HB hb; clear hb hbox hg) | ((with_reducible refine gate_dst (N := 4) rfl ?_); refine bx 4 #[.int .i64 0, .int .i64 0, .slice none 0 0, .slice none 0 0, .slice none 0 0] 30 ?_; intro gb157 hg w80 hbox hb; have BK157 := am hbox; have GW157 := gs1 hg HB GE156; have GE157 := gs1 hg HB GE156; replace HB := Aside0.mk (below_step (be1 HB GE156) hb); have NB156_157 := nl hg BK156; have NB157_156 := ng hg BK156; replace BK156 := bb BK156 hb; clear hb hbox hg; have hnb81 := NB156_157.out; have hnc81 := NB157_156.out; have hcz82_0 := bz5 BK156) | ((with_reducible refine gate_callee (f := 19) rfl ?_); refine gl 10 Try.func19 #[.agg #[.int .i64 a0_0, .int .i64 a0_1, .slice A0_2 l0_2.length c0_2, .slice A0_3 l0_3.length c0_3, .slice A0_4 l0_4.length c0_4]] ?_; (with_reducible refine (impl_ThreeOk.calls k a0_0 a0_1 _ _ l0_2 _ _ l0_3 _ _ l0_4 false _ (cb HR0_2 HB) HC0_2.out (cb HR0_3 HB) HC0_3.out (cb HR0_4 HB) HC0_4.out A3.out).mono ?_); rintro e w83 ⟨rfl, hb⟩; refine ⟨_, rfl, ?_⟩; replace BK156 := bb BK156 hb; replace BK157 := bb BK157 hb; replace HB := Aside0.mk (below_step (be2 HB GE156 GE157) hb); (try clear hb); have hcz84_0 := bz5 BK157))
 refine bodyPost_ret (results_ctt rfl _ _ gb157 30 #[.int .i64 0, .int .i64 0, .slice none 0 0, .slice none 0 0, .slice none 0 0] (0, 0) _ rfl (bp BK157) Try.underlying30 rfl (by kernel_rfl)) rfl ?_
 exact ⟨_, _, _, er, by first | exact Kd.R_nil _ _ _ _ _ | exact Kd.N_nil _ _ _ _ _ | exact Kd.V_nil _ _ _ _ _ | exact Kd.Q_nil _ _ _ _ _ | exact Kd.S_nil _ _ _ _ _, by first | exact Kd.R_nil _ _ _ _ _ | exact Kd.N_nil _ _ _ _ _ | exact Kd.V_nil _ _ _ _ _ | exact Kd.Q_nil _ _ _ _ _ | exact Kd.S_nil _ _ _ _ _, by first | exact Kd.R_nil _ _ _ _ _ | exact Kd.N_nil _ _ _ _ _ | exact Kd.V_nil _ _ _ _ _ | exact Kd.Q_nil _ _ _ _ _ | exact Kd.S_nil _ _ _ _ _, be2 HB GE156 GE157⟩

/-! ### impl_Hash: function 51 -/
def impl_Hash.l0 : Nat → ByteArray → Int → Int → Option (Int)
 | 0, _, _, _ => none
 | k + 1, x0, x3, x4 => if x4 < (x0.size : Int) then (if 0 ≤ x4 then (impl_Hash.l0 k x0 (Int.tmod (wrap64 ((Go.bits .xor .i64 x3 (wrap64 (bt x0 x4))) * 16777619)) 4294967296) (wrap64 (x4 + 1))) else (none)) else (some x3)
def impl_Hash.f (k : Nat) (a0 : ByteArray) : Option (Int) := impl_Hash.l0 k a0 2166136261 0
theorem impl_Hash.mono_l : ∀ k, (∀ y0 y1 y2, LeO (impl_Hash.l0 k y0 y1 y2) (impl_Hash.l0 (k + 1) y0 y1 y2))
 | 0 => fun _ _ _ r h => by simp [impl_Hash.l0] at h
 | k + 1 => by
  have ih0 := impl_Hash.mono_l k
  ·intro y0 y1 y2
   unfold impl_Hash.l0
   repeat' first
   | (with_reducible exact ih0 _ _ _)
   | (with_reducible exact LeO.refl _)
   | (with_reducible exact LeO.none _)
   | (with_reducible refine LeO.ite ?_ ?_)
   | (with_reducible refine LeO.bind ?_ (fun _ => ?_))
   | exact ih0 _ _ _
   | exact LeO.none _
   | refine LeO.ite ?_ ?_
   | refine LeO.bind ?_ (fun _ => ?_)
theorem impl_Hash.mono : ∀ a0 k, LeO (impl_Hash.f k a0) (impl_Hash.f (k + 1) a0) := by
 intro a0 k
 have ih0 := impl_Hash.mono_l k
 unfold impl_Hash.f
 repeat' first
   | (with_reducible exact ih0 _ _ _)
   | (with_reducible exact LeO.refl _)
   | (with_reducible exact LeO.none _)
   | (with_reducible refine LeO.ite ?_ ?_)
   | (with_reducible refine LeO.bind ?_ (fun _ => ?_))
   | exact ih0 _ _ _
   | exact LeO.none _
   | refine LeO.ite ?_ ?_
   | refine LeO.bind ?_ (fun _ => ?_)
set_option maxHeartbeats 8000000 in
set_option maxRecDepth 100000 in
theorem impl_Hash.calls (k : Nat) (a0 : ByteArray) (r : Int) (w : World) (h : impl_Hash.f k a0 = some r) :
  Calls Try.prog 51 #[.string a0] w fun e w' => e = .returned (.int .i64 r) ∧ Drawn0 w w' := by
 have H : (impl_Hash.l0 k a0 2166136261 0) = some r := h
 clear h
 have H' := Aside0.mk H
 clear H
 go_enter Try.func51, Try.ntmps51
 go_wp2
 go_loopg [3, 4] k (fun kq v3 v4 w' => ∃ (x3_1 : Int) (x4_1 : Int), v3 = .int .i64 x3_1 ∧ v4 = .int .i64 x4_1 ∧ Aside0 (impl_Hash.l0 kq a0 x3_1 x4_1 = some r) ∧ Aside0 (kq ≤ k) ∧ Drawn0 w w')
 case atStart => exact ⟨(2166136261), (0), rs, rs, H', ⟨Nat.le_refl _⟩, by repeat (first | exact Drawn0.refl _ | apply Drawn0.step)⟩
 case round =>
  clear H'
  obtain ⟨x3_1, x4_1, rfl, rfl, HA, HK1, ⟨m1, rfl⟩⟩ := hrel
  cases gk with
  | zero => exact absurd HA.out (by simp [impl_Hash.l0])
  | succ k1 =>
   have H := HA.out
   clear HA
   simp only [impl_Hash.l0] at H
   by_cases c2 : x4_1 < (a0.size : Int)
   ·rw [if_pos c2] at H
    have c2b0 : decide (x4_1 < (a0.size : Int)) = true := decide_eq_true c2
    clear c2
    by_cases c3 : 0 ≤ x4_1
    ·rw [if_pos c3] at H
     have c3b0 : decide (0 ≤ x4_1) = true := decide_eq_true c3
     clear c3
     have H' := Aside0.mk H
     clear H
     have p4 : 0 ≤ (x4_1 : Int) := od
     have q4 : x4_1 < (a0.size : Int) := od
     have hx4 := bt_at a0 x4_1
     replace p4 := eq_true p4
     replace q4 := eq_true q4
     go_wp2
     go_roundg k1
     case measure => have := HK1.out; omega
     case rel => exact ⟨(Int.tmod (wrap64 ((Go.bits .xor .i64 x3_1 (wrap64 (bt a0 x4_1))) * 16777619)) 4294967296), (wrap64 (x4_1 + 1)), rs, rs, H', ⟨by have := HK1.out; omega⟩, by repeat (first | exact Drawn0.refl _ | apply Drawn0.step)⟩
    rw [if_neg c3] at H
    exact absurd H (by simp)
   rw [if_neg c2] at H
   have c2b0 : decide (x4_1 < (a0.size : Int)) = false := decide_eq_false c2
   clear c2
   obtain rfl := Option.some.inj H
   go_wp2
   go_ret
   exact ⟨by first | rfl | (simp; done) | (simp [*]; done), by repeat (first | exact Drawn0.refl _ | apply Drawn0.step)⟩

end Go.Proofs.Ytfjhkediaholmaa.QFnSweep
