-- made by a program of this session (myprint.py)
import Derived.Test.YtdgpidhlbpaolaaOw
import Derived.Test.YtdgpidhlbpaolaaSh
import Derived.Test.YtdgpidhlbpaolaaQFnExactReclaimx0
import Derived.Test.YtdgpidhlbpaolaaQFnExactReclaimx5
import Derived.Test.YtdgpidhlbpaolaaQFnExactReclaimx7
import Derived.Test.YtdgpidhlbpaolaaQFnExactReclaimx8
namespace Go.Proofs.Ytdgpidhlbpaolaa.QFnExactReclaim
open Go.RowKit Go.Proofs.YtdgpidhlbpaolaaW.PrintWords Go.Proofs.YtdgpidhlbpaolaaW.PrintLast Go.Proofs.YtdgpidhlbpaolaaW.PrintMore
attribute [local go_sem] max2_int min2_int max_two min_two max_three min_three max_four min_four   -- for this text's walks alone
set_option linter.unusedVariables false
set_option linter.unusedSimpArgs false

/-! ### spec_Reclaim: function 31 -/
def spec_Reclaim.f (k : Nat) (l0_0 : List Int) (a0_1 : Int) (l0_2 : List Int) (l0_3 : List (S70)) (l0_4 : List Int) : Option (List Int × Int × List Int × (List (S70)) × List Int × List Int) := (spec_PoolOk.f k l0_0 a0_1 l0_2 l0_3 l0_4).bind fun t295 => (if t295 = true then ((spec_l09Copy.f l0_0 a0_1 l0_2 l0_3 l0_4).bind fun bt296 => ((spec_Collect.f k a0_1 l0_2 l0_3).bind fun bt310 => ((some (([] : List Int) : List Int)).bind fun y321 => (if y321.length + bt310.2.2.2.length < 17592186044416 then ((some (y321 ++ bt310.2.2.2 : List Int)).bind fun y324 => (if y324.length + bt296.1.length < 17592186044416 then (some ((y324 ++ bt296.1), bt310.1, bt310.2.1, bt310.2.2.1, bt296.2.2.2.2, bt310.2.2.2)) else (none))) else (none))))) else (some (([] : List Int), 0, ([] : List Int), ([] : List (S70)), ([] : List Int), ([] : List Int))))
theorem spec_Reclaim.mono : ∀ a0 a1 a2 a3 a4 k, LeO (spec_Reclaim.f k a0 a1 a2 a3 a4) (spec_Reclaim.f (k + 1) a0 a1 a2 a3 a4) := by
 intro a0 a1 a2 a3 a4 k
 unfold spec_Reclaim.f
 repeat' first
   | (with_reducible exact spec_Collect.mono _ _ _ _)
   | (with_reducible exact spec_PoolOk.mono _ _ _ _ _ _)
   | (with_reducible exact LeO.refl _)
   | (with_reducible exact LeO.none _)
   | (with_reducible refine LeO.ite ?_ ?_)
   | (with_reducible refine LeO.bind ?_ (fun _ => ?_))
   | exact spec_Collect.mono _ _ _ _
   | exact spec_PoolOk.mono _ _ _ _ _ _
   | exact LeO.none _
   | refine LeO.ite ?_ ?_
   | refine LeO.bind ?_ (fun _ => ?_)
def spec_Reclaim.T6 : Bool × List (List Nat × List Nat) := (true, [([], []), ([], []), ([0, 1], [0, 1]), ([], []), ([3], [3]), ([2, 4, 2], [2, 4]), ([0, 1, 2, 3, 4, 5], []), ([6, 5, 5, 0, 1, 2, 3, 4, 5], [5, 6])])
def spec_Reclaim.B6 : List Nat := [0, 0, 3, 0, 8, 31, 63, 127]
theorem spec_Reclaim.tab6 : rtab .any (opsOf Try.f31 6) = spec_Reclaim.T6 := by kernel_rfl
theorem spec_Reclaim.bits6 : waitsOk spec_Reclaim.T6.2 spec_Reclaim.B6 = true := by kernel_rfl
set_option maxHeartbeats 8000000 in
set_option maxRecDepth 100000 in
theorem spec_Reclaim.calls (k : Nat) (A0_0 : Option Addr) (c0_0 : Nat) (l0_0 : List Int) (a0_1 : Int) (A0_2 : Option Addr) (c0_2 : Nat) (l0_2 : List Int) (A0_3 : Option Addr) (c0_3 : Nat) (l0_3 : List (S70)) (A0_4 : Option Addr) (c0_4 : Nat) (l0_4 : List Int) (r1 : List Int) (r2 : Int) (r3 : List Int) (r4 : List (S70)) (r5 : List Int) (r6 : List Int) (w : World) (hr0_0 : Kd.C (Kd.int .i64) w A0_0 l0_0.length l0_0) (hc0_0 : l0_0.length ≤ c0_0) (hr0_2 : Kd.C (Kd.int .i64) w A0_2 l0_2.length l0_2) (hc0_2 : l0_2.length ≤ c0_2) (hr0_3 : Kd.C k70 w A0_3 l0_3.length l0_3) (hc0_3 : l0_3.length ≤ c0_3) (hr0_4 : Kd.C (Kd.int .i64) w A0_4 l0_4.length l0_4) (hc0_4 : l0_4.length ≤ c0_4) (h : spec_Reclaim.f k l0_0 a0_1 l0_2 l0_3 l0_4 = some (r1, r2, r3, r4, r5, r6)) :
  Calls Try.prog 31 #[.agg #[.slice A0_0 l0_0.length c0_0, .int .i64 a0_1, .slice A0_2 l0_2.length c0_2, .slice A0_3 l0_3.length c0_3, .slice A0_4 l0_4.length c0_4]] w fun e w' => ∃ v0_ v2_ v3_ v4_ v5_ : Value, e = .returned (.tuple #[.agg #[v0_, .int .i64 r2, v2_, v3_, v4_], v5_]) ∧ Kd.R (Kd.int .i64) 3 w' w.heap.size (fun k_ => some k_ ≠ (v2_ : Value).ownBlock ∧ some k_ ≠ (v4_ : Value).ownBlock ∧ some k_ ≠ (v5_ : Value).ownBlock) v0_ r1 ∧ Kd.R (Kd.int .i64) 3 w' w.heap.size (fun k_ => some k_ ≠ (v0_ : Value).ownBlock ∧ some k_ ≠ (v4_ : Value).ownBlock ∧ some k_ ≠ (v5_ : Value).ownBlock) v2_ r3 ∧ Kd.R k70 70 w' w.heap.size (fun _ => True) v3_ r4 ∧ Kd.R (Kd.int .i64) 3 w' w.heap.size (fun k_ => some k_ ≠ (v0_ : Value).ownBlock ∧ some k_ ≠ (v2_ : Value).ownBlock ∧ some k_ ≠ (v5_ : Value).ownBlock) v4_ r5 ∧ Kd.R (Kd.int .i64) 3 w' w.heap.size (fun k_ => some k_ ≠ (v0_ : Value).ownBlock ∧ some k_ ≠ (v2_ : Value).ownBlock ∧ some k_ ≠ (v4_ : Value).ownBlock) v5_ r6 ∧ Below w.heap.size w w' := by
 have hu27 := Try.underlying27
 have hu25 := Try.underlying25
 have HR0_0 := Aside0.mk hr0_0
 have HC0_0 := Aside0.mk hc0_0
 clear hr0_0 hc0_0
 have HR0_2 := Aside0.mk hr0_2
 have HC0_2 := Aside0.mk hc0_2
 clear hr0_2 hc0_2
 have HR0_3 := Aside0.mk hr0_3
 have HC0_3 := Aside0.mk hc0_3
 clear hr0_3 hc0_3
 have HR0_4 := Aside0.mk hr0_4
 have HC0_4 := Aside0.mk hc0_4
 clear hr0_4 hc0_4
 have HB := Aside0.mk (Below.refl w.heap.size w)
 have H : ((spec_PoolOk.f k l0_0 a0_1 l0_2 l0_3 l0_4).bind fun t295 => (if t295 = true then ((spec_l09Copy.f l0_0 a0_1 l0_2 l0_3 l0_4).bind fun bt296 => ((spec_Collect.f k a0_1 l0_2 l0_3).bind fun bt310 => ((some (([] : List Int) : List Int)).bind fun y321 => (if y321.length + bt310.2.2.2.length < 17592186044416 then ((some (y321 ++ bt310.2.2.2 : List Int)).bind fun y324 => (if y324.length + bt296.1.length < 17592186044416 then (some ((y324 ++ bt296.1), bt310.1, bt310.2.1, bt310.2.2.1, bt296.2.2.2.2, bt310.2.2.2)) else (none))) else (none))))) else (some (([] : List Int), 0, ([] : List Int), ([] : List (S70)), ([] : List Int), ([] : List Int))))) = some (r1, r2, r3, r4, r5, r6) := h
 clear h
 replace H := Option.bind_eq_some_iff.mp H
 obtain ⟨t295, A20, H⟩ := H
 replace H : (if t295 = true then ((spec_l09Copy.f l0_0 a0_1 l0_2 l0_3 l0_4).bind fun bt296 => ((spec_Collect.f k a0_1 l0_2 l0_3).bind fun bt310 => ((some (([] : List Int) : List Int)).bind fun y321 => (if y321.length + bt310.2.2.2.length < 17592186044416 then ((some (y321 ++ bt310.2.2.2 : List Int)).bind fun y324 => (if y324.length + bt296.1.length < 17592186044416 then (some ((y324 ++ bt296.1), bt310.1, bt310.2.1, bt310.2.2.1, bt296.2.2.2.2, bt310.2.2.2)) else (none))) else (none))))) else (some (([] : List Int), 0, ([] : List Int), ([] : List (S70)), ([] : List Int), ([] : List Int)))) = some (r1, r2, r3, r4, r5, r6) := H
 have A2 := Aside0.mk A20
 clear A20
 by_cases c3 : t295 = true
 ·subst c3
  have H1 : ((spec_l09Copy.f l0_0 a0_1 l0_2 l0_3 l0_4).bind fun bt296 => ((spec_Collect.f k a0_1 l0_2 l0_3).bind fun bt310 => ((some (([] : List Int) : List Int)).bind fun y321 => (if y321.length + bt310.2.2.2.length < 17592186044416 then ((some (y321 ++ bt310.2.2.2 : List Int)).bind fun y324 => (if y324.length + bt296.1.length < 17592186044416 then (some ((y324 ++ bt296.1), bt310.1, bt310.2.1, bt310.2.2.1, bt296.2.2.2.2, bt310.2.2.2)) else (none))) else (none))))) = some (r1, r2, r3, r4, r5, r6) := by rw [if_pos rfl] at H; exact H
  clear H
  have H := H1
  clear H1
  replace H := Option.bind_eq_some_iff.mp H
  obtain ⟨⟨t296, t299, t300, t303, t306⟩, A40, H⟩ := H
  replace H : ((spec_Collect.f k a0_1 l0_2 l0_3).bind fun bt310 => ((some (([] : List Int) : List Int)).bind fun y321 => (if y321.length + bt310.2.2.2.length < 17592186044416 then ((some (y321 ++ bt310.2.2.2 : List Int)).bind fun y324 => (if y324.length + t296.length < 17592186044416 then (some ((y324 ++ t296), bt310.1, bt310.2.1, bt310.2.2.1, t306, bt310.2.2.2)) else (none))) else (none)))) = some (r1, r2, r3, r4, r5, r6) := H
  have A4 := Aside0.mk A40
  clear A40
  replace H := Option.bind_eq_some_iff.mp H
  obtain ⟨⟨t310, t311, t314, t317⟩, A50, H⟩ := H
  replace H : ((some (([] : List Int) : List Int)).bind fun y321 => (if y321.length + t317.length < 17592186044416 then ((some (y321 ++ t317 : List Int)).bind fun y324 => (if y324.length + t296.length < 17592186044416 then (some ((y324 ++ t296), t310, t311, t314, t306, t317)) else (none))) else (none))) = some (r1, r2, r3, r4, r5, r6) := H
  have A5 := Aside0.mk A50
  clear A50
  obtain ⟨y321, hy321⟩ : ∃ y_ : List Int, y_ = (([] : List Int)) := ⟨_, rfl⟩
  replace H : (if y321.length + t317.length < 17592186044416 then ((some (y321 ++ t317 : List Int)).bind fun y324 => (if y324.length + t296.length < 17592186044416 then (some ((y324 ++ t296), t310, t311, t314, t306, t317)) else (none))) else (none)) = some (r1, r2, r3, r4, r5, r6) := by first | (rw [hy321]; with_reducible exact H) | (have H2_ := (Option.bind_some _ _).symm.trans H; rw [hy321]; with_reducible exact H2_) | (have H2_ := (Option.bind_some _ _).symm.trans H; with_reducible exact H2_) | with_reducible exact H | (rw [hy321]; exact H) | exact H
  have Ny321 := Aside0.mk hy321
  clear hy321
  by_cases c6 : y321.length + t317.length < 17592186044416
  ·rw [if_pos c6] at H
   have LMc6 := Aside0.mk c6
   clear c6
   obtain ⟨y324, hy324⟩ : ∃ y_ : List Int, y_ = (y321 ++ t317) := ⟨_, rfl⟩
   replace H : (if y324.length + t296.length < 17592186044416 then (some ((y324 ++ t296), t310, t311, t314, t306, t317)) else (none)) = some (r1, r2, r3, r4, r5, r6) := by first | (rw [hy324]; with_reducible exact H) | (have H2_ := (Option.bind_some _ _).symm.trans H; rw [hy324]; with_reducible exact H2_) | (have H2_ := (Option.bind_some _ _).symm.trans H; with_reducible exact H2_) | with_reducible exact H | (rw [hy324]; exact H) | exact H
   have Ny324 := Aside0.mk hy324
   clear hy324
   by_cases c7 : y324.length + t296.length < 17592186044416
   ·rw [if_pos c7] at H
    have LMc7 := Aside0.mk c7
    clear c7
    obtain ⟨y327, hy327⟩ : ∃ y_ : List Int, y_ = (y324 ++ t296) := ⟨_, rfl⟩
    replace H : (some (y327, t310, t311, t314, t306, t317)) = some (r1, r2, r3, r4, r5, r6) := by first | (rw [hy327]; with_reducible exact H) | (have H2_ := (Option.bind_some _ _).symm.trans H; rw [hy327]; with_reducible exact H2_) | (have H2_ := (Option.bind_some _ _).symm.trans H; with_reducible exact H2_) | with_reducible exact H | (rw [hy327]; exact H) | exact H
    have Ny327 := Aside0.mk hy327
    clear hy327
    simp only [Option.some.injEq, Prod.mk.injEq] at H
    obtain ⟨rfl, rfl, rfl, rfl, rfl, rfl⟩ := H
    go_enter Try.func31, Try.ntmps31
    try go_wp2_with (first | ((with_reducible refine gate_dst (N := 1) rfl ?_); refine bx 1 #[.slice A0_0 l0_0.length c0_0, .int .i64 a0_1, .slice A0_2 l0_2.length c0_2, .slice A0_3 l0_3.length c0_3, .slice A0_4 l0_4.length c0_4] 27 ?_; intro gb293 hg w8 hbox hb; have BK293 := am hbox; have GW293 := gs0 hg HB; have GE293 := gs0 hg HB; replace HB := s0 HB hb; clear hb hbox hg) | ((with_reducible refine gate_dst (N := 2) rfl ?_); refine bx 2 #[.slice none 0 0, .int .i64 0, .slice none 0 0, .slice none 0 0, .slice none 0 0] 27 ?_; intro gb294 hg w9 hbox hb; have BK294 := am hbox; have GW294 := gs1 hg HB GE293; have GE294 := gs1 hg HB GE293; replace HB := Aside0.mk (below_step (be1 HB GE293) hb); have NB293_294 := Aside0.mk ((by rw [hg]; exact Nat.ne_of_lt (bl BK293) : gb293 ≠ gb294)); have NB294_293 := Aside0.mk ((by rw [hg]; exact Nat.ne_of_gt (bl BK293) : gb294 ≠ gb293)); replace BK293 := bb BK293 hb; clear hb hbox hg; have hnb10 := NB293_294.out; have hnc10 := NB294_293.out; have hcz11_0 := bz5 BK293) | ((with_reducible refine gate_callee (f := 20) rfl ?_); refine gl 8 Try.func20 #[.agg #[.slice A0_0 l0_0.length c0_0, .int .i64 a0_1, .slice A0_2 l0_2.length c0_2, .slice A0_3 l0_3.length c0_3, .slice A0_4 l0_4.length c0_4]] ?_; (with_reducible refine (spec_PoolOk.calls k _ _ l0_0 a0_1 _ _ l0_2 _ _ l0_3 _ _ l0_4 true _ (cb HR0_0 HB) HC0_0.out (cb HR0_2 HB) HC0_2.out (cb HR0_3 HB) HC0_3.out (cb HR0_4 HB) HC0_4.out A2.out).mono ?_); rintro e w12 ⟨rfl, hb⟩; refine ⟨_, rfl, ?_⟩; replace BK293 := bb BK293 hb; replace BK294 := bb BK294 hb; replace HB := Aside0.mk (below_step (be2 HB GE293 GE294) hb); (try clear hb); have hcz13_0 := bz5 BK293) | ((with_reducible refine gate_callee (f := 64) rfl ?_); refine gl 12 Try.func64 #[.agg #[.slice A0_0 l0_0.length c0_0, .int .i64 a0_1, .slice A0_2 l0_2.length c0_2, .slice A0_3 l0_3.length c0_3, .slice A0_4 l0_4.length c0_4]] ?_; (with_reducible refine (spec_l09Copy.calls _ _ l0_0 a0_1 _ _ l0_2 _ _ l0_3 _ _ l0_4 t296 t299 t300 t303 t306 _ (cb HR0_0 HB) HC0_0.out (cb HR0_2 HB) HC0_2.out (cb HR0_3 HB) HC0_3.out (cb HR0_4 HB) HC0_4.out A4.out).mono ?_); rintro e w14 ⟨v297, v301, v304, v307, rfl, ho0, ho1, ho2, ho3, hb⟩; refine ⟨_, rfl, ?_⟩; have HO298 := Aside0.mk (Kd.R_lower ho0 (below_size (be2 HB GE293 GE294))); have HO302 := Aside0.mk (Kd.R_lower ho1 (below_size (be2 HB GE293 GE294))); have HO305 := Aside0.mk (Kd.R_lower ho2 (below_size (be2 HB GE293 GE294))); have HO308 := Aside0.mk (Kd.R_lower ho3 (below_size (be2 HB GE293 GE294))); replace BK293 := bb BK293 hb; replace BK294 := bb BK294 hb; replace HB := Aside0.mk (below_step (be2 HB GE293 GE294) hb); (try clear hb); (try clear ho0); (try clear ho1); (try clear ho2); (try clear ho3)) | ((with_reducible refine gate_dst (N := 4) rfl ?_); refine bx 4 #[.slice none 0 0, .int .i64 0, .slice none 0 0, .slice none 0 0, .slice none 0 0] 27 ?_; intro gb309 hg w15 hbox hb; replace HO298 := rb HO298 hb; replace HO302 := rb HO302 hb; replace HO305 := rb HO305 hb; replace HO308 := rb HO308 hb; have BK309 := am hbox; have GW309 := gs2 hg HB GE293 GE294; have GE309 := gs2 hg HB GE293 GE294; replace HB := Aside0.mk (below_step (be2 HB GE293 GE294) hb); have NB293_309 := Aside0.mk ((by rw [hg]; exact Nat.ne_of_lt (bl BK293) : gb293 ≠ gb309)); have NB309_293 := Aside0.mk ((by rw [hg]; exact Nat.ne_of_gt (bl BK293) : gb309 ≠ gb293)); replace BK293 := bb BK293 hb; have NB294_309 := Aside0.mk ((by rw [hg]; exact Nat.ne_of_lt (bl BK294) : gb294 ≠ gb309)); have NB309_294 := Aside0.mk ((by rw [hg]; exact Nat.ne_of_gt (bl BK294) : gb309 ≠ gb294)); replace BK294 := bb BK294 hb; clear hb hbox hg; obtain ⟨Ao16, co16, eo16⟩ := Kd.R_slice HO298.out; subst eo16; have hnb17 := NB309_293.out; have hnc17 := NB293_309.out; have hnb18 := NB309_294.out; have hnc18 := NB294_309.out; have hcz19_0 := bz5 BK309; obtain ⟨Ao20, co20, eo20⟩ := Kd.R_slice HO302.out; subst eo20; obtain ⟨Ao21, co21, eo21⟩ := Kd.R_slice HO305.out; subst eo21; obtain ⟨Ao22, co22, eo22⟩ := Kd.R_slice HO308.out; subst eo22; have hcz23_0 := bz5 BK293) | ((with_reducible refine gate_callee (f := 73) rfl ?_); refine gl 16 Try.func73 #[.agg #[.int .i64 a0_1, .slice A0_2 l0_2.length c0_2, .slice A0_3 l0_3.length c0_3]] ?_; (with_reducible refine (spec_Collect.calls k a0_1 _ _ l0_2 _ _ l0_3 t310 t311 t314 t317 _ ?side1 HC0_2.out ?side3 HC0_3.out A5.out).mono ?_); (case side1 => exact Kd.C_below HR0_2.out (be3 HB GE293 GE294 GE309)); (case side3 => exact Kd.C_below HR0_3.out (be3 HB GE293 GE294 GE309)); rintro e w24 ⟨v312, v315, v318, rfl, ho0, ho1, ho2, hb⟩; refine ⟨_, rfl, ?_⟩; have HO313 := Aside0.mk (Kd.R_lower (Kd.R_new' (Kd.R_new' (Kd.R_new' ho0 (Kd.R_lt (rf HO298 BK309))) (Kd.R_lt (rf HO302 BK309))) (Kd.R_lt (rf HO308 BK309))) (below_size (be3 HB GE293 GE294 GE309))); have HO316 := Aside0.mk (Kd.R_lower (Kd.R_new' ho1 (Kd.R_lt (rf HO305 BK309))) (below_size (be3 HB GE293 GE294 GE309))); replace HO305 := Aside0.mk (Kd.R_elder' (rf HO305 BK309) (Kd.R_base ho1) hb); have HO319 := Aside0.mk (Kd.R_lower (Kd.R_new' (Kd.R_new' (Kd.R_new' ho2 (Kd.R_lt (rf HO298 BK309))) (Kd.R_lt (rf HO302 BK309))) (Kd.R_lt (rf HO308 BK309))) (below_size (be3 HB GE293 GE294 GE309))); replace HO298 := td2 (rf HO298 BK309) hb ho0 ho2; replace HO302 := td2 (rf HO302 BK309) hb ho0 ho2; replace HO308 := td2 (rf HO308 BK309) hb ho0 ho2; replace BK293 := Aside0.mk (blk_below (g := gb293) (o := .cells #[.slice A0_0 l0_0.length c0_0, .int .i64 a0_1, .slice A0_2 l0_2.length c0_2, .slice A0_3 l0_3.length c0_3, .slice A0_4 l0_4.length c0_4] 27 (0, 0)) (bf1 BK293 NB293_309) hb); replace BK294 := Aside0.mk (blk_below (g := gb294) (o := .cells #[.slice none 0 0, .int .i64 0, .slice none 0 0, .slice none 0 0, .slice none 0 0] 27 (0, 0)) (bf1 BK294 NB294_309) hb); replace BK309 := Aside0.mk (blk_below (g := gb309) (o := .cells #[.slice Ao16 t296.length co16, .int .i64 t299, .slice Ao20 t300.length co20, .slice Ao21 t303.length co21, .slice Ao22 t306.length co22] 27 (0, 0)) (by (with_reducible repeat (first | refine blk_drewN ?_ _ | refine blk_drew ?_ | refine blk_alloc ?_ _)); refine blk_put (cs := #[.slice Ao16 t296.length co16, .int .i64 t299, .slice Ao20 t300.length co20, .slice Ao21 t303.length co21, .slice none 0 0]) ?_ 4 _ rfl; (with_reducible repeat (first | refine blk_drewN ?_ _ | refine blk_drew ?_ | refine blk_alloc ?_ _)); refine blk_put (cs := #[.slice Ao16 t296.length co16, .int .i64 t299, .slice Ao20 t300.length co20, .slice none 0 0, .slice none 0 0]) ?_ 3 _ rfl; (with_reducible repeat (first | refine blk_drewN ?_ _ | refine blk_drew ?_ | refine blk_alloc ?_ _)); refine blk_put (cs := #[.slice Ao16 t296.length co16, .int .i64 t299, .slice none 0 0, .slice none 0 0, .slice none 0 0]) ?_ 2 _ rfl; (with_reducible repeat (first | refine blk_drewN ?_ _ | refine blk_drew ?_ | refine blk_alloc ?_ _)); refine blk_put (cs := #[.slice Ao16 t296.length co16, .int .i64 0, .slice none 0 0, .slice none 0 0, .slice none 0 0]) ?_ 1 _ rfl; (with_reducible repeat (first | refine blk_drewN ?_ _ | refine blk_drew ?_ | refine blk_alloc ?_ _)); refine blk_put (cs := #[.slice none 0 0, .int .i64 0, .slice none 0 0, .slice none 0 0, .slice none 0 0]) ?_ 0 _ rfl; (with_reducible repeat (first | refine blk_drewN ?_ _ | refine blk_drew ?_ | refine blk_alloc ?_ _)); exact BK309.out) hb); replace HB := Aside0.mk (below_step (be3 HB GE293 GE294 GE309) hb); (try clear hb); (try clear ho0); (try clear ho1); (try clear ho2)) | ((with_reducible refine gate_dst (N := 5) rfl ?_); refine bx 5 #[.int .i64 0, .slice none 0 0, .slice none 0 0] 25 ?_; intro gb320 hg w25 hbox hb; replace HO298 := rb HO298 hb; replace HO302 := rb HO302 hb; replace HO305 := rb HO305 hb; replace HO308 := rb HO308 hb; replace HO313 := rb HO313 hb; replace HO316 := rb HO316 hb; replace HO319 := rb HO319 hb; have BK320 := am hbox; have GW320 := Aside0.mk ((by rw [hg]; exact (below_size (be3 HB GE293 GE294 GE309)) : w.heap.size ≤ gb320)); have GE320 := Aside0.mk ((by rw [hg]; exact (below_size (be3 HB GE293 GE294 GE309)) : w.heap.size ≤ gb320)); replace HB := Aside0.mk (below_step (be3 HB GE293 GE294 GE309) hb); have NB293_320 := Aside0.mk ((by rw [hg]; exact Nat.ne_of_lt (bl BK293) : gb293 ≠ gb320)); have NB320_293 := Aside0.mk ((by rw [hg]; exact Nat.ne_of_gt (bl BK293) : gb320 ≠ gb293)); replace BK293 := bb BK293 hb; have NB294_320 := Aside0.mk ((by rw [hg]; exact Nat.ne_of_lt (bl BK294) : gb294 ≠ gb320)); have NB320_294 := Aside0.mk ((by rw [hg]; exact Nat.ne_of_gt (bl BK294) : gb320 ≠ gb294)); replace BK294 := bb BK294 hb; have NB309_320 := Aside0.mk ((by rw [hg]; exact Nat.ne_of_lt (bl BK309) : gb309 ≠ gb320)); have NB320_309 := Aside0.mk ((by rw [hg]; exact Nat.ne_of_gt (bl BK309) : gb320 ≠ gb309)); replace BK309 := bb BK309 hb; clear hb hbox hg; have hnb26 := NB320_293.out; have hnc26 := NB293_320.out; have hnb27 := NB320_294.out; have hnc27 := NB294_320.out; have hnb28 := NB320_309.out; have hnc28 := NB309_320.out; have hcz29_0 := bz3 BK320; obtain ⟨Ao30, co30, eo30⟩ := Kd.R_slice HO313.out; subst eo30; obtain ⟨Ao31, co31, eo31⟩ := Kd.R_slice HO316.out; subst eo31; have hcz32_0 := bz5 BK309))
    have n0_ : Aside0 (Kd.R (Kd.int .i64) 3 ((((((w25.setCell ⟨gb320, 0, none⟩ (.int .i64 t310)).setCell ⟨gb320, 1, none⟩ (.slice Ao30 t311.length co30)).setCell ⟨gb320, 2, none⟩ (.slice Ao31 t314.length co31)).setCell ⟨gb309, 1, none⟩ (.int .i64 t310)).setCell ⟨gb309, 2, none⟩ (.slice Ao30 t311.length co30)).setCell ⟨gb309, 3, none⟩ (.slice Ao31 t314.length co31)) w.heap.size (fun k_ => nb k_ Ao20 t300.length co20 ∧ nb k_ Ao22 t306.length co22 ∧ nb k_ Ao30 t311.length co30 ∧ some k_ ≠ (v318 : Value).ownBlock) (.slice Ao16 t296.length co16) t296) := ⟨by (with_reducible repeat (first | apply Kd.R_alloc | apply Kd.R_drewN | apply Kd.R_drew)); exact Kd.R_mono (Kd.R_far (p := ⟨gb309, 3, none⟩) (Kd.R_far (p := ⟨gb309, 2, none⟩) (Kd.R_far (p := ⟨gb309, 1, none⟩) (Kd.R_far (p := ⟨gb320, 2, none⟩) (Kd.R_far (p := ⟨gb320, 1, none⟩) (Kd.R_far (p := ⟨gb320, 0, none⟩) (Kd.R_types (Kd.R_types HO298.out BK320.out (by decide)) BK309.out (by decide)) (fun _ hk => hk.1.2) (.int .i64 t310)) (fun _ hk => hk.1.2) (.slice Ao30 t311.length co30)) (fun _ hk => hk.1.2) (.slice Ao31 t314.length co31)) (fun _ hk => hk.2) (.int .i64 t310)) (fun _ hk => hk.2) (.slice Ao30 t311.length co30)) (fun _ hk => hk.2) (.slice Ao31 t314.length co31)) (fun _ hk => ⟨hk.1.1.1.1.1, ⟨hk.1.1.1.1.2, ⟨hk.1.1.1.2, hk.1.1.2⟩⟩⟩)⟩
    have n1_ : Aside0 (Kd.R (Kd.int .i64) 3 ((((((w25.setCell ⟨gb320, 0, none⟩ (.int .i64 t310)).setCell ⟨gb320, 1, none⟩ (.slice Ao30 t311.length co30)).setCell ⟨gb320, 2, none⟩ (.slice Ao31 t314.length co31)).setCell ⟨gb309, 1, none⟩ (.int .i64 t310)).setCell ⟨gb309, 2, none⟩ (.slice Ao30 t311.length co30)).setCell ⟨gb309, 3, none⟩ (.slice Ao31 t314.length co31)) w.heap.size (fun k_ => nb k_ Ao16 t296.length co16 ∧ nb k_ Ao22 t306.length co22 ∧ nb k_ Ao30 t311.length co30 ∧ some k_ ≠ (v318 : Value).ownBlock) (.slice Ao20 t300.length co20) t300) := ⟨by (with_reducible repeat (first | apply Kd.R_alloc | apply Kd.R_drewN | apply Kd.R_drew)); exact Kd.R_mono (Kd.R_far (p := ⟨gb309, 3, none⟩) (Kd.R_far (p := ⟨gb309, 2, none⟩) (Kd.R_far (p := ⟨gb309, 1, none⟩) (Kd.R_far (p := ⟨gb320, 2, none⟩) (Kd.R_far (p := ⟨gb320, 1, none⟩) (Kd.R_far (p := ⟨gb320, 0, none⟩) (Kd.R_types (Kd.R_types HO302.out BK320.out (by decide)) BK309.out (by decide)) (fun _ hk => hk.1.2) (.int .i64 t310)) (fun _ hk => hk.1.2) (.slice Ao30 t311.length co30)) (fun _ hk => hk.1.2) (.slice Ao31 t314.length co31)) (fun _ hk => hk.2) (.int .i64 t310)) (fun _ hk => hk.2) (.slice Ao30 t311.length co30)) (fun _ hk => hk.2) (.slice Ao31 t314.length co31)) (fun _ hk => ⟨hk.1.1.1.1.1, ⟨hk.1.1.1.1.2, ⟨hk.1.1.1.2, hk.1.1.2⟩⟩⟩)⟩
    have n2_ : Aside0 (Kd.R k70 70 ((((((w25.setCell ⟨gb320, 0, none⟩ (.int .i64 t310)).setCell ⟨gb320, 1, none⟩ (.slice Ao30 t311.length co30)).setCell ⟨gb320, 2, none⟩ (.slice Ao31 t314.length co31)).setCell ⟨gb309, 1, none⟩ (.int .i64 t310)).setCell ⟨gb309, 2, none⟩ (.slice Ao30 t311.length co30)).setCell ⟨gb309, 3, none⟩ (.slice Ao31 t314.length co31)) w.heap.size (fun k_ => nb k_ Ao31 t314.length co31) (.slice Ao21 t303.length co21) t303) := ⟨by (with_reducible repeat (first | apply Kd.R_alloc | apply Kd.R_drewN | apply Kd.R_drew)); exact Kd.R_mono (Kd.R_far (p := ⟨gb309, 3, none⟩) (Kd.R_far (p := ⟨gb309, 2, none⟩) (Kd.R_far (p := ⟨gb309, 1, none⟩) (Kd.R_far (p := ⟨gb320, 2, none⟩) (Kd.R_far (p := ⟨gb320, 1, none⟩) (Kd.R_far (p := ⟨gb320, 0, none⟩) (Kd.R_types (Kd.R_types HO305.out BK320.out (by decide)) BK309.out (by decide)) (fun _ hk => hk.1.2) (.int .i64 t310)) (fun _ hk => hk.1.2) (.slice Ao30 t311.length co30)) (fun _ hk => hk.1.2) (.slice Ao31 t314.length co31)) (fun _ hk => hk.2) (.int .i64 t310)) (fun _ hk => hk.2) (.slice Ao30 t311.length co30)) (fun _ hk => hk.2) (.slice Ao31 t314.length co31)) (fun _ hk => hk.1.1.2)⟩
    have n3_ : Aside0 (Kd.R (Kd.int .i64) 3 ((((((w25.setCell ⟨gb320, 0, none⟩ (.int .i64 t310)).setCell ⟨gb320, 1, none⟩ (.slice Ao30 t311.length co30)).setCell ⟨gb320, 2, none⟩ (.slice Ao31 t314.length co31)).setCell ⟨gb309, 1, none⟩ (.int .i64 t310)).setCell ⟨gb309, 2, none⟩ (.slice Ao30 t311.length co30)).setCell ⟨gb309, 3, none⟩ (.slice Ao31 t314.length co31)) w.heap.size (fun k_ => nb k_ Ao16 t296.length co16 ∧ nb k_ Ao20 t300.length co20 ∧ nb k_ Ao30 t311.length co30 ∧ some k_ ≠ (v318 : Value).ownBlock) (.slice Ao22 t306.length co22) t306) := ⟨by (with_reducible repeat (first | apply Kd.R_alloc | apply Kd.R_drewN | apply Kd.R_drew)); exact Kd.R_mono (Kd.R_far (p := ⟨gb309, 3, none⟩) (Kd.R_far (p := ⟨gb309, 2, none⟩) (Kd.R_far (p := ⟨gb309, 1, none⟩) (Kd.R_far (p := ⟨gb320, 2, none⟩) (Kd.R_far (p := ⟨gb320, 1, none⟩) (Kd.R_far (p := ⟨gb320, 0, none⟩) (Kd.R_types (Kd.R_types HO308.out BK320.out (by decide)) BK309.out (by decide)) (fun _ hk => hk.1.2) (.int .i64 t310)) (fun _ hk => hk.1.2) (.slice Ao30 t311.length co30)) (fun _ hk => hk.1.2) (.slice Ao31 t314.length co31)) (fun _ hk => hk.2) (.int .i64 t310)) (fun _ hk => hk.2) (.slice Ao30 t311.length co30)) (fun _ hk => hk.2) (.slice Ao31 t314.length co31)) (fun _ hk => ⟨hk.1.1.1.1.1, ⟨hk.1.1.1.1.2, ⟨hk.1.1.1.2, hk.1.1.2⟩⟩⟩)⟩
    have n4_ : Aside0 (Kd.R (Kd.int .i64) 3 ((((((w25.setCell ⟨gb320, 0, none⟩ (.int .i64 t310)).setCell ⟨gb320, 1, none⟩ (.slice Ao30 t311.length co30)).setCell ⟨gb320, 2, none⟩ (.slice Ao31 t314.length co31)).setCell ⟨gb309, 1, none⟩ (.int .i64 t310)).setCell ⟨gb309, 2, none⟩ (.slice Ao30 t311.length co30)).setCell ⟨gb309, 3, none⟩ (.slice Ao31 t314.length co31)) w.heap.size (fun k_ => nb k_ Ao16 t296.length co16 ∧ nb k_ Ao20 t300.length co20 ∧ nb k_ Ao22 t306.length co22 ∧ some k_ ≠ (v318 : Value).ownBlock) (.slice Ao30 t311.length co30) t311) := ⟨by (with_reducible repeat (first | apply Kd.R_alloc | apply Kd.R_drewN | apply Kd.R_drew)); exact Kd.R_mono (Kd.R_far (p := ⟨gb309, 3, none⟩) (Kd.R_far (p := ⟨gb309, 2, none⟩) (Kd.R_far (p := ⟨gb309, 1, none⟩) (Kd.R_far (p := ⟨gb320, 2, none⟩) (Kd.R_far (p := ⟨gb320, 1, none⟩) (Kd.R_far (p := ⟨gb320, 0, none⟩) (Kd.R_types (Kd.R_types HO313.out BK320.out (by decide)) BK309.out (by decide)) (fun _ hk => hk.1.2) (.int .i64 t310)) (fun _ hk => hk.1.2) (.slice Ao30 t311.length co30)) (fun _ hk => hk.1.2) (.slice Ao31 t314.length co31)) (fun _ hk => hk.2) (.int .i64 t310)) (fun _ hk => hk.2) (.slice Ao30 t311.length co30)) (fun _ hk => hk.2) (.slice Ao31 t314.length co31)) (fun _ hk => ⟨hk.1.1.1.1.2, ⟨hk.1.1.1.2, ⟨hk.1.1.2, hk.1.1.1.1.1⟩⟩⟩)⟩
    have n5_ : Aside0 (Kd.R k70 70 ((((((w25.setCell ⟨gb320, 0, none⟩ (.int .i64 t310)).setCell ⟨gb320, 1, none⟩ (.slice Ao30 t311.length co30)).setCell ⟨gb320, 2, none⟩ (.slice Ao31 t314.length co31)).setCell ⟨gb309, 1, none⟩ (.int .i64 t310)).setCell ⟨gb309, 2, none⟩ (.slice Ao30 t311.length co30)).setCell ⟨gb309, 3, none⟩ (.slice Ao31 t314.length co31)) w.heap.size (fun k_ => nb k_ Ao21 t303.length co21) (.slice Ao31 t314.length co31) t314) := ⟨by (with_reducible repeat (first | apply Kd.R_alloc | apply Kd.R_drewN | apply Kd.R_drew)); exact Kd.R_mono (Kd.R_far (p := ⟨gb309, 3, none⟩) (Kd.R_far (p := ⟨gb309, 2, none⟩) (Kd.R_far (p := ⟨gb309, 1, none⟩) (Kd.R_far (p := ⟨gb320, 2, none⟩) (Kd.R_far (p := ⟨gb320, 1, none⟩) (Kd.R_far (p := ⟨gb320, 0, none⟩) (Kd.R_types (Kd.R_types HO316.out BK320.out (by decide)) BK309.out (by decide)) (fun _ hk => hk.1.2) (.int .i64 t310)) (fun _ hk => hk.1.2) (.slice Ao30 t311.length co30)) (fun _ hk => hk.1.2) (.slice Ao31 t314.length co31)) (fun _ hk => hk.2) (.int .i64 t310)) (fun _ hk => hk.2) (.slice Ao30 t311.length co30)) (fun _ hk => hk.2) (.slice Ao31 t314.length co31)) (fun _ hk => hk.1.1.2)⟩
    have n6_ : Aside0 (Kd.R (Kd.int .i64) 3 ((((((w25.setCell ⟨gb320, 0, none⟩ (.int .i64 t310)).setCell ⟨gb320, 1, none⟩ (.slice Ao30 t311.length co30)).setCell ⟨gb320, 2, none⟩ (.slice Ao31 t314.length co31)).setCell ⟨gb309, 1, none⟩ (.int .i64 t310)).setCell ⟨gb309, 2, none⟩ (.slice Ao30 t311.length co30)).setCell ⟨gb309, 3, none⟩ (.slice Ao31 t314.length co31)) w.heap.size (fun k_ => nb k_ Ao16 t296.length co16 ∧ nb k_ Ao20 t300.length co20 ∧ nb k_ Ao22 t306.length co22 ∧ nb k_ Ao30 t311.length co30) v318 t317) := ⟨by (with_reducible repeat (first | apply Kd.R_alloc | apply Kd.R_drewN | apply Kd.R_drew)); exact Kd.R_mono (Kd.R_far (p := ⟨gb309, 3, none⟩) (Kd.R_far (p := ⟨gb309, 2, none⟩) (Kd.R_far (p := ⟨gb309, 1, none⟩) (Kd.R_far (p := ⟨gb320, 2, none⟩) (Kd.R_far (p := ⟨gb320, 1, none⟩) (Kd.R_far (p := ⟨gb320, 0, none⟩) (Kd.R_types (Kd.R_types HO319.out BK320.out (by decide)) BK309.out (by decide)) (fun _ hk => hk.1.2) (.int .i64 t310)) (fun _ hk => hk.1.2) (.slice Ao30 t311.length co30)) (fun _ hk => hk.1.2) (.slice Ao31 t314.length co31)) (fun _ hk => hk.2) (.int .i64 t310)) (fun _ hk => hk.2) (.slice Ao30 t311.length co30)) (fun _ hk => hk.2) (.slice Ao31 t314.length co31)) (fun _ hk => ⟨hk.1.1.1.1.2, ⟨hk.1.1.1.2, ⟨hk.1.1.2, hk.1.1.1.1.1⟩⟩⟩)⟩
    have n7_ : Aside0 (((((((w25.setCell ⟨gb320, 0, none⟩ (.int .i64 t310)).setCell ⟨gb320, 1, none⟩ (.slice Ao30 t311.length co30)).setCell ⟨gb320, 2, none⟩ (.slice Ao31 t314.length co31)).setCell ⟨gb309, 1, none⟩ (.int .i64 t310)).setCell ⟨gb309, 2, none⟩ (.slice Ao30 t311.length co30)).setCell ⟨gb309, 3, none⟩ (.slice Ao31 t314.length co31)).heap[gb293]? = some (.cells #[.slice A0_0 l0_0.length c0_0, .int .i64 a0_1, .slice A0_2 l0_2.length c0_2, .slice A0_3 l0_3.length c0_3, .slice A0_4 l0_4.length c0_4] 27 (0, 0))) := ⟨by (with_reducible repeat (first | refine blk_drewN ?_ _ | refine blk_drew ?_ | refine blk_alloc ?_ _)); refine blk_far ?_ NB293_309.out _; (with_reducible repeat (first | refine blk_drewN ?_ _ | refine blk_drew ?_ | refine blk_alloc ?_ _)); refine blk_far ?_ NB293_309.out _; (with_reducible repeat (first | refine blk_drewN ?_ _ | refine blk_drew ?_ | refine blk_alloc ?_ _)); refine blk_far ?_ NB293_309.out _; (with_reducible repeat (first | refine blk_drewN ?_ _ | refine blk_drew ?_ | refine blk_alloc ?_ _)); refine blk_far ?_ NB293_320.out _; (with_reducible repeat (first | refine blk_drewN ?_ _ | refine blk_drew ?_ | refine blk_alloc ?_ _)); refine blk_far ?_ NB293_320.out _; (with_reducible repeat (first | refine blk_drewN ?_ _ | refine blk_drew ?_ | refine blk_alloc ?_ _)); refine blk_far ?_ NB293_320.out _; (with_reducible repeat (first | refine blk_drewN ?_ _ | refine blk_drew ?_ | refine blk_alloc ?_ _)); exact BK293.out⟩
    have n8_ : Aside0 (((((((w25.setCell ⟨gb320, 0, none⟩ (.int .i64 t310)).setCell ⟨gb320, 1, none⟩ (.slice Ao30 t311.length co30)).setCell ⟨gb320, 2, none⟩ (.slice Ao31 t314.length co31)).setCell ⟨gb309, 1, none⟩ (.int .i64 t310)).setCell ⟨gb309, 2, none⟩ (.slice Ao30 t311.length co30)).setCell ⟨gb309, 3, none⟩ (.slice Ao31 t314.length co31)).heap[gb294]? = some (.cells #[.slice none 0 0, .int .i64 0, .slice none 0 0, .slice none 0 0, .slice none 0 0] 27 (0, 0))) := ⟨by (with_reducible repeat (first | refine blk_drewN ?_ _ | refine blk_drew ?_ | refine blk_alloc ?_ _)); refine blk_far ?_ NB294_309.out _; (with_reducible repeat (first | refine blk_drewN ?_ _ | refine blk_drew ?_ | refine blk_alloc ?_ _)); refine blk_far ?_ NB294_309.out _; (with_reducible repeat (first | refine blk_drewN ?_ _ | refine blk_drew ?_ | refine blk_alloc ?_ _)); refine blk_far ?_ NB294_309.out _; (with_reducible repeat (first | refine blk_drewN ?_ _ | refine blk_drew ?_ | refine blk_alloc ?_ _)); refine blk_far ?_ NB294_320.out _; (with_reducible repeat (first | refine blk_drewN ?_ _ | refine blk_drew ?_ | refine blk_alloc ?_ _)); refine blk_far ?_ NB294_320.out _; (with_reducible repeat (first | refine blk_drewN ?_ _ | refine blk_drew ?_ | refine blk_alloc ?_ _)); refine blk_far ?_ NB294_320.out _; (with_reducible repeat (first | refine blk_drewN ?_ _ | refine blk_drew ?_ | refine blk_alloc ?_ _)); exact BK294.out⟩
    have n9_ : Aside0 (((((((w25.setCell ⟨gb320, 0, none⟩ (.int .i64 t310)).setCell ⟨gb320, 1, none⟩ (.slice Ao30 t311.length co30)).setCell ⟨gb320, 2, none⟩ (.slice Ao31 t314.length co31)).setCell ⟨gb309, 1, none⟩ (.int .i64 t310)).setCell ⟨gb309, 2, none⟩ (.slice Ao30 t311.length co30)).setCell ⟨gb309, 3, none⟩ (.slice Ao31 t314.length co31)).heap[gb309]? = some (.cells #[.slice Ao16 t296.length co16, .int .i64 t310, .slice Ao30 t311.length co30, .slice Ao31 t314.length co31, .slice Ao22 t306.length co22] 27 (0, 0))) := ⟨by (with_reducible repeat (first | refine blk_drewN ?_ _ | refine blk_drew ?_ | refine blk_alloc ?_ _)); refine blk_put (cs := #[.slice Ao16 t296.length co16, .int .i64 t310, .slice Ao30 t311.length co30, .slice Ao21 t303.length co21, .slice Ao22 t306.length co22]) ?_ 3 _ rfl; (with_reducible repeat (first | refine blk_drewN ?_ _ | refine blk_drew ?_ | refine blk_alloc ?_ _)); refine blk_put (cs := #[.slice Ao16 t296.length co16, .int .i64 t310, .slice Ao20 t300.length co20, .slice Ao21 t303.length co21, .slice Ao22 t306.length co22]) ?_ 2 _ rfl; (with_reducible repeat (first | refine blk_drewN ?_ _ | refine blk_drew ?_ | refine blk_alloc ?_ _)); refine blk_put (cs := #[.slice Ao16 t296.length co16, .int .i64 t299, .slice Ao20 t300.length co20, .slice Ao21 t303.length co21, .slice Ao22 t306.length co22]) ?_ 1 _ rfl; (with_reducible repeat (first | refine blk_drewN ?_ _ | refine blk_drew ?_ | refine blk_alloc ?_ _)); refine blk_far ?_ NB309_320.out _; (with_reducible repeat (first | refine blk_drewN ?_ _ | refine blk_drew ?_ | refine blk_alloc ?_ _)); refine blk_far ?_ NB309_320.out _; (with_reducible repeat (first | refine blk_drewN ?_ _ | refine blk_drew ?_ | refine blk_alloc ?_ _)); refine blk_far ?_ NB309_320.out _; (with_reducible repeat (first | refine blk_drewN ?_ _ | refine blk_drew ?_ | refine blk_alloc ?_ _)); exact BK309.out⟩
    have n10_ : Aside0 (((((((w25.setCell ⟨gb320, 0, none⟩ (.int .i64 t310)).setCell ⟨gb320, 1, none⟩ (.slice Ao30 t311.length co30)).setCell ⟨gb320, 2, none⟩ (.slice Ao31 t314.length co31)).setCell ⟨gb309, 1, none⟩ (.int .i64 t310)).setCell ⟨gb309, 2, none⟩ (.slice Ao30 t311.length co30)).setCell ⟨gb309, 3, none⟩ (.slice Ao31 t314.length co31)).heap[gb320]? = some (.cells #[.int .i64 t310, .slice Ao30 t311.length co30, .slice Ao31 t314.length co31] 25 (0, 0))) := ⟨by (with_reducible repeat (first | refine blk_drewN ?_ _ | refine blk_drew ?_ | refine blk_alloc ?_ _)); refine blk_far ?_ NB320_309.out _; (with_reducible repeat (first | refine blk_drewN ?_ _ | refine blk_drew ?_ | refine blk_alloc ?_ _)); refine blk_far ?_ NB320_309.out _; (with_reducible repeat (first | refine blk_drewN ?_ _ | refine blk_drew ?_ | refine blk_alloc ?_ _)); refine blk_far ?_ NB320_309.out _; (with_reducible repeat (first | refine blk_drewN ?_ _ | refine blk_drew ?_ | refine blk_alloc ?_ _)); refine blk_put (cs := #[.int .i64 t310, .slice Ao30 t311.length co30, .slice none 0 0]) ?_ 2 _ rfl; (with_reducible repeat (first | refine blk_drewN ?_ _ | refine blk_drew ?_ | refine blk_alloc ?_ _)); refine blk_put (cs := #[.int .i64 t310, .slice none 0 0, .slice none 0 0]) ?_ 1 _ rfl; (with_reducible repeat (first | refine blk_drewN ?_ _ | refine blk_drew ?_ | refine blk_alloc ?_ _)); refine blk_put (cs := #[.int .i64 0, .slice none 0 0, .slice none 0 0]) ?_ 0 _ rfl; (with_reducible repeat (first | refine blk_drewN ?_ _ | refine blk_drew ?_ | refine blk_alloc ?_ _)); exact BK320.out⟩
    have n11_ : Aside0 (Below w.heap.size w ((((((w25.setCell ⟨gb320, 0, none⟩ (.int .i64 t310)).setCell ⟨gb320, 1, none⟩ (.slice Ao30 t311.length co30)).setCell ⟨gb320, 2, none⟩ (.slice Ao31 t314.length co31)).setCell ⟨gb309, 1, none⟩ (.int .i64 t310)).setCell ⟨gb309, 2, none⟩ (.slice Ao30 t311.length co30)).setCell ⟨gb309, 3, none⟩ (.slice Ao31 t314.length co31))) := ⟨be4 HB GE293 GE294 GE309 GE320⟩
    (try clear HO298)
    (try clear HO302)
    (try clear HO305)
    (try clear HO308)
    (try clear HO313)
    (try clear HO316)
    (try clear HO319)
    (try clear BK293)
    (try clear BK294)
    (try clear BK309)
    (try clear BK320)
    (try clear HB)
    generalize ((((((w25.setCell ⟨gb320, 0, none⟩ (.int .i64 t310)).setCell ⟨gb320, 1, none⟩ (.slice Ao30 t311.length co30)).setCell ⟨gb320, 2, none⟩ (.slice Ao31 t314.length co31)).setCell ⟨gb309, 1, none⟩ (.int .i64 t310)).setCell ⟨gb309, 2, none⟩ (.slice Ao30 t311.length co30)).setCell ⟨gb309, 3, none⟩ (.slice Ao31 t314.length co31)) = w33 at n0_ n1_ n2_ n3_ n4_ n5_ n6_ n7_ n8_ n9_ n10_ n11_ ⊢
    have HO298 := n0_
    have HO302 := n1_
    have HO305 := n2_
    have HO308 := n3_
    have HO313 := n4_
    have HO316 := n5_
    have HO319 := n6_
    have BK293 := n7_
    have BK294 := n8_
    have BK309 := n9_
    have BK320 := n10_
    have HB := n11_
    clear n0_ n1_ n2_ n3_ n4_ n5_ n6_ n7_ n8_ n9_ n10_ n11_
    have n0_ := Aside0.mk (Kd.R_drew HO298.out)
    have n1_ := Aside0.mk (Kd.R_drew HO302.out)
    have n2_ := Aside0.mk (Kd.R_drew HO305.out)
    have n3_ := Aside0.mk (Kd.R_drew HO308.out)
    have n4_ := Aside0.mk (Kd.R_drew HO313.out)
    have n5_ := Aside0.mk (Kd.R_drew HO316.out)
    have n6_ := Aside0.mk (Kd.R_drew HO319.out)
    have n7_ := Aside0.mk (blk_drew BK293.out)
    have n8_ := Aside0.mk (blk_drew BK294.out)
    have n9_ := Aside0.mk (blk_drew BK309.out)
    have n10_ := Aside0.mk (blk_drew BK320.out)
    have n11_ := Aside0.mk (below_drew1 HB.out)
    clear HO298
    clear HO302
    clear HO305
    clear HO308
    clear HO313
    clear HO316
    clear HO319
    clear BK293
    clear BK294
    clear BK309
    clear BK320
    clear HB
    have HO298 := n0_
    have HO302 := n1_
    have HO305 := n2_
    have HO308 := n3_
    have HO313 := n4_
    have HO316 := n5_
    have HO319 := n6_
    have BK293 := n7_
    have BK294 := n8_
    have BK309 := n9_
    have BK320 := n10_
    have HB := n11_
    clear n0_ n1_ n2_ n3_ n4_ n5_ n6_ n7_ n8_ n9_ n10_ n11_
    refine start_ (n := 8) (S := fun w' => w'.cell? ⟨gb309, 0, none⟩ = some (.slice Ao16 t296.length co16) ∧ w'.cell? ⟨gb309, 1, none⟩ = some (.int .i64 t310) ∧ w'.cell? ⟨gb309, 2, none⟩ = some (.slice Ao30 t311.length co30) ∧ w'.cell? ⟨gb309, 3, none⟩ = some (.slice Ao31 t314.length co31) ∧ w'.cell? ⟨gb309, 4, none⟩ = some (.slice Ao22 t306.length co22)) (ds := [7]) (bv 8 0x0) (by kernel_rfl) rfl rfl ⟨bc0 BK309, bc1 BK309, bc2 BK309, bc3 BK309, bc4 BK309⟩ (fun hHeld => ?_); refine with_tabW spec_Reclaim.tab6 spec_Reclaim.bits6 (fun HT_ HW_ => ?_)
    generalize w33.drew = w34 at HO298 HO302 HO305 HO308 HO313 HO316 HO319 BK293 BK294 BK309 BK320 HB hHeld ⊢
    refine py HT_ 1 22 (bv 8 0x2) ?_
    refine py HT_ 3 24 (bv 8 0xa) ?_
    refine tk HT_ HW_ hHeld 4 25 (bv 8 0x1a) ?_
    refine one_ (i := 0) (N := some 21) (bv 8 0x1b) rfl rfl (one_of HT_.out (by kernel_rfl)) (by decide) (fun K hK => ?_)
    refine Kd.R_lit_step (Kd.int .i64) _ 3 ?hg (N := 21) ?hd (xs := ([] : List Int)) (inner := []) (ok := fun _ => True) (okp := fun _ => True) ?hr ?hp (fun _ hk => hk) trivial (Below.refl _ _) (Nat.le_refl _) (by simp) ?_; (case hd => rfl); (case hg => rfl); (case hr => first | (go_simp; done) | (go_simp; rfl)); (case hp => exact (Reps.none _ _))
    intro v322 w35 ho36 hb hg_ hnew_
    clear hg_ hnew_
    (first | rw [← Ny321.out] at ho36 | (simp only [Int.reduceToNat] at ho36; rw [← Ny321.out] at ho36))
    have n0_ := Aside0.mk (Kd.R_elder' (ro HO298) (Kd.R_base ho36) hb)
    have n1_ := Aside0.mk (Kd.R_elder' (ro HO302) (Kd.R_base ho36) hb)
    have n2_ := rb HO305 hb
    have n3_ := Aside0.mk (Kd.R_elder' (ro HO308) (Kd.R_base ho36) hb)
    have n4_ := Aside0.mk (Kd.R_elder' (ro HO313) (Kd.R_base ho36) hb)
    have n5_ := rb HO316 hb
    have n6_ := Aside0.mk (Kd.R_elder' (ro HO319) (Kd.R_base ho36) hb)
    have n7_ := Aside0.mk (Kd.R_lower (nw (nw (nw (nw (nw ho36 HO298) HO302) HO308) HO313) HO319) (below_size (be4 HB GE293 GE294 GE309 GE320)))
    have n8_ := bb BK293 hb
    have n9_ := bb BK294 hb
    have n10_ := bb BK309 hb
    have n11_ := bb BK320 hb
    have n12_ := Aside0.mk (below_step (be4 HB GE293 GE294 GE309 GE320) hb)
    clear HO298
    clear HO302
    clear HO305
    clear HO308
    clear HO313
    clear HO316
    clear HO319
    clear BK293
    clear BK294
    clear BK309
    clear BK320
    clear HB
    have HO298 := n0_
    have HO302 := n1_
    have HO305 := n2_
    have HO308 := n3_
    have HO313 := n4_
    have HO316 := n5_
    have HO319 := n6_
    have HO323 := n7_
    have BK293 := n8_
    have BK294 := n9_
    have BK309 := n10_
    have BK320 := n11_
    have HB := n12_
    clear n0_ n1_ n2_ n3_ n4_ n5_ n6_ n7_ n8_ n9_ n10_ n11_ n12_
    clear hb ho36
    obtain ⟨Ao38, co38, eo38⟩ := Kd.R_slice HO319.out
    (first | subst eo38 | (injection eo38 with f1_ f2_ f3_; have f4_ := f1_.symm; have f5_ := f3_.symm; clear f1_ f2_ f3_; subst f4_; subst f5_))
    refine hK.out _ _ ⟨bc0 BK309, bc1 BK309, bc2 BK309, bc3 BK309, bc4 BK309⟩ (fun hHeld => ?_)
    clear hK K
    refine norm_ (a' := ?_) ?_ ?_
    rotate_left
    ·show Act.put _ (some 21) _ = _
     simp only [aP]
     rfl
    refine one_ (i := 2) (N := some 23) (bv 8 0x1f) rfl rfl (one_of HT_.out (by kernel_rfl)) (by decide) (fun K hK => ?_)
    refine Kd.R_append_rows_step (Kd.int .i64) (w0 := w) w.heap.size (by rfl) (.tmp 21) (.tmp 22) 22 3 (.int .i64 0) 8 rfl Try.underlying22 info3 rfl (by decide) (by omega) v322 y321 t317 _ _ _ (fun k_ => nb k_ Ao16 t296.length co16 ∧ nb k_ Ao20 t300.length co20 ∧ nb k_ Ao22 t306.length co22 ∧ nb k_ Ao30 t311.length co30 ∧ nb k_ Ao38 t317.length co38) (fun _ => False) rfl rfl ?aO ?aR (fun _ _ h => h) (fun _ h => h.elim) ?aF ?aB ?aS ?aL ?_
    (case aR => repeat (first | exact (Kd.R_reads' HO319.out).2.2 | (with_reducible refine Kd.C_alloc ?_ _) | (with_reducible refine Kd.C_drewN ?_ _) | (with_reducible refine Kd.C_drew ?_)))
    (case aB => exact (be4 HB GE293 GE294 GE309 GE320))
    (case aF => exact (fun k_ hk => ⟨Kd.fresh' (Kd.R_lt (ro HO298)) k_ hk, Kd.fresh' (Kd.R_lt (ro HO302)) k_ hk, Kd.fresh' (Kd.R_lt (ro HO308)) k_ hk, Kd.fresh' (Kd.R_lt (ro HO313)) k_ hk, Kd.fresh' (Kd.R_lt (ro HO319)) k_ hk⟩))
    (case aO => exact (by (with_reducible repeat (first | apply Kd.R_alloc | apply Kd.R_drewN | apply Kd.R_drew)); exact rm HO323))
    (case aS => exact (below_size (be4 HB GE293 GE294 GE309 GE320)))
    (case aL => have := LMc6.out; omega)
    intro v325 w37 ho hb hg hat
    rw [← Ny324.out] at ho
    have n0_ := Aside0.mk (blk_grown (g := gb293) (o := .cells #[.slice A0_0 l0_0.length c0_0, .int .i64 a0_1, .slice A0_2 l0_2.length c0_2, .slice A0_3 l0_3.length c0_3, .slice A0_4 l0_4.length c0_4] 27 (0, 0)) (bk BK293) hg (Kd.R_ne HO323.out BK293.out (by decide)))
    have n1_ := Aside0.mk (blk_grown (g := gb294) (o := .cells #[.slice none 0 0, .int .i64 0, .slice none 0 0, .slice none 0 0, .slice none 0 0] 27 (0, 0)) (bk BK294) hg (Kd.R_ne HO323.out BK294.out (by decide)))
    have n2_ := Aside0.mk (Kd.R_after (ok := (fun k_ => nb k_ Ao20 t300.length co20 ∧ nb k_ Ao22 t306.length co22 ∧ nb k_ Ao30 t311.length co30 ∧ nb k_ Ao38 t317.length co38)) (ro HO298) hg hat)
    have n3_ := Aside0.mk (Kd.R_after (ok := (fun k_ => nb k_ Ao16 t296.length co16 ∧ nb k_ Ao22 t306.length co22 ∧ nb k_ Ao30 t311.length co30 ∧ nb k_ Ao38 t317.length co38)) (ro HO302) hg hat)
    have n4_ := Aside0.mk (Kd.R_over' (ro HO305) (Kd.R_typed (ro HO323)) (by decide) hg)
    have n5_ := Aside0.mk (Kd.R_after (ok := (fun k_ => nb k_ Ao16 t296.length co16 ∧ nb k_ Ao20 t300.length co20 ∧ nb k_ Ao30 t311.length co30 ∧ nb k_ Ao38 t317.length co38)) (ro HO308) hg hat)
    have n6_ := Aside0.mk (blk_grown (g := gb309) (o := .cells #[.slice Ao16 t296.length co16, .int .i64 t310, .slice Ao30 t311.length co30, .slice Ao31 t314.length co31, .slice Ao22 t306.length co22] 27 (0, 0)) (bk BK309) hg (Kd.R_ne HO323.out BK309.out (by decide)))
    have n7_ := Aside0.mk (Kd.R_after (ok := (fun k_ => nb k_ Ao16 t296.length co16 ∧ nb k_ Ao20 t300.length co20 ∧ nb k_ Ao22 t306.length co22 ∧ nb k_ Ao38 t317.length co38)) (ro HO313) hg hat)
    have n8_ := Aside0.mk (Kd.R_over' (ro HO316) (Kd.R_typed (ro HO323)) (by decide) hg)
    have n9_ := Aside0.mk (Kd.R_after (ok := (fun k_ => nb k_ Ao16 t296.length co16 ∧ nb k_ Ao20 t300.length co20 ∧ nb k_ Ao22 t306.length co22 ∧ nb k_ Ao30 t311.length co30)) (ro HO319) hg hat)
    have n10_ := Aside0.mk (blk_grown (g := gb320) (o := .cells #[.int .i64 t310, .slice Ao30 t311.length co30, .slice Ao31 t314.length co31] 25 (0, 0)) (bk BK320) hg (Kd.R_ne HO323.out BK320.out (by decide)))
    have n11_ := Aside0.mk (hb)
    have n12_ := Aside0.mk (ho)
    clear BK293
    clear BK294
    clear HO298
    clear HO302
    clear HO305
    clear HO308
    clear BK309
    clear HO313
    clear HO316
    clear HO319
    clear BK320
    clear HB
    clear HO323
    have BK293 := n0_
    have BK294 := n1_
    have HO298 := n2_
    have HO302 := n3_
    have HO305 := n4_
    have HO308 := n5_
    have BK309 := n6_
    have HO313 := n7_
    have HO316 := n8_
    have HO319 := n9_
    have BK320 := n10_
    have HB := n11_
    have HO326 := n12_
    clear n0_ n1_ n2_ n3_ n4_ n5_ n6_ n7_ n8_ n9_ n10_ n11_ n12_
    clear ho hb hg hat
    refine hK.out _ _ ⟨bc0 BK309, bc1 BK309, bc2 BK309, bc3 BK309, bc4 BK309⟩ (fun hHeld => ?_)
    clear hK K
    refine norm_ (a' := ?_) ?_ ?_
    rotate_left
    ·show Act.put _ (some 23) _ = _
     simp only [aP]
     rfl
    refine one_ (i := 5) (N := some 26) (bv 8 0x3f) rfl rfl (one_of HT_.out (by kernel_rfl)) (by decide) (fun K hK => ?_)
    refine Kd.R_append_rows_step (Kd.int .i64) (w0 := w) w.heap.size (by rfl) (.tmp 23) (.tmp 25) 22 3 (.int .i64 0) 8 rfl Try.underlying22 info3 rfl (by decide) (by omega) v325 y324 t296 _ _ _ (fun k_ => nb k_ Ao16 t296.length co16 ∧ nb k_ Ao20 t300.length co20 ∧ nb k_ Ao22 t306.length co22 ∧ nb k_ Ao30 t311.length co30 ∧ nb k_ Ao38 t317.length co38) (fun _ => False) rfl rfl ?aO ?aR (fun _ _ h => h) (fun _ h => h.elim) ?aF ?aB ?aS ?aL ?_
    (case aR => repeat (first | exact (Kd.R_reads' HO298.out).2.2 | (with_reducible refine Kd.C_alloc ?_ _) | (with_reducible refine Kd.C_drewN ?_ _) | (with_reducible refine Kd.C_drew ?_)))
    (case aB => exact (be4 HB GE293 GE294 GE309 GE320))
    (case aF => exact (fun k_ hk => ⟨Kd.fresh' (Kd.R_lt (ro HO298)) k_ hk, Kd.fresh' (Kd.R_lt (ro HO302)) k_ hk, Kd.fresh' (Kd.R_lt (ro HO308)) k_ hk, Kd.fresh' (Kd.R_lt (ro HO313)) k_ hk, Kd.fresh' (Kd.R_lt (ro HO319)) k_ hk⟩))
    (case aO => exact (ro HO326))
    (case aS => exact (below_size (be4 HB GE293 GE294 GE309 GE320)))
    (case aL => have := LMc7.out; omega)
    intro v328 w39 ho hb hg hat
    rw [← Ny327.out] at ho
    have n0_ := Aside0.mk (blk_grown (g := gb293) (o := .cells #[.slice A0_0 l0_0.length c0_0, .int .i64 a0_1, .slice A0_2 l0_2.length c0_2, .slice A0_3 l0_3.length c0_3, .slice A0_4 l0_4.length c0_4] 27 (0, 0)) (bk BK293) hg (Kd.R_ne HO326.out BK293.out (by decide)))
    have n1_ := Aside0.mk (blk_grown (g := gb294) (o := .cells #[.slice none 0 0, .int .i64 0, .slice none 0 0, .slice none 0 0, .slice none 0 0] 27 (0, 0)) (bk BK294) hg (Kd.R_ne HO326.out BK294.out (by decide)))
    have n2_ := Aside0.mk (Kd.R_after (ok := (fun k_ => nb k_ Ao20 t300.length co20 ∧ nb k_ Ao22 t306.length co22 ∧ nb k_ Ao30 t311.length co30 ∧ nb k_ Ao38 t317.length co38)) (ro HO298) hg hat)
    have n3_ := Aside0.mk (Kd.R_after (ok := (fun k_ => nb k_ Ao16 t296.length co16 ∧ nb k_ Ao22 t306.length co22 ∧ nb k_ Ao30 t311.length co30 ∧ nb k_ Ao38 t317.length co38)) (ro HO302) hg hat)
    have n4_ := Aside0.mk (Kd.R_over' (ro HO305) (Kd.R_typed (ro HO326)) (by decide) hg)
    have n5_ := Aside0.mk (Kd.R_after (ok := (fun k_ => nb k_ Ao16 t296.length co16 ∧ nb k_ Ao20 t300.length co20 ∧ nb k_ Ao30 t311.length co30 ∧ nb k_ Ao38 t317.length co38)) (ro HO308) hg hat)
    have n6_ := Aside0.mk (blk_grown (g := gb309) (o := .cells #[.slice Ao16 t296.length co16, .int .i64 t310, .slice Ao30 t311.length co30, .slice Ao31 t314.length co31, .slice Ao22 t306.length co22] 27 (0, 0)) (bk BK309) hg (Kd.R_ne HO326.out BK309.out (by decide)))
    have n7_ := Aside0.mk (Kd.R_after (ok := (fun k_ => nb k_ Ao16 t296.length co16 ∧ nb k_ Ao20 t300.length co20 ∧ nb k_ Ao22 t306.length co22 ∧ nb k_ Ao38 t317.length co38)) (ro HO313) hg hat)
    have n8_ := Aside0.mk (Kd.R_over' (ro HO316) (Kd.R_typed (ro HO326)) (by decide) hg)
    have n9_ := Aside0.mk (Kd.R_after (ok := (fun k_ => nb k_ Ao16 t296.length co16 ∧ nb k_ Ao20 t300.length co20 ∧ nb k_ Ao22 t306.length co22 ∧ nb k_ Ao30 t311.length co30)) (ro HO319) hg hat)
    have n10_ := Aside0.mk (blk_grown (g := gb320) (o := .cells #[.int .i64 t310, .slice Ao30 t311.length co30, .slice Ao31 t314.length co31] 25 (0, 0)) (bk BK320) hg (Kd.R_ne HO326.out BK320.out (by decide)))
    have n11_ := Aside0.mk (hb)
    have n12_ := Aside0.mk (ho)
    clear BK293
    clear BK294
    clear HO298
    clear HO302
    clear HO305
    clear HO308
    clear BK309
    clear HO313
    clear HO316
    clear HO319
    clear BK320
    clear HB
    clear HO326
    have BK293 := n0_
    have BK294 := n1_
    have HO298 := n2_
    have HO302 := n3_
    have HO305 := n4_
    have HO308 := n5_
    have BK309 := n6_
    have HO313 := n7_
    have HO316 := n8_
    have HO319 := n9_
    have BK320 := n10_
    have HB := n11_
    have HO329 := n12_
    clear n0_ n1_ n2_ n3_ n4_ n5_ n6_ n7_ n8_ n9_ n10_ n11_ n12_
    clear ho hb hg hat
    obtain ⟨Ao40, co40, eo40⟩ := Kd.R_slice HO329.out
    (first | subst eo40 | (injection eo40 with f1_ f2_ f3_; have f4_ := f1_.symm; have f5_ := f3_.symm; clear f1_ f2_ f3_; subst f4_; subst f5_))
    refine hK.out _ _ ⟨bc0 BK309, bc1 BK309, bc2 BK309, bc3 BK309, bc4 BK309⟩ (fun hHeld => ?_)
    clear hK K
    refine norm_ (a' := ?_) ?_ ?_
    rotate_left
    ·show Act.put _ (some 26) _ = _
     simp only [aP]
     rfl
    refine py HT_ 6 27 (bv 8 0x7f) ?_
    refine last_ (i := 7) (N := none) (bv 8 0xff) rfl rfl (one_of HT_.out (by kernel_rfl)) (by decide) (fun K hK => ?_)
    have hs41 : w39.cell? ⟨gb309, 0, none⟩ = some (.slice Ao16 t296.length co16) := bc0 BK309
    have hfs41 := blk_frozen BK309.out 0
    have hns41_0 := NB293_309.out
    have hns41_1 := NB294_309.out
    have hns41_3 := NB320_309.out
    have hms41_0 := NB309_293.out
    have hms41_1 := NB309_294.out
    have hms41_3 := NB309_320.out
    refine skip_ (w1 := ?_) (by rfl) rfl ?_ ?_
    rotate_left
    ·go_simp
     rfl
    refine hK.out _ _ ?_
    clear hK K
    refine done_ (done_of HT_.out (by kernel_rfl)) ?_
    have hcz42_0 := bz5 BK309
    have hcz43_0 := bz5 BK294
    try go_wp2
    refine bodyPost_ret (results_ct rfl _ _ gb294 27 #[.slice Ao40 y327.length co40, .int .i64 t310, .slice Ao30 t311.length co30, .slice Ao31 t314.length co31, .slice Ao22 t306.length co22] (0, 0) _ rfl (by (with_reducible repeat (first | refine blk_drewN ?_ _ | refine blk_drew ?_ | refine blk_alloc ?_ _)); refine blk_put (cs := #[.slice Ao40 y327.length co40, .int .i64 t310, .slice Ao30 t311.length co30, .slice Ao31 t314.length co31, .slice none 0 0]) ?_ 4 _ rfl; (with_reducible repeat (first | refine blk_drewN ?_ _ | refine blk_drew ?_ | refine blk_alloc ?_ _)); refine blk_put (cs := #[.slice Ao40 y327.length co40, .int .i64 t310, .slice Ao30 t311.length co30, .slice none 0 0, .slice none 0 0]) ?_ 3 _ rfl; (with_reducible repeat (first | refine blk_drewN ?_ _ | refine blk_drew ?_ | refine blk_alloc ?_ _)); refine blk_put (cs := #[.slice Ao40 y327.length co40, .int .i64 t310, .slice none 0 0, .slice none 0 0, .slice none 0 0]) ?_ 2 _ rfl; (with_reducible repeat (first | refine blk_drewN ?_ _ | refine blk_drew ?_ | refine blk_alloc ?_ _)); refine blk_put (cs := #[.slice Ao40 y327.length co40, .int .i64 0, .slice none 0 0, .slice none 0 0, .slice none 0 0]) ?_ 1 _ rfl; (with_reducible repeat (first | refine blk_drewN ?_ _ | refine blk_drew ?_ | refine blk_alloc ?_ _)); refine blk_put (cs := #[.slice none 0 0, .int .i64 0, .slice none 0 0, .slice none 0 0, .slice none 0 0]) ?_ 0 _ rfl; (with_reducible repeat (first | refine blk_drewN ?_ _ | refine blk_drew ?_ | refine blk_alloc ?_ _)); refine blk_far ?_ NB294_309.out _; (with_reducible repeat (first | refine blk_drewN ?_ _ | refine blk_drew ?_ | refine blk_alloc ?_ _)); exact BK294.out) Try.underlying27 rfl (by kernel_rfl)) rfl ?_
    exact ⟨_, _, _, _, _, er, by (with_reducible repeat (first | apply Kd.R_alloc | apply Kd.R_drewN | apply Kd.R_drew)); exact Kd.R_mono (Kd.R_far (p := ⟨gb294, 4, none⟩) (Kd.R_far (p := ⟨gb294, 3, none⟩) (Kd.R_far (p := ⟨gb294, 2, none⟩) (Kd.R_far (p := ⟨gb294, 1, none⟩) (Kd.R_far (p := ⟨gb294, 0, none⟩) (Kd.R_far (p := ⟨gb309, 0, none⟩) (Kd.R_types (Kd.R_types HO329.out BK309.out (by decide)) BK294.out (by decide)) (fun _ hk => hk.1.2) (.slice Ao40 y327.length co40)) (fun _ hk => hk.2) (.slice Ao40 y327.length co40)) (fun _ hk => hk.2) (.int .i64 t310)) (fun _ hk => hk.2) (.slice Ao30 t311.length co30)) (fun _ hk => hk.2) (.slice Ao31 t314.length co31)) (fun _ hk => hk.2) (.slice Ao22 t306.length co22)) (fun _ hk => ⟨hk.1.1.2.2.2.1, ⟨hk.1.1.2.2.1, hk.1.1.2.2.2.2⟩⟩), by (with_reducible repeat (first | apply Kd.R_alloc | apply Kd.R_drewN | apply Kd.R_drew)); exact Kd.R_mono (Kd.R_far (p := ⟨gb294, 4, none⟩) (Kd.R_far (p := ⟨gb294, 3, none⟩) (Kd.R_far (p := ⟨gb294, 2, none⟩) (Kd.R_far (p := ⟨gb294, 1, none⟩) (Kd.R_far (p := ⟨gb294, 0, none⟩) (Kd.R_far (p := ⟨gb309, 0, none⟩) (Kd.R_types (Kd.R_types HO313.out BK309.out (by decide)) BK294.out (by decide)) (fun _ hk => hk.1.2) (.slice Ao40 y327.length co40)) (fun _ hk => hk.2) (.slice Ao40 y327.length co40)) (fun _ hk => hk.2) (.int .i64 t310)) (fun _ hk => hk.2) (.slice Ao30 t311.length co30)) (fun _ hk => hk.2) (.slice Ao31 t314.length co31)) (fun _ hk => hk.2) (.slice Ao22 t306.length co22)) (fun _ hk => ⟨hk.1.1.2, ⟨hk.1.1.1.2.2.1, hk.1.1.1.2.2.2⟩⟩), by (with_reducible repeat (first | apply Kd.R_alloc | apply Kd.R_drewN | apply Kd.R_drew)); exact Kd.R_mono (Kd.R_far (p := ⟨gb294, 4, none⟩) (Kd.R_far (p := ⟨gb294, 3, none⟩) (Kd.R_far (p := ⟨gb294, 2, none⟩) (Kd.R_far (p := ⟨gb294, 1, none⟩) (Kd.R_far (p := ⟨gb294, 0, none⟩) (Kd.R_far (p := ⟨gb309, 0, none⟩) (Kd.R_types (Kd.R_types HO316.out BK309.out (by decide)) BK294.out (by decide)) (fun _ hk => hk.1.2) (.slice Ao40 y327.length co40)) (fun _ hk => hk.2) (.slice Ao40 y327.length co40)) (fun _ hk => hk.2) (.int .i64 t310)) (fun _ hk => hk.2) (.slice Ao30 t311.length co30)) (fun _ hk => hk.2) (.slice Ao31 t314.length co31)) (fun _ hk => hk.2) (.slice Ao22 t306.length co22)) (fun _ hk => trivial), by (with_reducible repeat (first | apply Kd.R_alloc | apply Kd.R_drewN | apply Kd.R_drew)); exact Kd.R_mono (Kd.R_far (p := ⟨gb294, 4, none⟩) (Kd.R_far (p := ⟨gb294, 3, none⟩) (Kd.R_far (p := ⟨gb294, 2, none⟩) (Kd.R_far (p := ⟨gb294, 1, none⟩) (Kd.R_far (p := ⟨gb294, 0, none⟩) (Kd.R_far (p := ⟨gb309, 0, none⟩) (Kd.R_types (Kd.R_types HO308.out BK309.out (by decide)) BK294.out (by decide)) (fun _ hk => hk.1.2) (.slice Ao40 y327.length co40)) (fun _ hk => hk.2) (.slice Ao40 y327.length co40)) (fun _ hk => hk.2) (.int .i64 t310)) (fun _ hk => hk.2) (.slice Ao30 t311.length co30)) (fun _ hk => hk.2) (.slice Ao31 t314.length co31)) (fun _ hk => hk.2) (.slice Ao22 t306.length co22)) (fun _ hk => ⟨hk.1.1.2, ⟨hk.1.1.1.2.2.1, hk.1.1.1.2.2.2⟩⟩), by (with_reducible repeat (first | apply Kd.R_alloc | apply Kd.R_drewN | apply Kd.R_drew)); exact Kd.R_mono (Kd.R_far (p := ⟨gb294, 4, none⟩) (Kd.R_far (p := ⟨gb294, 3, none⟩) (Kd.R_far (p := ⟨gb294, 2, none⟩) (Kd.R_far (p := ⟨gb294, 1, none⟩) (Kd.R_far (p := ⟨gb294, 0, none⟩) (Kd.R_far (p := ⟨gb309, 0, none⟩) (Kd.R_types (Kd.R_types HO319.out BK309.out (by decide)) BK294.out (by decide)) (fun _ hk => hk.1.2) (.slice Ao40 y327.length co40)) (fun _ hk => hk.2) (.slice Ao40 y327.length co40)) (fun _ hk => hk.2) (.int .i64 t310)) (fun _ hk => hk.2) (.slice Ao30 t311.length co30)) (fun _ hk => hk.2) (.slice Ao31 t314.length co31)) (fun _ hk => hk.2) (.slice Ao22 t306.length co22)) (fun _ hk => ⟨hk.1.1.2, ⟨hk.1.1.1.2.2.2, hk.1.1.1.2.2.1⟩⟩), be4 HB GE293 GE294 GE309 GE320⟩
   rw [if_neg c7] at H
   exact absurd H (by simp)
  rw [if_neg c6] at H
  exact absurd H (by simp)
 replace c3 := Bool.eq_false_iff.mpr c3
 subst c3
 have H1 : (some (([] : List Int), 0, ([] : List Int), ([] : List (S70)), ([] : List Int), ([] : List Int))) = some (r1, r2, r3, r4, r5, r6) := by rw [if_neg (show ¬ (false = true) by decide)] at H; exact H
 clear H
 have H := H1
 clear H1
 simp only [Option.some.injEq, Prod.mk.injEq] at H
 obtain ⟨rfl, rfl, rfl, rfl, rfl, rfl⟩ := H
 go_enter Try.func31, Try.ntmps31
 go_wp2_with (first | ((with_reducible refine gate_dst (N := 1) rfl ?_); refine bx 1 #[.slice A0_0 l0_0.length c0_0, .int .i64 a0_1, .slice A0_2 l0_2.length c0_2, .slice A0_3 l0_3.length c0_3, .slice A0_4 l0_4.length c0_4] 27 ?_; intro gb293 hg w44 hbox hb; have BK293 := am hbox; have GW293 := gs0 hg HB; have GE293 := gs0 hg HB; replace HB := s0 HB hb; clear hb hbox hg) | ((with_reducible refine gate_dst (N := 2) rfl ?_); refine bx 2 #[.slice none 0 0, .int .i64 0, .slice none 0 0, .slice none 0 0, .slice none 0 0] 27 ?_; intro gb294 hg w45 hbox hb; have BK294 := am hbox; have GW294 := gs1 hg HB GE293; have GE294 := gs1 hg HB GE293; replace HB := Aside0.mk (below_step (be1 HB GE293) hb); have NB293_294 := Aside0.mk ((by rw [hg]; exact Nat.ne_of_lt (bl BK293) : gb293 ≠ gb294)); have NB294_293 := Aside0.mk ((by rw [hg]; exact Nat.ne_of_gt (bl BK293) : gb294 ≠ gb293)); replace BK293 := bb BK293 hb; clear hb hbox hg; have hnb46 := NB293_294.out; have hnc46 := NB294_293.out; have hcz47_0 := bz5 BK293) | ((with_reducible refine gate_callee (f := 20) rfl ?_); refine gl 8 Try.func20 #[.agg #[.slice A0_0 l0_0.length c0_0, .int .i64 a0_1, .slice A0_2 l0_2.length c0_2, .slice A0_3 l0_3.length c0_3, .slice A0_4 l0_4.length c0_4]] ?_; (with_reducible refine (spec_PoolOk.calls k _ _ l0_0 a0_1 _ _ l0_2 _ _ l0_3 _ _ l0_4 false _ (cb HR0_0 HB) HC0_0.out (cb HR0_2 HB) HC0_2.out (cb HR0_3 HB) HC0_3.out (cb HR0_4 HB) HC0_4.out A2.out).mono ?_); rintro e w48 ⟨rfl, hb⟩; refine ⟨_, rfl, ?_⟩; replace BK293 := bb BK293 hb; replace BK294 := bb BK294 hb; replace HB := Aside0.mk (below_step (be2 HB GE293 GE294) hb); (try clear hb); have hcz49_0 := bz5 BK294))
 refine bodyPost_ret (results_ct rfl _ _ gb294 27 #[.slice none 0 0, .int .i64 0, .slice none 0 0, .slice none 0 0, .slice none 0 0] (0, 0) _ rfl (by (with_reducible repeat (first | refine blk_drewN ?_ _ | refine blk_drew ?_ | refine blk_alloc ?_ _)); refine blk_put (cs := #[.slice none 0 0, .int .i64 0, .slice none 0 0, .slice none 0 0, .slice none 0 0]) ?_ 4 _ rfl; (with_reducible repeat (first | refine blk_drewN ?_ _ | refine blk_drew ?_ | refine blk_alloc ?_ _)); refine blk_put (cs := #[.slice none 0 0, .int .i64 0, .slice none 0 0, .slice none 0 0, .slice none 0 0]) ?_ 3 _ rfl; (with_reducible repeat (first | refine blk_drewN ?_ _ | refine blk_drew ?_ | refine blk_alloc ?_ _)); refine blk_put (cs := #[.slice none 0 0, .int .i64 0, .slice none 0 0, .slice none 0 0, .slice none 0 0]) ?_ 2 _ rfl; (with_reducible repeat (first | refine blk_drewN ?_ _ | refine blk_drew ?_ | refine blk_alloc ?_ _)); refine blk_put (cs := #[.slice none 0 0, .int .i64 0, .slice none 0 0, .slice none 0 0, .slice none 0 0]) ?_ 1 _ rfl; (with_reducible repeat (first | refine blk_drewN ?_ _ | refine blk_drew ?_ | refine blk_alloc ?_ _)); refine blk_put (cs := #[.slice none 0 0, .int .i64 0, .slice none 0 0, .slice none 0 0, .slice none 0 0]) ?_ 0 _ rfl; (with_reducible repeat (first | refine blk_drewN ?_ _ | refine blk_drew ?_ | refine blk_alloc ?_ _)); exact BK294.out) Try.underlying27 rfl (by kernel_rfl)) rfl ?_
 exact ⟨_, _, _, _, _, er, by first | exact Kd.R_nil _ _ _ _ _ | exact Kd.N_nil _ _ _ _ _ | exact Kd.V_nil _ _ _ _ _ | exact Kd.Q_nil _ _ _ _ _ | exact Kd.S_nil _ _ _ _ _, by first | exact Kd.R_nil _ _ _ _ _ | exact Kd.N_nil _ _ _ _ _ | exact Kd.V_nil _ _ _ _ _ | exact Kd.Q_nil _ _ _ _ _ | exact Kd.S_nil _ _ _ _ _, by first | exact Kd.R_nil _ _ _ _ _ | exact Kd.N_nil _ _ _ _ _ | exact Kd.V_nil _ _ _ _ _ | exact Kd.Q_nil _ _ _ _ _ | exact Kd.S_nil _ _ _ _ _, by first | exact Kd.R_nil _ _ _ _ _ | exact Kd.N_nil _ _ _ _ _ | exact Kd.V_nil _ _ _ _ _ | exact Kd.Q_nil _ _ _ _ _ | exact Kd.S_nil _ _ _ _ _, by first | exact Kd.R_nil _ _ _ _ _ | exact Kd.N_nil _ _ _ _ _ | exact Kd.V_nil _ _ _ _ _ | exact Kd.Q_nil _ _ _ _ _ | exact Kd.S_nil _ _ _ _ _, be2 HB GE293 GE294⟩

/-! ### impl_copyInts: function 57 -/
def impl_copyInts.f (l0 : List Int) : Option (List Int) := (some (([] : List Int) : List Int)).bind fun y330 => (if y330.length + l0.length < 17592186044416 then (some (y330 ++ l0)) else (none))
set_option maxHeartbeats 8000000 in
set_option maxRecDepth 100000 in
theorem impl_copyInts.calls (A0 : Option Addr) (c0 : Nat) (l0 : List Int) (r : List Int) (w : World) (hr0 : Kd.C (Kd.int .i64) w A0 l0.length l0) (hc0 : l0.length ≤ c0) (h : impl_copyInts.f l0 = some r) :
  Calls Try.prog 57 #[.slice A0 l0.length c0] w fun e w' => ∃ v0_ : Value, e = .returned (v0_) ∧ Kd.R (Kd.int .i64) 3 w' w.heap.size (fun _ => True) v0_ r ∧ Below w.heap.size w w' := by
 have HR0 := Aside0.mk hr0
 have HC0 := Aside0.mk hc0
 clear hr0 hc0
 have HB := Aside0.mk (Below.refl w.heap.size w)
 have H : ((some (([] : List Int) : List Int)).bind fun y330 => (if y330.length + l0.length < 17592186044416 then (some (y330 ++ l0)) else (none))) = some r := h
 clear h
 obtain ⟨y330, hy330⟩ : ∃ y_ : List Int, y_ = (([] : List Int)) := ⟨_, rfl⟩
 replace H : (if y330.length + l0.length < 17592186044416 then (some (y330 ++ l0)) else (none)) = some r := by first | (rw [hy330]; with_reducible exact H) | (have H2_ := (Option.bind_some _ _).symm.trans H; rw [hy330]; with_reducible exact H2_) | (have H2_ := (Option.bind_some _ _).symm.trans H; with_reducible exact H2_) | with_reducible exact H | (rw [hy330]; exact H) | exact H
 have Ny330 := Aside0.mk hy330
 clear hy330
 by_cases c2 : y330.length + l0.length < 17592186044416
 ·rw [if_pos c2] at H
  have LMc2 := Aside0.mk c2
  clear c2
  obtain ⟨y333, hy333⟩ : ∃ y_ : List Int, y_ = (y330 ++ l0) := ⟨_, rfl⟩
  replace H : (some y333) = some r := by first | (rw [hy333]; with_reducible exact H) | (have H2_ := (Option.bind_some _ _).symm.trans H; rw [hy333]; with_reducible exact H2_) | (have H2_ := (Option.bind_some _ _).symm.trans H; with_reducible exact H2_) | with_reducible exact H | (rw [hy333]; exact H) | exact H
  have Ny333 := Aside0.mk hy333
  clear hy333
  obtain rfl := Option.some.inj H
  go_enter Try.func57, Try.ntmps57
  have HO332 := Aside0.mk (show Kd.R (Kd.int .i64) 3 w w.heap.size (fun _ => True) (.slice none 0 0) y330 from by rw [Ny330.out]; exact Kd.R_nil _ _ _ _ _)
  go_wp2_with (first | ((with_reducible refine gate_builtin (b := .append) (xs := #[.const (.slice none 0 0), .tmp 3]) rfl ?_); at_builtin; refine Kd.R_append_rows (Kd.int .i64) (w0 := w) w.heap.size rfl (.const (.slice none 0 0)) (.tmp 3) 22 3 (.int .i64 0) 8 rfl Try.underlying22 info3 rfl (by decide) (by omega) (.slice none 0 0) y330 l0 _ _ _ (fun _ => True) (fun _ => False) rfl rfl ?aO ?aR (fun _ _ h => h) (fun _ h => h.elim) ?aF ?aB ?aS ?aL ?_; (case aR => repeat (first | exact (Kd.C_below HR0.out HB.out) | (with_reducible refine Kd.C_alloc ?_ _) | (with_reducible refine Kd.C_drewN ?_ _) | (with_reducible refine Kd.C_drew ?_))); (case aB => exact (be HB)); (case aF => exact (fun _ _ => trivial)); (case aO => exact (ro HO332)); (case aS => exact (below_size (be HB))); (case aL => have := LMc2.out; omega); intro v334 w5 ho hb hg hat; rw [← Ny333.out] at ho; replace HB := Aside0.mk (hb); have HO335 := Aside0.mk (ho); clear HO332; clear ho hb hg hat))
  go_ret
  exact ⟨_, er, by (with_reducible repeat (first | apply Kd.R_alloc | apply Kd.R_drewN | apply Kd.R_drew)); exact HO335.out, be HB⟩
 rw [if_neg c2] at H
 exact absurd H (by simp)

/-! ### slices_Sort_int_int: function 58 -/
def slices_Sort_int_int.f (k : Nat) (l0 : List Int) : Option (List Int) := match k with | 0 => none | _ + 1 => if l0.length < 4611686018427387904 then some (l0.mergeSort fun x y => decide (x ≤ y)) else none
theorem slices_Sort_int_int.mono : ∀ a0 k, LeO (slices_Sort_int_int.f k a0) (slices_Sort_int_int.f (k + 1) a0) := by
 intro a0 k
 cases k with
 | zero => exact LeO.none _
 | succ k => exact LeO.refl _
set_option maxHeartbeats 8000000 in
set_option maxRecDepth 100000 in
theorem slices_Sort_int_int.calls (k : Nat) (P0_ : Nat → Prop) (u9000_ : Value) (l0 : List Int) (r : List Int) (w0 w : World) (hB : Below w0.heap.size w0 w) (ho0 : Kd.R (Kd.int .i64) 3 w w0.heap.size P0_ u9000_ l0) (h : slices_Sort_int_int.f k l0 = some r) :
  Calls Try.prog 58 #[u9000_] w fun e w' => e = .returned (.tuple #[]) ∧ Kd.R (Kd.int .i64) 3 w' w0.heap.size (fun k_ => (P0_ k_ ∨ w.heap.size ≤ k_)) u9000_ r ∧ Below w0.heap.size w0 w' ∧ Kept w w' (fun k_ => P0_ k_) := by
 cases k with
 | zero => cases h
 | succ k =>
 have h' : (if l0.length < 4611686018427387904 then some (l0.mergeSort fun x y => decide (x ≤ y)) else none) = some r := h
 clear h
 by_cases hlen : l0.length < 4611686018427387904
 case neg => rw [if_neg hlen] at h'; cases h'
 rw [if_pos hlen] at h'
 obtain rfl := Option.some.inj h'
 clear h'
 rcases Nat.eq_zero_or_pos l0.length with hz | hn
 ·obtain rfl := List.length_eq_zero_iff.1 hz
  obtain ⟨A, c, rfl⟩ := Kd.R_slice ho0
  refine (Try.slices_Sort_int_none A c w).mono ?_
  rintro e w' ⟨rfl, rfl⟩
  refine ⟨rfl, ?_, hB, Kept.refl _ _⟩
  rw [List.mergeSort_nil]
  exact Kd.R_mono ho0 (fun k_ hk => (.inl hk))
 obtain ⟨g, cap, cur, rfl, hg, hh, hc1, hc2, hs, ht, hok⟩ := Ow.opened ho0 hn
 have hm : cap ≤ 9223372036854775807 := hc2
 refine (Try.slices_Sort_int g 0 cap l0 w (Go.holds_of_blockI hh ht) (blk_lt hh) hlen).mono ?_
 rintro e w' ⟨rfl, n, os, rfl⟩
 have hgr := Go.grownBy_sortedI (w := w) (g := g) (n := n) (os := os) (l0.mergeSort fun x y => decide (x ≤ y)).toArray
 have hl : (l0.mergeSort fun x y => decide (x ≤ y)).length = l0.length := List.length_mergeSort _
 refine ⟨rfl, ?_, ?_, ?_⟩
 ·have hm := Ow.made (α := Int) (enc := Value.int .i64) (h1 := fun _ => rfl) (base := w0.heap.size) (ok := fun k_ => (P0_ k_ ∨ w.heap.size ≤ k_)) (xs := l0.mergeSort fun x y => decide (x ≤ y)) (cap := cap) (.inl hok) hg (Go.heap_sortedI (n := n) (os := os) (l0.mergeSort fun x y => decide (x ≤ y)).toArray hh) (by rw [hl]; exact hc1) hc2 (by unfold Go.Sort.putCells; rw [Array.size_mapIdx]; exact hs) (Go.take_putCellsI _ _ (by rw [hl]; omega))
  rw [hl] at hm
  exact hm
 ·exact ⟨hgr.os.trans hB.os, hgr.tape.trans hB.tape, hgr.output.trans hB.output, Nat.le_trans hB.size hgr.size, fun i hi => (hgr.block i (Nat.lt_of_lt_of_le hi hB.size) (fun he => by have := Option.some.inj he; omega)).trans (hB.block i hi)⟩
 ·exact (Kept.refl w _).of_grown hgr (fun k hk => .inl (Option.some.inj hk ▸ hok))


/-! ### impl_within: function 46 -/
def impl_within.f (a0 : Int) (a1 : Int) (a2 : Int) : Option (Bool) := if a0 ≥ a1 then (some (decide (a0 ≤ a2))) else (some false)
set_option maxHeartbeats 8000000 in
set_option maxRecDepth 100000 in
theorem impl_within.calls (a0 : Int) (a1 : Int) (a2 : Int) (r : Bool) (w : World) (h : impl_within.f a0 a1 a2 = some r) :
  Calls Try.prog 46 #[.int .i64 a0, .int .i64 a1, .int .i64 a2] w fun e w' => e = .returned (.bool r) ∧ Drawn0 w w' := by
 have H : (if a0 ≥ a1 then (some (decide (a0 ≤ a2))) else (some false)) = some r := h
 clear h
 by_cases c4 : a0 ≥ a1
 ·rw [if_pos c4] at H
  have c4b0 : decide (a1 ≤ a0) = true := decide_eq_true c4
  clear c4
  obtain rfl := Option.some.inj H
  go_enter Try.func46, Try.ntmps46
  go_wp2
  go_ret
  exact ⟨by first | rfl | (simp; done) | (simp [*]; done), by repeat (first | exact Drawn0.refl _ | apply Drawn0.step)⟩
 rw [if_neg c4] at H
 have c4b0 : decide (a1 ≤ a0) = false := decide_eq_false c4
 clear c4
 obtain rfl := Option.some.inj H
 go_enter Try.func46, Try.ntmps46
 go_wp2
 go_ret
 exact ⟨by first | rfl | (simp; done) | (simp [*]; done), by repeat (first | exact Drawn0.refl _ | apply Drawn0.step)⟩

/-! ### impl_Ages_inLimbo: function 62 -/
def impl_Ages_inLimbo.l0 : Nat → Int → List (S70) → Int → Int → Option (Int)
 | 0, _, _, _, _ => none
 | k + 1, x1, x8, x9, x10 => if x10 < x9 then (if 0 ≤ x10 then (if x10 < (x8.length : Int) then (if ((rd_T70 x8 x10).f0) = x1 then (some x10) else (impl_Ages_inLimbo.l0 k x1 x8 x9 (wrap64 (x10 + 1)))) else (none)) else (none)) else (some (-1))
def impl_Ages_inLimbo.f (k : Nat) (a0_0 : Int) (l0_1 : List Int) (l0_2 : List (S70)) (a1 : Int) : Option (Int) := impl_Ages_inLimbo.l0 k a1 l0_2 (l0_2.length : Int) 0
theorem impl_Ages_inLimbo.mono_l : ∀ k, (∀ y0 y1 y2 y3, LeO (impl_Ages_inLimbo.l0 k y0 y1 y2 y3) (impl_Ages_inLimbo.l0 (k + 1) y0 y1 y2 y3))
 | 0 => fun _ _ _ _ r h => by simp [impl_Ages_inLimbo.l0] at h
 | k + 1 => by
  have ih0 := impl_Ages_inLimbo.mono_l k
  ·intro y0 y1 y2 y3
   unfold impl_Ages_inLimbo.l0
   repeat' first
   | (with_reducible exact ih0 _ _ _ _)
   | (with_reducible exact LeO.refl _)
   | (with_reducible exact LeO.none _)
   | (with_reducible refine LeO.ite ?_ ?_)
   | (with_reducible refine LeO.bind ?_ (fun _ => ?_))
   | exact ih0 _ _ _ _
   | exact LeO.none _
   | refine LeO.ite ?_ ?_
   | refine LeO.bind ?_ (fun _ => ?_)
theorem impl_Ages_inLimbo.mono : ∀ a0 a1 a2 a3 k, LeO (impl_Ages_inLimbo.f k a0 a1 a2 a3) (impl_Ages_inLimbo.f (k + 1) a0 a1 a2 a3) := by
 intro a0 a1 a2 a3 k
 have ih0 := impl_Ages_inLimbo.mono_l k
 unfold impl_Ages_inLimbo.f
 repeat' first
   | (with_reducible exact ih0 _ _ _ _)
   | (with_reducible exact LeO.refl _)
   | (with_reducible exact LeO.none _)
   | (with_reducible refine LeO.ite ?_ ?_)
   | (with_reducible refine LeO.bind ?_ (fun _ => ?_))
   | exact ih0 _ _ _ _
   | exact LeO.none _
   | refine LeO.ite ?_ ?_
   | refine LeO.bind ?_ (fun _ => ?_)
set_option maxHeartbeats 8000000 in
set_option maxRecDepth 100000 in
theorem impl_Ages_inLimbo.calls (k : Nat) (a0_0 : Int) (A0_1 : Option Addr) (c0_1 : Nat) (l0_1 : List Int) (A0_2 : Option Addr) (c0_2 : Nat) (l0_2 : List (S70)) (a1 : Int) (r : Int) (w : World) (hr0_1 : Kd.C (Kd.int .i64) w A0_1 l0_1.length l0_1) (hc0_1 : l0_1.length ≤ c0_1) (hr0_2 : Kd.C k70 w A0_2 l0_2.length l0_2) (hc0_2 : l0_2.length ≤ c0_2) (h : impl_Ages_inLimbo.f k a0_0 l0_1 l0_2 a1 = some r) :
  Calls Try.prog 62 #[.agg #[.int .i64 a0_0, .slice A0_1 l0_1.length c0_1, .slice A0_2 l0_2.length c0_2], .int .i64 a1] w fun e w' => e = .returned (.int .i64 r) ∧ Below w.heap.size w w' := by
 have hu25 := Try.underlying25
 have hu70 := Try.underlying70
 have HR0_1 := Aside0.mk hr0_1
 have HC0_1 := Aside0.mk hc0_1
 clear hr0_1 hc0_1
 have HR0_2 := Aside0.mk hr0_2
 have HC0_2 := Aside0.mk hc0_2
 clear hr0_2 hc0_2
 have HB := Aside0.mk (Below.refl w.heap.size w)
 have H : (impl_Ages_inLimbo.l0 k a1 l0_2 (l0_2.length : Int) 0) = some r := h
 clear h
 have H' := Aside0.mk H
 clear H
 go_enter Try.func62, Try.ntmps62
 go_wp2_with (first | ((with_reducible refine gate_dst (N := 2) rfl ?_); refine bx 2 #[.int .i64 a0_0, .slice A0_1 l0_1.length c0_1, .slice A0_2 l0_2.length c0_2] 25 ?_; intro gb337 hg w3 hbox hb; have BK337 := am hbox; have GW337 := gs0 hg HB; have GE337 := gs0 hg HB; replace HB := s0 HB hb; clear hb hbox hg; have hcz4_0 := bz3 BK337))
 go_loopg [10] k (fun kq v10 w' => ∃ (x10_1 : Int), v10 = .int .i64 x10_1 ∧ Aside0 (impl_Ages_inLimbo.l0 kq a1 l0_2 (l0_2.length : Int) x10_1 = some r) ∧ Aside0 (kq ≤ k) ∧ Aside0 (w'.heap[gb337]? = some (.cells #[.int .i64 a0_0, (.slice A0_1 l0_1.length c0_1), (.slice A0_2 l0_2.length c0_2)] 25 (0, 0))) ∧ Aside0 (Below w.heap.size w w'))
 case atStart => exact ⟨(0), rs, H', ⟨Nat.le_refl _⟩, ⟨bk BK337⟩, ⟨be1 HB GE337⟩⟩
 case round =>
  clear H'
  try clear p2; try clear hcz4_0
  obtain ⟨x10_1, rfl, HA, HK1, BK337, HB⟩ := hrel
  cases gk with
  | zero => exact absurd HA.out (by simp [impl_Ages_inLimbo.l0])
  | succ k1 =>
   have H := HA.out
   clear HA
   simp only [impl_Ages_inLimbo.l0] at H
   by_cases c5 : x10_1 < (l0_2.length : Int)
   ·rw [if_pos c5] at H
    have c5b0 : decide (x10_1 < (l0_2.length : Int)) = true := decide_eq_true c5
    clear c5
    by_cases c6 : 0 ≤ x10_1
    ·rw [if_pos c6] at H
     have c6b0 : decide (0 ≤ x10_1) = true := decide_eq_true c6
     clear c6
     by_cases c7 : x10_1 < (l0_2.length : Int)
     ·rw [if_pos c7] at H
      have c7b0 : decide (x10_1 < (l0_2.length : Int)) = true := decide_eq_true c7
      clear c7
      by_cases c8 : ((rd_T70 l0_2 x10_1).f0) = a1
      ·rw [if_pos c8] at H
       have c8b0 : (((rd_T70 l0_2 x10_1).f0) == a1) = true := beq_iff_eq.mpr c8
       have c8b1 : (((rd_T70 l0_2 x10_1).f0) != a1) = false := bne_eq_false_iff_eq.mpr c8
       clear c8
       obtain rfl := Option.some.inj H
       have p338 : 0 ≤ (x10_1 : Int) := od
       have q338 : x10_1 < (l0_2.length : Int) := od
       obtain ⟨ad338, e338, hx338_0, hx338_1⟩ := at_T70 HR0_2.out x10_1 p338 q338
       cases e338
       replace hx338_0 := hc HB hx338_0
       replace hx338_1 := hc HB hx338_1
       replace p338 := eq_true p338
       replace q338 := eq_true q338
       go_wp2_with (first | ((with_reducible refine gate_dst (N := 6) rfl ?_); refine bx 6 #[.int .i64 0, .int .i64 0] 70 ?_; intro gb339 hg w9 hbox hb; have BK339 := am hbox; have GW339 := gs1 hg HB GE337; have GE339 := gs1 hg HB GE337; replace HB := Aside0.mk (below_step (be1 HB GE337) hb); have NB337_339 := Aside0.mk ((by rw [hg]; exact Nat.ne_of_lt (bl BK337) : gb337 ≠ gb339)); have NB339_337 := Aside0.mk ((by rw [hg]; exact Nat.ne_of_gt (bl BK337) : gb339 ≠ gb337)); replace BK337 := bb BK337 hb; clear hb hbox hg; have hnb10 := NB339_337.out; have hnc10 := NB337_339.out; have hcz11_0 := bz2 BK339))
       go_ret
       exact ⟨er, be2 HB GE337 GE339⟩
      rw [if_neg c8] at H
      have c8b0 : (((rd_T70 l0_2 x10_1).f0) == a1) = false := beq_eq_false_iff_ne.mpr c8
      have c8b1 : (((rd_T70 l0_2 x10_1).f0) != a1) = true := bne_iff_ne.mpr c8
      have H' := Aside0.mk H
      clear H
      have p338 : 0 ≤ (x10_1 : Int) := od
      have q338 : x10_1 < (l0_2.length : Int) := od
      obtain ⟨ad338, e338, hx338_0, hx338_1⟩ := at_T70 HR0_2.out x10_1 p338 q338
      cases e338
      replace hx338_0 := hc HB hx338_0
      replace hx338_1 := hc HB hx338_1
      replace p338 := eq_true p338
      replace q338 := eq_true q338
      go_wp2_with (first | ((with_reducible refine gate_dst (N := 6) rfl ?_); refine bx 6 #[.int .i64 0, .int .i64 0] 70 ?_; intro gb339 hg w12 hbox hb; have BK339 := am hbox; have GW339 := gs1 hg HB GE337; have GE339 := gs1 hg HB GE337; replace HB := Aside0.mk (below_step (be1 HB GE337) hb); have NB337_339 := Aside0.mk ((by rw [hg]; exact Nat.ne_of_lt (bl BK337) : gb337 ≠ gb339)); have NB339_337 := Aside0.mk ((by rw [hg]; exact Nat.ne_of_gt (bl BK337) : gb339 ≠ gb337)); replace BK337 := bb BK337 hb; clear hb hbox hg; have hnb13 := NB339_337.out; have hnc13 := NB337_339.out; have hcz14_0 := bz2 BK339))
      go_roundg k1
      case measure => have := HK1.out; omega
      case rel => exact ⟨(wrap64 (x10_1 + 1)), rs, H', ⟨by have := HK1.out; omega⟩, ⟨by (with_reducible repeat (first | refine blk_drewN ?_ _ | refine blk_drew ?_ | refine blk_alloc ?_ _)); refine blk_far ?_ NB337_339.out _; (with_reducible repeat (first | refine blk_drewN ?_ _ | refine blk_drew ?_ | refine blk_alloc ?_ _)); refine blk_far ?_ NB337_339.out _; (with_reducible repeat (first | refine blk_drewN ?_ _ | refine blk_drew ?_ | refine blk_alloc ?_ _)); exact BK337.out⟩, ⟨be2 HB GE337 GE339⟩⟩
     rw [if_neg c7] at H
     exact absurd H (by simp)
    rw [if_neg c6] at H
    exact absurd H (by simp)
   rw [if_neg c5] at H
   have c5b0 : decide (x10_1 < (l0_2.length : Int)) = false := decide_eq_false c5
   clear c5
   obtain rfl := Option.some.inj H
   go_wp2
   go_ret
   exact ⟨er, be1 HB GE337⟩

/-! ### impl_isNum: function 93 -/
def impl_isNum.f (a0 : Int) : Option (Bool) := (impl_within.f a0 0 4294967295).bind fun t340 => (some t340)
set_option maxHeartbeats 8000000 in
set_option maxRecDepth 100000 in
theorem impl_isNum.calls (a0 : Int) (r : Bool) (w : World) (h : impl_isNum.f a0 = some r) :
  Calls Try.prog 93 #[.int .i64 a0] w fun e w' => e = .returned (.bool r) ∧ Drawn0 w w' := by
 have H : ((impl_within.f a0 0 4294967295).bind fun t340 => (some t340)) = some r := h
 clear h
 replace H := Option.bind_eq_some_iff.mp H
 obtain ⟨t340, A20, H⟩ := H
 replace H : (some t340) = some r := H
 have A2 := Aside0.mk A20
 clear A20
 obtain rfl := Option.some.inj H
 go_enter Try.func93, Try.ntmps93
 go_wp2_with (first | ((with_reducible refine gate_callee (f := 46) rfl ?_); refine gl 4 Try.func46 #[.int .i64 a0, .int .i64 0, .int .i64 4294967295] ?_; (with_reducible refine (impl_within.calls a0 0 4294967295 t340 _ A2.out).mono ?_); rintro e w' ⟨rfl, ⟨nd, rfl⟩⟩; refine ⟨_, rfl, ?_⟩))
 go_ret
 exact ⟨by first | rfl | (simp; done) | (simp [*]; done), by repeat (first | exact Drawn0.refl _ | apply Drawn0.step)⟩

end Go.Proofs.Ytdgpidhlbpaolaa.QFnExactReclaim
