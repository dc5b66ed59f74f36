-- made by a program of this session (myprint.py)
import Derived.Test.YtllaoamaplepmaaQFnExactRowGetx0
import Derived.Test.YtllaoamaplepmaaQFnExactRowGetx6
import Derived.Test.YtllaoamaplepmaaQFnExactRowGetx7
namespace Go.Proofs.Ytllaoamaplepmaa.QFnExactRowGet
open Go.RowKit Go.Proofs.YtllaoamaplepmaaW.PrintWords Go.Proofs.YtllaoamaplepmaaW.PrintLast Go.Proofs.YtllaoamaplepmaaW.PrintMore
attribute [local go_sem] max2_int min2_int max_two min_two max_three min_three max_four min_four   -- for this text's walks alone
set_option linter.unusedVariables false
set_option linter.unusedSimpArgs false

/-! ### impl_RowGet: function 53 -/
def impl_RowGet.f (k : Nat) (a0_0 : Int) (a0_1 : Int) (l0_2 : List (S84)) (a1 : ByteArray) : Option (Int × Int × (List (S84)) × ByteArray × Bool) := (impl_RowOk.f k a0_0 a0_1 l0_2).bind fun t262 => (if t262 = true then ((impl_copyRow.f a0_0 a0_1 l0_2).bind fun bt263 => ((impl_itemAt.f k l0_2 a1).bind fun t269 => (if t269 < 0 then (some (bt263.1, bt263.2.1, bt263.2.2, (⟨#[]⟩ : ByteArray), false)) else ((impl_Row_asked.f bt263.1 bt263.2.1 bt263.2.2 t269).bind fun t270 => (if 0 ≤ t269 then (if t269 < (l0_2.length : Int) then (some (bt263.1, bt263.2.1, t270, (rd_T84 l0_2 t269).f1, true)) else (none)) else (none)))))) else (some (0, 0, ([] : List (S84)), (⟨#[]⟩ : ByteArray), false)))
theorem impl_RowGet.mono : ∀ a0 a1 a2 a3 k, LeO (impl_RowGet.f k a0 a1 a2 a3) (impl_RowGet.f (k + 1) a0 a1 a2 a3) := by
 intro a0 a1 a2 a3 k
 unfold impl_RowGet.f
 repeat' first
   | (with_reducible exact impl_RowOk.mono _ _ _ _)
   | (with_reducible exact impl_itemAt.mono _ _ _)
   | (with_reducible exact LeO.refl _)
   | (with_reducible exact LeO.none _)
   | (with_reducible refine LeO.ite ?_ ?_)
   | (with_reducible refine LeO.bind ?_ (fun _ => ?_))
   | exact impl_RowOk.mono _ _ _ _
   | exact impl_itemAt.mono _ _ _
   | exact LeO.none _
   | refine LeO.ite ?_ ?_
   | refine LeO.bind ?_ (fun _ => ?_)
def impl_RowGet.T8 : Bool × List (List Nat × List Nat) := (true, [([], []), ([], []), ([1], [1]), ([], []), ([2, 3], [2, 3]), ([4], [4]), ([5], [5]), ([0, 0], [0]), ([6, 7, 0, 1, 2, 3, 4, 5, 6, 7], [6]), ([8, 0, 1, 2, 3, 4, 5, 6, 7, 8], [])])
def impl_RowGet.B8 : List Nat := [0, 0, 2, 0, 14, 30, 62, 1, 255, 511]
theorem impl_RowGet.tab8 : rtab .any (opsOf Try.f53 8) = impl_RowGet.T8 := by kernel_rfl
theorem impl_RowGet.bits8 : waitsOk impl_RowGet.T8.2 impl_RowGet.B8 = true := by kernel_rfl
set_option maxHeartbeats 8000000 in
set_option maxRecDepth 100000 in
theorem impl_RowGet.calls (k : Nat) (a0_0 : Int) (a0_1 : Int) (A0_2 : Option Addr) (c0_2 : Nat) (l0_2 : List (S84)) (a1 : ByteArray) (r1 : Int) (r2 : Int) (r3 : List (S84)) (r4 : ByteArray) (r5 : Bool) (w : World) (hr0_2 : Kd.C k84 w A0_2 l0_2.length l0_2) (hc0_2 : l0_2.length ≤ c0_2) (h : impl_RowGet.f k a0_0 a0_1 l0_2 a1 = some (r1, r2, r3, r4, r5)) :
  Calls Try.prog 53 #[.agg #[.int .i64 a0_0, .int .i64 a0_1, .slice A0_2 l0_2.length c0_2], .string a1] w fun e w' => ∃ v2_ : Value, e = .returned (.tuple #[.agg #[.int .i64 r1, .int .i64 r2, v2_], .string r4, .bool r5]) ∧ Kd.R k84 84 w' w.heap.size (fun _ => True) v2_ r3 ∧ Below w.heap.size w w' := by
 have hu53 := Try.underlying53
 have HR0_2 := Aside0.mk hr0_2
 have HC0_2 := Aside0.mk hc0_2
 clear hr0_2 hc0_2
 have HB := Aside0.mk (Below.refl w.heap.size w)
 have H : ((impl_RowOk.f k a0_0 a0_1 l0_2).bind fun t262 => (if t262 = true then ((impl_copyRow.f a0_0 a0_1 l0_2).bind fun bt263 => ((impl_itemAt.f k l0_2 a1).bind fun t269 => (if t269 < 0 then (some (bt263.1, bt263.2.1, bt263.2.2, (⟨#[]⟩ : ByteArray), false)) else ((impl_Row_asked.f bt263.1 bt263.2.1 bt263.2.2 t269).bind fun t270 => (if 0 ≤ t269 then (if t269 < (l0_2.length : Int) then (some (bt263.1, bt263.2.1, t270, (rd_T84 l0_2 t269).f1, true)) else (none)) else (none)))))) else (some (0, 0, ([] : List (S84)), (⟨#[]⟩ : ByteArray), false)))) = some (r1, r2, r3, r4, r5) := h
 clear h
 replace H := Option.bind_eq_some_iff.mp H
 obtain ⟨t262, A30, H⟩ := H
 replace H : (if t262 = true then ((impl_copyRow.f a0_0 a0_1 l0_2).bind fun bt263 => ((impl_itemAt.f k l0_2 a1).bind fun t269 => (if t269 < 0 then (some (bt263.1, bt263.2.1, bt263.2.2, (⟨#[]⟩ : ByteArray), false)) else ((impl_Row_asked.f bt263.1 bt263.2.1 bt263.2.2 t269).bind fun t270 => (if 0 ≤ t269 then (if t269 < (l0_2.length : Int) then (some (bt263.1, bt263.2.1, t270, (rd_T84 l0_2 t269).f1, true)) else (none)) else (none)))))) else (some (0, 0, ([] : List (S84)), (⟨#[]⟩ : ByteArray), false))) = some (r1, r2, r3, r4, r5) := H
 have A3 := Aside0.mk A30
 clear A30
 by_cases c4 : t262 = true
 ·subst c4
  have H1 : ((impl_copyRow.f a0_0 a0_1 l0_2).bind fun bt263 => ((impl_itemAt.f k l0_2 a1).bind fun t269 => (if t269 < 0 then (some (bt263.1, bt263.2.1, bt263.2.2, (⟨#[]⟩ : ByteArray), false)) else ((impl_Row_asked.f bt263.1 bt263.2.1 bt263.2.2 t269).bind fun t270 => (if 0 ≤ t269 then (if t269 < (l0_2.length : Int) then (some (bt263.1, bt263.2.1, t270, (rd_T84 l0_2 t269).f1, true)) else (none)) else (none)))))) = some (r1, r2, r3, r4, r5) := by rw [if_pos rfl] at H; exact H
  clear H
  have H := H1
  clear H1
  replace H := Option.bind_eq_some_iff.mp H
  obtain ⟨⟨t263, t264, t265⟩, A50, H⟩ := H
  replace H : ((impl_itemAt.f k l0_2 a1).bind fun t269 => (if t269 < 0 then (some (t263, t264, t265, (⟨#[]⟩ : ByteArray), false)) else ((impl_Row_asked.f t263 t264 t265 t269).bind fun t270 => (if 0 ≤ t269 then (if t269 < (l0_2.length : Int) then (some (t263, t264, t270, (rd_T84 l0_2 t269).f1, true)) else (none)) else (none))))) = some (r1, r2, r3, r4, r5) := H
  have A5 := Aside0.mk A50
  clear A50
  replace H := Option.bind_eq_some_iff.mp H
  obtain ⟨t269, A60, H⟩ := H
  replace H : (if t269 < 0 then (some (t263, t264, t265, (⟨#[]⟩ : ByteArray), false)) else ((impl_Row_asked.f t263 t264 t265 t269).bind fun t270 => (if 0 ≤ t269 then (if t269 < (l0_2.length : Int) then (some (t263, t264, t270, (rd_T84 l0_2 t269).f1, true)) else (none)) else (none)))) = some (r1, r2, r3, r4, r5) := H
  have A6 := Aside0.mk A60
  clear A60
  by_cases c7 : t269 < 0
  ·rw [if_pos c7] at H
   have c7b0 : decide (t269 < 0) = true := decide_eq_true c7
   clear c7
   simp only [Option.some.injEq, Prod.mk.injEq] at H
   obtain ⟨rfl, rfl, rfl, rfl, rfl⟩ := H
   go_enter Try.func53, Try.ntmps53
   go_wp2_with (first | ((with_reducible refine gate_dst (N := 2) rfl ?_); refine bx 2 #[.int .i64 a0_0, .int .i64 a0_1, .slice A0_2 l0_2.length c0_2] 53 ?_; intro gb260 hg w8 hbox hb; have BK260 := am hbox; have GW260 := gs0 hg HB; have GE260 := gs0 hg HB; replace HB := s0 HB hb; clear hb hbox hg) | ((with_reducible refine gate_dst (N := 4) rfl ?_); refine bx 4 #[.int .i64 0, .int .i64 0, .slice none 0 0] 53 ?_; intro gb261 hg w9 hbox hb; have BK261 := am hbox; have GW261 := gs1 hg HB GE260; have GE261 := gs1 hg HB GE260; replace HB := Aside0.mk (below_step (be1 HB GE260) hb); have NB260_261 := Aside0.mk ((by rw [hg]; exact Nat.ne_of_lt (bl BK260) : gb260 ≠ gb261)); have NB261_260 := Aside0.mk ((by rw [hg]; exact Nat.ne_of_gt (bl BK260) : gb261 ≠ gb260)); replace BK260 := bb BK260 hb; clear hb hbox hg; have hnb10 := NB260_261.out; have hnc10 := NB261_260.out; have hcz11_0 := bz3 BK260) | ((with_reducible refine gate_callee (f := 44) rfl ?_); refine gl 10 Try.func44 #[.agg #[.int .i64 a0_0, .int .i64 a0_1, .slice A0_2 l0_2.length c0_2]] ?_; (with_reducible refine (impl_RowOk.calls k a0_0 a0_1 _ _ l0_2 true _ (cb HR0_2 HB) HC0_2.out A3.out).mono ?_); rintro e w12 ⟨rfl, hb⟩; refine ⟨_, rfl, ?_⟩; replace BK260 := bb BK260 hb; replace BK261 := bb BK261 hb; replace HB := Aside0.mk (below_step (be2 HB GE260 GE261) hb); (try clear hb); have hcz13_0 := bz3 BK260) | ((with_reducible refine gate_callee (f := 89) rfl ?_); refine gl 14 Try.func89 #[.agg #[.int .i64 a0_0, .int .i64 a0_1, .slice A0_2 l0_2.length c0_2]] ?_; (with_reducible refine (impl_copyRow.calls a0_0 a0_1 _ _ l0_2 t263 t264 t265 _ (cb HR0_2 HB) HC0_2.out A5.out).mono ?_); rintro e w14 ⟨v266, rfl, ho0, hb⟩; refine ⟨_, rfl, ?_⟩; have HO267 := Aside0.mk (Kd.R_lower ho0 (below_size (be2 HB GE260 GE261))); replace BK260 := bb BK260 hb; replace BK261 := bb BK261 hb; replace HB := Aside0.mk (below_step (be2 HB GE260 GE261) hb); (try clear hb); (try clear ho0)) | ((with_reducible refine gate_dst (N := 7) rfl ?_); refine bx 7 #[.int .i64 0, .int .i64 0, .slice none 0 0] 53 ?_; intro gb268 hg w15 hbox hb; replace HO267 := rb HO267 hb; have BK268 := am hbox; have GW268 := gs2 hg HB GE260 GE261; have GE268 := gs2 hg HB GE260 GE261; replace HB := Aside0.mk (below_step (be2 HB GE260 GE261) hb); have NB260_268 := Aside0.mk ((by rw [hg]; exact Nat.ne_of_lt (bl BK260) : gb260 ≠ gb268)); have NB268_260 := Aside0.mk ((by rw [hg]; exact Nat.ne_of_gt (bl BK260) : gb268 ≠ gb260)); replace BK260 := bb BK260 hb; have NB261_268 := Aside0.mk ((by rw [hg]; exact Nat.ne_of_lt (bl BK261) : gb261 ≠ gb268)); have NB268_261 := Aside0.mk ((by rw [hg]; exact Nat.ne_of_gt (bl BK261) : gb268 ≠ gb261)); replace BK261 := bb BK261 hb; clear hb hbox hg; have hnb16 := NB268_260.out; have hnc16 := NB260_268.out; have hnb17 := NB268_261.out; have hnc17 := NB261_268.out; have hcz18_0 := bz3 BK268; obtain ⟨Ao19, co19, eo19⟩ := Kd.R_slice HO267.out; subst eo19; have hcz20_0 := bz3 BK260) | ((with_reducible refine gate_callee (f := 90) rfl ?_); refine gl 18 Try.func90 #[.slice A0_2 l0_2.length c0_2, .string a1] ?_; (with_reducible refine (impl_itemAt.calls k _ _ l0_2 a1 t269 _ ?side1 HC0_2.out A6.out).mono ?_); (case side1 => exact Kd.C_below HR0_2.out (be3 HB GE260 GE261 GE268)); rintro e w21 ⟨rfl, hb⟩; refine ⟨_, rfl, ?_⟩; replace HO267 := Aside0.mk (Kd.R_below (rf HO267 BK268) hb); replace BK260 := Aside0.mk (blk_below (g := gb260) (o := .cells #[.int .i64 a0_0, .int .i64 a0_1, .slice A0_2 l0_2.length c0_2] 53 (0, 0)) (bf1 BK260 NB260_268) hb); replace BK261 := Aside0.mk (blk_below (g := gb261) (o := .cells #[.int .i64 0, .int .i64 0, .slice none 0 0] 53 (0, 0)) (bf1 BK261 NB261_268) hb); replace BK268 := Aside0.mk (blk_below (g := gb268) (o := .cells #[.int .i64 t263, .int .i64 t264, .slice Ao19 t265.length co19] 53 (0, 0)) (by (with_reducible repeat (first | refine blk_drewN ?_ _ | refine blk_drew ?_ | refine blk_alloc ?_ _)); refine blk_put (cs := #[.int .i64 t263, .int .i64 t264, .slice none 0 0]) ?_ 2 _ rfl; (with_reducible repeat (first | refine blk_drewN ?_ _ | refine blk_drew ?_ | refine blk_alloc ?_ _)); refine blk_put (cs := #[.int .i64 t263, .int .i64 0, .slice none 0 0]) ?_ 1 _ rfl; (with_reducible repeat (first | refine blk_drewN ?_ _ | refine blk_drew ?_ | refine blk_alloc ?_ _)); refine blk_put (cs := #[.int .i64 0, .int .i64 0, .slice none 0 0]) ?_ 0 _ rfl; (with_reducible repeat (first | refine blk_drewN ?_ _ | refine blk_drew ?_ | refine blk_alloc ?_ _)); exact BK268.out) hb); replace HB := Aside0.mk (below_step (be3 HB GE260 GE261 GE268) hb); (try clear hb); have hcz22_0 := bz3 BK268; have hcz23_0 := bz3 BK261))
   refine bodyPost_ret (results_ctt rfl _ _ gb261 53 #[.int .i64 t263, .int .i64 t264, .slice Ao19 t265.length co19] (0, 0) _ rfl (by (with_reducible repeat (first | refine blk_drewN ?_ _ | refine blk_drew ?_ | refine blk_alloc ?_ _)); refine blk_put (cs := #[.int .i64 t263, .int .i64 t264, .slice none 0 0]) ?_ 2 _ rfl; (with_reducible repeat (first | refine blk_drewN ?_ _ | refine blk_drew ?_ | refine blk_alloc ?_ _)); refine blk_put (cs := #[.int .i64 t263, .int .i64 0, .slice none 0 0]) ?_ 1 _ rfl; (with_reducible repeat (first | refine blk_drewN ?_ _ | refine blk_drew ?_ | refine blk_alloc ?_ _)); refine blk_put (cs := #[.int .i64 0, .int .i64 0, .slice none 0 0]) ?_ 0 _ rfl; (with_reducible repeat (first | refine blk_drewN ?_ _ | refine blk_drew ?_ | refine blk_alloc ?_ _)); exact BK261.out) Try.underlying53 rfl (by kernel_rfl)) rfl ?_
   exact ⟨_, er, by (with_reducible repeat (first | apply Kd.R_alloc | apply Kd.R_drewN | apply Kd.R_drew)); exact Kd.R_mono (Kd.R_far (p := ⟨gb261, 2, none⟩) (Kd.R_far (p := ⟨gb261, 1, none⟩) (Kd.R_far (p := ⟨gb261, 0, none⟩) (Kd.R_types HO267.out BK261.out (by decide)) (fun _ hk => hk.2) (.int .i64 t263)) (fun _ hk => hk.2) (.int .i64 t264)) (fun _ hk => hk.2) (.slice Ao19 t265.length co19)) (fun _ hk => trivial), be3 HB GE260 GE261 GE268⟩
  rw [if_neg c7] at H
  have c7b0 : decide (t269 < 0) = false := decide_eq_false c7
  clear c7
  replace H := Option.bind_eq_some_iff.mp H
  obtain ⟨t270, A240, H⟩ := H
  replace H : (if 0 ≤ t269 then (if t269 < (l0_2.length : Int) then (some (t263, t264, t270, (rd_T84 l0_2 t269).f1, true)) else (none)) else (none)) = some (r1, r2, r3, r4, r5) := H
  have A24 := Aside0.mk A240
  clear A240
  by_cases c25 : 0 ≤ t269
  ·rw [if_pos c25] at H
   have c25b0 : decide (0 ≤ t269) = true := decide_eq_true c25
   clear c25
   by_cases c26 : t269 < (l0_2.length : Int)
   ·rw [if_pos c26] at H
    have c26b0 : decide (t269 < (l0_2.length : Int)) = true := decide_eq_true c26
    clear c26
    simp only [Option.some.injEq, Prod.mk.injEq] at H
    obtain ⟨rfl, rfl, rfl, rfl, rfl⟩ := H
    go_enter Try.func53, Try.ntmps53
    try go_wp2_with (first | ((with_reducible refine gate_dst (N := 2) rfl ?_); refine bx 2 #[.int .i64 a0_0, .int .i64 a0_1, .slice A0_2 l0_2.length c0_2] 53 ?_; intro gb260 hg w27 hbox hb; have BK260 := am hbox; have GW260 := gs0 hg HB; have GE260 := gs0 hg HB; replace HB := s0 HB hb; clear hb hbox hg) | ((with_reducible refine gate_dst (N := 4) rfl ?_); refine bx 4 #[.int .i64 0, .int .i64 0, .slice none 0 0] 53 ?_; intro gb261 hg w28 hbox hb; have BK261 := am hbox; have GW261 := gs1 hg HB GE260; have GE261 := gs1 hg HB GE260; replace HB := Aside0.mk (below_step (be1 HB GE260) hb); have NB260_261 := Aside0.mk ((by rw [hg]; exact Nat.ne_of_lt (bl BK260) : gb260 ≠ gb261)); have NB261_260 := Aside0.mk ((by rw [hg]; exact Nat.ne_of_gt (bl BK260) : gb261 ≠ gb260)); replace BK260 := bb BK260 hb; clear hb hbox hg; have hnb29 := NB260_261.out; have hnc29 := NB261_260.out; have hcz30_0 := bz3 BK260) | ((with_reducible refine gate_callee (f := 44) rfl ?_); refine gl 10 Try.func44 #[.agg #[.int .i64 a0_0, .int .i64 a0_1, .slice A0_2 l0_2.length c0_2]] ?_; (with_reducible refine (impl_RowOk.calls k a0_0 a0_1 _ _ l0_2 true _ (cb HR0_2 HB) HC0_2.out A3.out).mono ?_); rintro e w31 ⟨rfl, hb⟩; refine ⟨_, rfl, ?_⟩; replace BK260 := bb BK260 hb; replace BK261 := bb BK261 hb; replace HB := Aside0.mk (below_step (be2 HB GE260 GE261) hb); (try clear hb); have hcz32_0 := bz3 BK260) | ((with_reducible refine gate_callee (f := 89) rfl ?_); refine gl 14 Try.func89 #[.agg #[.int .i64 a0_0, .int .i64 a0_1, .slice A0_2 l0_2.length c0_2]] ?_; (with_reducible refine (impl_copyRow.calls a0_0 a0_1 _ _ l0_2 t263 t264 t265 _ (cb HR0_2 HB) HC0_2.out A5.out).mono ?_); rintro e w33 ⟨v266, rfl, ho0, hb⟩; refine ⟨_, rfl, ?_⟩; have HO267 := Aside0.mk (Kd.R_lower ho0 (below_size (be2 HB GE260 GE261))); replace BK260 := bb BK260 hb; replace BK261 := bb BK261 hb; replace HB := Aside0.mk (below_step (be2 HB GE260 GE261) hb); (try clear hb); (try clear ho0)) | ((with_reducible refine gate_dst (N := 7) rfl ?_); refine bx 7 #[.int .i64 0, .int .i64 0, .slice none 0 0] 53 ?_; intro gb268 hg w34 hbox hb; replace HO267 := rb HO267 hb; have BK268 := am hbox; have GW268 := gs2 hg HB GE260 GE261; have GE268 := gs2 hg HB GE260 GE261; replace HB := Aside0.mk (below_step (be2 HB GE260 GE261) hb); have NB260_268 := Aside0.mk ((by rw [hg]; exact Nat.ne_of_lt (bl BK260) : gb260 ≠ gb268)); have NB268_260 := Aside0.mk ((by rw [hg]; exact Nat.ne_of_gt (bl BK260) : gb268 ≠ gb260)); replace BK260 := bb BK260 hb; have NB261_268 := Aside0.mk ((by rw [hg]; exact Nat.ne_of_lt (bl BK261) : gb261 ≠ gb268)); have NB268_261 := Aside0.mk ((by rw [hg]; exact Nat.ne_of_gt (bl BK261) : gb268 ≠ gb261)); replace BK261 := bb BK261 hb; clear hb hbox hg; have hnb35 := NB268_260.out; have hnc35 := NB260_268.out; have hnb36 := NB268_261.out; have hnc36 := NB261_268.out; have hcz37_0 := bz3 BK268; obtain ⟨Ao38, co38, eo38⟩ := Kd.R_slice HO267.out; subst eo38; have hcz39_0 := bz3 BK260) | ((with_reducible refine gate_callee (f := 90) rfl ?_); refine gl 18 Try.func90 #[.slice A0_2 l0_2.length c0_2, .string a1] ?_; (with_reducible refine (impl_itemAt.calls k _ _ l0_2 a1 t269 _ ?side1 HC0_2.out A6.out).mono ?_); (case side1 => exact Kd.C_below HR0_2.out (be3 HB GE260 GE261 GE268)); rintro e w40 ⟨rfl, hb⟩; refine ⟨_, rfl, ?_⟩; replace HO267 := Aside0.mk (Kd.R_below (rf HO267 BK268) hb); replace BK260 := Aside0.mk (blk_below (g := gb260) (o := .cells #[.int .i64 a0_0, .int .i64 a0_1, .slice A0_2 l0_2.length c0_2] 53 (0, 0)) (bf1 BK260 NB260_268) hb); replace BK261 := Aside0.mk (blk_below (g := gb261) (o := .cells #[.int .i64 0, .int .i64 0, .slice none 0 0] 53 (0, 0)) (bf1 BK261 NB261_268) hb); replace BK268 := Aside0.mk (blk_below (g := gb268) (o := .cells #[.int .i64 t263, .int .i64 t264, .slice Ao38 t265.length co38] 53 (0, 0)) (by (with_reducible repeat (first | refine blk_drewN ?_ _ | refine blk_drew ?_ | refine blk_alloc ?_ _)); refine blk_put (cs := #[.int .i64 t263, .int .i64 t264, .slice none 0 0]) ?_ 2 _ rfl; (with_reducible repeat (first | refine blk_drewN ?_ _ | refine blk_drew ?_ | refine blk_alloc ?_ _)); refine blk_put (cs := #[.int .i64 t263, .int .i64 0, .slice none 0 0]) ?_ 1 _ rfl; (with_reducible repeat (first | refine blk_drewN ?_ _ | refine blk_drew ?_ | refine blk_alloc ?_ _)); refine blk_put (cs := #[.int .i64 0, .int .i64 0, .slice none 0 0]) ?_ 0 _ rfl; (with_reducible repeat (first | refine blk_drewN ?_ _ | refine blk_drew ?_ | refine blk_alloc ?_ _)); exact BK268.out) hb); replace HB := Aside0.mk (below_step (be3 HB GE260 GE261 GE268) hb); (try clear hb); have hcz41_0 := bz3 BK268) | ((with_reducible refine gate_callee (f := 91) rfl ?_); refine gl 23 Try.func91 #[.pointer (some ⟨gb268, 0, none⟩), .int .i64 t269] ?_; (with_reducible refine (impl_Row_asked.calls t263 t264 (fun k_ => some k_ = (.slice Ao38 t265.length co38 : Value).ownBlock) (.slice Ao38 t265.length co38) t265 t269 gb268 t270 w _ ?sideP ?sideW ?side1 ?side2 A24.out).mono ?_); (case sideP => exact bk BK268); (case sideW => exact GE268.out); (case side1 => repeat (first | (with_reducible first | exact HB.out | apply below_alloc | apply pw_below_drewN | apply below_drew1 | refine below_set ?_ GE260.out | refine below_set ?_ GE261.out | refine below_set ?_ GE268.out) | exact HB.out)); (case side2 => exact Kd.R_tight rfl HO267.out); rintro e w42 ⟨v271, rfl, hblk, ho0, hb, hkp⟩; refine ⟨_, rfl, ?_⟩; replace BK260 := Aside0.mk (blk_kept (bk BK260) hkp (fun hs_ => Or.elim hs_ (fun e_ => (Kd.R_ne HO267.out BK260.out (by decide)) e_) (fun e_ => NB260_268.out e_))); replace BK261 := Aside0.mk (blk_kept (bk BK261) hkp (fun hs_ => Or.elim hs_ (fun e_ => (Kd.R_ne HO267.out BK261.out (by decide)) e_) (fun e_ => NB261_268.out e_))); replace BK268 := Aside0.mk hblk; have HO272 := Aside0.mk (Kd.R_mono (ok' := fun k_ => True) ho0 (fun k_ hk_ => trivial)); replace HB := Aside0.mk (hb); clear HO267; (try clear hb); (try clear hkp); (try clear hblk); (try clear ho0); obtain ⟨Ao43, co43, eo43⟩ := Kd.R_slice HO272.out; subst eo43; have hcz44_0 := bz3 BK268))
    have n0_ := Aside0.mk (Kd.R_drew HO272.out)
    have n1_ := Aside0.mk (blk_drew BK260.out)
    have n2_ := Aside0.mk (blk_drew BK261.out)
    have n3_ := Aside0.mk (blk_drew BK268.out)
    have n4_ := Aside0.mk (below_drew1 HB.out)
    clear HO272
    clear BK260
    clear BK261
    clear BK268
    clear HB
    have HO272 := n0_
    have BK260 := n1_
    have BK261 := n2_
    have BK268 := n3_
    have HB := n4_
    clear n0_ n1_ n2_ n3_ n4_
    have p273 : 0 ≤ (t269 : Int) := od
    have q273 : t269 < (l0_2.length : Int) := od
    obtain ⟨ad273, e273, hx273_0, hx273_1, hx273_2⟩ := at_T84 HR0_2.out t269 p273 q273
    have hw273_2 := hx273_2
    have hw273_1 := hx273_1
    have hw273_0 := hx273_0
    cases e273
    replace hx273_0 := hc HB hx273_0
    replace hx273_1 := hc HB hx273_1
    replace hx273_2 := hc HB hx273_2
    replace p273 := eq_true p273
    replace q273 := eq_true q273
    refine start_ (n := 10) (S := fun w' => w'.cell? ⟨gb268, 0, none⟩ = some (.int .i64 t263) ∧ w'.cell? ⟨gb268, 1, none⟩ = some (.int .i64 t264) ∧ w'.cell? ⟨gb268, 2, none⟩ = some (.slice Ao43 t270.length co43) ∧ w'.cell? ⟨gb260, 0, none⟩ = some (.int .i64 a0_0) ∧ w'.cell? ⟨gb260, 1, none⟩ = some (.int .i64 a0_1) ∧ w'.cell? ⟨gb260, 2, none⟩ = some (.slice (some ad273) l0_2.length c0_2) ∧ w'.cell? (ad273.add ((t269).toNat * 3)) = some (.string ((rd_T84 l0_2 t269).f0)) ∧ w'.cell? ⟨(ad273.add ((t269).toNat * 3)).block, (ad273.add ((t269).toNat * 3)).off + 1, none⟩ = some (.string ((rd_T84 l0_2 t269).f1)) ∧ w'.cell? ⟨(ad273.add ((t269).toNat * 3)).block, (ad273.add ((t269).toNat * 3)).off + 2, none⟩ = some (.int .i64 ((rd_T84 l0_2 t269).f2))) (ds := []) (bv 10 0x0) (by kernel_rfl) rfl rfl ⟨bc0 BK268, bc1 BK268, bc2 BK268, bc0 BK260, bc1 BK260, bc2 BK260, ((HB.out.cell (World.block_lt_of_cell? w _ hw273_0)).trans hw273_0), ((HB.out.cell (World.block_lt_of_cell? w _ hw273_1)).trans hw273_1), ((HB.out.cell (World.block_lt_of_cell? w _ hw273_2)).trans hw273_2)⟩ (fun hHeld => ?_); refine with_tabW impl_RowGet.tab8 impl_RowGet.bits8 (fun HT_ HW_ => ?_)
    generalize w42.drew = w46 at HO272 BK260 BK261 BK268 HB hx273_0 hx273_1 hx273_2 hHeld ⊢
    refine py HT_ 1 25 (bv 10 0x2) ?_
    refine py HT_ 3 27 (bv 10 0xa) ?_
    refine tk HT_ HW_ hHeld 0 24 (bv 10 0xb) ?_
    refine tk HT_ HW_ hHeld 2 26 (bv 10 0xf) ?_
    refine py HT_ 4 28 (bv 10 0x1f) ?_
    refine py HT_ 5 29 (bv 10 0x3f) ?_
    refine tk HT_ HW_ hHeld 6 30 (bv 10 0x7f) ?_
    refine one_ (i := 7) (N := none) (bv 10 0xff) rfl rfl (one_of HT_.out (by kernel_rfl)) (by decide) (fun K hK => ?_)
    have hs47 : w46.cell? ⟨gb261, 0, none⟩ = some (.int .i64 0) := bc0 BK261
    have hfs47 := blk_frozen BK261.out 0
    have hns47_0 := NB260_261.out
    have hns47_2 := NB268_261.out
    have hms47_0 := NB261_260.out
    have hms47_2 := NB261_268.out
    have hs48 : w46.cell? ⟨gb261, 1, none⟩ = some (.int .i64 0) := bc1 BK261
    have hfs48 := blk_frozen BK261.out 1
    have hns48_0 := NB260_261.out
    have hns48_2 := NB268_261.out
    have hms48_0 := NB261_260.out
    have hms48_2 := NB261_268.out
    have hs49 : w46.cell? ⟨gb261, 2, none⟩ = some (.slice none 0 0) := bc2 BK261
    have hfs49 := blk_frozen BK261.out 2
    have hns49_0 := NB260_261.out
    have hns49_2 := NB268_261.out
    have hms49_0 := NB261_260.out
    have hms49_2 := NB261_268.out
    refine skip_ (w1 := ?_) (by rfl) rfl ?_ ?_
    rotate_left
    ·go_simp
     rfl
    refine hK.out _ _ ⟨((cell_far (p := ⟨gb261, _, none⟩) NB268_261.out _).trans (((cell_far (p := ⟨gb261, _, none⟩) NB268_261.out _).trans (((cell_far (p := ⟨gb261, _, none⟩) NB268_261.out _).trans (hHeld.1)))))), ((cell_far (p := ⟨gb261, _, none⟩) NB268_261.out _).trans (((cell_far (p := ⟨gb261, _, none⟩) NB268_261.out _).trans (((cell_far (p := ⟨gb261, _, none⟩) NB268_261.out _).trans (hHeld.2.1)))))), ((cell_far (p := ⟨gb261, _, none⟩) NB268_261.out _).trans (((cell_far (p := ⟨gb261, _, none⟩) NB268_261.out _).trans (((cell_far (p := ⟨gb261, _, none⟩) NB268_261.out _).trans (hHeld.2.2.1)))))), ((cell_far (p := ⟨gb261, _, none⟩) NB260_261.out _).trans (((cell_far (p := ⟨gb261, _, none⟩) NB260_261.out _).trans (((cell_far (p := ⟨gb261, _, none⟩) NB260_261.out _).trans (hHeld.2.2.2.1)))))), ((cell_far (p := ⟨gb261, _, none⟩) NB260_261.out _).trans (((cell_far (p := ⟨gb261, _, none⟩) NB260_261.out _).trans (((cell_far (p := ⟨gb261, _, none⟩) NB260_261.out _).trans (hHeld.2.2.2.2.1)))))), ((cell_far (p := ⟨gb261, _, none⟩) NB260_261.out _).trans (((cell_far (p := ⟨gb261, _, none⟩) NB260_261.out _).trans (((cell_far (p := ⟨gb261, _, none⟩) NB260_261.out _).trans (hHeld.2.2.2.2.2.1)))))), ((cell_far (p := ⟨gb261, _, none⟩) (by first | exact Nat.ne_of_lt (Nat.lt_of_lt_of_le (by have := World.block_lt_of_cell? _ _ hw273_0; first | rwa [add_block] at this | exact this) GW261.out) | (rw [add_block]; exact Nat.ne_of_lt (Nat.lt_of_lt_of_le (by have := World.block_lt_of_cell? _ _ hw273_0; first | rwa [add_block] at this | exact this) GW261.out)) | (show (Addr.add _ _).block ≠ _; rw [add_block]; exact Nat.ne_of_lt (Nat.lt_of_lt_of_le (by have := World.block_lt_of_cell? _ _ hw273_0; first | rwa [add_block] at this | exact this) GW261.out)) | (dsimp only; exact Nat.ne_of_lt (Nat.lt_of_lt_of_le (by have := World.block_lt_of_cell? _ _ hw273_0; first | rwa [add_block] at this | exact this) GW261.out))) _).trans (((cell_far (p := ⟨gb261, _, none⟩) (by first | exact Nat.ne_of_lt (Nat.lt_of_lt_of_le (by have := World.block_lt_of_cell? _ _ hw273_0; first | rwa [add_block] at this | exact this) GW261.out) | (rw [add_block]; exact Nat.ne_of_lt (Nat.lt_of_lt_of_le (by have := World.block_lt_of_cell? _ _ hw273_0; first | rwa [add_block] at this | exact this) GW261.out)) | (show (Addr.add _ _).block ≠ _; rw [add_block]; exact Nat.ne_of_lt (Nat.lt_of_lt_of_le (by have := World.block_lt_of_cell? _ _ hw273_0; first | rwa [add_block] at this | exact this) GW261.out)) | (dsimp only; exact Nat.ne_of_lt (Nat.lt_of_lt_of_le (by have := World.block_lt_of_cell? _ _ hw273_0; first | rwa [add_block] at this | exact this) GW261.out))) _).trans (((cell_far (p := ⟨gb261, _, none⟩) (by first | exact Nat.ne_of_lt (Nat.lt_of_lt_of_le (by have := World.block_lt_of_cell? _ _ hw273_0; first | rwa [add_block] at this | exact this) GW261.out) | (rw [add_block]; exact Nat.ne_of_lt (Nat.lt_of_lt_of_le (by have := World.block_lt_of_cell? _ _ hw273_0; first | rwa [add_block] at this | exact this) GW261.out)) | (show (Addr.add _ _).block ≠ _; rw [add_block]; exact Nat.ne_of_lt (Nat.lt_of_lt_of_le (by have := World.block_lt_of_cell? _ _ hw273_0; first | rwa [add_block] at this | exact this) GW261.out)) | (dsimp only; exact Nat.ne_of_lt (Nat.lt_of_lt_of_le (by have := World.block_lt_of_cell? _ _ hw273_0; first | rwa [add_block] at this | exact this) GW261.out))) _).trans (hHeld.2.2.2.2.2.2.1)))))), ((cell_far (p := ⟨gb261, _, none⟩) (by first | exact Nat.ne_of_lt (Nat.lt_of_lt_of_le (by have := World.block_lt_of_cell? _ _ hw273_1; first | rwa [add_block] at this | exact this) GW261.out) | (rw [add_block]; exact Nat.ne_of_lt (Nat.lt_of_lt_of_le (by have := World.block_lt_of_cell? _ _ hw273_1; first | rwa [add_block] at this | exact this) GW261.out)) | (show (Addr.add _ _).block ≠ _; rw [add_block]; exact Nat.ne_of_lt (Nat.lt_of_lt_of_le (by have := World.block_lt_of_cell? _ _ hw273_1; first | rwa [add_block] at this | exact this) GW261.out)) | (dsimp only; exact Nat.ne_of_lt (Nat.lt_of_lt_of_le (by have := World.block_lt_of_cell? _ _ hw273_1; first | rwa [add_block] at this | exact this) GW261.out))) _).trans (((cell_far (p := ⟨gb261, _, none⟩) (by first | exact Nat.ne_of_lt (Nat.lt_of_lt_of_le (by have := World.block_lt_of_cell? _ _ hw273_1; first | rwa [add_block] at this | exact this) GW261.out) | (rw [add_block]; exact Nat.ne_of_lt (Nat.lt_of_lt_of_le (by have := World.block_lt_of_cell? _ _ hw273_1; first | rwa [add_block] at this | exact this) GW261.out)) | (show (Addr.add _ _).block ≠ _; rw [add_block]; exact Nat.ne_of_lt (Nat.lt_of_lt_of_le (by have := World.block_lt_of_cell? _ _ hw273_1; first | rwa [add_block] at this | exact this) GW261.out)) | (dsimp only; exact Nat.ne_of_lt (Nat.lt_of_lt_of_le (by have := World.block_lt_of_cell? _ _ hw273_1; first | rwa [add_block] at this | exact this) GW261.out))) _).trans (((cell_far (p := ⟨gb261, _, none⟩) (by first | exact Nat.ne_of_lt (Nat.lt_of_lt_of_le (by have := World.block_lt_of_cell? _ _ hw273_1; first | rwa [add_block] at this | exact this) GW261.out) | (rw [add_block]; exact Nat.ne_of_lt (Nat.lt_of_lt_of_le (by have := World.block_lt_of_cell? _ _ hw273_1; first | rwa [add_block] at this | exact this) GW261.out)) | (show (Addr.add _ _).block ≠ _; rw [add_block]; exact Nat.ne_of_lt (Nat.lt_of_lt_of_le (by have := World.block_lt_of_cell? _ _ hw273_1; first | rwa [add_block] at this | exact this) GW261.out)) | (dsimp only; exact Nat.ne_of_lt (Nat.lt_of_lt_of_le (by have := World.block_lt_of_cell? _ _ hw273_1; first | rwa [add_block] at this | exact this) GW261.out))) _).trans (hHeld.2.2.2.2.2.2.2.1)))))), ((cell_far (p := ⟨gb261, _, none⟩) (by first | exact Nat.ne_of_lt (Nat.lt_of_lt_of_le (by have := World.block_lt_of_cell? _ _ hw273_2; first | rwa [add_block] at this | exact this) GW261.out) | (rw [add_block]; exact Nat.ne_of_lt (Nat.lt_of_lt_of_le (by have := World.block_lt_of_cell? _ _ hw273_2; first | rwa [add_block] at this | exact this) GW261.out)) | (show (Addr.add _ _).block ≠ _; rw [add_block]; exact Nat.ne_of_lt (Nat.lt_of_lt_of_le (by have := World.block_lt_of_cell? _ _ hw273_2; first | rwa [add_block] at this | exact this) GW261.out)) | (dsimp only; exact Nat.ne_of_lt (Nat.lt_of_lt_of_le (by have := World.block_lt_of_cell? _ _ hw273_2; first | rwa [add_block] at this | exact this) GW261.out))) _).trans (((cell_far (p := ⟨gb261, _, none⟩) (by first | exact Nat.ne_of_lt (Nat.lt_of_lt_of_le (by have := World.block_lt_of_cell? _ _ hw273_2; first | rwa [add_block] at this | exact this) GW261.out) | (rw [add_block]; exact Nat.ne_of_lt (Nat.lt_of_lt_of_le (by have := World.block_lt_of_cell? _ _ hw273_2; first | rwa [add_block] at this | exact this) GW261.out)) | (show (Addr.add _ _).block ≠ _; rw [add_block]; exact Nat.ne_of_lt (Nat.lt_of_lt_of_le (by have := World.block_lt_of_cell? _ _ hw273_2; first | rwa [add_block] at this | exact this) GW261.out)) | (dsimp only; exact Nat.ne_of_lt (Nat.lt_of_lt_of_le (by have := World.block_lt_of_cell? _ _ hw273_2; first | rwa [add_block] at this | exact this) GW261.out))) _).trans (((cell_far (p := ⟨gb261, _, none⟩) (by first | exact Nat.ne_of_lt (Nat.lt_of_lt_of_le (by have := World.block_lt_of_cell? _ _ hw273_2; first | rwa [add_block] at this | exact this) GW261.out) | (rw [add_block]; exact Nat.ne_of_lt (Nat.lt_of_lt_of_le (by have := World.block_lt_of_cell? _ _ hw273_2; first | rwa [add_block] at this | exact this) GW261.out)) | (show (Addr.add _ _).block ≠ _; rw [add_block]; exact Nat.ne_of_lt (Nat.lt_of_lt_of_le (by have := World.block_lt_of_cell? _ _ hw273_2; first | rwa [add_block] at this | exact this) GW261.out)) | (dsimp only; exact Nat.ne_of_lt (Nat.lt_of_lt_of_le (by have := World.block_lt_of_cell? _ _ hw273_2; first | rwa [add_block] at this | exact this) GW261.out))) _).trans (hHeld.2.2.2.2.2.2.2.2))))))⟩ (fun hHeld => ?_)
    clear hK K
    refine py HT_ 8 5 (bv 10 0x1ff) ?_
    refine py HT_ 9 6 (bv 10 0x3ff) ?_
    refine done_ (done_of HT_.out (by kernel_rfl)) ?_
    try go_wp2
    refine bodyPost_ret (results_ctt rfl _ _ gb261 53 #[.int .i64 t263, .int .i64 t264, .slice Ao43 t270.length co43] (0, 0) _ rfl (by (with_reducible repeat (first | refine blk_drewN ?_ _ | refine blk_drew ?_ | refine blk_alloc ?_ _)); refine blk_put (cs := #[.int .i64 t263, .int .i64 t264, .slice none 0 0]) ?_ 2 _ rfl; (with_reducible repeat (first | refine blk_drewN ?_ _ | refine blk_drew ?_ | refine blk_alloc ?_ _)); refine blk_put (cs := #[.int .i64 t263, .int .i64 0, .slice none 0 0]) ?_ 1 _ rfl; (with_reducible repeat (first | refine blk_drewN ?_ _ | refine blk_drew ?_ | refine blk_alloc ?_ _)); refine blk_put (cs := #[.int .i64 0, .int .i64 0, .slice none 0 0]) ?_ 0 _ rfl; (with_reducible repeat (first | refine blk_drewN ?_ _ | refine blk_drew ?_ | refine blk_alloc ?_ _)); exact BK261.out) Try.underlying53 rfl (by kernel_rfl)) rfl ?_
    exact ⟨_, er, by (with_reducible repeat (first | apply Kd.R_alloc | apply Kd.R_drewN | apply Kd.R_drew)); exact Kd.R_mono (Kd.R_far (p := ⟨gb261, 2, none⟩) (Kd.R_far (p := ⟨gb261, 1, none⟩) (Kd.R_far (p := ⟨gb261, 0, none⟩) (Kd.R_types HO272.out BK261.out (by decide)) (fun _ hk => hk.2) (.int .i64 t263)) (fun _ hk => hk.2) (.int .i64 t264)) (fun _ hk => hk.2) (.slice Ao43 t270.length co43)) (fun _ hk => trivial), be3 HB GE260 GE261 GE268⟩
   rw [if_neg c26] at H
   exact absurd H (by simp)
  rw [if_neg c25] at H
  exact absurd H (by simp)
 replace c4 := Bool.eq_false_iff.mpr c4
 subst c4
 have H1 : (some (0, 0, ([] : List (S84)), (⟨#[]⟩ : ByteArray), false)) = some (r1, r2, r3, r4, r5) := by rw [if_neg (show ¬ (false = true) by decide)] at H; exact H
 clear H
 have H := H1
 clear H1
 simp only [Option.some.injEq, Prod.mk.injEq] at H
 obtain ⟨rfl, rfl, rfl, rfl, rfl⟩ := H
 go_enter Try.func53, Try.ntmps53
 go_wp2_with (first | ((with_reducible refine gate_dst (N := 2) rfl ?_); refine bx 2 #[.int .i64 a0_0, .int .i64 a0_1, .slice A0_2 l0_2.length c0_2] 53 ?_; intro gb260 hg w50 hbox hb; have BK260 := am hbox; have GW260 := gs0 hg HB; have GE260 := gs0 hg HB; replace HB := s0 HB hb; clear hb hbox hg) | ((with_reducible refine gate_dst (N := 4) rfl ?_); refine bx 4 #[.int .i64 0, .int .i64 0, .slice none 0 0] 53 ?_; intro gb261 hg w51 hbox hb; have BK261 := am hbox; have GW261 := gs1 hg HB GE260; have GE261 := gs1 hg HB GE260; replace HB := Aside0.mk (below_step (be1 HB GE260) hb); have NB260_261 := Aside0.mk ((by rw [hg]; exact Nat.ne_of_lt (bl BK260) : gb260 ≠ gb261)); have NB261_260 := Aside0.mk ((by rw [hg]; exact Nat.ne_of_gt (bl BK260) : gb261 ≠ gb260)); replace BK260 := bb BK260 hb; clear hb hbox hg; have hnb52 := NB260_261.out; have hnc52 := NB261_260.out; have hcz53_0 := bz3 BK260) | ((with_reducible refine gate_callee (f := 44) rfl ?_); refine gl 10 Try.func44 #[.agg #[.int .i64 a0_0, .int .i64 a0_1, .slice A0_2 l0_2.length c0_2]] ?_; (with_reducible refine (impl_RowOk.calls k a0_0 a0_1 _ _ l0_2 false _ (cb HR0_2 HB) HC0_2.out A3.out).mono ?_); rintro e w54 ⟨rfl, hb⟩; refine ⟨_, rfl, ?_⟩; replace BK260 := bb BK260 hb; replace BK261 := bb BK261 hb; replace HB := Aside0.mk (below_step (be2 HB GE260 GE261) hb); (try clear hb); have hcz55_0 := bz3 BK261))
 refine bodyPost_ret (results_ctt rfl _ _ gb261 53 #[.int .i64 0, .int .i64 0, .slice none 0 0] (0, 0) _ rfl (by (with_reducible repeat (first | refine blk_drewN ?_ _ | refine blk_drew ?_ | refine blk_alloc ?_ _)); refine blk_put (cs := #[.int .i64 0, .int .i64 0, .slice none 0 0]) ?_ 2 _ rfl; (with_reducible repeat (first | refine blk_drewN ?_ _ | refine blk_drew ?_ | refine blk_alloc ?_ _)); refine blk_put (cs := #[.int .i64 0, .int .i64 0, .slice none 0 0]) ?_ 1 _ rfl; (with_reducible repeat (first | refine blk_drewN ?_ _ | refine blk_drew ?_ | refine blk_alloc ?_ _)); refine blk_put (cs := #[.int .i64 0, .int .i64 0, .slice none 0 0]) ?_ 0 _ rfl; (with_reducible repeat (first | refine blk_drewN ?_ _ | refine blk_drew ?_ | refine blk_alloc ?_ _)); exact BK261.out) Try.underlying53 rfl (by kernel_rfl)) rfl ?_
 exact ⟨_, er, by first | exact Kd.R_nil _ _ _ _ _ | exact Kd.N_nil _ _ _ _ _ | exact Kd.V_nil _ _ _ _ _ | exact Kd.Q_nil _ _ _ _ _ | exact Kd.S_nil _ _ _ _ _, be2 HB GE260 GE261⟩

end Go.Proofs.Ytllaoamaplepmaa.QFnExactRowGet
