-- made by a program of this session (myprint.py)
import Derived.Test.YtfjhkediaholmaaQFnExactEvictx0
import Derived.Test.YtfjhkediaholmaaQFnExactEvictx5
import Derived.Test.YtfjhkediaholmaaQFnExactEvictx8
namespace Go.Proofs.Ytfjhkediaholmaa.QFnExactEvict
open Go.RowKit Go.Proofs.YtfjhkediaholmaaW.PrintWords Go.Proofs.YtfjhkediaholmaaW.PrintLast Go.Proofs.YtfjhkediaholmaaW.PrintMore
attribute [local go_sem] max2_int min2_int max_two min_two max_three min_three max_four min_four   -- for this text's walks alone
set_option linter.unusedVariables false
set_option linter.unusedSimpArgs false

/-! ### spec_l10Haunt: function 92 -/
def spec_l10Haunt.f (k : Nat) (a0_0 : Int) (a0_1 : Int) (l0_2 : List (S68)) (l0_3 : List (S68)) (l0_4 : List Int) (a1 : Int) : Option (Int × Int × (List (S68)) × (List (S68)) × List Int) := (spec_l08But.f k l0_4 a1).bind fun t262 => (if t262.length < 17592186044416 then ((some (t262 ++ [a1] : List Int)).bind fun y265 => ((spec_l10Ghosts.f a0_0 a0_1 l0_2 l0_3 y265).bind fun t268 => (if (y265.length : Int) > t268 then (if 1 ≤ (y265.length : Int) then (some (a0_0, a0_1, l0_2, l0_3, (y265.drop (1 : Int).toNat))) else (none)) else (some (a0_0, a0_1, l0_2, l0_3, y265))))) else (none))
theorem spec_l10Haunt.mono : ∀ a0 a1 a2 a3 a4 a5 k, LeO (spec_l10Haunt.f k a0 a1 a2 a3 a4 a5) (spec_l10Haunt.f (k + 1) a0 a1 a2 a3 a4 a5) := by
 intro a0 a1 a2 a3 a4 a5 k
 unfold spec_l10Haunt.f
 repeat' first
   | (with_reducible exact spec_l08But.mono _ _ _)
   | (with_reducible exact LeO.refl _)
   | (with_reducible exact LeO.none _)
   | (with_reducible refine LeO.ite ?_ ?_)
   | (with_reducible refine LeO.bind ?_ (fun _ => ?_))
   | exact spec_l08But.mono _ _ _
   | exact LeO.none _
   | refine LeO.ite ?_ ?_
   | refine LeO.bind ?_ (fun _ => ?_)
set_option maxHeartbeats 8000000 in
set_option maxRecDepth 100000 in
theorem spec_l10Haunt.calls (k : Nat) (a0_0 : Int) (a0_1 : Int) (P0_2_ : Nat → Prop) (u9000_ : Value) (l0_2 : List (S68)) (P0_3_ : Nat → Prop) (u9001_ : Value) (l0_3 : List (S68)) (A0_4 : Option Addr) (c0_4 : Nat) (l0_4 : List Int) (a1 : Int) (r1 : Int) (r2 : Int) (r3 : List (S68)) (r4 : List (S68)) (r5 : List Int) (w0 w : World) (hB : Below w0.heap.size w0 w) (ho0_2 : Kd.R k68 68 w w0.heap.size P0_2_ u9000_ l0_2) (hp0_2_0_3 : ∀ k_, P0_2_ k_ → ¬ P0_3_ k_) (ho0_3 : Kd.R k68 68 w w0.heap.size P0_3_ u9001_ l0_3) (hp0_3_0_2 : ∀ k_, P0_3_ k_ → ¬ P0_2_ k_) (hr0_4 : ∀ W_, Kept w W_ (fun k_ => P0_2_ k_ ∨ P0_3_ k_) → Kd.C (Kd.int .i64) W_ A0_4 l0_4.length l0_4) (hc0_4 : l0_4.length ≤ c0_4) (h : spec_l10Haunt.f k a0_0 a0_1 l0_2 l0_3 l0_4 a1 = some (r1, r2, r3, r4, r5)) :
  Calls Try.prog 92 #[.agg #[.int .i64 a0_0, .int .i64 a0_1, u9000_, u9001_, .slice A0_4 l0_4.length c0_4], .int .i64 a1] w fun e w' => ∃ v2_ v3_ v4_ : Value, e = .returned (.agg #[.int .i64 r1, .int .i64 r2, v2_, v3_, v4_]) ∧ Kd.R k68 68 w' w0.heap.size (fun k_ => ((P0_2_ k_ ∨ P0_3_ k_) ∨ w.heap.size ≤ k_) ∧ some k_ ≠ (v3_ : Value).ownBlock) v2_ r3 ∧ Kd.R k68 68 w' w0.heap.size (fun k_ => ((P0_2_ k_ ∨ P0_3_ k_) ∨ w.heap.size ≤ k_) ∧ some k_ ≠ (v2_ : Value).ownBlock) v3_ r4 ∧ Kd.Q (Kd.int .i64) 3 w' w0.heap.size (fun k_ => ((P0_2_ k_ ∨ P0_3_ k_) ∨ w.heap.size ≤ k_)) v4_ r5 ∧ Below w0.heap.size w0 w' ∧ Kept w w' (fun k_ => P0_2_ k_ ∨ P0_3_ k_) := by
 have hu30 := Try.underlying30
 have HO0_2 := Aside0.mk (show Kd.R k68 68 w w0.heap.size (fun k_ => ((P0_2_ k_ ∨ P0_3_ k_) ∨ w.heap.size ≤ k_) ∧ some k_ ≠ (u9001_ : Value).ownBlock) u9000_ l0_2 from Kd.R_mono ho0_2 (fun k_ hk => ⟨(.inl (.inl hk)), fun e_ => hp0_2_0_3 k_ hk (ho0_3.1 k_ e_.symm)⟩))
 have HO0_3 := Aside0.mk (show Kd.R k68 68 w w0.heap.size (fun k_ => ((P0_2_ k_ ∨ P0_3_ k_) ∨ w.heap.size ≤ k_) ∧ some k_ ≠ (u9000_ : Value).ownBlock) u9001_ l0_3 from Kd.R_mono ho0_3 (fun k_ hk => ⟨(.inl (.inr hk)), fun e_ => hp0_3_0_2 k_ hk (ho0_2.1 k_ e_.symm)⟩))
 have HR0_4 := Aside0.mk hr0_4
 have HC0_4 := Aside0.mk hc0_4
 clear hr0_4 hc0_4
 have HK := Aside0.mk (Kept.refl w (fun k_ => P0_2_ k_ ∨ P0_3_ k_))
 have HW0 := Aside0.mk hB.size
 have HB := Aside0.mk hB
 clear hB
 have H : ((spec_l08But.f k l0_4 a1).bind fun t262 => (if t262.length < 17592186044416 then ((some (t262 ++ [a1] : List Int)).bind fun y265 => ((spec_l10Ghosts.f a0_0 a0_1 l0_2 l0_3 y265).bind fun t268 => (if (y265.length : Int) > t268 then (if 1 ≤ (y265.length : Int) then (some (a0_0, a0_1, l0_2, l0_3, (y265.drop (1 : Int).toNat))) else (none)) else (some (a0_0, a0_1, l0_2, l0_3, y265))))) else (none))) = some (r1, r2, r3, r4, r5) := h
 clear h
 replace H := Option.bind_eq_some_iff.mp H
 obtain ⟨t262, A30, H⟩ := H
 replace H : (if t262.length < 17592186044416 then ((some (t262 ++ [a1] : List Int)).bind fun y265 => ((spec_l10Ghosts.f a0_0 a0_1 l0_2 l0_3 y265).bind fun t268 => (if (y265.length : Int) > t268 then (if 1 ≤ (y265.length : Int) then (some (a0_0, a0_1, l0_2, l0_3, (y265.drop (1 : Int).toNat))) else (none)) else (some (a0_0, a0_1, l0_2, l0_3, y265))))) else (none)) = some (r1, r2, r3, r4, r5) := H
 have A3 := Aside0.mk A30
 clear A30
 by_cases c4 : t262.length < 17592186044416
 ·rw [if_pos c4] at H
  have LMc4 := Aside0.mk c4
  clear c4
  obtain ⟨y265, hy265⟩ : ∃ y_ : List Int, y_ = (t262 ++ [a1]) := ⟨_, rfl⟩
  replace H : ((spec_l10Ghosts.f a0_0 a0_1 l0_2 l0_3 y265).bind fun t268 => (if (y265.length : Int) > t268 then (if 1 ≤ (y265.length : Int) then (some (a0_0, a0_1, l0_2, l0_3, (y265.drop (1 : Int).toNat))) else (none)) else (some (a0_0, a0_1, l0_2, l0_3, y265)))) = some (r1, r2, r3, r4, r5) := by first | (rw [hy265]; with_reducible exact H) | (have H2_ := (Option.bind_some _ _).symm.trans H; rw [hy265]; with_reducible exact H2_) | (have H2_ := (Option.bind_some _ _).symm.trans H; with_reducible exact H2_) | with_reducible exact H | (rw [hy265]; exact H) | exact H
  have Ny265 := Aside0.mk hy265
  clear hy265
  replace H := Option.bind_eq_some_iff.mp H
  obtain ⟨t268, A50, H⟩ := H
  replace H : (if (y265.length : Int) > t268 then (if 1 ≤ (y265.length : Int) then (some (a0_0, a0_1, l0_2, l0_3, (y265.drop (1 : Int).toNat))) else (none)) else (some (a0_0, a0_1, l0_2, l0_3, y265))) = some (r1, r2, r3, r4, r5) := H
  have A5 := Aside0.mk A50
  clear A50
  by_cases c6 : (y265.length : Int) > t268
  ·rw [if_pos c6] at H
   have c6b0 : decide (t268 < (y265.length : Int)) = true := decide_eq_true c6
   clear c6
   by_cases c7 : 1 ≤ (y265.length : Int)
   ·rw [if_pos c7] at H
    have c7b0 := eq_true c7
    have c7b1 : decide (1 ≤ (y265.length : Int)) = true := decide_eq_true c7
    clear c7
    obtain ⟨y269, hy269⟩ : ∃ y_ : List Int, y_ = (y265.drop (1 : Int).toNat) := ⟨_, rfl⟩
    replace H : (some (a0_0, a0_1, l0_2, l0_3, y269)) = some (r1, r2, r3, r4, r5) := by first | (rw [hy269]; with_reducible exact H) | (have H2_ := (Option.bind_some _ _).symm.trans H; rw [hy269]; with_reducible exact H2_) | (have H2_ := (Option.bind_some _ _).symm.trans H; with_reducible exact H2_) | with_reducible exact H | (rw [hy269]; exact H) | exact H
    have Ny269 := Aside0.mk hy269
    clear hy269
    simp only [Option.some.injEq, Prod.mk.injEq] at H
    obtain ⟨rfl, rfl, rfl, rfl, rfl⟩ := H
    obtain ⟨Ao8, co8, eo8⟩ := Kd.R_slice HO0_2.out
    subst eo8
    obtain ⟨Ao9, co9, eo9⟩ := Kd.R_slice HO0_3.out
    subst eo9
    go_enter Try.func92, Try.ntmps92
    try go_wp2_with (first | ((with_reducible refine gate_dst (N := 2) rfl ?_); refine bx 2 #[.int .i64 a0_0, .int .i64 a0_1, .slice Ao8 l0_2.length co8, .slice Ao9 l0_3.length co9, .slice A0_4 l0_4.length c0_4] 30 ?_; intro gb260 hg w10 hbox hb; replace HO0_2 := rb HO0_2 hb; replace HO0_3 := rb HO0_3 hb; have BK260 := am hbox; have GW260 := Aside0.mk ((by rw [hg]; exact (by first | exact HK.out.1 | exact (show Kept w _ (fun k_ => P0_2_ k_ ∨ P0_3_ k_) from (kp HK)).1) : w.heap.size ≤ gb260)); replace HK := Aside0.mk (Kept.below (S := (fun k_ => P0_2_ k_ ∨ P0_3_ k_)) (kp HK) hb); have GE260 := Aside0.mk ((by rw [hg]; exact (below_size (be HB)) : w0.heap.size ≤ gb260)); replace HB := s0 HB hb; clear hb hbox hg) | ((with_reducible refine gate_dst (N := 4) rfl ?_); refine bx 4 #[.int .i64 0, .int .i64 0, .slice none 0 0, .slice none 0 0, .slice none 0 0] 30 ?_; intro gb261 hg w11 hbox hb; replace HO0_2 := rb HO0_2 hb; replace HO0_3 := rb HO0_3 hb; have BK261 := am hbox; have GW261 := Aside0.mk ((by rw [hg]; exact (by first | exact HK.out.1 | exact (show Kept w _ (fun k_ => P0_2_ k_ ∨ P0_3_ k_) from (kp1 HK GW260)).1) : w.heap.size ≤ gb261)); replace HK := Aside0.mk (Kept.below (S := (fun k_ => P0_2_ k_ ∨ P0_3_ k_)) (kp1 HK GW260) hb); have GE261 := Aside0.mk ((by rw [hg]; exact (below_size (be1 HB GE260)) : w0.heap.size ≤ gb261)); replace HB := Aside0.mk (below_step (be1 HB GE260) hb); have NB260_261 := nl hg BK260; have NB261_260 := ng hg BK260; replace BK260 := bb BK260 hb; clear hb hbox hg; have hnb12 := NB260_261.out; have hnc12 := NB261_260.out; have hcz13_0 := bz5 BK260) | ((with_reducible refine gate_callee (f := 96) rfl ?_); refine gl 8 Try.func96 #[.slice A0_4 l0_4.length c0_4, .int .i64 a1] ?_; (with_reducible refine (spec_l08But.calls k _ _ l0_4 a1 t262 _ ?side1 HC0_4.out A3.out).mono ?_); (case side1 => exact Kd.C_kept_now HR0_4.out (kp2 HK GW260 GW261)); rintro e w14 ⟨v263, rfl, ho0, hb⟩; refine ⟨_, rfl, ?_⟩; replace HO0_2 := rb HO0_2 hb; replace HO0_3 := rb HO0_3 hb; have HO264 := Aside0.mk (Kd.R_lower (Kd.R_newM (M := fun k_ => ((P0_2_ k_ ∨ P0_3_ k_) ∨ w.heap.size ≤ k_)) ho0 (by first | exact HK.out.1 | exact (show Kept w _ (fun k_ => P0_2_ k_ ∨ P0_3_ k_) from (kp2 HK GW260 GW261)).1) (fun k_ h_ => .inr h_)) (below_size (be2 HB GE260 GE261))); replace BK260 := bb BK260 hb; replace BK261 := bb BK261 hb; replace HK := Aside0.mk (Kept.below (S := (fun k_ => P0_2_ k_ ∨ P0_3_ k_)) (kp2 HK GW260 GW261) hb); replace HB := Aside0.mk (below_step (be2 HB GE260 GE261) hb); (try clear hb); (try clear ho0)) | ((with_reducible refine gate_builtin (b := .append) (xs := #[.tmp 8, .tmp 10]) rfl ?_); at_builtin; refine Kd.R_append (Kd.int .i64) (w0 := w0) w0.heap.size rfl (.tmp 8) (.tmp 10) 23 3 (.int .i64 0) 8 rfl Try.underlying23 info3 rfl (by decide) (by omega) v263 t262 a1 [.int .i64 a1] (fun k_ => ((P0_2_ k_ ∨ P0_3_ k_) ∨ w.heap.size ≤ k_)) (fun _ => False) rfl rfl ?aP (fun _ hk => hk.elim) ?aF ?aO ?aB ?aS ?aL ?_; (case aP => exact rfl); (case aB => exact (be2 HB GE260 GE261)); (case aF => exact (fun k_ hk => (.inr (Nat.le_trans (by first | exact HK.out.1 | exact (show Kept w _ (fun k_ => P0_2_ k_ ∨ P0_3_ k_) from (kp2 HK GW260 GW261)).1) hk)))); (case aO => exact (by (with_reducible repeat (first | apply Kd.R_alloc | apply Kd.R_drewN | apply Kd.R_drew)); exact Kd.R_mono HO264.out (fun _ hk => hk.1))); (case aS => exact (below_size (be2 HB GE260 GE261))); (case aL => have := LMc4.out; omega); intro v266 w15 ho hb hg hat; rw [← Ny265.out] at ho; replace HO0_2 := Aside0.mk (Kd.R_over' (ro HO0_2) (Kd.R_typed (ro HO264)) (by decide) hg); replace HO0_3 := Aside0.mk (Kd.R_over' (ro HO0_3) (Kd.R_typed (ro HO264)) (by decide) hg); replace BK260 := Aside0.mk (blk_grown (g := gb260) (o := .cells #[.int .i64 a0_0, .int .i64 a0_1, .slice Ao8 l0_2.length co8, .slice Ao9 l0_3.length co9, .slice A0_4 l0_4.length c0_4] 30 (0, 0)) (bk BK260) hg (Kd.R_ne HO264.out BK260.out (by decide))); replace BK261 := Aside0.mk (blk_grown (g := gb261) (o := .cells #[.int .i64 0, .int .i64 0, .slice none 0 0, .slice none 0 0, .slice none 0 0] 30 (0, 0)) (bk BK261) hg (Kd.R_ne HO264.out BK261.out (by decide))); replace HB := Aside0.mk (hb); replace HK := Aside0.mk (Kept.of_grown (S := (fun k_ => P0_2_ k_ ∨ P0_3_ k_)) hg (kp2 HK GW260 GW261) (fun k_ e_ => (HO264.out.1 k_ e_).1)); have HO267 := Aside0.mk (ho); clear HO264; clear ho hb hg hat; obtain ⟨Ao16, co16, eo16⟩ := Kd.R_slice HO267.out; subst eo16; have hcz17_0 := bz5 BK260))
    have n0_ : Aside0 (Kd.R k68 68 (w15.setCell ⟨gb260, 4, none⟩ (.slice Ao16 y265.length co16)) w0.heap.size (fun k_ => ((P0_2_ k_ ∨ P0_3_ k_) ∨ w.heap.size ≤ k_) ∧ nb k_ Ao9 l0_3.length co9) (.slice Ao8 l0_2.length co8) l0_2) := ⟨(rf HO0_2 BK260)⟩
    have n1_ : Aside0 (Kd.R k68 68 (w15.setCell ⟨gb260, 4, none⟩ (.slice Ao16 y265.length co16)) w0.heap.size (fun k_ => ((P0_2_ k_ ∨ P0_3_ k_) ∨ w.heap.size ≤ k_) ∧ nb k_ Ao8 l0_2.length co8) (.slice Ao9 l0_3.length co9) l0_3) := ⟨(rf HO0_3 BK260)⟩
    have n2_ : Aside0 (Kd.R (Kd.int .i64) 3 (w15.setCell ⟨gb260, 4, none⟩ (.slice Ao16 y265.length co16)) w0.heap.size (fun k_ => ((P0_2_ k_ ∨ P0_3_ k_) ∨ w.heap.size ≤ k_)) (.slice Ao16 y265.length co16) y265) := ⟨(rf HO267 BK260)⟩
    have n3_ : Aside0 ((w15.setCell ⟨gb260, 4, none⟩ (.slice Ao16 y265.length co16)).heap[gb260]? = some (.cells #[.int .i64 a0_0, .int .i64 a0_1, .slice Ao8 l0_2.length co8, .slice Ao9 l0_3.length co9, .slice Ao16 y265.length co16] 30 (0, 0))) := ⟨(bp BK260)⟩
    have n4_ : Aside0 ((w15.setCell ⟨gb260, 4, none⟩ (.slice Ao16 y265.length co16)).heap[gb261]? = some (.cells #[.int .i64 0, .int .i64 0, .slice none 0 0, .slice none 0 0, .slice none 0 0] 30 (0, 0))) := ⟨(bp1 BK261 NB261_260)⟩
    have n5_ : Aside0 (Kept w (w15.setCell ⟨gb260, 4, none⟩ (.slice Ao16 y265.length co16)) (fun k_ => P0_2_ k_ ∨ P0_3_ k_)) := ⟨(kp2 HK GW260 GW261)⟩
    have n6_ : Aside0 (Below w0.heap.size w0 (w15.setCell ⟨gb260, 4, none⟩ (.slice Ao16 y265.length co16))) := ⟨be2 HB GE260 GE261⟩
    (try clear HO0_2)
    (try clear HO0_3)
    (try clear HO267)
    (try clear BK260)
    (try clear BK261)
    (try clear HK)
    (try clear HB)
    generalize (w15.setCell ⟨gb260, 4, none⟩ (.slice Ao16 y265.length co16)) = w18 at n0_ n1_ n2_ n3_ n4_ n5_ n6_ ⊢
    have HO0_2 := n0_
    have HO0_3 := n1_
    have HO267 := n2_
    have BK260 := n3_
    have BK261 := n4_
    have HK := n5_
    have HB := n6_
    clear n0_ n1_ n2_ n3_ n4_ n5_ n6_
    have n0_ := Aside0.mk (Kd.R_drew HO0_2.out)
    have n1_ := Aside0.mk (Kd.R_drew HO0_3.out)
    have n2_ := Aside0.mk (Kd.R_drew HO267.out)
    have n3_ := Aside0.mk (blk_drew BK260.out)
    have n4_ := Aside0.mk (blk_drew BK261.out)
    have n5_ := Aside0.mk (Kept.drew HK.out)
    have n6_ := Aside0.mk (below_drew1 HB.out)
    clear HO0_2
    clear HO0_3
    clear HO267
    clear BK260
    clear BK261
    clear HK
    clear HB
    have HO0_2 := n0_
    have HO0_3 := n1_
    have HO267 := n2_
    have BK260 := n3_
    have BK261 := n4_
    have HK := n5_
    have HB := n6_
    clear n0_ n1_ n2_ n3_ n4_ n5_ n6_
    refine start_ (n := 6) (S := fun w' => w'.cell? ⟨gb260, 0, none⟩ = some (.int .i64 a0_0) ∧ w'.cell? ⟨gb260, 1, none⟩ = some (.int .i64 a0_1) ∧ w'.cell? ⟨gb260, 2, none⟩ = some (.slice Ao8 l0_2.length co8) ∧ w'.cell? ⟨gb260, 3, none⟩ = some (.slice Ao9 l0_3.length co9) ∧ w'.cell? ⟨gb260, 4, none⟩ = some (.slice Ao16 y265.length co16)) (ds := []) (bv 6 0x0) (by kernel_rfl) rfl rfl ⟨bc0 BK260, bc1 BK260, bc2 BK260, bc3 BK260, bc4 BK260⟩ (fun hHeld => ?_)
    generalize w18.drew = w19 at HO0_2 HO0_3 HO267 BK260 BK261 HK HB hHeld ⊢
    refine pure_ (i := 0) (N := some 13) (v := ?_) (a' := ?_) (bv 6 0x1) rfl rfl (by kernel_rfl) (fun _ _ _ h => h) (Or.inl ⟨by rfl, ?_⟩) ?_ ?_
    rotate_left
    ·intro w'
     go_simp
     with_reducible rfl
    rotate_left
    ·simp only [aP]
     rfl
    refine take_ (i := 1) (N := some 14) (v := ?_) (a' := ?_) (bv 6 0x3) rfl rfl (by kernel_rfl) (fun _ _ _ h => h) (Or.inl ⟨by rfl, ?_⟩) hHeld ?_ ?_
    rotate_left
    ·rintro w' ⟨s0, s1, s2, s3, s4⟩
     go_simp
     with_reducible rfl
    rotate_left
    ·simp only [aP]
     rfl
    refine pure_ (i := 2) (N := some 15) (v := ?_) (a' := ?_) (bv 6 0x7) rfl rfl (by kernel_rfl) (fun _ _ _ h => h) (Or.inl ⟨by rfl, ?_⟩) ?_ ?_
    rotate_left
    ·intro w'
     go_simp
     with_reducible rfl
    rotate_left
    ·simp only [aP]
     rfl
    refine take_ (i := 3) (N := some 16) (v := ?_) (a' := ?_) (bv 6 0xf) rfl rfl (by kernel_rfl) (fun _ _ _ h => h) (Or.inl ⟨by rfl, ?_⟩) hHeld ?_ ?_
    rotate_left
    ·rintro w' ⟨s0, s1, s2, s3, s4⟩
     go_simp
     with_reducible rfl
    rotate_left
    ·simp only [aP]
     rfl
    refine one_ (i := 4) (N := some 17) (bv 6 0x1f) rfl rfl (by kernel_rfl) (by decide) (fun K hK => ?_)
    refine goes_ Try.func57 (by kernel_rfl) rfl #[.agg #[.int .i64 a0_0, .int .i64 a0_1, .slice Ao8 l0_2.length co8, .slice Ao9 l0_3.length co9, .slice Ao16 y265.length co16]] (by rfl) rfl rfl ml ?_
    with_reducible refine (spec_l10Ghosts.calls a0_0 a0_1 _ _ l0_2 _ _ l0_3 _ _ y265 t268 _ ?side1 ?side2 ?side3 ?side4 ?side5 ?side6 A5.out).mono ?_
    (case side1 => exact cr HO0_2)
    (case side2 => exact (Kd.R_reads' HO0_2.out).2.1)
    (case side3 => exact cr HO0_3)
    (case side4 => exact (Kd.R_reads' HO0_3.out).2.1)
    (case side5 => exact cr HO267)
    (case side6 => exact (Kd.R_reads' HO267.out).2.1)
    rintro e w20 ⟨rfl, hb⟩
    refine ⟨_, rfl, ?_⟩
    have n0_ := rb HO0_2 hb
    have n1_ := rb HO0_3 hb
    have n2_ := rb HO267 hb
    have n3_ := bb BK260 hb
    have n4_ := bb BK261 hb
    have n5_ := Aside0.mk (Kept.below (S := (fun k_ => P0_2_ k_ ∨ P0_3_ k_)) (kp2 HK GW260 GW261) hb)
    have n6_ := Aside0.mk (below_step (be2 HB GE260 GE261) hb)
    clear HO0_2
    clear HO0_3
    clear HO267
    clear BK260
    clear BK261
    clear HK
    clear HB
    have HO0_2 := n0_
    have HO0_3 := n1_
    have HO267 := n2_
    have BK260 := n3_
    have BK261 := n4_
    have HK := n5_
    have HB := n6_
    clear n0_ n1_ n2_ n3_ n4_ n5_ n6_
    (try clear hb)
    (try clear hb2)
    (try clear hk)
    (try clear hi)
    refine hK.out _ _ ⟨bc0 BK260, bc1 BK260, bc2 BK260, bc3 BK260, bc4 BK260⟩ (fun hHeld => ?_)
    clear hK K
    refine norm_ (a' := ?_) ?_ ?_
    rotate_left
    ·show Act.put _ (some 17) _ = _
     simp only [aP]
     rfl
    refine pure_ (i := 5) (N := some 18) (v := ?_) (a' := ?_) (bv 6 0x3f) rfl rfl (by kernel_rfl) (fun _ _ _ h => h) (Or.inl ⟨by rfl, ?_⟩) ?_ ?_
    rotate_left
    ·intro w'
     go_simp
     with_reducible rfl
    rotate_left
    ·simp only [aP]
     rfl
    refine done_ (by kernel_rfl) ?_
    have hcz21_0 := bz5 BK260
    have q22 : (1 : Int) ≤ ((y265.length : Int) : Int) := od
    obtain ⟨i022, hi022, _, hsz22, _⟩ := info_parts info3
    have hcut22 := cut_from (P := Try.prog) 23 3 .i64 Try.underlying23 hi022 1 hsz22 Ao16 y265.length co16 1 (by omega) q22
    have hr22 := Kd.Q_drop (k := (1 : Int).toNat) (Kd.Q_of_R HO267.out) (by omega)
    obtain ⟨A22, hA22⟩ : ∃ A1, A1 = (if co16 = (1 : Int).toNat then Ao16 else (Ao16 : Option Addr).map (·.add ((1 : Int).toNat * 1))) := ⟨_, rfl⟩
    obtain ⟨c22, hc22⟩ : ∃ c1, c1 = co16 - (1 : Int).toNat := ⟨_, rfl⟩
    have hy22 : y269.length = y265.length - (1 : Int).toNat := (by rw [Ny269.out, List.length_drop])
    rw [← Ny269.out] at hr22
    rw [← hy22, ← hA22, ← hc22] at hcut22
    replace hr22 : Kd.Q (Kd.int .i64) 3 w20 w0.heap.size (fun k_ => ((P0_2_ k_ ∨ P0_3_ k_) ∨ w.heap.size ≤ k_)) (.slice A22 y269.length c22) y269 := (by rw [hA22, hc22, hy22]; exact hr22)
    have HE22 : Aside0 ((Value.slice A22 y269.length c22).ownBlock = (.slice Ao16 y265.length co16 : Value).ownBlock) := ⟨by rw [hA22]; split <;> (cases (Ao16 : Option Addr) <;> rfl)⟩
    clear hy22 hi022 hsz22 HO267 hA22 hc22
    have HO271 := Aside0.mk hr22
    clear hr22
    replace q22 := eq_true q22
    have hcz23_0 := bz5 BK261
    try go_wp2
    refine bodyPost_ret (results_cell_row rfl _ _ gb261 30 #[.int .i64 a0_0, .int .i64 a0_1, .slice Ao8 l0_2.length co8, .slice Ao9 l0_3.length co9, .slice A22 y269.length c22] (0, 0) _ rfl (bp1 BK261 NB261_260) Try.underlying30 rfl (by kernel_rfl)) rfl ?_
    exact ⟨_, _, _, er, by (with_reducible repeat (first | apply Kd.R_alloc | apply Kd.R_drewN | apply Kd.R_drew)); exact Kd.R_mono (Kd.R_far (p := ⟨gb261, 4, none⟩) (Kd.R_far (p := ⟨gb261, 3, none⟩) (Kd.R_far (p := ⟨gb261, 2, none⟩) (Kd.R_far (p := ⟨gb261, 1, none⟩) (Kd.R_far (p := ⟨gb261, 0, none⟩) (Kd.R_far (p := ⟨gb260, 4, none⟩) (Kd.R_types (Kd.R_types HO0_2.out BK260.out (by decide)) BK261.out (by decide)) (fun _ hk => hk.1.2) (.slice A22 y269.length c22)) (fun _ hk => hk.2) (.int .i64 a0_0)) (fun _ hk => hk.2) (.int .i64 a0_1)) (fun _ hk => hk.2) (.slice Ao8 l0_2.length co8)) (fun _ hk => hk.2) (.slice Ao9 l0_3.length co9)) (fun _ hk => hk.2) (.slice A22 y269.length c22)) (fun _ hk => ⟨hk.1.1.1, hk.1.1.2⟩), by (with_reducible repeat (first | apply Kd.R_alloc | apply Kd.R_drewN | apply Kd.R_drew)); exact Kd.R_mono (Kd.R_far (p := ⟨gb261, 4, none⟩) (Kd.R_far (p := ⟨gb261, 3, none⟩) (Kd.R_far (p := ⟨gb261, 2, none⟩) (Kd.R_far (p := ⟨gb261, 1, none⟩) (Kd.R_far (p := ⟨gb261, 0, none⟩) (Kd.R_far (p := ⟨gb260, 4, none⟩) (Kd.R_types (Kd.R_types HO0_3.out BK260.out (by decide)) BK261.out (by decide)) (fun _ hk => hk.1.2) (.slice A22 y269.length c22)) (fun _ hk => hk.2) (.int .i64 a0_0)) (fun _ hk => hk.2) (.int .i64 a0_1)) (fun _ hk => hk.2) (.slice Ao8 l0_2.length co8)) (fun _ hk => hk.2) (.slice Ao9 l0_3.length co9)) (fun _ hk => hk.2) (.slice A22 y269.length c22)) (fun _ hk => ⟨hk.1.1.1, hk.1.1.2⟩), by (with_reducible repeat (first | apply Kd.Q_alloc | apply Kd.Q_drewN | apply Kd.Q_drew)); exact Kd.Q_mono (Kd.Q_far (p := ⟨gb261, 4, none⟩) (Kd.Q_far (p := ⟨gb261, 3, none⟩) (Kd.Q_far (p := ⟨gb261, 2, none⟩) (Kd.Q_far (p := ⟨gb261, 1, none⟩) (Kd.Q_far (p := ⟨gb261, 0, none⟩) (Kd.Q_far (p := ⟨gb260, 4, none⟩) (Kd.Q_types (Kd.Q_types HO271.out BK260.out (by decide)) BK261.out (by decide)) (fun _ hk => hk.1.2) (.slice A22 y269.length c22)) (fun _ hk => hk.2) (.int .i64 a0_0)) (fun _ hk => hk.2) (.int .i64 a0_1)) (fun _ hk => hk.2) (.slice Ao8 l0_2.length co8)) (fun _ hk => hk.2) (.slice Ao9 l0_3.length co9)) (fun _ hk => hk.2) (.slice A22 y269.length c22)) (fun _ hk => hk.1.1), be2 HB GE260 GE261, (kp2 HK GW260 GW261)⟩
   rw [if_neg c7] at H
   exact absurd H (by simp)
  rw [if_neg c6] at H
  have c6b0 : decide (t268 < (y265.length : Int)) = false := decide_eq_false c6
  clear c6
  simp only [Option.some.injEq, Prod.mk.injEq] at H
  obtain ⟨rfl, rfl, rfl, rfl, rfl⟩ := H
  obtain ⟨Ao24, co24, eo24⟩ := Kd.R_slice HO0_2.out
  subst eo24
  obtain ⟨Ao25, co25, eo25⟩ := Kd.R_slice HO0_3.out
  subst eo25
  go_enter Try.func92, Try.ntmps92
  try go_wp2_with (first | ((with_reducible refine gate_dst (N := 2) rfl ?_); refine bx 2 #[.int .i64 a0_0, .int .i64 a0_1, .slice Ao24 l0_2.length co24, .slice Ao25 l0_3.length co25, .slice A0_4 l0_4.length c0_4] 30 ?_; intro gb260 hg w26 hbox hb; replace HO0_2 := rb HO0_2 hb; replace HO0_3 := rb HO0_3 hb; have BK260 := am hbox; have GW260 := Aside0.mk ((by rw [hg]; exact (by first | exact HK.out.1 | exact (show Kept w _ (fun k_ => P0_2_ k_ ∨ P0_3_ k_) from (kp HK)).1) : w.heap.size ≤ gb260)); replace HK := Aside0.mk (Kept.below (S := (fun k_ => P0_2_ k_ ∨ P0_3_ k_)) (kp HK) hb); have GE260 := Aside0.mk ((by rw [hg]; exact (below_size (be HB)) : w0.heap.size ≤ gb260)); replace HB := s0 HB hb; clear hb hbox hg) | ((with_reducible refine gate_dst (N := 4) rfl ?_); refine bx 4 #[.int .i64 0, .int .i64 0, .slice none 0 0, .slice none 0 0, .slice none 0 0] 30 ?_; intro gb261 hg w27 hbox hb; replace HO0_2 := rb HO0_2 hb; replace HO0_3 := rb HO0_3 hb; have BK261 := am hbox; have GW261 := Aside0.mk ((by rw [hg]; exact (by first | exact HK.out.1 | exact (show Kept w _ (fun k_ => P0_2_ k_ ∨ P0_3_ k_) from (kp1 HK GW260)).1) : w.heap.size ≤ gb261)); replace HK := Aside0.mk (Kept.below (S := (fun k_ => P0_2_ k_ ∨ P0_3_ k_)) (kp1 HK GW260) hb); have GE261 := Aside0.mk ((by rw [hg]; exact (below_size (be1 HB GE260)) : w0.heap.size ≤ gb261)); replace HB := Aside0.mk (below_step (be1 HB GE260) hb); have NB260_261 := nl hg BK260; have NB261_260 := ng hg BK260; replace BK260 := bb BK260 hb; clear hb hbox hg; have hnb28 := NB260_261.out; have hnc28 := NB261_260.out; have hcz29_0 := bz5 BK260) | ((with_reducible refine gate_callee (f := 96) rfl ?_); refine gl 8 Try.func96 #[.slice A0_4 l0_4.length c0_4, .int .i64 a1] ?_; (with_reducible refine (spec_l08But.calls k _ _ l0_4 a1 t262 _ ?side1 HC0_4.out A3.out).mono ?_); (case side1 => exact Kd.C_kept_now HR0_4.out (kp2 HK GW260 GW261)); rintro e w30 ⟨v263, rfl, ho0, hb⟩; refine ⟨_, rfl, ?_⟩; replace HO0_2 := rb HO0_2 hb; replace HO0_3 := rb HO0_3 hb; have HO264 := Aside0.mk (Kd.R_lower (Kd.R_newM (M := fun k_ => ((P0_2_ k_ ∨ P0_3_ k_) ∨ w.heap.size ≤ k_)) ho0 (by first | exact HK.out.1 | exact (show Kept w _ (fun k_ => P0_2_ k_ ∨ P0_3_ k_) from (kp2 HK GW260 GW261)).1) (fun k_ h_ => .inr h_)) (below_size (be2 HB GE260 GE261))); replace BK260 := bb BK260 hb; replace BK261 := bb BK261 hb; replace HK := Aside0.mk (Kept.below (S := (fun k_ => P0_2_ k_ ∨ P0_3_ k_)) (kp2 HK GW260 GW261) hb); replace HB := Aside0.mk (below_step (be2 HB GE260 GE261) hb); (try clear hb); (try clear ho0)) | ((with_reducible refine gate_builtin (b := .append) (xs := #[.tmp 8, .tmp 10]) rfl ?_); at_builtin; refine Kd.R_append (Kd.int .i64) (w0 := w0) w0.heap.size rfl (.tmp 8) (.tmp 10) 23 3 (.int .i64 0) 8 rfl Try.underlying23 info3 rfl (by decide) (by omega) v263 t262 a1 [.int .i64 a1] (fun k_ => ((P0_2_ k_ ∨ P0_3_ k_) ∨ w.heap.size ≤ k_)) (fun _ => False) rfl rfl ?aP (fun _ hk => hk.elim) ?aF ?aO ?aB ?aS ?aL ?_; (case aP => exact rfl); (case aB => exact (be2 HB GE260 GE261)); (case aF => exact (fun k_ hk => (.inr (Nat.le_trans (by first | exact HK.out.1 | exact (show Kept w _ (fun k_ => P0_2_ k_ ∨ P0_3_ k_) from (kp2 HK GW260 GW261)).1) hk)))); (case aO => exact (by (with_reducible repeat (first | apply Kd.R_alloc | apply Kd.R_drewN | apply Kd.R_drew)); exact Kd.R_mono HO264.out (fun _ hk => hk.1))); (case aS => exact (below_size (be2 HB GE260 GE261))); (case aL => have := LMc4.out; omega); intro v266 w31 ho hb hg hat; rw [← Ny265.out] at ho; replace HO0_2 := Aside0.mk (Kd.R_over' (ro HO0_2) (Kd.R_typed (ro HO264)) (by decide) hg); replace HO0_3 := Aside0.mk (Kd.R_over' (ro HO0_3) (Kd.R_typed (ro HO264)) (by decide) hg); replace BK260 := Aside0.mk (blk_grown (g := gb260) (o := .cells #[.int .i64 a0_0, .int .i64 a0_1, .slice Ao24 l0_2.length co24, .slice Ao25 l0_3.length co25, .slice A0_4 l0_4.length c0_4] 30 (0, 0)) (bk BK260) hg (Kd.R_ne HO264.out BK260.out (by decide))); replace BK261 := Aside0.mk (blk_grown (g := gb261) (o := .cells #[.int .i64 0, .int .i64 0, .slice none 0 0, .slice none 0 0, .slice none 0 0] 30 (0, 0)) (bk BK261) hg (Kd.R_ne HO264.out BK261.out (by decide))); replace HB := Aside0.mk (hb); replace HK := Aside0.mk (Kept.of_grown (S := (fun k_ => P0_2_ k_ ∨ P0_3_ k_)) hg (kp2 HK GW260 GW261) (fun k_ e_ => (HO264.out.1 k_ e_).1)); have HO267 := Aside0.mk (ho); clear HO264; clear ho hb hg hat; obtain ⟨Ao32, co32, eo32⟩ := Kd.R_slice HO267.out; subst eo32; have hcz33_0 := bz5 BK260))
  have n0_ : Aside0 (Kd.R k68 68 (w31.setCell ⟨gb260, 4, none⟩ (.slice Ao32 y265.length co32)) w0.heap.size (fun k_ => ((P0_2_ k_ ∨ P0_3_ k_) ∨ w.heap.size ≤ k_) ∧ nb k_ Ao25 l0_3.length co25) (.slice Ao24 l0_2.length co24) l0_2) := ⟨(rf HO0_2 BK260)⟩
  have n1_ : Aside0 (Kd.R k68 68 (w31.setCell ⟨gb260, 4, none⟩ (.slice Ao32 y265.length co32)) w0.heap.size (fun k_ => ((P0_2_ k_ ∨ P0_3_ k_) ∨ w.heap.size ≤ k_) ∧ nb k_ Ao24 l0_2.length co24) (.slice Ao25 l0_3.length co25) l0_3) := ⟨(rf HO0_3 BK260)⟩
  have n2_ : Aside0 (Kd.R (Kd.int .i64) 3 (w31.setCell ⟨gb260, 4, none⟩ (.slice Ao32 y265.length co32)) w0.heap.size (fun k_ => ((P0_2_ k_ ∨ P0_3_ k_) ∨ w.heap.size ≤ k_)) (.slice Ao32 y265.length co32) y265) := ⟨(rf HO267 BK260)⟩
  have n3_ : Aside0 ((w31.setCell ⟨gb260, 4, none⟩ (.slice Ao32 y265.length co32)).heap[gb260]? = some (.cells #[.int .i64 a0_0, .int .i64 a0_1, .slice Ao24 l0_2.length co24, .slice Ao25 l0_3.length co25, .slice Ao32 y265.length co32] 30 (0, 0))) := ⟨(bp BK260)⟩
  have n4_ : Aside0 ((w31.setCell ⟨gb260, 4, none⟩ (.slice Ao32 y265.length co32)).heap[gb261]? = some (.cells #[.int .i64 0, .int .i64 0, .slice none 0 0, .slice none 0 0, .slice none 0 0] 30 (0, 0))) := ⟨(bp1 BK261 NB261_260)⟩
  have n5_ : Aside0 (Kept w (w31.setCell ⟨gb260, 4, none⟩ (.slice Ao32 y265.length co32)) (fun k_ => P0_2_ k_ ∨ P0_3_ k_)) := ⟨(kp2 HK GW260 GW261)⟩
  have n6_ : Aside0 (Below w0.heap.size w0 (w31.setCell ⟨gb260, 4, none⟩ (.slice Ao32 y265.length co32))) := ⟨be2 HB GE260 GE261⟩
  (try clear HO0_2)
  (try clear HO0_3)
  (try clear HO267)
  (try clear BK260)
  (try clear BK261)
  (try clear HK)
  (try clear HB)
  generalize (w31.setCell ⟨gb260, 4, none⟩ (.slice Ao32 y265.length co32)) = w34 at n0_ n1_ n2_ n3_ n4_ n5_ n6_ ⊢
  have HO0_2 := n0_
  have HO0_3 := n1_
  have HO267 := n2_
  have BK260 := n3_
  have BK261 := n4_
  have HK := n5_
  have HB := n6_
  clear n0_ n1_ n2_ n3_ n4_ n5_ n6_
  have n0_ := Aside0.mk (Kd.R_drew HO0_2.out)
  have n1_ := Aside0.mk (Kd.R_drew HO0_3.out)
  have n2_ := Aside0.mk (Kd.R_drew HO267.out)
  have n3_ := Aside0.mk (blk_drew BK260.out)
  have n4_ := Aside0.mk (blk_drew BK261.out)
  have n5_ := Aside0.mk (Kept.drew HK.out)
  have n6_ := Aside0.mk (below_drew1 HB.out)
  clear HO0_2
  clear HO0_3
  clear HO267
  clear BK260
  clear BK261
  clear HK
  clear HB
  have HO0_2 := n0_
  have HO0_3 := n1_
  have HO267 := n2_
  have BK260 := n3_
  have BK261 := n4_
  have HK := n5_
  have HB := n6_
  clear n0_ n1_ n2_ n3_ n4_ n5_ n6_
  refine start_ (n := 6) (S := fun w' => w'.cell? ⟨gb260, 0, none⟩ = some (.int .i64 a0_0) ∧ w'.cell? ⟨gb260, 1, none⟩ = some (.int .i64 a0_1) ∧ w'.cell? ⟨gb260, 2, none⟩ = some (.slice Ao24 l0_2.length co24) ∧ w'.cell? ⟨gb260, 3, none⟩ = some (.slice Ao25 l0_3.length co25) ∧ w'.cell? ⟨gb260, 4, none⟩ = some (.slice Ao32 y265.length co32)) (ds := []) (bv 6 0x0) (by kernel_rfl) rfl rfl ⟨bc0 BK260, bc1 BK260, bc2 BK260, bc3 BK260, bc4 BK260⟩ (fun hHeld => ?_)
  generalize w34.drew = w35 at HO0_2 HO0_3 HO267 BK260 BK261 HK HB hHeld ⊢
  refine pure_ (i := 0) (N := some 13) (v := ?_) (a' := ?_) (bv 6 0x1) rfl rfl (by kernel_rfl) (fun _ _ _ h => h) (Or.inl ⟨by rfl, ?_⟩) ?_ ?_
  rotate_left
  ·intro w'
   go_simp
   with_reducible rfl
  rotate_left
  ·simp only [aP]
   rfl
  refine take_ (i := 1) (N := some 14) (v := ?_) (a' := ?_) (bv 6 0x3) rfl rfl (by kernel_rfl) (fun _ _ _ h => h) (Or.inl ⟨by rfl, ?_⟩) hHeld ?_ ?_
  rotate_left
  ·rintro w' ⟨s0, s1, s2, s3, s4⟩
   go_simp
   with_reducible rfl
  rotate_left
  ·simp only [aP]
   rfl
  refine pure_ (i := 2) (N := some 15) (v := ?_) (a' := ?_) (bv 6 0x7) rfl rfl (by kernel_rfl) (fun _ _ _ h => h) (Or.inl ⟨by rfl, ?_⟩) ?_ ?_
  rotate_left
  ·intro w'
   go_simp
   with_reducible rfl
  rotate_left
  ·simp only [aP]
   rfl
  refine take_ (i := 3) (N := some 16) (v := ?_) (a' := ?_) (bv 6 0xf) rfl rfl (by kernel_rfl) (fun _ _ _ h => h) (Or.inl ⟨by rfl, ?_⟩) hHeld ?_ ?_
  rotate_left
  ·rintro w' ⟨s0, s1, s2, s3, s4⟩
   go_simp
   with_reducible rfl
  rotate_left
  ·simp only [aP]
   rfl
  refine one_ (i := 4) (N := some 17) (bv 6 0x1f) rfl rfl (by kernel_rfl) (by decide) (fun K hK => ?_)
  refine goes_ Try.func57 (by kernel_rfl) rfl #[.agg #[.int .i64 a0_0, .int .i64 a0_1, .slice Ao24 l0_2.length co24, .slice Ao25 l0_3.length co25, .slice Ao32 y265.length co32]] (by rfl) rfl rfl ml ?_
  with_reducible refine (spec_l10Ghosts.calls a0_0 a0_1 _ _ l0_2 _ _ l0_3 _ _ y265 t268 _ ?side1 ?side2 ?side3 ?side4 ?side5 ?side6 A5.out).mono ?_
  (case side1 => exact cr HO0_2)
  (case side2 => exact (Kd.R_reads' HO0_2.out).2.1)
  (case side3 => exact cr HO0_3)
  (case side4 => exact (Kd.R_reads' HO0_3.out).2.1)
  (case side5 => exact cr HO267)
  (case side6 => exact (Kd.R_reads' HO267.out).2.1)
  rintro e w36 ⟨rfl, hb⟩
  refine ⟨_, rfl, ?_⟩
  have n0_ := rb HO0_2 hb
  have n1_ := rb HO0_3 hb
  have n2_ := rb HO267 hb
  have n3_ := bb BK260 hb
  have n4_ := bb BK261 hb
  have n5_ := Aside0.mk (Kept.below (S := (fun k_ => P0_2_ k_ ∨ P0_3_ k_)) (kp2 HK GW260 GW261) hb)
  have n6_ := Aside0.mk (below_step (be2 HB GE260 GE261) hb)
  clear HO0_2
  clear HO0_3
  clear HO267
  clear BK260
  clear BK261
  clear HK
  clear HB
  have HO0_2 := n0_
  have HO0_3 := n1_
  have HO267 := n2_
  have BK260 := n3_
  have BK261 := n4_
  have HK := n5_
  have HB := n6_
  clear n0_ n1_ n2_ n3_ n4_ n5_ n6_
  (try clear hb)
  (try clear hb2)
  (try clear hk)
  (try clear hi)
  refine hK.out _ _ ⟨bc0 BK260, bc1 BK260, bc2 BK260, bc3 BK260, bc4 BK260⟩ (fun hHeld => ?_)
  clear hK K
  refine norm_ (a' := ?_) ?_ ?_
  rotate_left
  ·show Act.put _ (some 17) _ = _
   simp only [aP]
   rfl
  refine pure_ (i := 5) (N := some 18) (v := ?_) (a' := ?_) (bv 6 0x3f) rfl rfl (by kernel_rfl) (fun _ _ _ h => h) (Or.inl ⟨by rfl, ?_⟩) ?_ ?_
  rotate_left
  ·intro w'
   go_simp
   with_reducible rfl
  rotate_left
  ·simp only [aP]
   rfl
  refine done_ (by kernel_rfl) ?_
  have hcz37_0 := bz5 BK260
  have hcz38_0 := bz5 BK261
  try go_wp2
  refine bodyPost_ret (results_cell_row rfl _ _ gb261 30 #[.int .i64 a0_0, .int .i64 a0_1, .slice Ao24 l0_2.length co24, .slice Ao25 l0_3.length co25, .slice Ao32 y265.length co32] (0, 0) _ rfl (bp BK261) Try.underlying30 rfl (by kernel_rfl)) rfl ?_
  exact ⟨_, _, _, er, (rf HO0_2 BK261), (rf HO0_3 BK261), Kd.Q_of_R (rf HO267 BK261), be2 HB GE260 GE261, (kp2 HK GW260 GW261)⟩
 rw [if_neg c4] at H
 exact absurd H (by simp)

/-! ### spec_Hash: function 93 -/
def spec_Hash.l0 : Nat → ByteArray → Int → Int → Option (Int)
 | 0, _, _, _ => none
 | k + 1, x0, x3, x4 => if x4 < (x0.size : Int) then (if 0 ≤ x4 then (spec_Hash.l0 k x0 (Int.tmod (wrap64 ((Go.bits .xor .i64 x3 (wrap64 (bt x0 x4))) * 16777619)) 4294967296) (wrap64 (x4 + 1))) else (none)) else (some x3)
def spec_Hash.f (k : Nat) (a0 : ByteArray) : Option (Int) := spec_Hash.l0 k a0 2166136261 0
theorem spec_Hash.mono_l : ∀ k, (∀ y0 y1 y2, LeO (spec_Hash.l0 k y0 y1 y2) (spec_Hash.l0 (k + 1) y0 y1 y2))
 | 0 => fun _ _ _ r h => by simp [spec_Hash.l0] at h
 | k + 1 => by
  have ih0 := spec_Hash.mono_l k
  ·intro y0 y1 y2
   unfold spec_Hash.l0
   repeat' first
   | (with_reducible exact ih0 _ _ _)
   | (with_reducible exact LeO.refl _)
   | (with_reducible exact LeO.none _)
   | (with_reducible refine LeO.ite ?_ ?_)
   | (with_reducible refine LeO.bind ?_ (fun _ => ?_))
   | exact ih0 _ _ _
   | exact LeO.none _
   | refine LeO.ite ?_ ?_
   | refine LeO.bind ?_ (fun _ => ?_)
theorem spec_Hash.mono : ∀ a0 k, LeO (spec_Hash.f k a0) (spec_Hash.f (k + 1) a0) := by
 intro a0 k
 have ih0 := spec_Hash.mono_l k
 unfold spec_Hash.f
 repeat' first
   | (with_reducible exact ih0 _ _ _)
   | (with_reducible exact LeO.refl _)
   | (with_reducible exact LeO.none _)
   | (with_reducible refine LeO.ite ?_ ?_)
   | (with_reducible refine LeO.bind ?_ (fun _ => ?_))
   | exact ih0 _ _ _
   | exact LeO.none _
   | refine LeO.ite ?_ ?_
   | refine LeO.bind ?_ (fun _ => ?_)
set_option maxHeartbeats 8000000 in
set_option maxRecDepth 100000 in
theorem spec_Hash.calls (k : Nat) (a0 : ByteArray) (r : Int) (w : World) (h : spec_Hash.f k a0 = some r) :
  Calls Try.prog 93 #[.string a0] w fun e w' => e = .returned (.int .i64 r) ∧ Drawn0 w w' := by
 have H : (spec_Hash.l0 k a0 2166136261 0) = some r := h
 clear h
 have H' := Aside0.mk H
 clear H
 go_enter Try.func93, Try.ntmps93
 go_wp2
 go_loopg [3, 4] k (fun kq v3 v4 w' => ∃ (x3_1 : Int) (x4_1 : Int), v3 = .int .i64 x3_1 ∧ v4 = .int .i64 x4_1 ∧ Aside0 (spec_Hash.l0 kq a0 x3_1 x4_1 = some r) ∧ Aside0 (kq ≤ k) ∧ Drawn0 w w')
 case atStart => exact ⟨(2166136261), (0), rs, rs, H', ⟨Nat.le_refl _⟩, by repeat (first | exact Drawn0.refl _ | apply Drawn0.step)⟩
 case round =>
  clear H'
  obtain ⟨x3_1, x4_1, rfl, rfl, HA, HK1, ⟨m1, rfl⟩⟩ := hrel
  cases gk with
  | zero => exact absurd HA.out (by simp [spec_Hash.l0])
  | succ k1 =>
   have H := HA.out
   clear HA
   simp only [spec_Hash.l0] at H
   by_cases c2 : x4_1 < (a0.size : Int)
   ·rw [if_pos c2] at H
    have c2b0 : decide (x4_1 < (a0.size : Int)) = true := decide_eq_true c2
    clear c2
    by_cases c3 : 0 ≤ x4_1
    ·rw [if_pos c3] at H
     have c3b0 : decide (0 ≤ x4_1) = true := decide_eq_true c3
     clear c3
     have H' := Aside0.mk H
     clear H
     have p4 : 0 ≤ (x4_1 : Int) := od
     have q4 : x4_1 < (a0.size : Int) := od
     have hx4 := bt_at a0 x4_1
     replace p4 := eq_true p4
     replace q4 := eq_true q4
     go_wp2
     go_roundg k1
     case measure => have := HK1.out; omega
     case rel => exact ⟨(Int.tmod (wrap64 ((Go.bits .xor .i64 x3_1 (wrap64 (bt a0 x4_1))) * 16777619)) 4294967296), (wrap64 (x4_1 + 1)), rs, rs, H', ⟨by have := HK1.out; omega⟩, by repeat (first | exact Drawn0.refl _ | apply Drawn0.step)⟩
    rw [if_neg c3] at H
    exact absurd H (by simp)
   rw [if_neg c2] at H
   have c2b0 : decide (x4_1 < (a0.size : Int)) = false := decide_eq_false c2
   clear c2
   obtain rfl := Option.some.inj H
   go_wp2
   go_ret
   exact ⟨by first | rfl | (simp; done) | (simp [*]; done), by repeat (first | exact Drawn0.refl _ | apply Drawn0.step)⟩

end Go.Proofs.Ytfjhkediaholmaa.QFnExactEvict
