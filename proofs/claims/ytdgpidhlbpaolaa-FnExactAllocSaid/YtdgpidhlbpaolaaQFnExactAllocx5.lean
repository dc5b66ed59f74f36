-- made by a program of this session (myprint.py)
import Derived.Test.YtdgpidhlbpaolaaQFnExactAllocx0
import Derived.Test.YtdgpidhlbpaolaaQFnExactAllocx3
import Derived.Test.YtdgpidhlbpaolaaQFnExactAllocx4
namespace Go.Proofs.Ytdgpidhlbpaolaa.QFnExactAlloc
open Go.RowKit Go.Proofs.YtdgpidhlbpaolaaW.PrintWords Go.Proofs.YtdgpidhlbpaolaaW.PrintLast Go.Proofs.YtdgpidhlbpaolaaW.PrintMore
attribute [local go_sem] max2_int min2_int max_two min_two max_three min_three max_four min_four   -- for this text's walks alone
set_option linter.unusedVariables false
set_option linter.unusedSimpArgs false

/-! ### spec_l03Has: function 54 -/
def spec_l03Has.l0 : Nat → Int → List Int → Int → Int → Option (Bool)
 | 0, _, _, _, _ => none
 | k + 1, x1, x7, x8, x9 => if x9 < x8 then (if 0 ≤ x9 then (if x9 < (x7.length : Int) then (if (rd x7 x9) = x1 then (some true) else (spec_l03Has.l0 k x1 x7 x8 (wrap64 (x9 + 1)))) else (none)) else (none)) else (some false)
def spec_l03Has.f (k : Nat) (l0 : List Int) (a1 : Int) : Option (Bool) := spec_l03Has.l0 k a1 l0 (l0.length : Int) 0
theorem spec_l03Has.mono_l : ∀ k, (∀ y0 y1 y2 y3, LeO (spec_l03Has.l0 k y0 y1 y2 y3) (spec_l03Has.l0 (k + 1) y0 y1 y2 y3))
 | 0 => fun _ _ _ _ r h => by simp [spec_l03Has.l0] at h
 | k + 1 => by
  have ih0 := spec_l03Has.mono_l k
  ·intro y0 y1 y2 y3
   unfold spec_l03Has.l0
   repeat' first
   | (with_reducible exact ih0 _ _ _ _)
   | (with_reducible exact LeO.refl _)
   | (with_reducible exact LeO.none _)
   | (with_reducible refine LeO.ite ?_ ?_)
   | (with_reducible refine LeO.bind ?_ (fun _ => ?_))
   | exact ih0 _ _ _ _
   | exact LeO.none _
   | refine LeO.ite ?_ ?_
   | refine LeO.bind ?_ (fun _ => ?_)
theorem spec_l03Has.mono : ∀ a0 a1 k, LeO (spec_l03Has.f k a0 a1) (spec_l03Has.f (k + 1) a0 a1) := by
 intro a0 a1 k
 have ih0 := spec_l03Has.mono_l k
 unfold spec_l03Has.f
 repeat' first
   | (with_reducible exact ih0 _ _ _ _)
   | (with_reducible exact LeO.refl _)
   | (with_reducible exact LeO.none _)
   | (with_reducible refine LeO.ite ?_ ?_)
   | (with_reducible refine LeO.bind ?_ (fun _ => ?_))
   | exact ih0 _ _ _ _
   | exact LeO.none _
   | refine LeO.ite ?_ ?_
   | refine LeO.bind ?_ (fun _ => ?_)
set_option maxHeartbeats 8000000 in
set_option maxRecDepth 100000 in
theorem spec_l03Has.calls (k : Nat) (A0 : Option Addr) (c0 : Nat) (l0 : List Int) (a1 : Int) (r : Bool) (w : World) (hr0 : Kd.C (Kd.int .i64) w A0 l0.length l0) (hc0 : l0.length ≤ c0) (h : spec_l03Has.f k l0 a1 = some r) :
  Calls Try.prog 54 #[.slice A0 l0.length c0, .int .i64 a1] w fun e w' => e = .returned (.bool r) ∧ Drawn0 w w' := by
 have HR0 := Aside0.mk hr0
 have HC0 := Aside0.mk hc0
 clear hr0 hc0
 have H : (spec_l03Has.l0 k a1 l0 (l0.length : Int) 0) = some r := h
 clear h
 have H' := Aside0.mk H
 clear H
 go_enter Try.func54, Try.ntmps54
 go_wp2
 go_loopg [9] k (fun kq v9 w' => ∃ (x9_1 : Int), v9 = .int .i64 x9_1 ∧ Aside0 (spec_l03Has.l0 kq a1 l0 (l0.length : Int) x9_1 = some r) ∧ Aside0 (kq ≤ k) ∧ Drawn0 w w')
 case atStart => exact ⟨(0), rs, H', ⟨Nat.le_refl _⟩, by repeat (first | exact Drawn0.refl _ | apply Drawn0.step)⟩
 case round =>
  clear H'
  try clear p2
  obtain ⟨x9_1, rfl, HA, HK1, ⟨m1, rfl⟩⟩ := hrel
  cases gk with
  | zero => exact absurd HA.out (by simp [spec_l03Has.l0])
  | succ k1 =>
   have H := HA.out
   clear HA
   simp only [spec_l03Has.l0] at H
   by_cases c3 : x9_1 < (l0.length : Int)
   ·rw [if_pos c3] at H
    have c3b0 : decide (x9_1 < (l0.length : Int)) = true := decide_eq_true c3
    clear c3
    by_cases c4 : 0 ≤ x9_1
    ·rw [if_pos c4] at H
     have c4b0 : decide (0 ≤ x9_1) = true := decide_eq_true c4
     clear c4
     by_cases c5 : x9_1 < (l0.length : Int)
     ·rw [if_pos c5] at H
      have c5b0 : decide (x9_1 < (l0.length : Int)) = true := decide_eq_true c5
      clear c5
      by_cases c6 : (rd l0 x9_1) = a1
      ·rw [if_pos c6] at H
       have c6b0 : ((rd l0 x9_1) == a1) = true := beq_iff_eq.mpr c6
       have c6b1 : ((rd l0 x9_1) != a1) = false := bne_eq_false_iff_eq.mpr c6
       clear c6
       obtain rfl := Option.some.inj H
       have p223 : 0 ≤ (x9_1 : Int) := od
       have q223 : x9_1 < (l0.length : Int) := od
       obtain ⟨ad223, e223, hx223_0⟩ := Kd.at_int HR0.out x9_1 p223 q223
       cases e223
       replace p223 := eq_true p223
       replace q223 := eq_true q223
       go_wp2
       go_ret
       exact ⟨by first | rfl | (simp; done) | (simp [*]; done), by repeat (first | exact Drawn0.refl _ | apply Drawn0.step)⟩
      rw [if_neg c6] at H
      have c6b0 : ((rd l0 x9_1) == a1) = false := beq_eq_false_iff_ne.mpr c6
      have c6b1 : ((rd l0 x9_1) != a1) = true := bne_iff_ne.mpr c6
      have H' := Aside0.mk H
      clear H
      have p223 : 0 ≤ (x9_1 : Int) := od
      have q223 : x9_1 < (l0.length : Int) := od
      obtain ⟨ad223, e223, hx223_0⟩ := Kd.at_int HR0.out x9_1 p223 q223
      cases e223
      replace p223 := eq_true p223
      replace q223 := eq_true q223
      go_wp2
      go_roundg k1
      case measure => have := HK1.out; omega
      case rel => exact ⟨(wrap64 (x9_1 + 1)), rs, H', ⟨by have := HK1.out; omega⟩, by repeat (first | exact Drawn0.refl _ | apply Drawn0.step)⟩
     rw [if_neg c5] at H
     exact absurd H (by simp)
    rw [if_neg c4] at H
    exact absurd H (by simp)
   rw [if_neg c3] at H
   have c3b0 : decide (x9_1 < (l0.length : Int)) = false := decide_eq_false c3
   clear c3
   obtain rfl := Option.some.inj H
   go_wp2
   go_ret
   exact ⟨by first | rfl | (simp; done) | (simp [*]; done), by repeat (first | exact Drawn0.refl _ | apply Drawn0.step)⟩

/-! ### spec_PoolOk: function 20 -/
mutual
def spec_PoolOk.j0 : Nat → List Int → Bool → List Int → Int → List Int → List (S70) → List Int → Option (Bool)
 | 0, _, _, _, _, _, _, _ => none
 | k + 1, x3, x17, x225000, x225001, x225002, x225003, x225004 => if x17 = true then (some false) else (spec_PoolOk.l0 k x3 1 x225000 x225001 x225002 x225003 x225004)
def spec_PoolOk.l0 : Nat → List Int → Int → List Int → Int → List Int → List (S70) → List Int → Option (Bool)
 | 0, _, _, _, _, _, _, _ => none
 | k + 1, x3, x4, x225000, x225001, x225002, x225003, x225004 => if x4 < (x225004.length : Int) then (if 0 ≤ (wrap64 (x4 - 1)) then (if (wrap64 (x4 - 1)) < (x225004.length : Int) then (if 0 ≤ x4 then (if (rd x225004 (wrap64 (x4 - 1))) ≥ (rd x225004 x4) then (some false) else (spec_PoolOk.l0 k x3 (wrap64 (x4 + 1)) x225000 x225001 x225002 x225003 x225004)) else (none)) else (none)) else (none)) else (spec_PoolOk.l1 k x3 x3 (x3.length : Int) 0)
def spec_PoolOk.l1 : Nat → List Int → List Int → Int → Int → Option (Bool)
 | 0, _, _, _, _ => none
 | k + 1, x3, x37, x38, x39 => if x39 < x38 then (if 0 ≤ x39 then (if x39 < (x37.length : Int) then (if (rd x37 x39) < 0 then (some false) else (if (rd x37 x39) ≥ (x3.length : Int) then (some false) else (if x39 ≤ (x3.length : Int) then ((spec_l03Has.f k (x3.take (x39 : Int).toNat) (rd x37 x39)).bind fun t236 => (if t236 = true then (some false) else (spec_PoolOk.l1 k x3 x37 x38 (wrap64 (x39 + 1))))) else (none)))) else (none)) else (none)) else (some true)
end
def spec_PoolOk.f (k : Nat) (l0_0 : List Int) (a0_1 : Int) (l0_2 : List Int) (l0_3 : List (S70)) (l0_4 : List Int) : Option (Bool) := (spec_l09All.f k l0_0 a0_1 l0_2 l0_3 l0_4).bind fun t225 => ((spec_AgesOk.f k a0_1 l0_2 l0_3).bind fun t228 => (if t228 = true then (spec_PoolOk.j0 k t225 (decide ((t225.length : Int) > 100)) l0_0 a0_1 l0_2 l0_3 l0_4) else (spec_PoolOk.j0 k t225 true l0_0 a0_1 l0_2 l0_3 l0_4)))
theorem spec_PoolOk.mono_l : ∀ k, (∀ y0 y1 y2 y3 y4 y5 y6, LeO (spec_PoolOk.j0 k y0 y1 y2 y3 y4 y5 y6) (spec_PoolOk.j0 (k + 1) y0 y1 y2 y3 y4 y5 y6)) ∧ (∀ y0 y1 y2 y3 y4 y5 y6, LeO (spec_PoolOk.l0 k y0 y1 y2 y3 y4 y5 y6) (spec_PoolOk.l0 (k + 1) y0 y1 y2 y3 y4 y5 y6)) ∧ (∀ y0 y1 y2 y3, LeO (spec_PoolOk.l1 k y0 y1 y2 y3) (spec_PoolOk.l1 (k + 1) y0 y1 y2 y3))
 | 0 => ⟨fun _ _ _ _ _ _ _ r h => by simp [spec_PoolOk.j0] at h, fun _ _ _ _ _ _ _ r h => by simp [spec_PoolOk.l0] at h, fun _ _ _ _ r h => by simp [spec_PoolOk.l1] at h⟩
 | k + 1 => by
  obtain ⟨ih0, ih1, ih2⟩ := spec_PoolOk.mono_l k
  refine ⟨?_, ?_, ?_⟩
  ·intro y0 y1 y2 y3 y4 y5 y6
   unfold spec_PoolOk.j0
   repeat' first
   | (with_reducible exact ih0 _ _ _ _ _ _ _)
   | (with_reducible exact ih1 _ _ _ _ _ _ _)
   | (with_reducible exact ih2 _ _ _ _)
   | (with_reducible exact spec_AgesOk.mono _ _ _ _)
   | (with_reducible exact spec_l03Has.mono _ _ _)
   | (with_reducible exact spec_l09All.mono _ _ _ _ _ _)
   | (with_reducible exact LeO.refl _)
   | (with_reducible exact LeO.none _)
   | (with_reducible refine LeO.ite ?_ ?_)
   | (with_reducible refine LeO.bind ?_ (fun _ => ?_))
   | exact ih0 _ _ _ _ _ _ _
   | exact ih1 _ _ _ _ _ _ _
   | exact ih2 _ _ _ _
   | exact spec_AgesOk.mono _ _ _ _
   | exact spec_l03Has.mono _ _ _
   | exact spec_l09All.mono _ _ _ _ _ _
   | exact LeO.none _
   | refine LeO.ite ?_ ?_
   | refine LeO.bind ?_ (fun _ => ?_)
  ·intro y0 y1 y2 y3 y4 y5 y6
   unfold spec_PoolOk.l0
   repeat' first
   | (with_reducible exact ih0 _ _ _ _ _ _ _)
   | (with_reducible exact ih1 _ _ _ _ _ _ _)
   | (with_reducible exact ih2 _ _ _ _)
   | (with_reducible exact spec_AgesOk.mono _ _ _ _)
   | (with_reducible exact spec_l03Has.mono _ _ _)
   | (with_reducible exact spec_l09All.mono _ _ _ _ _ _)
   | (with_reducible exact LeO.refl _)
   | (with_reducible exact LeO.none _)
   | (with_reducible refine LeO.ite ?_ ?_)
   | (with_reducible refine LeO.bind ?_ (fun _ => ?_))
   | exact ih0 _ _ _ _ _ _ _
   | exact ih1 _ _ _ _ _ _ _
   | exact ih2 _ _ _ _
   | exact spec_AgesOk.mono _ _ _ _
   | exact spec_l03Has.mono _ _ _
   | exact spec_l09All.mono _ _ _ _ _ _
   | exact LeO.none _
   | refine LeO.ite ?_ ?_
   | refine LeO.bind ?_ (fun _ => ?_)
  intro y0 y1 y2 y3
  unfold spec_PoolOk.l1
  repeat' first
  | (with_reducible exact ih0 _ _ _ _ _ _ _)
  | (with_reducible exact ih1 _ _ _ _ _ _ _)
  | (with_reducible exact ih2 _ _ _ _)
  | (with_reducible exact spec_AgesOk.mono _ _ _ _)
  | (with_reducible exact spec_l03Has.mono _ _ _)
  | (with_reducible exact spec_l09All.mono _ _ _ _ _ _)
  | (with_reducible exact LeO.refl _)
  | (with_reducible exact LeO.none _)
  | (with_reducible refine LeO.ite ?_ ?_)
  | (with_reducible refine LeO.bind ?_ (fun _ => ?_))
  | exact ih0 _ _ _ _ _ _ _
  | exact ih1 _ _ _ _ _ _ _
  | exact ih2 _ _ _ _
  | exact spec_AgesOk.mono _ _ _ _
  | exact spec_l03Has.mono _ _ _
  | exact spec_l09All.mono _ _ _ _ _ _
  | exact LeO.none _
  | refine LeO.ite ?_ ?_
  | refine LeO.bind ?_ (fun _ => ?_)
theorem spec_PoolOk.mono : ∀ a0 a1 a2 a3 a4 k, LeO (spec_PoolOk.f k a0 a1 a2 a3 a4) (spec_PoolOk.f (k + 1) a0 a1 a2 a3 a4) := by
 intro a0 a1 a2 a3 a4 k
 obtain ⟨ih0, ih1, ih2⟩ := spec_PoolOk.mono_l k
 unfold spec_PoolOk.f
 repeat' first
   | (with_reducible exact ih0 _ _ _ _ _ _ _)
   | (with_reducible exact ih1 _ _ _ _ _ _ _)
   | (with_reducible exact ih2 _ _ _ _)
   | (with_reducible exact spec_AgesOk.mono _ _ _ _)
   | (with_reducible exact spec_l03Has.mono _ _ _)
   | (with_reducible exact spec_l09All.mono _ _ _ _ _ _)
   | (with_reducible exact LeO.refl _)
   | (with_reducible exact LeO.none _)
   | (with_reducible refine LeO.ite ?_ ?_)
   | (with_reducible refine LeO.bind ?_ (fun _ => ?_))
   | exact ih0 _ _ _ _ _ _ _
   | exact ih1 _ _ _ _ _ _ _
   | exact ih2 _ _ _ _
   | exact spec_AgesOk.mono _ _ _ _
   | exact spec_l03Has.mono _ _ _
   | exact spec_l09All.mono _ _ _ _ _ _
   | exact LeO.none _
   | refine LeO.ite ?_ ?_
   | refine LeO.bind ?_ (fun _ => ?_)
set_option maxHeartbeats 8000000 in
set_option maxRecDepth 100000 in
theorem spec_PoolOk.calls (k : Nat) (A0_0 : Option Addr) (c0_0 : Nat) (l0_0 : List Int) (a0_1 : Int) (A0_2 : Option Addr) (c0_2 : Nat) (l0_2 : List Int) (A0_3 : Option Addr) (c0_3 : Nat) (l0_3 : List (S70)) (A0_4 : Option Addr) (c0_4 : Nat) (l0_4 : List Int) (r : Bool) (w : World) (hr0_0 : Kd.C (Kd.int .i64) w A0_0 l0_0.length l0_0) (hc0_0 : l0_0.length ≤ c0_0) (hr0_2 : Kd.C (Kd.int .i64) w A0_2 l0_2.length l0_2) (hc0_2 : l0_2.length ≤ c0_2) (hr0_3 : Kd.C k70 w A0_3 l0_3.length l0_3) (hc0_3 : l0_3.length ≤ c0_3) (hr0_4 : Kd.C (Kd.int .i64) w A0_4 l0_4.length l0_4) (hc0_4 : l0_4.length ≤ c0_4) (h : spec_PoolOk.f k l0_0 a0_1 l0_2 l0_3 l0_4 = some r) :
  Calls Try.prog 20 #[.agg #[.slice A0_0 l0_0.length c0_0, .int .i64 a0_1, .slice A0_2 l0_2.length c0_2, .slice A0_3 l0_3.length c0_3, .slice A0_4 l0_4.length c0_4]] w fun e w' => e = .returned (.bool r) ∧ Below w.heap.size w w' := by
 have hu27 := Try.underlying27
 have hu25 := Try.underlying25
 have HR0_0 := Aside0.mk hr0_0
 have HC0_0 := Aside0.mk hc0_0
 clear hr0_0 hc0_0
 have HR0_2 := Aside0.mk hr0_2
 have HC0_2 := Aside0.mk hc0_2
 clear hr0_2 hc0_2
 have HR0_3 := Aside0.mk hr0_3
 have HC0_3 := Aside0.mk hc0_3
 clear hr0_3 hc0_3
 have HR0_4 := Aside0.mk hr0_4
 have HC0_4 := Aside0.mk hc0_4
 clear hr0_4 hc0_4
 have HB := Aside0.mk (Below.refl w.heap.size w)
 have H : ((spec_l09All.f k l0_0 a0_1 l0_2 l0_3 l0_4).bind fun t225 => ((spec_AgesOk.f k a0_1 l0_2 l0_3).bind fun t228 => (if t228 = true then (spec_PoolOk.j0 k t225 (decide ((t225.length : Int) > 100)) l0_0 a0_1 l0_2 l0_3 l0_4) else (spec_PoolOk.j0 k t225 true l0_0 a0_1 l0_2 l0_3 l0_4)))) = some r := h
 clear h
 replace H := Option.bind_eq_some_iff.mp H
 obtain ⟨t225, A20, H⟩ := H
 try dsimp only at H
 have A2 := Aside0.mk A20
 clear A20
 have HC3 := Aside0.mk H
 clear H
 go_enter Try.func20, Try.ntmps20
 go_upto_region 2 with (first | ((with_reducible refine gate_dst (N := 1) rfl ?_); (try (refine gate_guard (by rfl) ?_; dsimp only)); refine bx 1 #[.slice A0_0 l0_0.length c0_0, .int .i64 a0_1, .slice A0_2 l0_2.length c0_2, .slice A0_3 l0_3.length c0_3, .slice A0_4 l0_4.length c0_4] 27 ?_; intro gb224 hg w4 hbox hb; have BK224 := am hbox; have GW224 := gs0 hg HB; have GE224 := gs0 hg HB; replace HB := s0 HB hb; clear hb hbox hg; have hcz5_0 := bz5 BK224) | (go_at_call 52; (with_reducible refine (spec_l09All.calls k _ _ l0_0 a0_1 _ _ l0_2 _ _ l0_3 _ _ l0_4 t225 _ (cb HR0_0 HB) HC0_0.out (cb HR0_2 HB) HC0_2.out (cb HR0_3 HB) HC0_3.out (cb HR0_4 HB) HC0_4.out A2.out).mono ?_); rintro e w6 ⟨v226, rfl, ho0, hb⟩; have HO227 := Aside0.mk (Kd.R_lower ho0 (below_size (be1 HB GE224))); replace BK224 := bb BK224 hb; replace HB := Aside0.mk (below_step (be1 HB GE224) hb); (try clear hb); (try clear ho0)))
 repeat (go_quiet (first | ((with_reducible refine gate_dst (N := 1) rfl ?_); (try (refine gate_guard (by rfl) ?_; dsimp only)); refine bx 1 #[.slice A0_0 l0_0.length c0_0, .int .i64 a0_1, .slice A0_2 l0_2.length c0_2, .slice A0_3 l0_3.length c0_3, .slice A0_4 l0_4.length c0_4] 27 ?_; intro gb224 hg w4 hbox hb; have BK224 := am hbox; have GW224 := gs0 hg HB; have GE224 := gs0 hg HB; replace HB := s0 HB hb; clear hb hbox hg; have hcz5_0 := bz5 BK224) | (go_at_call 52; (with_reducible refine (spec_l09All.calls k _ _ l0_0 a0_1 _ _ l0_2 _ _ l0_3 _ _ l0_4 t225 _ (cb HR0_0 HB) HC0_0.out (cb HR0_2 HB) HC0_2.out (cb HR0_3 HB) HC0_3.out (cb HR0_4 HB) HC0_4.out A2.out).mono ?_); rintro e w6 ⟨v226, rfl, ho0, hb⟩; have HO227 := Aside0.mk (Kd.R_lower ho0 (below_size (be1 HB GE224))); replace BK224 := bb BK224 hb; replace HB := Aside0.mk (below_step (be1 HB GE224) hb); (try clear hb); (try clear ho0))); go_upto_region 2 with (first | ((with_reducible refine gate_dst (N := 1) rfl ?_); (try (refine gate_guard (by rfl) ?_; dsimp only)); refine bx 1 #[.slice A0_0 l0_0.length c0_0, .int .i64 a0_1, .slice A0_2 l0_2.length c0_2, .slice A0_3 l0_3.length c0_3, .slice A0_4 l0_4.length c0_4] 27 ?_; intro gb224 hg w4 hbox hb; have BK224 := am hbox; have GW224 := gs0 hg HB; have GE224 := gs0 hg HB; replace HB := s0 HB hb; clear hb hbox hg; have hcz5_0 := bz5 BK224) | (go_at_call 52; (with_reducible refine (spec_l09All.calls k _ _ l0_0 a0_1 _ _ l0_2 _ _ l0_3 _ _ l0_4 t225 _ (cb HR0_0 HB) HC0_0.out (cb HR0_2 HB) HC0_2.out (cb HR0_3 HB) HC0_3.out (cb HR0_4 HB) HC0_4.out A2.out).mono ?_); rintro e w6 ⟨v226, rfl, ho0, hb⟩; have HO227 := Aside0.mk (Kd.R_lower ho0 (below_size (be1 HB GE224))); replace BK224 := bb BK224 hb; replace HB := Aside0.mk (below_step (be1 HB GE224) hb); (try clear hb); (try clear ho0))))
 (try simp only [Act.put, List.setIfInBounds_toArray, List.set_cons_zero, List.set_cons_succ])
 go_cut [17] (fun v17 wc => ∃ (kq : Nat) (x17_2 : Bool), v17 = .bool x17_2 ∧ Aside0 (spec_PoolOk.j0 kq t225 x17_2 l0_0 a0_1 l0_2 l0_3 l0_4 = some r) ∧ Aside0 (kq ≤ k) ∧ Aside0 (Kd.R (Kd.int .i64) 3 wc w.heap.size (fun _ => True) v226 t225) ∧ Aside0 (wc.heap[gb224]? = some (.cells #[(.slice A0_0 l0_0.length c0_0), .int .i64 a0_1, (.slice A0_2 l0_2.length c0_2), (.slice A0_3 l0_3.length c0_3), (.slice A0_4 l0_4.length c0_4)] 27 (0, 0))) ∧ Aside0 (Below w.heap.size w wc))
 case first =>
  have H := HC3.out
  clear HC3
  replace H := Option.bind_eq_some_iff.mp H
  obtain ⟨t228, A70, H⟩ := H
  try dsimp only at H
  have A7 := Aside0.mk A70
  clear A70
  by_cases c8 : t228 = true
  ·subst c8
   rw [if_pos rfl] at H
   have H' := Aside0.mk H
   clear H
   have hcz9_0 := bz5 BK224
   go_wp2_with (first | (go_at_call 53; (with_reducible refine (spec_AgesOk.calls k a0_1 _ _ l0_2 _ _ l0_3 true _ (cb HR0_2 HB) HC0_2.out (cb HR0_3 HB) HC0_3.out A7.out).mono ?_); rintro e w10 ⟨rfl, hb⟩; replace HO227 := rb HO227 hb; replace BK224 := bb BK224 hb; replace HB := Aside0.mk (below_step (be1 HB GE224) hb); (try clear hb); obtain ⟨Ao11, co11, eo11⟩ := Kd.R_slice HO227.out; subst eo11))
   repeat (go_quiet (first | (go_at_call 53; (with_reducible refine (spec_AgesOk.calls k a0_1 _ _ l0_2 _ _ l0_3 true _ (cb HR0_2 HB) HC0_2.out (cb HR0_3 HB) HC0_3.out A7.out).mono ?_); rintro e w10 ⟨rfl, hb⟩; replace HO227 := rb HO227 hb; replace BK224 := bb BK224 hb; replace HB := Aside0.mk (below_step (be1 HB GE224) hb); (try clear hb); obtain ⟨Ao11, co11, eo11⟩ := Kd.R_slice HO227.out; subst eo11)); try go_wp2_with (first | (go_at_call 53; (with_reducible refine (spec_AgesOk.calls k a0_1 _ _ l0_2 _ _ l0_3 true _ (cb HR0_2 HB) HC0_2.out (cb HR0_3 HB) HC0_3.out A7.out).mono ?_); rintro e w10 ⟨rfl, hb⟩; replace HO227 := rb HO227 hb; replace BK224 := bb BK224 hb; replace HB := Aside0.mk (below_step (be1 HB GE224) hb); (try clear hb); obtain ⟨Ao11, co11, eo11⟩ := Kd.R_slice HO227.out; subst eo11)))
   go_meet
   case rel => exact ⟨_, (decide ((t225.length : Int) > 100)), rs, H', ⟨by first | omega | exact Nat.le_refl _⟩, ⟨ro HO227⟩, ⟨bk BK224⟩, ⟨be1 HB GE224⟩⟩
  replace c8 := Bool.eq_false_iff.mpr c8
  subst c8
  rw [if_neg (show ¬ (false = true) by decide)] at H
  have H' := Aside0.mk H
  clear H
  have hcz12_0 := bz5 BK224
  go_wp2_with (first | (go_at_call 53; (with_reducible refine (spec_AgesOk.calls k a0_1 _ _ l0_2 _ _ l0_3 false _ (cb HR0_2 HB) HC0_2.out (cb HR0_3 HB) HC0_3.out A7.out).mono ?_); rintro e w13 ⟨rfl, hb⟩; replace HO227 := rb HO227 hb; replace BK224 := bb BK224 hb; replace HB := Aside0.mk (below_step (be1 HB GE224) hb); (try clear hb)))
  repeat (go_quiet (first | (go_at_call 53; (with_reducible refine (spec_AgesOk.calls k a0_1 _ _ l0_2 _ _ l0_3 false _ (cb HR0_2 HB) HC0_2.out (cb HR0_3 HB) HC0_3.out A7.out).mono ?_); rintro e w13 ⟨rfl, hb⟩; replace HO227 := rb HO227 hb; replace BK224 := bb BK224 hb; replace HB := Aside0.mk (below_step (be1 HB GE224) hb); (try clear hb))); try go_wp2_with (first | (go_at_call 53; (with_reducible refine (spec_AgesOk.calls k a0_1 _ _ l0_2 _ _ l0_3 false _ (cb HR0_2 HB) HC0_2.out (cb HR0_3 HB) HC0_3.out A7.out).mono ?_); rintro e w13 ⟨rfl, hb⟩; replace HO227 := rb HO227 hb; replace BK224 := bb BK224 hb; replace HB := Aside0.mk (below_step (be1 HB GE224) hb); (try clear hb))))
  go_meet
  case rel => exact ⟨_, (true), rs, H', ⟨by first | omega | exact Nat.le_refl _⟩, ⟨ro HO227⟩, ⟨bk BK224⟩, ⟨be1 HB GE224⟩⟩
 case rest =>
  clear HC3
  try clear c2; try clear p2; try clear c8; try clear hcz12_0; try clear hcz5_0; try clear hcz9_0
  obtain ⟨kq, x17_2, rfl, HA, HJ2, HO_3, BK224, HB⟩ := hcut
  cases kq with
  | zero => exact absurd HA.out (by simp [spec_PoolOk.j0])
  | succ kj2 =>
   have H := HA.out
   clear HA
   simp only [spec_PoolOk.j0] at H
   by_cases c14 : x17_2 = true
   ·subst c14
    rw [if_pos rfl] at H
    obtain rfl := Option.some.inj H
    go_wp2
    repeat (go_quiet (fail); try go_wp2)
    go_ret
    exact ⟨er, be1 HB GE224⟩
   replace c14 := Bool.eq_false_iff.mpr c14
   subst c14
   rw [if_neg (show ¬ (false = true) by decide)] at H
   have H' := Aside0.mk H
   clear H
   go_wp2
   repeat (go_quiet (fail); try go_wp2)
   go_loopg [4] kj2 (fun kq v4 w' => ∃ (x4_2 : Int), v4 = .int .i64 x4_2 ∧ Aside0 (spec_PoolOk.l0 kq t225 x4_2 l0_0 a0_1 l0_2 l0_3 l0_4 = some r) ∧ Aside0 (kq ≤ kj2) ∧ Aside0 (Kd.R (Kd.int .i64) 3 w' w.heap.size (fun _ => True) v226 t225) ∧ Aside0 (w'.heap[gb224]? = some (.cells #[(.slice A0_0 l0_0.length c0_0), .int .i64 a0_1, (.slice A0_2 l0_2.length c0_2), (.slice A0_3 l0_3.length c0_3), (.slice A0_4 l0_4.length c0_4)] 27 (0, 0))) ∧ Aside0 (Below w.heap.size w w'))
   case atStart => exact ⟨(1), rs, H', ⟨Nat.le_refl _⟩, ⟨ro HO_3⟩, ⟨bk BK224⟩, ⟨be1 HB GE224⟩⟩
   case round =>
    clear H'
    try clear c1; try clear c2; try clear p2; try clear c8; try clear c14; try clear hcz12_0; try clear hcz5_0; try clear hcz9_0; try clear p2
    obtain ⟨x4_2, rfl, HA, HK2, HO_3, BK224, HB⟩ := hrel
    cases gk with
    | zero => exact absurd HA.out (by simp [spec_PoolOk.l0])
    | succ k2 =>
     have H := HA.out
     clear HA
     simp only [spec_PoolOk.l0] at H
     by_cases c15 : x4_2 < (l0_4.length : Int)
     ·rw [if_pos c15] at H
      have c15b0 : decide (x4_2 < (l0_4.length : Int)) = true := decide_eq_true c15
      clear c15
      obtain ⟨ji16, hji16⟩ : ∃ j_ : Int, (wrap64 (x4_2 - 1)) = j_ := ⟨_, rfl⟩
      replace H : (if 0 ≤ (ji16) then (if (ji16) < (l0_4.length : Int) then (if 0 ≤ x4_2 then (if (rd l0_4 (ji16)) ≥ (rd l0_4 x4_2) then (some false) else (spec_PoolOk.l0 k2 t225 (wrap64 (x4_2 + 1)) l0_0 a0_1 l0_2 l0_3 l0_4)) else (none)) else (none)) else (none)) = some r := by first | (rw [hji16] at H; exact H) | (simp only [hji16] at H ⊢; exact H)
      have hji16w : (IntKind.i64.wrap (x4_2 - 1)) = ji16 := (i64_w _).trans hji16
      by_cases c17 : 0 ≤ (ji16)
      ·rw [if_pos c17] at H
       have c17b0 : decide (0 ≤ (ji16)) = true := decide_eq_true c17
       clear c17
       by_cases c18 : (ji16) < (l0_4.length : Int)
       ·rw [if_pos c18] at H
        have c18b0 : decide ((ji16) < (l0_4.length : Int)) = true := decide_eq_true c18
        clear c18
        by_cases c19 : 0 ≤ x4_2
        ·rw [if_pos c19] at H
         have c19b0 : decide (0 ≤ x4_2) = true := decide_eq_true c19
         clear c19
         by_cases c20 : (rd l0_4 (ji16)) ≥ (rd l0_4 x4_2)
         ·rw [if_pos c20] at H
          have c20b0 : decide ((rd l0_4 x4_2) ≤ (rd l0_4 (ji16))) = true := decide_eq_true c20
          clear c20
          obtain rfl := Option.some.inj H
          have hcz21_0 := bz5 BK224
          have p229 : 0 ≤ ((ji16) : Int) := od
          have q229 : (ji16) < (l0_4.length : Int) := od
          obtain ⟨ad229, e229, hx229_0⟩ := Kd.at_int HR0_4.out (ji16) p229 q229
          cases e229
          replace hx229_0 := hc HB hx229_0
          replace p229 := eq_true p229
          replace q229 := eq_true q229
          have p230 : 0 ≤ (x4_2 : Int) := od
          have q230 : x4_2 < (l0_4.length : Int) := od
          obtain ⟨ad230, e230, hx230_0⟩ := Kd.at_int HR0_4.out x4_2 p230 q230
          obtain rfl : ad229 = ad230 := (by injection e230)
          replace hx230_0 := hc HB hx230_0
          replace p230 := eq_true p230
          replace q230 := eq_true q230
          go_wp2
          repeat (go_quiet (fail); try go_wp2)
          go_ret
          exact ⟨by first | rfl | (simp [errW_none, errW_some] <;> rfl) | (simp only [← hji16]; first | rfl | (simp [errW_none, errW_some] <;> rfl)) | (simp [*, errW_none, errW_some] <;> rfl), be1 HB GE224⟩
         rw [if_neg c20] at H
         have c20b0 : decide ((rd l0_4 x4_2) ≤ (rd l0_4 (ji16))) = false := decide_eq_false c20
         clear c20
         have H' := Aside0.mk H
         clear H
         have hcz22_0 := bz5 BK224
         have p229 : 0 ≤ ((ji16) : Int) := od
         have q229 : (ji16) < (l0_4.length : Int) := od
         obtain ⟨ad229, e229, hx229_0⟩ := Kd.at_int HR0_4.out (ji16) p229 q229
         cases e229
         replace hx229_0 := hc HB hx229_0
         replace p229 := eq_true p229
         replace q229 := eq_true q229
         have p230 : 0 ≤ (x4_2 : Int) := od
         have q230 : x4_2 < (l0_4.length : Int) := od
         obtain ⟨ad230, e230, hx230_0⟩ := Kd.at_int HR0_4.out x4_2 p230 q230
         obtain rfl : ad229 = ad230 := (by injection e230)
         replace hx230_0 := hc HB hx230_0
         replace p230 := eq_true p230
         replace q230 := eq_true q230
         go_wp2
         repeat (go_quiet (fail); try go_wp2)
         go_roundg k2
         case measure => have := HJ2.out; have := HK2.out; omega
         case rel => exact ⟨(wrap64 (x4_2 + 1)), rs, H', ⟨by have := HJ2.out; have := HK2.out; omega⟩, ⟨ro HO_3⟩, ⟨bk BK224⟩, ⟨be1 HB GE224⟩⟩
        rw [if_neg c19] at H
        exact absurd H (by simp)
       rw [if_neg c18] at H
       exact absurd H (by simp)
      rw [if_neg c17] at H
      exact absurd H (by simp)
     rw [if_neg c15] at H
     have c15b0 : decide (x4_2 < (l0_4.length : Int)) = false := decide_eq_false c15
     clear c15
     have H' := Aside0.mk H
     clear H
     have hcz23_0 := bz5 BK224
     obtain ⟨Ao24, co24, eo24⟩ := Kd.R_slice HO_3.out
     subst eo24
     go_wp2
     repeat (go_quiet (fail); try go_wp2)
     go_loopg [39] k2 (fun kq v39 w' => ∃ (x39_3 : Int), v39 = .int .i64 x39_3 ∧ Aside0 (spec_PoolOk.l1 kq t225 t225 (t225.length : Int) x39_3 = some r) ∧ Aside0 (kq ≤ k2) ∧ Aside0 (Kd.R (Kd.int .i64) 3 w' w.heap.size (fun _ => True) (.slice Ao24 t225.length co24) t225) ∧ Aside0 (Kd.R (Kd.int .i64) 3 w' w.heap.size (fun _ => True) (.slice Ao24 t225.length co24) t225) ∧ Aside0 (w'.heap[gb224]? = some (.cells #[(.slice A0_0 l0_0.length c0_0), .int .i64 a0_1, (.slice A0_2 l0_2.length c0_2), (.slice A0_3 l0_3.length c0_3), (.slice A0_4 l0_4.length c0_4)] 27 (0, 0))) ∧ Aside0 (Below w.heap.size w w'))
     case atStart => exact ⟨(0), rs, H', ⟨Nat.le_refl _⟩, ⟨ro HO_3⟩, ⟨ro HO_3⟩, ⟨bk BK224⟩, ⟨be1 HB GE224⟩⟩
     case round =>
      clear H'
      try clear c1; try clear c2; try clear p2; try clear q2; try clear hx2; try clear p6; try clear c8; try clear c14; try clear c15; try clear c15b0; try clear c17; try clear c17b0; try clear c18; try clear c18b0; try clear c19; try clear c19b0; try clear c20; try clear c20b0; try clear p22; try clear q22; try clear hx22; try clear p23; try clear q23; try clear hx23; try clear hcz12_0; try clear hcz21_0; try clear hcz22_0; try clear hcz23_0; try clear hcz5_0; try clear hcz9_0; try clear hx229_0; try clear hx230_0; try clear p2; try clear p229; try clear p230; try clear q229; try clear q230
      obtain ⟨x39_3, rfl, HA, HK3, HO_3, HO_37, BK224, HB⟩ := hrel
      cases gk with
      | zero => exact absurd HA.out (by simp [spec_PoolOk.l1])
      | succ k3 =>
       have H := HA.out
       clear HA
       simp only [spec_PoolOk.l1] at H
       by_cases c25 : x39_3 < (t225.length : Int)
       ·rw [if_pos c25] at H
        have c25b0 : decide (x39_3 < (t225.length : Int)) = true := decide_eq_true c25
        clear c25
        by_cases c26 : 0 ≤ x39_3
        ·rw [if_pos c26] at H
         have c26b0 : decide (0 ≤ x39_3) = true := decide_eq_true c26
         clear c26
         by_cases c27 : x39_3 < (t225.length : Int)
         ·rw [if_pos c27] at H
          have c27b0 : decide (x39_3 < (t225.length : Int)) = true := decide_eq_true c27
          clear c27
          by_cases c28 : (rd t225 x39_3) < 0
          ·rw [if_pos c28] at H
           have c28b0 : decide ((rd t225 x39_3) < 0) = true := decide_eq_true c28
           clear c28
           obtain rfl := Option.some.inj H
           have p231 : 0 ≤ (x39_3 : Int) := od
           have q231 : x39_3 < (t225.length : Int) := od
           obtain ⟨ad231, e231, hx231_0⟩ := Kd.at_int (Kd.R_reads' HO_37.out).2.2 x39_3 p231 q231
           cases e231
           replace p231 := eq_true p231
           replace q231 := eq_true q231
           go_wp2
           repeat (go_quiet (fail); try go_wp2)
           go_ret
           exact ⟨er, be1 HB GE224⟩
          rw [if_neg c28] at H
          have c28b0 : decide ((rd t225 x39_3) < 0) = false := decide_eq_false c28
          clear c28
          by_cases c29 : (rd t225 x39_3) ≥ (t225.length : Int)
          ·rw [if_pos c29] at H
           have c29b0 : decide ((t225.length : Int) ≤ (rd t225 x39_3)) = true := decide_eq_true c29
           clear c29
           obtain rfl := Option.some.inj H
           have p231 : 0 ≤ (x39_3 : Int) := od
           have q231 : x39_3 < (t225.length : Int) := od
           obtain ⟨ad231, e231, hx231_0⟩ := Kd.at_int (Kd.R_reads' HO_37.out).2.2 x39_3 p231 q231
           cases e231
           replace p231 := eq_true p231
           replace q231 := eq_true q231
           go_wp2
           repeat (go_quiet (fail); try go_wp2)
           go_ret
           exact ⟨er, be1 HB GE224⟩
          rw [if_neg c29] at H
          have c29b0 : decide ((t225.length : Int) ≤ (rd t225 x39_3)) = false := decide_eq_false c29
          clear c29
          have c30b0 := eq_true (od : 0 ≤ x39_3)
          by_cases c31 : x39_3 ≤ (t225.length : Int)
          ·rw [if_pos c31] at H
           have c31b0 := eq_true c31
           have c31b1 : decide (x39_3 ≤ (t225.length : Int)) = true := decide_eq_true c31
           clear c31
           obtain ⟨y232, hy232⟩ : ∃ y_ : List Int, y_ = (t225.take (x39_3 : Int).toNat) := ⟨_, rfl⟩
           replace H : ((spec_l03Has.f k3 y232 (rd t225 x39_3)).bind fun t236 => (if t236 = true then (some false) else (spec_PoolOk.l1 k3 t225 t225 (t225.length : Int) (wrap64 (x39_3 + 1))))) = some r := by first | (rw [hy232]; with_reducible exact H) | (have H2_ := (Option.bind_some _ _).symm.trans H; rw [hy232]; with_reducible exact H2_) | (have H2_ := (Option.bind_some _ _).symm.trans H; with_reducible exact H2_) | with_reducible exact H | (rw [hy232]; exact H) | exact H
           have Ny232 := Aside0.mk hy232
           clear hy232
           replace H := Option.bind_eq_some_iff.mp H
           obtain ⟨t236, A320, H⟩ := H
           try dsimp only at H
           have A32 := Aside0.mk A320
           clear A320
           by_cases c33 : t236 = true
           ·subst c33
            rw [if_pos rfl] at H
            obtain rfl := Option.some.inj H
            have p231 : 0 ≤ (x39_3 : Int) := od
            have q231 : x39_3 < (t225.length : Int) := od
            obtain ⟨ad231, e231, hx231_0⟩ := Kd.at_int (Kd.R_reads' HO_37.out).2.2 x39_3 p231 q231
            cases e231
            replace p231 := eq_true p231
            replace q231 := eq_true q231
            have q34 : (x39_3 : Int) ≤ ((t225.length : Int) : Int) := od
            obtain ⟨i034, hi034, _, hsz34, _⟩ := info_parts info3
            have hroom34 : t225.length ≤ co24 := (Kd.R_reads' HO_3.out).2.1
            have hC34 : Kd.C (Kd.int .i64) _ (some ad231) t225.length t225 := (Kd.R_reads' HO_3.out).2.2
            have hcut34 := cut_to (P := Try.prog) 22 3 .i64 Try.underlying22 hi034 (some ad231) t225.length co24 x39_3 (od) q34 hroom34
            have hr34 := Kd.C_take (m := (x39_3 : Int).toNat) hC34 (by omega)
            have hy34 : y232.length = (x39_3 : Int).toNat := (by rw [Ny232.out, List.length_take]; omega)
            rw [← Ny232.out] at hr34
            rw [← hy34] at hcut34
            have HR235 := Aside0.mk hr34
            have HC235 := Aside0.mk (show y232.length ≤ co24 from by omega)
            clear hr34 hC34 hroom34 hi034 hsz34
            have KY34 := Aside0.mk hy34
            clear hy34
            have KL34 := Aside0.mk (show (x39_3 : Int).toNat ≤ t225.length from by omega)
            replace q34 := eq_true q34
            go_wp2_with (first | (go_at_call 54; (with_reducible refine (spec_l03Has.calls k3 _ _ y232 (rd t225 x39_3) true _ ?side1 ?side2 A32.out).mono ?_); (case side1 => repeat (first | exact (by repeat (first | (with_reducible exact HR235.out) | (with_reducible refine Kd.C_alloc ?_ _) | (with_reducible refine Kd.C_drewN ?_ _) | (with_reducible refine Kd.C_drew ?_) | exact HR235.out)) | (with_reducible refine Kd.C_alloc ?_ _) | (with_reducible refine Kd.C_drewN ?_ _) | (with_reducible refine Kd.C_drew ?_))); (case side2 => exact HC235.out); rintro e w' ⟨rfl, ⟨nd, rfl⟩⟩; (try first | exact ⟨rfl, _, World.drewN_drewN _ _ _⟩ | exact ⟨rfl, _, Eq.trans (World.drewN_drewN _ _ _) (congrArg (World.drewN _) (Nat.add_assoc _ _ _))⟩)))
            repeat (go_quiet (first | (go_at_call 54; (with_reducible refine (spec_l03Has.calls k3 _ _ y232 (rd t225 x39_3) true _ ?side1 ?side2 A32.out).mono ?_); (case side1 => repeat (first | exact (by repeat (first | (with_reducible exact HR235.out) | (with_reducible refine Kd.C_alloc ?_ _) | (with_reducible refine Kd.C_drewN ?_ _) | (with_reducible refine Kd.C_drew ?_) | exact HR235.out)) | (with_reducible refine Kd.C_alloc ?_ _) | (with_reducible refine Kd.C_drewN ?_ _) | (with_reducible refine Kd.C_drew ?_))); (case side2 => exact HC235.out); rintro e w' ⟨rfl, ⟨nd, rfl⟩⟩; (try first | exact ⟨rfl, _, World.drewN_drewN _ _ _⟩ | exact ⟨rfl, _, Eq.trans (World.drewN_drewN _ _ _) (congrArg (World.drewN _) (Nat.add_assoc _ _ _))⟩))); try go_wp2_with (first | (go_at_call 54; (with_reducible refine (spec_l03Has.calls k3 _ _ y232 (rd t225 x39_3) true _ ?side1 ?side2 A32.out).mono ?_); (case side1 => repeat (first | exact (by repeat (first | (with_reducible exact HR235.out) | (with_reducible refine Kd.C_alloc ?_ _) | (with_reducible refine Kd.C_drewN ?_ _) | (with_reducible refine Kd.C_drew ?_) | exact HR235.out)) | (with_reducible refine Kd.C_alloc ?_ _) | (with_reducible refine Kd.C_drewN ?_ _) | (with_reducible refine Kd.C_drew ?_))); (case side2 => exact HC235.out); rintro e w' ⟨rfl, ⟨nd, rfl⟩⟩; (try first | exact ⟨rfl, _, World.drewN_drewN _ _ _⟩ | exact ⟨rfl, _, Eq.trans (World.drewN_drewN _ _ _) (congrArg (World.drewN _) (Nat.add_assoc _ _ _))⟩))))
            go_ret
            exact ⟨er, be1 HB GE224⟩
           replace c33 := Bool.eq_false_iff.mpr c33
           subst c33
           rw [if_neg (show ¬ (false = true) by decide)] at H
           have H' := Aside0.mk H
           clear H
           have p231 : 0 ≤ (x39_3 : Int) := od
           have q231 : x39_3 < (t225.length : Int) := od
           obtain ⟨ad231, e231, hx231_0⟩ := Kd.at_int (Kd.R_reads' HO_37.out).2.2 x39_3 p231 q231
           cases e231
           replace p231 := eq_true p231
           replace q231 := eq_true q231
           have q35 : (x39_3 : Int) ≤ ((t225.length : Int) : Int) := od
           obtain ⟨i035, hi035, _, hsz35, _⟩ := info_parts info3
           have hroom35 : t225.length ≤ co24 := (Kd.R_reads' HO_3.out).2.1
           have hC35 : Kd.C (Kd.int .i64) _ (some ad231) t225.length t225 := (Kd.R_reads' HO_3.out).2.2
           have hcut35 := cut_to (P := Try.prog) 22 3 .i64 Try.underlying22 hi035 (some ad231) t225.length co24 x39_3 (od) q35 hroom35
           have hr35 := Kd.C_take (m := (x39_3 : Int).toNat) hC35 (by omega)
           have hy35 : y232.length = (x39_3 : Int).toNat := (by rw [Ny232.out, List.length_take]; omega)
           rw [← Ny232.out] at hr35
           rw [← hy35] at hcut35
           have HR235 := Aside0.mk hr35
           have HC235 := Aside0.mk (show y232.length ≤ co24 from by omega)
           clear hr35 hC35 hroom35 hi035 hsz35
           have KY35 := Aside0.mk hy35
           clear hy35
           have KL35 := Aside0.mk (show (x39_3 : Int).toNat ≤ t225.length from by omega)
           replace q35 := eq_true q35
           go_wp2_with (first | (go_at_call 54; (with_reducible refine (spec_l03Has.calls k3 _ _ y232 (rd t225 x39_3) false _ ?side1 ?side2 A32.out).mono ?_); (case side1 => repeat (first | exact (by repeat (first | (with_reducible exact HR235.out) | (with_reducible refine Kd.C_alloc ?_ _) | (with_reducible refine Kd.C_drewN ?_ _) | (with_reducible refine Kd.C_drew ?_) | exact HR235.out)) | (with_reducible refine Kd.C_alloc ?_ _) | (with_reducible refine Kd.C_drewN ?_ _) | (with_reducible refine Kd.C_drew ?_))); (case side2 => exact HC235.out); rintro e w' ⟨rfl, ⟨nd, rfl⟩⟩; (try first | exact ⟨rfl, _, World.drewN_drewN _ _ _⟩ | exact ⟨rfl, _, Eq.trans (World.drewN_drewN _ _ _) (congrArg (World.drewN _) (Nat.add_assoc _ _ _))⟩)))
           repeat (go_quiet (first | (go_at_call 54; (with_reducible refine (spec_l03Has.calls k3 _ _ y232 (rd t225 x39_3) false _ ?side1 ?side2 A32.out).mono ?_); (case side1 => repeat (first | exact (by repeat (first | (with_reducible exact HR235.out) | (with_reducible refine Kd.C_alloc ?_ _) | (with_reducible refine Kd.C_drewN ?_ _) | (with_reducible refine Kd.C_drew ?_) | exact HR235.out)) | (with_reducible refine Kd.C_alloc ?_ _) | (with_reducible refine Kd.C_drewN ?_ _) | (with_reducible refine Kd.C_drew ?_))); (case side2 => exact HC235.out); rintro e w' ⟨rfl, ⟨nd, rfl⟩⟩; (try first | exact ⟨rfl, _, World.drewN_drewN _ _ _⟩ | exact ⟨rfl, _, Eq.trans (World.drewN_drewN _ _ _) (congrArg (World.drewN _) (Nat.add_assoc _ _ _))⟩))); try go_wp2_with (first | (go_at_call 54; (with_reducible refine (spec_l03Has.calls k3 _ _ y232 (rd t225 x39_3) false _ ?side1 ?side2 A32.out).mono ?_); (case side1 => repeat (first | exact (by repeat (first | (with_reducible exact HR235.out) | (with_reducible refine Kd.C_alloc ?_ _) | (with_reducible refine Kd.C_drewN ?_ _) | (with_reducible refine Kd.C_drew ?_) | exact HR235.out)) | (with_reducible refine Kd.C_alloc ?_ _) | (with_reducible refine Kd.C_drewN ?_ _) | (with_reducible refine Kd.C_drew ?_))); (case side2 => exact HC235.out); rintro e w' ⟨rfl, ⟨nd, rfl⟩⟩; (try first | exact ⟨rfl, _, World.drewN_drewN _ _ _⟩ | exact ⟨rfl, _, Eq.trans (World.drewN_drewN _ _ _) (congrArg (World.drewN _) (Nat.add_assoc _ _ _))⟩))))
           go_roundg k3
           case measure => have := HJ2.out; have := HK2.out; have := HK3.out; omega
           case rel => exact ⟨(wrap64 (x39_3 + 1)), rs, H', ⟨by have := HJ2.out; have := HK2.out; have := HK3.out; omega⟩, ⟨ro HO_3⟩, ⟨ro HO_37⟩, ⟨bk BK224⟩, ⟨be1 HB GE224⟩⟩
          rw [if_neg c31] at H
          exact absurd H (by simp)
         rw [if_neg c27] at H
         exact absurd H (by simp)
        rw [if_neg c26] at H
        exact absurd H (by simp)
       rw [if_neg c25] at H
       have c25b0 : decide (x39_3 < (t225.length : Int)) = false := decide_eq_false c25
       clear c25
       obtain rfl := Option.some.inj H
       go_wp2
       repeat (go_quiet (fail); try go_wp2)
       go_ret
       exact ⟨er, be1 HB GE224⟩

end Go.Proofs.Ytdgpidhlbpaolaa.QFnExactAlloc
