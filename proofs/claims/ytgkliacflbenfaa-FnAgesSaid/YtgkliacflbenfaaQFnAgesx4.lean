-- made by a program of this session (myprint.py)
import Derived.Test.YtgkliacflbenfaaQFnAgesx0
import Derived.Test.YtgkliacflbenfaaQFnAgesx2
import Derived.Test.YtgkliacflbenfaaQFnAgesx3
namespace Go.Proofs.Ytgkliacflbenfaa.QFnAges
open Go.RowKit Go.Proofs.YtgkliacflbenfaaW.PrintWords Go.Proofs.YtgkliacflbenfaaW.PrintLast Go.Proofs.YtgkliacflbenfaaW.PrintMore
attribute [local go_sem] max2_int min2_int max_two min_two max_three min_three max_four min_four   -- for this text's walks alone
set_option linter.unusedVariables false
set_option linter.unusedSimpArgs false

/-! ### spec_l03Has: function 68 -/
def spec_l03Has.l0 : Nat → Int → List Int → Int → Int → Option (Bool)
 | 0, _, _, _, _ => none
 | k + 1, x1, x7, x8, x9 => if x9 < x8 then (if 0 ≤ x9 then (if x9 < (x7.length : Int) then (if (rd x7 x9) = x1 then (some true) else (spec_l03Has.l0 k x1 x7 x8 (wrap64 (x9 + 1)))) else (none)) else (none)) else (some false)
def spec_l03Has.f (k : Nat) (l0 : List Int) (a1 : Int) : Option (Bool) := spec_l03Has.l0 k a1 l0 (l0.length : Int) 0
theorem spec_l03Has.mono_l : ∀ k, (∀ y0 y1 y2 y3, LeO (spec_l03Has.l0 k y0 y1 y2 y3) (spec_l03Has.l0 (k + 1) y0 y1 y2 y3))
 | 0 => fun _ _ _ _ r h => by simp [spec_l03Has.l0] at h
 | k + 1 => by
  have af := spec_l03Has.mono_l k
  ·intro y0 y1 y2 y3; unfold spec_l03Has.l0
   repeat' first | (with_reducible first | apply af | apply lr | apply ln | apply li | refine lb ?_ fun _ => ?_) | apply af | apply ln | apply li | refine lb ?_ fun _ => ?_
theorem spec_l03Has.mono : ∀ a0 a1 k, LeO (spec_l03Has.f k a0 a1) (spec_l03Has.f (k + 1) a0 a1) := by
 intro a0 a1 k; have af := spec_l03Has.mono_l k; unfold spec_l03Has.f
 repeat' first | (with_reducible first | apply af | apply lr | apply ln | apply li | refine lb ?_ fun _ => ?_) | apply af | apply ln | apply li | refine lb ?_ fun _ => ?_
set_option maxHeartbeats 8000000 in
set_option maxRecDepth 100000 in
theorem spec_l03Has.calls (k : Nat) (A0 : Option Addr) (c0 : Nat) (l0 : List Int) (a1 : Int) (r : Bool) (w : World) (ak : Kd.C (Kd.int .i64) w A0 l0.length l0) (al : l0.length ≤ c0) (h : spec_l03Has.f k l0 a1 = some r) :
  Calls Try.prog 68 #[.slice A0 l0.length c0, .int .i64 a1] w fun e w' => e = .returned (.bool r) ∧ Drawn0 w w' := by
 have an := Aside0.mk ak; have ar := Aside0.mk al; clear ak al; have H : (spec_l03Has.l0 k a1 l0 (l0.length : Int) 0) = some r := h; clear h; have H' := Aside0.mk H; clear H
 go_enter Try.func68, Try.ntmps68
 go_wp2
 go_loopg [9] k (fun kq v9 w' => ∃ (aa : Int), v9 = .int .i64 aa ∧ Aside0 (spec_l03Has.l0 kq a1 l0 (l0.length : Int) aa = some r) ∧ Aside0 (kq ≤ k) ∧ Drawn0 w w')
 case atStart => exact ⟨(0), rs, H', ⟨Nat.le_refl _⟩, by repeat (first | exact Drawn0.refl _ | apply Drawn0.step)⟩
 case round =>
  clear H'
  try clear p2
  obtain ⟨aa, rfl, HA, ao, ⟨m1, rfl⟩⟩ := hrel
  cases gk with
  | zero => exact absurd HA.out (by simp [spec_l03Has.l0])
  | succ k1 =>
   have H := HA.out; clear HA; simp only [spec_l03Has.l0] at H
   by_cases c3 : aa < (l0.length : Int)
   ·rw [if_pos c3] at H; have ah : decide (aa < (l0.length : Int)) = true := decide_eq_true c3; clear c3
    by_cases c4 : 0 ≤ aa
    ·rw [if_pos c4] at H; have ap : decide (0 ≤ aa) = true := decide_eq_true c4; clear c4
     by_cases c5 : aa < (l0.length : Int)
     ·rw [if_pos c5] at H; have aq : decide (aa < (l0.length : Int)) = true := decide_eq_true c5; clear c5
      by_cases c6 : (rd l0 aa) = a1
      ·rw [if_pos c6] at H; have ai : ((rd l0 aa) == a1) = true := beq_iff_eq.mpr c6; have aj : ((rd l0 aa) != a1) = false := bne_eq_false_iff_eq.mpr c6; clear c6; obtain rfl := Option.some.inj H; have ab : 0 ≤ (aa : Int) := od; have ac : aa < (l0.length : Int) := od; obtain ⟨ag, ae, ad⟩ := Kd.at_int an.out aa ab ac; cases ae; replace ab := eq_true ab; replace ac := eq_true ac
       go_wp2
       go_ret
       exact ⟨by first | rfl | (simp; done) | (simp [*]; done), by repeat (first | exact Drawn0.refl _ | apply Drawn0.step)⟩
      rw [if_neg c6] at H; have ai : ((rd l0 aa) == a1) = false := beq_eq_false_iff_ne.mpr c6; have aj : ((rd l0 aa) != a1) = true := bne_iff_ne.mpr c6; have H' := Aside0.mk H; clear H; have ab : 0 ≤ (aa : Int) := od; have ac : aa < (l0.length : Int) := od; obtain ⟨ag, ae, ad⟩ := Kd.at_int an.out aa ab ac; cases ae; replace ab := eq_true ab; replace ac := eq_true ac
      go_wp2
      go_roundg k1
      case measure => have := ao.out; omega
      case rel => exact ⟨(wrap64 (aa + 1)), rs, H', ⟨by have := ao.out; omega⟩, by repeat (first | exact Drawn0.refl _ | apply Drawn0.step)⟩
     rw [if_neg c5] at H; exact absurd H (by simp)
    rw [if_neg c4] at H; exact absurd H (by simp)
   rw [if_neg c3] at H; have ah : decide (aa < (l0.length : Int)) = false := decide_eq_false c3; clear c3; obtain rfl := Option.some.inj H
   go_wp2
   go_ret
   exact ⟨by first | rfl | (simp; done) | (simp [*]; done), by repeat (first | exact Drawn0.refl _ | apply Drawn0.step)⟩

/-! ### spec_PoolOk: function 44 -/
mutual
def spec_PoolOk.j0 : Nat → List Int → Bool → List Int → Int → List Int → List (S63) → List Int → Option (Bool)
 | 0, _, _, _, _, _, _, _ => none
 | k + 1, x3, dj, aF, aG, aH, aI, an => if dj = true then (some false) else (spec_PoolOk.l0 k x3 1 aF aG aH aI an)
def spec_PoolOk.l0 : Nat → List Int → Int → List Int → Int → List Int → List (S63) → List Int → Option (Bool)
 | 0, _, _, _, _, _, _, _ => none
 | k + 1, x3, x4, aF, aG, aH, aI, an => if x4 < (an.length : Int) then (if 0 ≤ (wrap64 (x4 - 1)) then (if (wrap64 (x4 - 1)) < (an.length : Int) then (if 0 ≤ x4 then (if (rd an (wrap64 (x4 - 1))) ≥ (rd an x4) then (some false) else (spec_PoolOk.l0 k x3 (wrap64 (x4 + 1)) aF aG aH aI an)) else (none)) else (none)) else (none)) else (spec_PoolOk.l1 k x3 x3 (x3.length : Int) 0)
def spec_PoolOk.l1 : Nat → List Int → List Int → Int → Int → Option (Bool)
 | 0, _, _, _, _ => none
 | k + 1, x3, cl, cX, bw => if bw < cX then (if 0 ≤ bw then (if bw < (cl.length : Int) then (if (rd cl bw) < 0 then (some false) else (if (rd cl bw) ≥ (x3.length : Int) then (some false) else (if bw ≤ (x3.length : Int) then ((spec_l03Has.f k (x3.take (bw : Int).toNat) (rd cl bw)).bind fun bj => (if bj = true then (some false) else (spec_PoolOk.l1 k x3 cl cX (wrap64 (bw + 1))))) else (none)))) else (none)) else (none)) else (some true)
end
def spec_PoolOk.f (k : Nat) (aj : List Int) (ah : Int) (af : List Int) (ag : List (S63)) (ad : List Int) : Option (Bool) := (spec_l09All.f k aj ah af ag ad).bind fun ab => ((spec_AgesOk.f k ah af ag).bind fun bm => (if bm = true then (spec_PoolOk.j0 k ab (decide ((ab.length : Int) > 100)) aj ah af ag ad) else (spec_PoolOk.j0 k ab true aj ah af ag ad)))
theorem spec_PoolOk.mono_l : ∀ k, (∀ y0 y1 y2 y3 y4 y5 y6, LeO (spec_PoolOk.j0 k y0 y1 y2 y3 y4 y5 y6) (spec_PoolOk.j0 (k + 1) y0 y1 y2 y3 y4 y5 y6)) ∧ (∀ y0 y1 y2 y3 y4 y5 y6, LeO (spec_PoolOk.l0 k y0 y1 y2 y3 y4 y5 y6) (spec_PoolOk.l0 (k + 1) y0 y1 y2 y3 y4 y5 y6)) ∧ (∀ y0 y1 y2 y3, LeO (spec_PoolOk.l1 k y0 y1 y2 y3) (spec_PoolOk.l1 (k + 1) y0 y1 y2 y3))
 | 0 => ⟨fun _ _ _ _ _ _ _ r h => by simp [spec_PoolOk.j0] at h, fun _ _ _ _ _ _ _ r h => by simp [spec_PoolOk.l0] at h, fun _ _ _ _ r h => by simp [spec_PoolOk.l1] at h⟩
 | k + 1 => by
  obtain ⟨bz, bA, bC⟩ := spec_PoolOk.mono_l k; refine ⟨?_, ?_, ?_⟩
  ·intro y0 y1 y2 y3 y4 y5 y6; unfold spec_PoolOk.j0
   repeat' first | (with_reducible first | apply bz | apply bA | apply bC | apply spec_AgesOk.mono | apply spec_l03Has.mono | apply spec_l09All.mono | apply lr | apply ln | apply li | refine lb ?_ fun _ => ?_) | apply bz | apply bA | apply bC | apply ln | apply li | refine lb ?_ fun _ => ?_
  ·intro y0 y1 y2 y3 y4 y5 y6; unfold spec_PoolOk.l0
   repeat' first | (with_reducible first | apply bz | apply bA | apply bC | apply spec_AgesOk.mono | apply spec_l03Has.mono | apply spec_l09All.mono | apply lr | apply ln | apply li | refine lb ?_ fun _ => ?_) | apply bz | apply bA | apply bC | apply ln | apply li | refine lb ?_ fun _ => ?_
  intro y0 y1 y2 y3; unfold spec_PoolOk.l1
  repeat' first | (with_reducible first | apply bz | apply bA | apply bC | apply spec_AgesOk.mono | apply spec_l03Has.mono | apply spec_l09All.mono | apply lr | apply ln | apply li | refine lb ?_ fun _ => ?_) | apply bz | apply bA | apply bC | apply ln | apply li | refine lb ?_ fun _ => ?_
theorem spec_PoolOk.mono : ∀ a0 a1 a2 a3 a4 k, LeO (spec_PoolOk.f k a0 a1 a2 a3 a4) (spec_PoolOk.f (k + 1) a0 a1 a2 a3 a4) := by
 intro a0 a1 a2 a3 a4 k; obtain ⟨bz, bA, bC⟩ := spec_PoolOk.mono_l k; unfold spec_PoolOk.f
 repeat' first | (with_reducible first | apply bz | apply bA | apply bC | apply spec_AgesOk.mono | apply spec_l03Has.mono | apply spec_l09All.mono | apply lr | apply ln | apply li | refine lb ?_ fun _ => ?_) | apply bz | apply bA | apply bC | apply ln | apply li | refine lb ?_ fun _ => ?_
set_option maxHeartbeats 8000000 in
set_option maxRecDepth 100000 in
theorem spec_PoolOk.calls (k : Nat) (aL : Option Addr) (aN : Nat) (aj : List Int) (ah : Int) (aO : Option Addr) (aQ : Nat) (af : List Int) (aR : Option Addr) (aU : Nat) (ag : List (S63)) (aV : Option Addr) (aW : Nat) (ad : List Int) (r : Bool) (w : World) (bI : Kd.C (Kd.int .i64) w aL aj.length aj) (bJ : aj.length ≤ aN) (bM : Kd.C (Kd.int .i64) w aO af.length af) (bN : af.length ≤ aQ) (bO : Kd.C k63 w aR ag.length ag) (bQ : ag.length ≤ aU) (bR : Kd.C (Kd.int .i64) w aV ad.length ad) (bS : ad.length ≤ aW) (h : spec_PoolOk.f k aj ah af ag ad = some r) :
  Calls Try.prog 44 #[.agg #[.slice aL aj.length aN, .int .i64 ah, .slice aO af.length aQ, .slice aR ag.length aU, .slice aV ad.length aW]] w fun e w' => e = .returned (.bool r) ∧ Below w.heap.size w w' := by
 have hu28 := Try.underlying28; have hu26 := Try.underlying26; have bn := Aside0.mk bI; have bo := Aside0.mk bJ; clear bI bJ; have av := Aside0.mk bM; have aw := Aside0.mk bN; clear bM bN; have ax := Aside0.mk bO; have ay := Aside0.mk bQ; clear bO bQ; have aA := Aside0.mk bR; have bq := Aside0.mk bS; clear bR bS; have HB := Aside0.mk (Below.refl w.heap.size w); have H : ((spec_l09All.f k aj ah af ag ad).bind fun ab => ((spec_AgesOk.f k ah af ag).bind fun bm => (if bm = true then (spec_PoolOk.j0 k ab (decide ((ab.length : Int) > 100)) aj ah af ag ad) else (spec_PoolOk.j0 k ab true aj ah af ag ad)))) = some r := h; clear h; obtain ⟨ab, A2, H⟩ := ob H
 try dsimp only at H
 have cP := Aside0.mk H; clear H
 go_enter Try.func44, Try.ntmps44
 go_upto_region 2 with (first | ((with_reducible refine gate_dst (N := 1) rfl ?_); (try (refine gate_guard (by rfl) ?_; dsimp only)); refine bx 1 #[.slice aL aj.length aN, .int .i64 ah, .slice aO af.length aQ, .slice aR ag.length aU, .slice aV ad.length aW] 28 ?_; intro aX hg w4 hbox hb; have ac := am hbox; have bU := gs0 hg HB; have ae := gs0 hg HB; replace HB := s0 HB hb; clear hb hbox hg; have aB := bz5 ac) | (go_at_call 66; (with_reducible refine (spec_l09All.calls k _ _ aj ah _ _ af _ _ ag _ _ ad ab _ (cb bn HB) bo.out (cb av HB) aw.out (cb ax HB) ay.out (cb aA HB) bq.out A2.out).mono ?_); rintro e w6 ⟨bD, rfl, bW, hb⟩; have ai := rl1 bW HB ae; replace ac := bb ac hb; replace HB := s1 HB ae hb; (try clear hb); (try clear bW)))
 repeat (go_quiet (first | ((with_reducible refine gate_dst (N := 1) rfl ?_); (try (refine gate_guard (by rfl) ?_; dsimp only)); refine bx 1 #[.slice aL aj.length aN, .int .i64 ah, .slice aO af.length aQ, .slice aR ag.length aU, .slice aV ad.length aW] 28 ?_; intro aX hg w4 hbox hb; have ac := am hbox; have bU := gs0 hg HB; have ae := gs0 hg HB; replace HB := s0 HB hb; clear hb hbox hg; have aB := bz5 ac) | (go_at_call 66; (with_reducible refine (spec_l09All.calls k _ _ aj ah _ _ af _ _ ag _ _ ad ab _ (cb bn HB) bo.out (cb av HB) aw.out (cb ax HB) ay.out (cb aA HB) bq.out A2.out).mono ?_); rintro e w6 ⟨bD, rfl, bW, hb⟩; have ai := rl1 bW HB ae; replace ac := bb ac hb; replace HB := s1 HB ae hb; (try clear hb); (try clear bW))); go_upto_region 2 with (first | ((with_reducible refine gate_dst (N := 1) rfl ?_); (try (refine gate_guard (by rfl) ?_; dsimp only)); refine bx 1 #[.slice aL aj.length aN, .int .i64 ah, .slice aO af.length aQ, .slice aR ag.length aU, .slice aV ad.length aW] 28 ?_; intro aX hg w4 hbox hb; have ac := am hbox; have bU := gs0 hg HB; have ae := gs0 hg HB; replace HB := s0 HB hb; clear hb hbox hg; have aB := bz5 ac) | (go_at_call 66; (with_reducible refine (spec_l09All.calls k _ _ aj ah _ _ af _ _ ag _ _ ad ab _ (cb bn HB) bo.out (cb av HB) aw.out (cb ax HB) ay.out (cb aA HB) bq.out A2.out).mono ?_); rintro e w6 ⟨bD, rfl, bW, hb⟩; have ai := rl1 bW HB ae; replace ac := bb ac hb; replace HB := s1 HB ae hb; (try clear hb); (try clear bW))))
 (try simp only [Act.put, List.setIfInBounds_toArray, List.set_cons_zero, List.set_cons_succ])
 go_cut [17] (fun dl wc => ∃ (kq : Nat) (bd : Bool), dl = .bool bd ∧ Aside0 (spec_PoolOk.j0 kq ab bd aj ah af ag ad = some r) ∧ Aside0 (kq ≤ k) ∧ Aside0 (Kd.R (Kd.int .i64) 3 wc w.heap.size (fun _ => True) bD ab) ∧ Aside0 (wc.heap[aX]? = some (.cells #[(.slice aL aj.length aN), .int .i64 ah, (.slice aO af.length aQ), (.slice aR ag.length aU), (.slice aV ad.length aW)] 28 (0, 0))) ∧ Aside0 (Below w.heap.size w wc))
 case first =>
  have H := cP.out; clear cP; obtain ⟨bm, A7, H⟩ := ob H
  try dsimp only at H
  by_cases c8 : bm = true
  ·subst c8; rw [if_pos rfl] at H; have H' := Aside0.mk H; clear H; have ba := bz5 ac
   go_wp2_with (first | (go_at_call 67; (with_reducible refine (spec_AgesOk.calls k ah _ _ af _ _ ag true _ (cb av HB) aw.out (cb ax HB) ay.out A7.out).mono ?_); rintro e c0 ⟨rfl, hb⟩; replace ai := rb ai hb; replace ac := bb ac hb; replace HB := s1 HB ae hb; (try clear hb); obtain ⟨cm, cn, br⟩ := Kd.R_slice ai.out; subst br))
   repeat (go_quiet (first | (go_at_call 67; (with_reducible refine (spec_AgesOk.calls k ah _ _ af _ _ ag true _ (cb av HB) aw.out (cb ax HB) ay.out A7.out).mono ?_); rintro e c0 ⟨rfl, hb⟩; replace ai := rb ai hb; replace ac := bb ac hb; replace HB := s1 HB ae hb; (try clear hb); obtain ⟨cm, cn, br⟩ := Kd.R_slice ai.out; subst br)); try go_wp2_with (first | (go_at_call 67; (with_reducible refine (spec_AgesOk.calls k ah _ _ af _ _ ag true _ (cb av HB) aw.out (cb ax HB) ay.out A7.out).mono ?_); rintro e c0 ⟨rfl, hb⟩; replace ai := rb ai hb; replace ac := bb ac hb; replace HB := s1 HB ae hb; (try clear hb); obtain ⟨cm, cn, br⟩ := Kd.R_slice ai.out; subst br)))
   go_meet
   case rel => exact ⟨_, (decide ((ab.length : Int) > 100)), rs, H', ⟨by first | omega | exact Nat.le_refl _⟩, ⟨ro ai⟩, ⟨bk ac⟩, ⟨be1 HB ae⟩⟩
  replace c8 := Bool.eq_false_iff.mpr c8; subst c8; rw [if_neg nf] at H; have H' := Aside0.mk H; clear H; have aJ := bz5 ac
  go_wp2_with (first | (go_at_call 67; (with_reducible refine (spec_AgesOk.calls k ah _ _ af _ _ ag false _ (cb av HB) aw.out (cb ax HB) ay.out A7.out).mono ?_); rintro e da ⟨rfl, hb⟩; replace ai := rb ai hb; replace ac := bb ac hb; replace HB := s1 HB ae hb; (try clear hb)))
  repeat (go_quiet (first | (go_at_call 67; (with_reducible refine (spec_AgesOk.calls k ah _ _ af _ _ ag false _ (cb av HB) aw.out (cb ax HB) ay.out A7.out).mono ?_); rintro e da ⟨rfl, hb⟩; replace ai := rb ai hb; replace ac := bb ac hb; replace HB := s1 HB ae hb; (try clear hb))); try go_wp2_with (first | (go_at_call 67; (with_reducible refine (spec_AgesOk.calls k ah _ _ af _ _ ag false _ (cb av HB) aw.out (cb ax HB) ay.out A7.out).mono ?_); rintro e da ⟨rfl, hb⟩; replace ai := rb ai hb; replace ac := bb ac hb; replace HB := s1 HB ae hb; (try clear hb))))
  go_meet
  case rel => exact ⟨_, (true), rs, H', ⟨by first | omega | exact Nat.le_refl _⟩, ⟨ro ai⟩, ⟨bk ac⟩, ⟨be1 HB ae⟩⟩
 case rest =>
  clear cP
  try clear p2; try clear c4; try clear c8; try clear aJ; try clear aB; try clear ba
  obtain ⟨kq, bd, rfl, HA, cK, az, ac, HB⟩ := hcut
  cases kq with
  | zero => exact absurd HA.out (by simp [spec_PoolOk.j0])
  | succ db =>
   have H := HA.out; clear HA; simp only [spec_PoolOk.j0] at H
   by_cases ce : bd = true
   ·subst ce; rw [if_pos rfl] at H; obtain rfl := Option.some.inj H
    go_wp2
    repeat (go_quiet (fail); try go_wp2)
    go_ret
    exact ⟨er, be1 HB ae⟩
   replace ce := Bool.eq_false_iff.mpr ce; subst ce; rw [if_neg nf] at H; have H' := Aside0.mk H; clear H
   go_wp2
   repeat (go_quiet (fail); try go_wp2)
   go_loopg [4] db (fun kq v4 w' => ∃ (ak : Int), v4 = .int .i64 ak ∧ Aside0 (spec_PoolOk.l0 kq ab ak aj ah af ag ad = some r) ∧ Aside0 (kq ≤ db) ∧ Aside0 (Kd.R (Kd.int .i64) 3 w' w.heap.size (fun _ => True) bD ab) ∧ Aside0 (w'.heap[aX]? = some (.cells #[(.slice aL aj.length aN), .int .i64 ah, (.slice aO af.length aQ), (.slice aR ag.length aU), (.slice aV ad.length aW)] 28 (0, 0))) ∧ Aside0 (Below w.heap.size w w'))
   case atStart => exact ⟨(1), rs, H', ⟨Nat.le_refl _⟩, ⟨ro az⟩, ⟨bk ac⟩, ⟨be1 HB ae⟩⟩
   case round =>
    clear H'
    try clear c1; try clear p2; try clear c4; try clear c8; try clear ce; try clear aJ; try clear aB; try clear ba; try clear p2
    obtain ⟨ak, rfl, HA, cL, az, ac, HB⟩ := hrel
    cases gk with
    | zero => exact absurd HA.out (by simp [spec_PoolOk.l0])
    | succ k2 =>
     have H := HA.out; clear HA; simp only [spec_PoolOk.l0] at H
     by_cases b3 : ak < (ad.length : Int)
     ·rw [if_pos b3] at H; have bZ : decide (ak < (ad.length : Int)) = true := decide_eq_true b3; clear b3; obtain ⟨ao, bf⟩ : ∃ j_ : Int, (wrap64 (ak - 1)) = j_ := ⟨_, rfl⟩; replace H : (if 0 ≤ (ao) then (if (ao) < (ad.length : Int) then (if 0 ≤ ak then (if (rd ad (ao)) ≥ (rd ad ak) then (some false) else (spec_PoolOk.l0 k2 ab (wrap64 (ak + 1)) aj ah af ag ad)) else (none)) else (none)) else (none)) = some r := by first | (rw [bf] at H; exact H) | (simp only [bf] at H ⊢; exact H)
      have cQ : (IntKind.i64.wrap (ak - 1)) = ao := (i64_w _).trans bf
      by_cases co : 0 ≤ (ao)
      ·rw [if_pos co] at H; have cp : decide (0 ≤ (ao)) = true := decide_eq_true co; clear co
       by_cases cs : (ao) < (ad.length : Int)
       ·rw [if_pos cs] at H; have ct : decide ((ao) < (ad.length : Int)) = true := decide_eq_true cs; clear cs
        by_cases cu : 0 ≤ ak
        ·rw [if_pos cu] at H; have cw : decide (0 ≤ ak) = true := decide_eq_true cu; clear cu
         by_cases b4 : (rd ad (ao)) ≥ (rd ad ak)
         ·rw [if_pos b4] at H; have b0 : decide ((rd ad ak) ≤ (rd ad (ao))) = true := decide_eq_true b4; clear b4; obtain rfl := Option.some.inj H; have bF := bz5 ac; have aY : 0 ≤ ((ao) : Int) := od; have aZ : (ao) < (ad.length : Int) := od; obtain ⟨bs, b5, ap⟩ := Kd.at_int aA.out (ao) aY aZ; cases b5; replace ap := hc HB ap; replace aY := eq_true aY; replace aZ := eq_true aZ; have a5 : 0 ≤ (ak : Int) := od; have a6 : ak < (ad.length : Int) := od; obtain ⟨bu, b6, aq⟩ := Kd.at_int aA.out ak a5 a6; obtain rfl : bs = bu := (by injection b6); replace aq := hc HB aq; replace a5 := eq_true a5; replace a6 := eq_true a6
          go_wp2
          repeat (go_quiet (fail); try go_wp2)
          go_ret
          exact ⟨by first | rfl | (simp [errW_none, errW_some] <;> rfl) | (simp only [← bf]; first | rfl | (simp [errW_none, errW_some] <;> rfl)) | (simp [*, errW_none, errW_some] <;> rfl), be1 HB ae⟩
         rw [if_neg b4] at H; have b0 : decide ((rd ad ak) ≤ (rd ad (ao))) = false := decide_eq_false b4; clear b4; have H' := Aside0.mk H; clear H; have bG := bz5 ac; have aY : 0 ≤ ((ao) : Int) := od; have aZ : (ao) < (ad.length : Int) := od; obtain ⟨bs, b5, ap⟩ := Kd.at_int aA.out (ao) aY aZ; cases b5; replace ap := hc HB ap; replace aY := eq_true aY; replace aZ := eq_true aZ; have a5 : 0 ≤ (ak : Int) := od; have a6 : ak < (ad.length : Int) := od; obtain ⟨bu, b6, aq⟩ := Kd.at_int aA.out ak a5 a6; obtain rfl : bs = bu := (by injection b6); replace aq := hc HB aq; replace a5 := eq_true a5; replace a6 := eq_true a6
         go_wp2
         repeat (go_quiet (fail); try go_wp2)
         go_roundg k2
         case measure => have := cK.out; have := cL.out; omega
         case rel => exact ⟨(wrap64 (ak + 1)), rs, H', ⟨by have := cK.out; have := cL.out; omega⟩, ⟨ro az⟩, ⟨bk ac⟩, ⟨be1 HB ae⟩⟩
        rw [if_neg cu] at H; exact absurd H (by simp)
       rw [if_neg cs] at H; exact absurd H (by simp)
      rw [if_neg co] at H; exact absurd H (by simp)
     rw [if_neg b3] at H; have bZ : decide (ak < (ad.length : Int)) = false := decide_eq_false b3; clear b3; have H' := Aside0.mk H; clear H; have bH := bz5 ac; obtain ⟨cx, a7, cS⟩ := Kd.R_slice az.out; subst cS
     go_wp2
     repeat (go_quiet (fail); try go_wp2)
     go_loopg [39] k2 (fun kq dm w' => ∃ (aa : Int), dm = .int .i64 aa ∧ Aside0 (spec_PoolOk.l1 kq ab ab (ab.length : Int) aa = some r) ∧ Aside0 (kq ≤ k2) ∧ Aside0 (Kd.R (Kd.int .i64) 3 w' w.heap.size (fun _ => True) (.slice cx ab.length a7) ab) ∧ Aside0 (Kd.R (Kd.int .i64) 3 w' w.heap.size (fun _ => True) (.slice cx ab.length a7) ab) ∧ Aside0 (w'.heap[aX]? = some (.cells #[(.slice aL aj.length aN), .int .i64 ah, (.slice aO af.length aQ), (.slice aR ag.length aU), (.slice aV ad.length aW)] 28 (0, 0))) ∧ Aside0 (Below w.heap.size w w'))
     case atStart => exact ⟨(0), rs, H', ⟨Nat.le_refl _⟩, ⟨ro az⟩, ⟨ro az⟩, ⟨bk ac⟩, ⟨be1 HB ae⟩⟩
     case round =>
      clear H'
      try clear c1; try clear p1; try clear q1; try clear dv; try clear c2; try clear p2; try clear c4; try clear p6; try clear c8; try clear ce; try clear b3; try clear bZ; try clear co; try clear cp; try clear dw; try clear dx; try clear dn; try clear cs; try clear ct; try clear cu; try clear cw; try clear b4; try clear b0; try clear aJ; try clear bF; try clear bG; try clear bH; try clear aB; try clear ba; try clear ap; try clear aq; try clear aY; try clear a5; try clear p2; try clear aZ; try clear a6
      obtain ⟨aa, rfl, HA, dc, az, a8, ac, HB⟩ := hrel
      cases gk with
      | zero => exact absurd HA.out (by simp [spec_PoolOk.l1])
      | succ k3 =>
       have H := HA.out; clear HA; simp only [spec_PoolOk.l1] at H
       by_cases cf : aa < (ab.length : Int)
       ·rw [if_pos cf] at H; have cy : decide (aa < (ab.length : Int)) = true := decide_eq_true cf; clear cf
        by_cases cM : 0 ≤ aa
        ·rw [if_pos cM] at H; have dd : decide (0 ≤ aa) = true := decide_eq_true cM; clear cM
         by_cases cN : aa < (ab.length : Int)
         ·rw [if_pos cN] at H; have de : decide (aa < (ab.length : Int)) = true := decide_eq_true cN; clear cN
          by_cases cg : (rd ab aa) < 0
          ·rw [if_pos cg] at H; have cz : decide ((rd ab aa) < 0) = true := decide_eq_true cg; clear cg; obtain rfl := Option.some.inj H; have ar : 0 ≤ (aa : Int) := od; have au : aa < (ab.length : Int) := od; obtain ⟨aC, bc, aK⟩ := Kd.at_int (Kd.R_reads' a8.out).2.2 aa ar au; cases bc; replace ar := eq_true ar; replace au := eq_true au
           go_wp2
           repeat (go_quiet (fail); try go_wp2)
           go_ret
           exact ⟨er, be1 HB ae⟩
          rw [if_neg cg] at H; have cz : decide ((rd ab aa) < 0) = false := decide_eq_false cg; clear cg
          by_cases ci : (rd ab aa) ≥ (ab.length : Int)
          ·rw [if_pos ci] at H; have cA : decide ((ab.length : Int) ≤ (rd ab aa)) = true := decide_eq_true ci; clear ci; obtain rfl := Option.some.inj H; have ar : 0 ≤ (aa : Int) := od; have au : aa < (ab.length : Int) := od; obtain ⟨aC, bc, aK⟩ := Kd.at_int (Kd.R_reads' a8.out).2.2 aa ar au; cases bc; replace ar := eq_true ar; replace au := eq_true au
           go_wp2
           repeat (go_quiet (fail); try go_wp2)
           go_ret
           exact ⟨er, be1 HB ae⟩
          rw [if_neg ci] at H; have cA : decide ((ab.length : Int) ≤ (rd ab aa)) = false := decide_eq_false ci; clear ci; have df := eq_true (od : 0 ≤ aa)
          by_cases cC : aa ≤ (ab.length : Int)
          ·rw [if_pos cC] at H; have dg := eq_true cC; have di : decide (aa ≤ (ab.length : Int)) = true := decide_eq_true cC; clear cC; obtain ⟨aD, a9⟩ : ∃ y_ : List Int, y_ = (ab.take (aa : Int).toNat) := ⟨_, rfl⟩; rw [← a9] at H; have bg := Aside0.mk a9; clear a9; obtain ⟨bj, ck, H⟩ := ob H
           try dsimp only at H
           by_cases cO : bj = true
           ·subst cO; rw [if_pos rfl] at H; obtain rfl := Option.some.inj H; have ar : 0 ≤ (aa : Int) := od; have au : aa < (ab.length : Int) := od; obtain ⟨aC, bc, aK⟩ := Kd.at_int (Kd.R_reads' a8.out).2.2 aa ar au; cases bc; replace ar := eq_true ar; replace au := eq_true au; have cU : (aa : Int) ≤ ((ab.length : Int) : Int) := od; obtain ⟨dp, b1, _, cE, _⟩ := info_parts info3; have bh : ab.length ≤ a7 := (Kd.R_reads' az.out).2.1; have cF : Kd.C (Kd.int .i64) _ (some aC) ab.length ab := (Kd.R_reads' az.out).2.2; have b7 := cut_to (P := Try.prog) 23 3 .i64 Try.underlying23 b1 (some aC) ab.length a7 aa (od) cU bh; have b8 := Kd.C_take (m := (aa : Int).toNat) cF (by omega); have b9 : aD.length = (aa : Int).toNat := (by rw [bg.out, List.length_take]; omega); rw [← bg.out] at b8; rw [← b9] at b7; have al := Aside0.mk b8; have aE := Aside0.mk (show aD.length ≤ a7 from by omega); clear b8 cF bh b1 cE; have dq := Aside0.mk b9; clear b9; have dr := Aside0.mk (show (aa : Int).toNat ≤ ab.length from by omega); replace cU := eq_true cU
            go_wp2_with (first | (go_at_call 68; (with_reducible refine (spec_l03Has.calls k3 _ _ aD (rd ab aa) true _ ?side1 ?side2 ck.out).mono ?_); (case side1 => exact cw_ al); (case side2 => exact aE.out); rintro e w' ⟨rfl, ⟨nd, rfl⟩⟩; (try first | exact ⟨rfl, _, World.drewN_drewN _ _ _⟩ | exact ⟨rfl, _, Eq.trans (World.drewN_drewN _ _ _) (congrArg (World.drewN _) (Nat.add_assoc _ _ _))⟩)))
            repeat (go_quiet (first | (go_at_call 68; (with_reducible refine (spec_l03Has.calls k3 _ _ aD (rd ab aa) true _ ?side1 ?side2 ck.out).mono ?_); (case side1 => exact cw_ al); (case side2 => exact aE.out); rintro e w' ⟨rfl, ⟨nd, rfl⟩⟩; (try first | exact ⟨rfl, _, World.drewN_drewN _ _ _⟩ | exact ⟨rfl, _, Eq.trans (World.drewN_drewN _ _ _) (congrArg (World.drewN _) (Nat.add_assoc _ _ _))⟩))); try go_wp2_with (first | (go_at_call 68; (with_reducible refine (spec_l03Has.calls k3 _ _ aD (rd ab aa) true _ ?side1 ?side2 ck.out).mono ?_); (case side1 => exact cw_ al); (case side2 => exact aE.out); rintro e w' ⟨rfl, ⟨nd, rfl⟩⟩; (try first | exact ⟨rfl, _, World.drewN_drewN _ _ _⟩ | exact ⟨rfl, _, Eq.trans (World.drewN_drewN _ _ _) (congrArg (World.drewN _) (Nat.add_assoc _ _ _))⟩))))
            go_ret
            exact ⟨er, be1 HB ae⟩
           replace cO := Bool.eq_false_iff.mpr cO; subst cO; rw [if_neg nf] at H; have H' := Aside0.mk H; clear H; have ar : 0 ≤ (aa : Int) := od; have au : aa < (ab.length : Int) := od; obtain ⟨aC, bc, aK⟩ := Kd.at_int (Kd.R_reads' a8.out).2.2 aa ar au; cases bc; replace ar := eq_true ar; replace au := eq_true au; have cW : (aa : Int) ≤ ((ab.length : Int) : Int) := od; obtain ⟨ds, b2, _, cG, _⟩ := info_parts info3; have bi : ab.length ≤ a7 := (Kd.R_reads' az.out).2.1; have cI : Kd.C (Kd.int .i64) _ (some aC) ab.length ab := (Kd.R_reads' az.out).2.2; have ca := cut_to (P := Try.prog) 23 3 .i64 Try.underlying23 b2 (some aC) ab.length a7 aa (od) cW bi; have cc := Kd.C_take (m := (aa : Int).toNat) cI (by omega); have cd : aD.length = (aa : Int).toNat := (by rw [bg.out, List.length_take]; omega); rw [← bg.out] at cc; rw [← cd] at ca; have al := Aside0.mk cc; have aE := Aside0.mk (show aD.length ≤ a7 from by omega); clear cc cI bi b2 cG; have dt := Aside0.mk cd; clear cd; have du := Aside0.mk (show (aa : Int).toNat ≤ ab.length from by omega); replace cW := eq_true cW
           go_wp2_with (first | (go_at_call 68; (with_reducible refine (spec_l03Has.calls k3 _ _ aD (rd ab aa) false _ ?side1 ?side2 ck.out).mono ?_); (case side1 => exact cw_ al); (case side2 => exact aE.out); rintro e w' ⟨rfl, ⟨nd, rfl⟩⟩; (try first | exact ⟨rfl, _, World.drewN_drewN _ _ _⟩ | exact ⟨rfl, _, Eq.trans (World.drewN_drewN _ _ _) (congrArg (World.drewN _) (Nat.add_assoc _ _ _))⟩)))
           repeat (go_quiet (first | (go_at_call 68; (with_reducible refine (spec_l03Has.calls k3 _ _ aD (rd ab aa) false _ ?side1 ?side2 ck.out).mono ?_); (case side1 => exact cw_ al); (case side2 => exact aE.out); rintro e w' ⟨rfl, ⟨nd, rfl⟩⟩; (try first | exact ⟨rfl, _, World.drewN_drewN _ _ _⟩ | exact ⟨rfl, _, Eq.trans (World.drewN_drewN _ _ _) (congrArg (World.drewN _) (Nat.add_assoc _ _ _))⟩))); try go_wp2_with (first | (go_at_call 68; (with_reducible refine (spec_l03Has.calls k3 _ _ aD (rd ab aa) false _ ?side1 ?side2 ck.out).mono ?_); (case side1 => exact cw_ al); (case side2 => exact aE.out); rintro e w' ⟨rfl, ⟨nd, rfl⟩⟩; (try first | exact ⟨rfl, _, World.drewN_drewN _ _ _⟩ | exact ⟨rfl, _, Eq.trans (World.drewN_drewN _ _ _) (congrArg (World.drewN _) (Nat.add_assoc _ _ _))⟩))))
           go_roundg k3
           case measure => have := cK.out; have := cL.out; have := dc.out; omega
           case rel => exact ⟨(wrap64 (aa + 1)), rs, H', ⟨by have := cK.out; have := cL.out; have := dc.out; omega⟩, ⟨ro az⟩, ⟨ro a8⟩, ⟨bk ac⟩, ⟨be1 HB ae⟩⟩
          rw [if_neg cC] at H; exact absurd H (by simp)
         rw [if_neg cN] at H; exact absurd H (by simp)
        rw [if_neg cM] at H; exact absurd H (by simp)
       rw [if_neg cf] at H; have cy : decide (aa < (ab.length : Int)) = false := decide_eq_false cf; clear cf; obtain rfl := Option.some.inj H
       go_wp2
       repeat (go_quiet (fail); try go_wp2)
       go_ret
       exact ⟨er, be1 HB ae⟩

end Go.Proofs.Ytgkliacflbenfaa.QFnAges
