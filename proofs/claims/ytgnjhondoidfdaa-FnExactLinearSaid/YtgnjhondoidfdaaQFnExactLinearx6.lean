-- made by a program of this session (myprint.py)
import Derived.Test.YtgnjhondoidfdaaQFnExactLinearx0
import Derived.Test.YtgnjhondoidfdaaQFnExactLinearx5
namespace Go.Proofs.Ytgnjhondoidfdaa.QFnExactLinear
open Go.RowKit Go.Proofs.YtgnjhondoidfdaaW.PrintWords Go.Proofs.YtgnjhondoidfdaaW.PrintLast Go.Proofs.YtgnjhondoidfdaaW.PrintMore
attribute [local go_sem] max2_int min2_int max_two min_two max_three min_three max_four min_four   -- for this text's walks alone
set_option linter.unusedVariables false
set_option linter.unusedSimpArgs false

/-! ### impl_StApply: function 18 -/
mutual
def impl_StApply.j0 : Nat → List Int → Bool → Int → Int → Int → Int → Int → Int → Int → Int → Option (List Int × Bool)
 | 0, _, _, _, _, _, _, _, _, _, _ => none
 | k + 1, x0, x6, ar, ag, ak, ah, al, au, av, aw => if x6 = true then ((some (([ak] : List Int) : List Int)).bind fun az => (if az.length + x0.length < 17592186044416 then (some ((az ++ x0), true)) else (none))) else (if ag = 1 then (impl_StApply.j1 k x0 (ah == 4) ar ag ak ah al au av aw) else (impl_StApply.j1 k x0 false ar ag ak ah al au av aw))
def impl_StApply.j1 : Nat → List Int → Bool → Int → Int → Int → Int → Int → Int → Int → Int → Option (List Int × Bool)
 | 0, _, _, _, _, _, _, _, _, _, _ => none
 | k + 1, x0, e3, ar, ag, ak, ah, al, au, av, aw => if e3 = true then (impl_StApply.j2 k x0 e3 ar ag ak ah al au av aw) else (if ag = 2 then (if ah = 2 then (impl_StApply.j2 k x0 ((x0.length : Int) == 0) ar ag ak ah al au av aw) else (impl_StApply.j2 k x0 false ar ag ak ah al au av aw)) else (impl_StApply.j2 k x0 false ar ag ak ah al au av aw))
def impl_StApply.j2 : Nat → List Int → Bool → Int → Int → Int → Int → Int → Int → Int → Int → Option (List Int × Bool)
 | 0, _, _, _, _, _, _, _, _, _, _ => none
 | k + 1, x0, e3, ar, ag, ak, ah, al, au, av, aw => if e3 = true then ((impl_copyInts.f x0).bind fun aH => (some (aH, true))) else (if ag = 2 then (if ah = 1 then (if (x0.length : Int) > 0 then (if 0 < (x0.length : Int) then (if (rd x0 0) = al then (if 1 ≤ (x0.length : Int) then ((impl_copyInts.f (x0.drop 1)).bind fun aI => (some (aI, true))) else (none)) else (some (([] : List Int), false))) else (none)) else (some (([] : List Int), false))) else (some (([] : List Int), false))) else (some (([] : List Int), false)))
end
def impl_StApply.f (k : Nat) (l0 : List Int) (ao : Int) (ac : Int) (ae : Int) (ad : Int) (ai : Int) (ap : Int) (aq : Int) (af : Int) : Option (List Int × Bool) := if ac = 1 then (impl_StApply.j0 k l0 (ad == 1) ao ac ae ad ai ap aq af) else (impl_StApply.j0 k l0 false ao ac ae ad ai ap aq af)
theorem impl_StApply.mono_l : ∀ k, (∀ y0 y1 y2 y3 y4 y5 y6 y7 y8 y9, LeO (impl_StApply.j0 k y0 y1 y2 y3 y4 y5 y6 y7 y8 y9) (impl_StApply.j0 (k + 1) y0 y1 y2 y3 y4 y5 y6 y7 y8 y9)) ∧ (∀ y0 y1 y2 y3 y4 y5 y6 y7 y8 y9, LeO (impl_StApply.j1 k y0 y1 y2 y3 y4 y5 y6 y7 y8 y9) (impl_StApply.j1 (k + 1) y0 y1 y2 y3 y4 y5 y6 y7 y8 y9)) ∧ (∀ y0 y1 y2 y3 y4 y5 y6 y7 y8 y9, LeO (impl_StApply.j2 k y0 y1 y2 y3 y4 y5 y6 y7 y8 y9) (impl_StApply.j2 (k + 1) y0 y1 y2 y3 y4 y5 y6 y7 y8 y9))
 | 0 => ⟨fun _ _ _ _ _ _ _ _ _ _ r h => by simp [impl_StApply.j0] at h, fun _ _ _ _ _ _ _ _ _ _ r h => by simp [impl_StApply.j1] at h, fun _ _ _ _ _ _ _ _ _ _ r h => by simp [impl_StApply.j2] at h⟩
 | k + 1 => by
  obtain ⟨cZ, da, db⟩ := impl_StApply.mono_l k; refine ⟨?_, ?_, ?_⟩
  ·intro y0 y1 y2 y3 y4 y5 y6 y7 y8 y9; unfold impl_StApply.j0
   repeat' first | (with_reducible first | apply cZ | apply da | apply db | apply lr | apply ln | apply li | refine lb ?_ fun _ => ?_) | apply cZ | apply da | apply db | apply ln | apply li | refine lb ?_ fun _ => ?_
  ·intro y0 y1 y2 y3 y4 y5 y6 y7 y8 y9; unfold impl_StApply.j1
   repeat' first | (with_reducible first | apply cZ | apply da | apply db | apply lr | apply ln | apply li | refine lb ?_ fun _ => ?_) | apply cZ | apply da | apply db | apply ln | apply li | refine lb ?_ fun _ => ?_
  intro y0 y1 y2 y3 y4 y5 y6 y7 y8 y9; unfold impl_StApply.j2
  repeat' first | (with_reducible first | apply cZ | apply da | apply db | apply lr | apply ln | apply li | refine lb ?_ fun _ => ?_) | apply cZ | apply da | apply db | apply ln | apply li | refine lb ?_ fun _ => ?_
theorem impl_StApply.mono : ∀ a0 a1 a2 a3 a4 a5 a6 a7 a8 k, LeO (impl_StApply.f k a0 a1 a2 a3 a4 a5 a6 a7 a8) (impl_StApply.f (k + 1) a0 a1 a2 a3 a4 a5 a6 a7 a8) := by
 intro a0 a1 a2 a3 a4 a5 a6 a7 a8 k; obtain ⟨cZ, da, db⟩ := impl_StApply.mono_l k; unfold impl_StApply.f
 repeat' first | (with_reducible first | apply cZ | apply da | apply db | apply lr | apply ln | apply li | refine lb ?_ fun _ => ?_) | apply cZ | apply da | apply db | apply ln | apply li | refine lb ?_ fun _ => ?_
set_option maxHeartbeats 8000000 in
set_option maxRecDepth 100000 in
theorem impl_StApply.calls (k : Nat) (A0 : Option Addr) (c0 : Nat) (l0 : List Int) (ao : Int) (ac : Int) (ae : Int) (ad : Int) (ai : Int) (ap : Int) (aq : Int) (af : Int) (r1 : List Int) (r2 : Bool) (w : World) (gG : Kd.C (Kd.int .i64) w A0 l0.length l0) (gH : l0.length ≤ c0) (h : impl_StApply.f k l0 ao ac ae ad ai ap aq af = some (r1, r2)) :
  Calls Try.prog 18 #[.slice A0 l0.length c0, .agg #[.int .i64 ao, .int .i64 ac, .int .i64 ae, .int .i64 ad, .int .i64 ai, .int .i64 ap, .int .i64 aq, .int .i64 af]] w fun e w' => ∃ gI : Value, e = .returned (.tuple #[gI, .bool r2]) ∧ Kd.R (Kd.int .i64) 3 w' w.heap.size (fun _ => True) gI r1 ∧ Below w.heap.size w w' := by
 have hu38 := Try.underlying38; have dc := Aside0.mk gG; have e4 := Aside0.mk gH; clear gG gH; have HB := Aside0.mk (Below.refl w.heap.size w); have H : (if ac = 1 then (impl_StApply.j0 k l0 (ad == 1) ao ac ae ad ai ap aq af) else (impl_StApply.j0 k l0 false ao ac ae ad ai ap aq af)) = some (r1, r2) := h; clear h; have gv := Aside0.mk H; clear H
 go_enter Try.func18, Try.ntmps18
 go_upto_region 1 with (first | ((with_reducible refine gate_dst (N := 3) rfl ?_); (try (refine gate_guard (by rfl) ?_; dsimp only)); refine bx 3 #[.int .i64 ao, .int .i64 ac, .int .i64 ae, .int .i64 ad, .int .i64 ai, .int .i64 ap, .int .i64 aq, .int .i64 af] 38 ?_; intro aj hg w4 hbox hb; have aa := am hbox; have ek := gs0 hg HB; have ab := gs0 hg HB; replace HB := s0 HB hb; clear hb hbox hg))
 repeat (go_quiet (first | ((with_reducible refine gate_dst (N := 3) rfl ?_); (try (refine gate_guard (by rfl) ?_; dsimp only)); refine bx 3 #[.int .i64 ao, .int .i64 ac, .int .i64 ae, .int .i64 ad, .int .i64 ai, .int .i64 ap, .int .i64 aq, .int .i64 af] 38 ?_; intro aj hg w4 hbox hb; have aa := am hbox; have ek := gs0 hg HB; have ab := gs0 hg HB; replace HB := s0 HB hb; clear hb hbox hg)); go_upto_region 1 with (first | ((with_reducible refine gate_dst (N := 3) rfl ?_); (try (refine gate_guard (by rfl) ?_; dsimp only)); refine bx 3 #[.int .i64 ao, .int .i64 ac, .int .i64 ae, .int .i64 ad, .int .i64 ai, .int .i64 ap, .int .i64 aq, .int .i64 af] 38 ?_; intro aj hg w4 hbox hb; have aa := am hbox; have ek := gs0 hg HB; have ab := gs0 hg HB; replace HB := s0 HB hb; clear hb hbox hg)))
 (try simp only [Act.put, List.setIfInBounds_toArray, List.set_cons_zero, List.set_cons_succ])
 go_cut [6] (fun v6 wc => ∃ (kq : Nat) (dd : Bool), v6 = .bool dd ∧ Aside0 (impl_StApply.j0 kq l0 dd ao ac ae ad ai ap aq af = some (r1, r2)) ∧ Aside0 (kq ≤ k) ∧ Aside0 (wc.heap[aj]? = some (.cells #[.int .i64 ao, .int .i64 ac, .int .i64 ae, .int .i64 ad, .int .i64 ai, .int .i64 ap, .int .i64 aq, .int .i64 af] 38 (0, 0))) ∧ Aside0 (Below w.heap.size w wc))
 case first =>
  have H := gv.out; clear gv
  by_cases c5 : ac = 1
  ·rw [if_pos c5] at H; have aJ : (ac == 1) = true := beq_iff_eq.mpr c5; have de : (ac != 1) = false := bne_eq_false_iff_eq.mpr c5; clear c5; (first | rw [aJ] | (simp only [i64_w, i32_w]; rw [aJ]) | skip); have H' := Aside0.mk H; clear H; have aU := bc0 aa; have aV := bc1 aa; have aW := bc2 aa; have aX := bc3 aa; have aY := bc4 aa; have aZ := bc5 aa; have a9 := bc6 aa; have ba : w4.cell? ⟨aj, 7, none⟩ = some (.int .i64 af) := (blk_cell aa.out 7).trans rfl; have bc := blk_frozen aa.out 0; have bd := blk_frozen aa.out 1; have bf := blk_frozen aa.out 2; have bg := blk_frozen aa.out 3; have bh := blk_frozen aa.out 4; have bi := blk_frozen aa.out 5; have bj := blk_frozen aa.out 6; have bm := blk_frozen aa.out 7
   go_wp2
   repeat (go_quiet (fail); try go_wp2)
   go_meet
   case rel => exact ⟨_, ((ad == 1)), rs, H', ⟨by first | omega | exact Nat.le_refl _⟩, ⟨bk aa⟩, ⟨be1 HB ab⟩⟩
  rw [if_neg c5] at H; have aJ : (ac == 1) = false := beq_eq_false_iff_ne.mpr c5; have de : (ac != 1) = true := bne_iff_ne.mpr c5; (first | rw [aJ] | (simp only [i64_w, i32_w]; rw [aJ]) | skip); have H' := Aside0.mk H; clear H; have bn := bc0 aa; have bo := bc1 aa; have bq := bc2 aa; have br := bc3 aa; have bs := bc4 aa; have bu := bc5 aa; have bw := bc6 aa; have bz : w4.cell? ⟨aj, 7, none⟩ = some (.int .i64 af) := (blk_cell aa.out 7).trans rfl; have bA := blk_frozen aa.out 0; have bC := blk_frozen aa.out 1; have bD := blk_frozen aa.out 2; have bF := blk_frozen aa.out 3; have bG := blk_frozen aa.out 4; have bH := blk_frozen aa.out 5; have bI := blk_frozen aa.out 6; have bJ := blk_frozen aa.out 7
  go_wp2
  repeat (go_quiet (fail); try go_wp2)
  go_meet
  case rel => exact ⟨_, (false), rs, H', ⟨by first | omega | exact Nat.le_refl _⟩, ⟨bk aa⟩, ⟨be1 HB ab⟩⟩
 case rest =>
  clear gv
  try clear c1; try clear p2; try clear c5; try clear aJ; try clear de; try clear aU; try clear aV; try clear aW; try clear aX; try clear aY; try clear aZ; try clear a9; try clear ba; try clear bn; try clear bo; try clear bq; try clear br; try clear bs; try clear bu; try clear bw; try clear bz; try clear bc; try clear bd; try clear bf; try clear bg; try clear bh; try clear bi; try clear bj; try clear bm; try clear bA; try clear bC; try clear bD; try clear bF; try clear bG; try clear bH; try clear bI; try clear bJ
  obtain ⟨kq, dd, rfl, HA, eF, aa, HB⟩ := hcut
  cases kq with
  | zero => exact absurd HA.out (by simp [impl_StApply.j0])
  | succ gw =>
   have H := HA.out; clear HA; simp only [impl_StApply.j0] at H
   by_cases c8 : dd = true
   ·subst c8; rw [if_pos rfl] at H; obtain ⟨az, aK, H⟩ := oy H; have aC := Aside0.mk aK; clear aK
    by_cases c9 : az.length + l0.length < 17592186044416
    ·rw [if_pos c9] at H; have ew := Aside0.mk c9; clear c9; obtain ⟨gx, aN⟩ : ∃ y_ : List Int, y_ = (az ++ l0) := ⟨_, rfl⟩; rw [← aN] at H; have cO := Aside0.mk aN; clear aN; simp only [Option.some.injEq, Prod.mk.injEq] at H; obtain ⟨rfl, rfl⟩ := H; have bO := bc0 aa; have bQ := bc1 aa; have bR := bc2 aa; have bS := bc3 aa; have bU := bc4 aa; have bW := bc5 aa; have bZ := bc6 aa; have b0 : wc.cell? ⟨aj, 7, none⟩ = some (.int .i64 af) := (blk_cell aa.out 7).trans rfl; have b1 := blk_frozen aa.out 0; have b2 := blk_frozen aa.out 1; have b3 := blk_frozen aa.out 2; have b4 := blk_frozen aa.out 3; have b5 := blk_frozen aa.out 4; have b6 := blk_frozen aa.out 5; have b7 := blk_frozen aa.out 6; have b8 := blk_frozen aa.out 7
     go_wp2_with (first | ((with_reducible refine gate_dst (N := 17) rfl ?_); (try (refine gate_guard (by rfl) ?_; dsimp only)); refine Kd.R_lit (Kd.int .i64) _ 3 ?hg (N := 17) ?hd (xs := ([ae] : List Int)) (inner := [.int .i64 ae]) (ok := fun _ => True) (okp := fun _ => True) ?hr ?hp (fun _ hk => hk) trivial (Below.refl _ _) (Nat.le_refl _) (by simp) ?_; (case hd => rfl); (case hg => rfl); (case hr => first | (go_simp; done) | (go_simp; rfl)); (case hp => exact (Reps.one (show Kd.M (Kd.int .i64) _ _ _ ae [.int .i64 ae] from rfl) (Reps.none _ _))); intro cP gJ ax hb hg_ hnew_; clear hg_ hnew_; (first | rw [← aC.out] at ax | (simp only [Int.reduceToNat] at ax; rw [← aC.out] at ax)); have ay := rl1 ax HB ab; replace aa := bb aa hb; replace HB := s1 HB ab hb; clear hb ax) | ((with_reducible refine gate_builtin (b := .append) (xs := #[.tmp 17, .tmp 18]) rfl ?_); (try (refine gate_guard (by rfl) ?_; dsimp only)); at_builtin; refine Kd.R_append_rows (Kd.int .i64) (w0 := w) w.heap.size rfl (.tmp 17) (.tmp 18) 22 3 (.int .i64 0) 8 rfl Try.underlying22 info3 rfl (by decide) (by omega) cP az l0 _ _ _ (fun _ => True) (fun _ => False) rfl rfl ?aO ?aR (fun _ _ h => h) (fun _ h => h.elim) ?aF ?aB ?aS ?aL ?_; (case aR => exact cb dc HB); (case aB => exact (be1 HB ab)); (case aF => exact (fun _ _ => trivial)); (case aO => exact (ro ay)); (case aS => exact (below_size (be1 HB ab))); (case aL => have := ew.out; omega); intro eH gK ho hb hg hat; rw [← cO.out] at ho; replace aa := bgr aa hg (Kd.R_ne ay.out aa.out (by decide)); replace HB := Aside0.mk (hb); have cQ := Aside0.mk (ho); clear ay; clear ho hb hg hat))
     repeat (go_quiet (first | ((with_reducible refine gate_dst (N := 17) rfl ?_); (try (refine gate_guard (by rfl) ?_; dsimp only)); refine Kd.R_lit (Kd.int .i64) _ 3 ?hg (N := 17) ?hd (xs := ([ae] : List Int)) (inner := [.int .i64 ae]) (ok := fun _ => True) (okp := fun _ => True) ?hr ?hp (fun _ hk => hk) trivial (Below.refl _ _) (Nat.le_refl _) (by simp) ?_; (case hd => rfl); (case hg => rfl); (case hr => first | (go_simp; done) | (go_simp; rfl)); (case hp => exact (Reps.one (show Kd.M (Kd.int .i64) _ _ _ ae [.int .i64 ae] from rfl) (Reps.none _ _))); intro cP gJ ax hb hg_ hnew_; clear hg_ hnew_; (first | rw [← aC.out] at ax | (simp only [Int.reduceToNat] at ax; rw [← aC.out] at ax)); have ay := rl1 ax HB ab; replace aa := bb aa hb; replace HB := s1 HB ab hb; clear hb ax) | ((with_reducible refine gate_builtin (b := .append) (xs := #[.tmp 17, .tmp 18]) rfl ?_); (try (refine gate_guard (by rfl) ?_; dsimp only)); at_builtin; refine Kd.R_append_rows (Kd.int .i64) (w0 := w) w.heap.size rfl (.tmp 17) (.tmp 18) 22 3 (.int .i64 0) 8 rfl Try.underlying22 info3 rfl (by decide) (by omega) cP az l0 _ _ _ (fun _ => True) (fun _ => False) rfl rfl ?aO ?aR (fun _ _ h => h) (fun _ h => h.elim) ?aF ?aB ?aS ?aL ?_; (case aR => exact cb dc HB); (case aB => exact (be1 HB ab)); (case aF => exact (fun _ _ => trivial)); (case aO => exact (ro ay)); (case aS => exact (below_size (be1 HB ab))); (case aL => have := ew.out; omega); intro eH gK ho hb hg hat; rw [← cO.out] at ho; replace aa := bgr aa hg (Kd.R_ne ay.out aa.out (by decide)); replace HB := Aside0.mk (hb); have cQ := Aside0.mk (ho); clear ay; clear ho hb hg hat)); try go_wp2_with (first | ((with_reducible refine gate_dst (N := 17) rfl ?_); (try (refine gate_guard (by rfl) ?_; dsimp only)); refine Kd.R_lit (Kd.int .i64) _ 3 ?hg (N := 17) ?hd (xs := ([ae] : List Int)) (inner := [.int .i64 ae]) (ok := fun _ => True) (okp := fun _ => True) ?hr ?hp (fun _ hk => hk) trivial (Below.refl _ _) (Nat.le_refl _) (by simp) ?_; (case hd => rfl); (case hg => rfl); (case hr => first | (go_simp; done) | (go_simp; rfl)); (case hp => exact (Reps.one (show Kd.M (Kd.int .i64) _ _ _ ae [.int .i64 ae] from rfl) (Reps.none _ _))); intro cP gJ ax hb hg_ hnew_; clear hg_ hnew_; (first | rw [← aC.out] at ax | (simp only [Int.reduceToNat] at ax; rw [← aC.out] at ax)); have ay := rl1 ax HB ab; replace aa := bb aa hb; replace HB := s1 HB ab hb; clear hb ax) | ((with_reducible refine gate_builtin (b := .append) (xs := #[.tmp 17, .tmp 18]) rfl ?_); (try (refine gate_guard (by rfl) ?_; dsimp only)); at_builtin; refine Kd.R_append_rows (Kd.int .i64) (w0 := w) w.heap.size rfl (.tmp 17) (.tmp 18) 22 3 (.int .i64 0) 8 rfl Try.underlying22 info3 rfl (by decide) (by omega) cP az l0 _ _ _ (fun _ => True) (fun _ => False) rfl rfl ?aO ?aR (fun _ _ h => h) (fun _ h => h.elim) ?aF ?aB ?aS ?aL ?_; (case aR => exact cb dc HB); (case aB => exact (be1 HB ab)); (case aF => exact (fun _ _ => trivial)); (case aO => exact (ro ay)); (case aS => exact (below_size (be1 HB ab))); (case aL => have := ew.out; omega); intro eH gK ho hb hg hat; rw [← cO.out] at ho; replace aa := bgr aa hg (Kd.R_ne ay.out aa.out (by decide)); replace HB := Aside0.mk (hb); have cQ := Aside0.mk (ho); clear ay; clear ho hb hg hat)))
     go_ret2
     exact ⟨_, er, (ro cQ), be1 HB ab⟩
    rw [if_neg c9] at H; exact absurd H (by simp)
   replace c8 := Bool.eq_false_iff.mpr c8; subst c8; rw [if_neg nf] at H; have ey := Aside0.mk H; clear H
   go_upto_region 3 with (fail)
   repeat (go_quiet (fail); go_upto_region 3 with (fail))
   go_cut [20] (fun gy wc => ∃ (kq : Nat) (aE : Bool), gy = .bool aE ∧ Aside0 (impl_StApply.j1 kq l0 aE ao ac ae ad ai ap aq af = some (r1, r2)) ∧ Aside0 (kq ≤ gw) ∧ Aside0 (wc.heap[aj]? = some (.cells #[.int .i64 ao, .int .i64 ac, .int .i64 ae, .int .i64 ad, .int .i64 ai, .int .i64 ap, .int .i64 aq, .int .i64 af] 38 (0, 0))) ∧ Aside0 (Below w.heap.size w wc))
   case first =>
    have H := ey.out; clear ey
    by_cases df : ac = 1
    ·rw [if_pos df] at H; have aA : (ac == 1) = true := beq_iff_eq.mpr df; have cS : (ac != 1) = false := bne_eq_false_iff_eq.mpr df; clear df; (first | rw [aA] | (simp only [i64_w, i32_w]; rw [aA]) | skip); have H' := Aside0.mk H; clear H; have b9 := bc0 aa; have ca := bc1 aa; have cc := bc2 aa; have cd := bc3 aa; have ce := bc4 aa; have cf := bc5 aa; have cg := bc6 aa; have ci : wc.cell? ⟨aj, 7, none⟩ = some (.int .i64 af) := (blk_cell aa.out 7).trans rfl; have ck := blk_frozen aa.out 0; have cl := blk_frozen aa.out 1; have cm := blk_frozen aa.out 2; have cn := blk_frozen aa.out 3; have co := blk_frozen aa.out 4; have cp := blk_frozen aa.out 5; have cs := blk_frozen aa.out 6; have ct := blk_frozen aa.out 7
     go_wp2
     repeat (go_quiet (fail); try go_wp2)
     go_meet
     case rel => exact ⟨_, ((ad == 4)), rs, H', ⟨by have := eF.out; first | omega | exact Nat.le_refl _⟩, ⟨bk aa⟩, ⟨be1 HB ab⟩⟩
    rw [if_neg df] at H; have aA : (ac == 1) = false := beq_eq_false_iff_ne.mpr df; have cS : (ac != 1) = true := bne_iff_ne.mpr df; (first | rw [aA] | (simp only [i64_w, i32_w]; rw [aA]) | skip); have H' := Aside0.mk H; clear H; have cu := bc0 aa; have cw := bc1 aa; have cx := bc2 aa; have cy := bc3 aa; have cz := bc4 aa; have cA := bc5 aa; have cC := bc6 aa; have cD : wc.cell? ⟨aj, 7, none⟩ = some (.int .i64 af) := (blk_cell aa.out 7).trans rfl; have cE := blk_frozen aa.out 0; have cF := blk_frozen aa.out 1; have cG := blk_frozen aa.out 2; have cI := blk_frozen aa.out 3; have cK := blk_frozen aa.out 4; have cL := blk_frozen aa.out 5; have cM := blk_frozen aa.out 6; have cN := blk_frozen aa.out 7
    go_wp2
    repeat (go_quiet (fail); try go_wp2)
    go_meet
    case rel => exact ⟨_, (false), rs, H', ⟨by have := eF.out; first | omega | exact Nat.le_refl _⟩, ⟨bk aa⟩, ⟨be1 HB ab⟩⟩
   case rest =>
    clear ey
    try clear c1; try clear p2; try clear c5; try clear aJ; try clear de; try clear c8; try clear c9; try clear df; try clear aA; try clear cS; try clear bO; try clear bQ; try clear bR; try clear bS; try clear bU; try clear bW; try clear bZ; try clear b0; try clear b9; try clear ca; try clear cc; try clear cd; try clear ce; try clear cf; try clear cg; try clear ci; try clear cu; try clear cw; try clear cx; try clear cy; try clear cz; try clear cA; try clear cC; try clear cD; try clear aU; try clear aV; try clear aW; try clear aX; try clear aY; try clear aZ; try clear a9; try clear ba; try clear bn; try clear bo; try clear bq; try clear br; try clear bs; try clear bu; try clear bw; try clear bz; try clear b1; try clear b2; try clear b3; try clear b4; try clear b5; try clear b6; try clear b7; try clear b8; try clear ck; try clear cl; try clear cm; try clear cn; try clear co; try clear cp; try clear cs; try clear ct; try clear cE; try clear cF; try clear cG; try clear cI; try clear cK; try clear cL; try clear cM; try clear cN; try clear bc; try clear bd; try clear bf; try clear bg; try clear bh; try clear bi; try clear bj; try clear bm; try clear bA; try clear bC; try clear bD; try clear bF; try clear bG; try clear bH; try clear bI; try clear bJ; try clear p2
    obtain ⟨kq, aE, rfl, HA, dg, aa, HB⟩ := hcut
    cases kq with
    | zero => exact absurd HA.out (by simp [impl_StApply.j1])
    | succ cT =>
     have H := HA.out; clear HA; simp only [impl_StApply.j1] at H; have ez := Aside0.mk H; clear H
     go_upto_if 20 with (fail)
     repeat (go_quiet (fail); go_upto_if 20 with (fail))
     go_cut [20] (fun gy wc => ∃ (kq : Nat) (aG : Bool), gy = .bool aG ∧ Aside0 (impl_StApply.j2 kq l0 aG ao ac ae ad ai ap aq af = some (r1, r2)) ∧ Aside0 (kq ≤ cT) ∧ Aside0 (wc.heap[aj]? = some (.cells #[.int .i64 ao, .int .i64 ac, .int .i64 ae, .int .i64 ad, .int .i64 ai, .int .i64 ap, .int .i64 aq, .int .i64 af] 38 (0, 0))) ∧ Aside0 (Below w.heap.size w wc))
     case first =>
      have H := ez.out; clear ez
      by_cases eI : aE = true
      ·subst eI; rw [if_pos rfl] at H; have H' := Aside0.mk H; clear H
       go_wp2
       repeat (go_quiet (fail); try go_wp2)
       go_meet
       case rel => exact ⟨_, (true), rs, H', ⟨by have := eF.out; have := dg.out; first | omega | exact Nat.le_refl _⟩, ⟨bk aa⟩, ⟨be1 HB ab⟩⟩
      replace eI := Bool.eq_false_iff.mpr eI; subst eI; rw [if_neg nf] at H
      by_cases el : ac = 2
      ·rw [if_pos el] at H; have aD : (ac == 2) = true := beq_iff_eq.mpr el; have em : (ac != 2) = false := bne_eq_false_iff_eq.mpr el; clear el; (first | rw [aD] | (simp only [i64_w, i32_w]; rw [aD]) | skip)
       by_cases en : ad = 2
       ·rw [if_pos en] at H; have eo : (ad == 2) = true := beq_iff_eq.mpr en; have ep : (ad != 2) = false := bne_eq_false_iff_eq.mpr en; clear en; have H' := Aside0.mk H; clear H; have di := bc0 aa; have dj := bc1 aa; have dl := bc2 aa; have dm := bc3 aa; have dn := bc4 aa; have dp := bc5 aa; have dq := bc6 aa; have dr : wc.cell? ⟨aj, 7, none⟩ = some (.int .i64 af) := (blk_cell aa.out 7).trans rfl; have ds := blk_frozen aa.out 0; have dt := blk_frozen aa.out 1; have du := blk_frozen aa.out 2; have dv := blk_frozen aa.out 3; have dw := blk_frozen aa.out 4; have dx := blk_frozen aa.out 5; have dy := blk_frozen aa.out 6; have dA := blk_frozen aa.out 7
        go_wp2
        repeat (go_quiet (fail); try go_wp2)
        go_meet
        case rel => exact ⟨_, (((l0.length : Int) == 0)), rs, H', ⟨by have := eF.out; have := dg.out; first | omega | exact Nat.le_refl _⟩, ⟨bk aa⟩, ⟨be1 HB ab⟩⟩
       rw [if_neg en] at H; have eo : (ad == 2) = false := beq_eq_false_iff_ne.mpr en; have ep : (ad != 2) = true := bne_iff_ne.mpr en; have H' := Aside0.mk H; clear H; have dC := bc0 aa; have dD := bc1 aa; have dE := bc2 aa; have dF := bc3 aa; have dG := bc4 aa; have dI := bc5 aa; have dJ := bc6 aa; have dL : wc.cell? ⟨aj, 7, none⟩ = some (.int .i64 af) := (blk_cell aa.out 7).trans rfl; have dM := blk_frozen aa.out 0; have dN := blk_frozen aa.out 1; have dP := blk_frozen aa.out 2; have dS := blk_frozen aa.out 3; have dT := blk_frozen aa.out 4; have dU := blk_frozen aa.out 5; have dV := blk_frozen aa.out 6; have dW := blk_frozen aa.out 7
       go_wp2
       repeat (go_quiet (fail); try go_wp2)
       go_meet
       case rel => exact ⟨_, (false), rs, H', ⟨by have := eF.out; have := dg.out; first | omega | exact Nat.le_refl _⟩, ⟨bk aa⟩, ⟨be1 HB ab⟩⟩
      rw [if_neg el] at H; have aD : (ac == 2) = false := beq_eq_false_iff_ne.mpr el; have em : (ac != 2) = true := bne_iff_ne.mpr el; (first | rw [aD] | (simp only [i64_w, i32_w]; rw [aD]) | skip); have H' := Aside0.mk H; clear H; have dX := bc0 aa; have dY := bc1 aa; have d6 := bc2 aa; have d7 := bc3 aa; have d8 := bc4 aa; have d9 := bc5 aa; have ea := bc6 aa; have eb : wc.cell? ⟨aj, 7, none⟩ = some (.int .i64 af) := (blk_cell aa.out 7).trans rfl; have ec := blk_frozen aa.out 0; have ed := blk_frozen aa.out 1; have ee := blk_frozen aa.out 2; have ef := blk_frozen aa.out 3; have eg := blk_frozen aa.out 4; have eh := blk_frozen aa.out 5; have ei := blk_frozen aa.out 6; have ej := blk_frozen aa.out 7
      go_wp2
      repeat (go_quiet (fail); try go_wp2)
      go_meet
      case rel => exact ⟨_, (false), rs, H', ⟨by have := eF.out; have := dg.out; first | omega | exact Nat.le_refl _⟩, ⟨bk aa⟩, ⟨be1 HB ab⟩⟩
     case rest =>
      clear ez
      try clear c1; try clear c2; try clear p2; try clear c5; try clear aJ; try clear de; try clear c8; try clear c9; try clear df; try clear aA; try clear cS; try clear gY; try clear eI; try clear el; try clear aD; try clear em; try clear en; try clear eo; try clear ep; try clear bO; try clear bQ; try clear bR; try clear bS; try clear bU; try clear bW; try clear bZ; try clear b0; try clear b9; try clear ca; try clear cc; try clear cd; try clear ce; try clear cf; try clear cg; try clear ci; try clear cu; try clear cw; try clear cx; try clear cy; try clear cz; try clear cA; try clear cC; try clear cD; try clear di; try clear dj; try clear dl; try clear dm; try clear dn; try clear dp; try clear dq; try clear dr; try clear dC; try clear dD; try clear dE; try clear dF; try clear dG; try clear dI; try clear dJ; try clear dL; try clear dX; try clear dY; try clear d6; try clear d7; try clear d8; try clear d9; try clear ea; try clear eb; try clear aU; try clear aV; try clear aW; try clear aX; try clear aY; try clear aZ; try clear a9; try clear ba; try clear bn; try clear bo; try clear bq; try clear br; try clear bs; try clear bu; try clear bw; try clear bz; try clear b1; try clear b2; try clear b3; try clear b4; try clear b5; try clear b6; try clear b7; try clear b8; try clear ck; try clear cl; try clear cm; try clear cn; try clear co; try clear cp; try clear cs; try clear ct; try clear cE; try clear cF; try clear cG; try clear cI; try clear cK; try clear cL; try clear cM; try clear cN; try clear ds; try clear dt; try clear du; try clear dv; try clear dw; try clear dx; try clear dy; try clear dA; try clear dM; try clear dN; try clear dP; try clear dS; try clear dT; try clear dU; try clear dV; try clear dW; try clear ec; try clear ed; try clear ee; try clear ef; try clear eg; try clear eh; try clear ei; try clear ej; try clear bc; try clear bd; try clear bf; try clear bg; try clear bh; try clear bi; try clear bj; try clear bm; try clear bA; try clear bC; try clear bD; try clear bF; try clear bG; try clear bH; try clear bI; try clear bJ; try clear p2
      obtain ⟨kq, aG, rfl, HA, gU, aa, HB⟩ := hcut
      cases kq with
      | zero => exact absurd HA.out (by simp [impl_StApply.j2])
      | succ gV =>
       have H := HA.out; clear HA; simp only [impl_StApply.j2] at H
       by_cases e5 : aG = true
       ·subst e5; rw [if_pos rfl] at H; obtain ⟨aH, gA, H⟩ := ob H; simp only [Option.some.injEq, Prod.mk.injEq] at H; obtain ⟨rfl, rfl⟩ := H
        go_wp2_with (first | (go_at_call 17; (with_reducible refine (impl_copyInts.calls _ _ l0 aH _ (cb dc HB) ?side2 gA.out).mono ?_); (case side2 => exact e4.out); rintro e gM ⟨eM, rfl, aQ, hb⟩; have cU := rl1 aQ HB ab; replace aa := bb aa hb; replace HB := s1 HB ab hb; (try clear hb); (try clear aQ)))
        repeat (go_quiet (first | (go_at_call 17; (with_reducible refine (impl_copyInts.calls _ _ l0 aH _ (cb dc HB) ?side2 gA.out).mono ?_); (case side2 => exact e4.out); rintro e gM ⟨eM, rfl, aQ, hb⟩; have cU := rl1 aQ HB ab; replace aa := bb aa hb; replace HB := s1 HB ab hb; (try clear hb); (try clear aQ))); try go_wp2_with (first | (go_at_call 17; (with_reducible refine (impl_copyInts.calls _ _ l0 aH _ (cb dc HB) ?side2 gA.out).mono ?_); (case side2 => exact e4.out); rintro e gM ⟨eM, rfl, aQ, hb⟩; have cU := rl1 aQ HB ab; replace aa := bb aa hb; replace HB := s1 HB ab hb; (try clear hb); (try clear aQ))))
        go_ret2
        exact ⟨_, er, (ro cU), be1 HB ab⟩
       replace e5 := Bool.eq_false_iff.mpr e5; subst e5; rw [if_neg nf] at H
       by_cases eA : ac = 2
       ·rw [if_pos eA] at H; have eN : (ac == 2) = true := beq_iff_eq.mpr eA; have eO : (ac != 2) = false := bne_eq_false_iff_eq.mpr eA; clear eA
        by_cases eC : ad = 1
        ·rw [if_pos eC] at H; have eP : (ad == 1) = true := beq_iff_eq.mpr eC; have eS : (ad != 1) = false := bne_eq_false_iff_eq.mpr eC; clear eC
         by_cases eG : (l0.length : Int) > 0
         ·rw [if_pos eG] at H; have eT : decide (0 < (l0.length : Int)) = true := decide_eq_true eG; have eU : decide (0 < l0.length) = true := decide_eq_true (by omega); clear eG
          by_cases e6 : 0 < (l0.length : Int)
          ·rw [if_pos e6] at H; have gN : decide (0 < (l0.length : Int)) = true := decide_eq_true e6; have gP : decide (0 < l0.length) = true := decide_eq_true (by omega); clear e6
           by_cases eD : (rd l0 0) = ai
           ·rw [if_pos eD] at H; have eV : ((rd l0 0) == ai) = true := beq_iff_eq.mpr eD; have eW : ((rd l0 0) != ai) = false := bne_eq_false_iff_eq.mpr eD; clear eD
            by_cases eX : 1 ≤ (l0.length : Int)
            ·rw [if_pos eX] at H; have gQ := eq_true eX; have gR : decide (1 ≤ (l0.length : Int)) = true := decide_eq_true eX; clear eX; obtain ⟨aI, gB, H⟩ := ob H; simp only [Option.some.injEq, Prod.mk.injEq] at H; obtain ⟨rfl, rfl⟩ := H; have e7 := bc0 aa; have e8 := bc1 aa; have e9 := bc2 aa; have fa := bc3 aa; have fb := bc4 aa; have fc := bc5 aa; have fd := bc6 aa; have fe : wc.cell? ⟨aj, 7, none⟩ = some (.int .i64 af) := (blk_cell aa.out 7).trans rfl; have ff := blk_frozen aa.out 0; have fg := blk_frozen aa.out 1; have fh := blk_frozen aa.out 2; have fi := blk_frozen aa.out 3; have fj := blk_frozen aa.out 4; have fk := blk_frozen aa.out 5; have fl := blk_frozen aa.out 6; have fm := blk_frozen aa.out 7; have bM : 0 ≤ (0 : Int) := (by omega); have bN : 0 < (l0.length : Int) := od; obtain ⟨eq, eE, an⟩ := Kd.at_int dc.out 0 bM bN; cases eE; have eZ : (0 < l0.length) = True := eq_true (by omega); (try rw [show ((0 : Int)).toNat = 0 from rfl] at an); (try rw [Addr.add_zero'] at an); replace an := hc HB an; replace bM := eq_true bM; replace bN := eq_true bN; obtain ⟨gW, es, _, et, _⟩ := info_parts info3; obtain ⟨gX, gF, e0, e1⟩ := print_drop_of (P := Try.prog) (Value.int .i64) 0 22 3 .i64 Try.underlying22 es et (some eq) c0 l0 1 (by omega) (od) e4.out; have cW := Aside0.mk (show Kd.C (Kd.int .i64) w gX (l0.drop 1).length (l0.drop 1) from Kd.C_of_reads (h1 := fun _ => rfl) (e0 _ (Kd.reads_of_C dc.out))); have cX := Aside0.mk e1; clear e0 e1 es et
             go_wp2_with (first | (go_at_call 17; (try rw [show l0.length - 1 = (l0.drop 1).length from List.length_drop.symm]); (with_reducible refine (impl_copyInts.calls _ _ (l0.drop 1) aI _ (cb cW HB) ?side2 gB.out).mono ?_); (case side2 => exact cX.out); rintro e gS ⟨e2, rfl, aQ, hb⟩; have cY := rl1 aQ HB ab; replace aa := bb aa hb; replace HB := s1 HB ab hb; (try clear hb); (try clear aQ)))
             repeat (go_quiet (first | (go_at_call 17; (try rw [show l0.length - 1 = (l0.drop 1).length from List.length_drop.symm]); (with_reducible refine (impl_copyInts.calls _ _ (l0.drop 1) aI _ (cb cW HB) ?side2 gB.out).mono ?_); (case side2 => exact cX.out); rintro e gS ⟨e2, rfl, aQ, hb⟩; have cY := rl1 aQ HB ab; replace aa := bb aa hb; replace HB := s1 HB ab hb; (try clear hb); (try clear aQ))); try go_wp2_with (first | (go_at_call 17; (try rw [show l0.length - 1 = (l0.drop 1).length from List.length_drop.symm]); (with_reducible refine (impl_copyInts.calls _ _ (l0.drop 1) aI _ (cb cW HB) ?side2 gB.out).mono ?_); (case side2 => exact cX.out); rintro e gS ⟨e2, rfl, aQ, hb⟩; have cY := rl1 aQ HB ab; replace aa := bb aa hb; replace HB := s1 HB ab hb; (try clear hb); (try clear aQ))))
             go_ret2
             exact ⟨_, er, (ro cY), be1 HB ab⟩
            rw [if_neg eX] at H; exact absurd H (by simp)
           rw [if_neg eD] at H; have eV : ((rd l0 0) == ai) = false := beq_eq_false_iff_ne.mpr eD; have eW : ((rd l0 0) != ai) = true := bne_iff_ne.mpr eD; simp only [Option.some.injEq, Prod.mk.injEq] at H; obtain ⟨rfl, rfl⟩ := H; have fn := bc0 aa; have fo := bc1 aa; have fp := bc2 aa; have fq := bc3 aa; have fr := bc4 aa; have fs := bc5 aa; have ft := bc6 aa; have fu : wc.cell? ⟨aj, 7, none⟩ = some (.int .i64 af) := (blk_cell aa.out 7).trans rfl; have fv := blk_frozen aa.out 0; have fw := blk_frozen aa.out 1; have fx := blk_frozen aa.out 2; have fy := blk_frozen aa.out 3; have fz := blk_frozen aa.out 4; have fA := blk_frozen aa.out 5; have fB := blk_frozen aa.out 6; have fC := blk_frozen aa.out 7; have bM : 0 ≤ (0 : Int) := (by omega); have bN : 0 < (l0.length : Int) := od; obtain ⟨eq, eE, an⟩ := Kd.at_int dc.out 0 bM bN; cases eE; have eZ : (0 < l0.length) = True := eq_true (by omega); (try rw [show ((0 : Int)).toNat = 0 from rfl] at an); (try rw [Addr.add_zero'] at an); replace an := hc HB an; replace bM := eq_true bM; replace bN := eq_true bN
           go_wp2
           repeat (go_quiet (fail); try go_wp2)
           go_ret2
           exact ⟨_, er, by first | exact Kd.R_nil _ _ _ _ _ | exact Kd.N_nil _ _ _ _ _ | exact Kd.V_nil _ _ _ _ _ | exact Kd.Q_nil _ _ _ _ _ | exact Kd.S_nil _ _ _ _ _, be1 HB ab⟩
          rw [if_neg e6] at H; exact absurd H (by simp)
         rw [if_neg eG] at H; have eT : decide (0 < (l0.length : Int)) = false := decide_eq_false eG; have eU : decide (0 < l0.length) = false := decide_eq_false (by omega); clear eG; simp only [Option.some.injEq, Prod.mk.injEq] at H; obtain ⟨rfl, rfl⟩ := H; have fD := bc0 aa; have fE := bc1 aa; have fF := bc2 aa; have fG := bc3 aa; have fH := bc4 aa; have fI := bc5 aa; have fJ := bc6 aa; have fK : wc.cell? ⟨aj, 7, none⟩ = some (.int .i64 af) := (blk_cell aa.out 7).trans rfl; have fL := blk_frozen aa.out 0; have fM := blk_frozen aa.out 1; have fN := blk_frozen aa.out 2; have fO := blk_frozen aa.out 3; have fP := blk_frozen aa.out 4; have fQ := blk_frozen aa.out 5; have fR := blk_frozen aa.out 6; have fS := blk_frozen aa.out 7
         go_wp2
         repeat (go_quiet (fail); try go_wp2)
         go_ret2
         exact ⟨_, er, by first | exact Kd.R_nil _ _ _ _ _ | exact Kd.N_nil _ _ _ _ _ | exact Kd.V_nil _ _ _ _ _ | exact Kd.Q_nil _ _ _ _ _ | exact Kd.S_nil _ _ _ _ _, be1 HB ab⟩
        rw [if_neg eC] at H; have eP : (ad == 1) = false := beq_eq_false_iff_ne.mpr eC; have eS : (ad != 1) = true := bne_iff_ne.mpr eC; simp only [Option.some.injEq, Prod.mk.injEq] at H; obtain ⟨rfl, rfl⟩ := H; have fT := bc0 aa; have fU := bc1 aa; have fV := bc2 aa; have fW := bc3 aa; have fX := bc4 aa; have fY := bc5 aa; have fZ := bc6 aa; have f0 : wc.cell? ⟨aj, 7, none⟩ = some (.int .i64 af) := (blk_cell aa.out 7).trans rfl; have f1 := blk_frozen aa.out 0; have f2 := blk_frozen aa.out 1; have f3 := blk_frozen aa.out 2; have f4 := blk_frozen aa.out 3; have f5 := blk_frozen aa.out 4; have f6 := blk_frozen aa.out 5; have f7 := blk_frozen aa.out 6; have f8 := blk_frozen aa.out 7
        go_wp2
        repeat (go_quiet (fail); try go_wp2)
        go_ret2
        exact ⟨_, er, by first | exact Kd.R_nil _ _ _ _ _ | exact Kd.N_nil _ _ _ _ _ | exact Kd.V_nil _ _ _ _ _ | exact Kd.Q_nil _ _ _ _ _ | exact Kd.S_nil _ _ _ _ _, be1 HB ab⟩
       rw [if_neg eA] at H; have eN : (ac == 2) = false := beq_eq_false_iff_ne.mpr eA; have eO : (ac != 2) = true := bne_iff_ne.mpr eA; simp only [Option.some.injEq, Prod.mk.injEq] at H; obtain ⟨rfl, rfl⟩ := H; have f9 := bc0 aa; have ga := bc1 aa; have gb := bc2 aa; have gf := bc3 aa; have gg := bc4 aa; have gh := bc5 aa; have gi := bc6 aa; have gj : wc.cell? ⟨aj, 7, none⟩ = some (.int .i64 af) := (blk_cell aa.out 7).trans rfl; have gk := blk_frozen aa.out 0; have gm := blk_frozen aa.out 1; have gn := blk_frozen aa.out 2; have gp := blk_frozen aa.out 3; have gq := blk_frozen aa.out 4; have gr := blk_frozen aa.out 5; have gs := blk_frozen aa.out 6; have gu := blk_frozen aa.out 7
       go_wp2
       repeat (go_quiet (fail); try go_wp2)
       go_ret2
       exact ⟨_, er, by first | exact Kd.R_nil _ _ _ _ _ | exact Kd.N_nil _ _ _ _ _ | exact Kd.V_nil _ _ _ _ _ | exact Kd.Q_nil _ _ _ _ _ | exact Kd.S_nil _ _ _ _ _, be1 HB ab⟩

end Go.Proofs.Ytgnjhondoidfdaa.QFnExactLinear
