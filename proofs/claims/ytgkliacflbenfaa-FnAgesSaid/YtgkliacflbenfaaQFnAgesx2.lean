-- made by a program of this session (myprint.py)
import Derived.Test.YtgkliacflbenfaaQFnAgesx0
namespace Go.Proofs.Ytgkliacflbenfaa.QFnAges
open Go.RowKit Go.Proofs.YtgkliacflbenfaaW.PrintWords Go.Proofs.YtgkliacflbenfaaW.PrintLast Go.Proofs.YtgkliacflbenfaaW.PrintMore
attribute [local go_sem] max2_int min2_int max_two min_two max_three min_three max_four min_four   -- for this text's walks alone
set_option linter.unusedVariables false
set_option linter.unusedSimpArgs false

/-! ### spec_l09All: function 66 -/
def spec_l09All.l0 : Nat → List Int → List (S63) → Int → Int → Option (List Int)
 | 0, _, _, _, _ => none
 | k + 1, x3, bN, bW, bi => if bi < bW then (if 0 ≤ bi then (if bi < (bN.length : Int) then (if x3.length < 17592186044416 then (spec_l09All.l0 k (x3 ++ [(rd_T63 bN bi).f0]) bN bW (wrap64 (bi + 1))) else (none)) else (none)) else (none)) else (some x3)
def spec_l09All.f (k : Nat) (af : List Int) (ar : Int) (aj : List Int) (ab : List (S63)) (ae : List Int) : Option (List Int) := (some (([] : List Int) : List Int)).bind fun ah => (if ah.length + af.length < 17592186044416 then ((some (ah ++ af : List Int)).bind fun ag => (if ag.length + ae.length < 17592186044416 then (spec_l09All.l0 k (ag ++ ae) ab (ab.length : Int) 0) else (none))) else (none))
theorem spec_l09All.mono_l : ∀ k, (∀ y0 y1 y2 y3, LeO (spec_l09All.l0 k y0 y1 y2 y3) (spec_l09All.l0 (k + 1) y0 y1 y2 y3))
 | 0 => fun _ _ _ _ r h => by simp [spec_l09All.l0] at h
 | k + 1 => by
  have bj := spec_l09All.mono_l k
  ·intro y0 y1 y2 y3; unfold spec_l09All.l0
   repeat' first | (with_reducible first | apply bj | apply lr | apply ln | apply li | refine lb ?_ fun _ => ?_) | apply bj | apply ln | apply li | refine lb ?_ fun _ => ?_
theorem spec_l09All.mono : ∀ a0 a1 a2 a3 a4 k, LeO (spec_l09All.f k a0 a1 a2 a3 a4) (spec_l09All.f (k + 1) a0 a1 a2 a3 a4) := by
 intro a0 a1 a2 a3 a4 k; have bj := spec_l09All.mono_l k; unfold spec_l09All.f
 repeat' first | (with_reducible first | apply bj | apply lr | apply ln | apply li | refine lb ?_ fun _ => ?_) | apply bj | apply ln | apply li | refine lb ?_ fun _ => ?_
def spec_l09All.T1 : Bool × List (List Nat × List Nat) := (true, [([], []), ([], []), ([1], [1]), ([0, 2], [0, 2]), ([], []), ([4], [4]), ([3, 5, 3], [3, 5]), ([6, 6, 0, 1, 2, 3, 4, 5, 6], [6])])
def spec_l09All.B1 : List Nat := [0, 0, 2, 7, 0, 16, 63, 127]
theorem spec_l09All.tab1 : rtab .any (opsOf Try.f66 1) = spec_l09All.T1 := by kernel_rfl
theorem spec_l09All.bits1 : waitsOk spec_l09All.T1.2 spec_l09All.B1 = true := by kernel_rfl
set_option maxHeartbeats 8000000 in
set_option maxRecDepth 100000 in
theorem spec_l09All.calls (k : Nat) (ay : Option Addr) (az : Nat) (af : List Int) (ar : Int) (aA : Option Addr) (aC : Nat) (aj : List Int) (aJ : Option Addr) (aD : Nat) (ab : List (S63)) (aE : Option Addr) (aG : Nat) (ae : List Int) (r : List Int) (w : World) (aY : Kd.C (Kd.int .i64) w ay af.length af) (aZ : af.length ≤ az) (a5 : Kd.C (Kd.int .i64) w aA aj.length aj) (a6 : aj.length ≤ aC) (a7 : Kd.C k63 w aJ ab.length ab) (a8 : ab.length ≤ aD) (a9 : Kd.C (Kd.int .i64) w aE ae.length ae) (ba : ae.length ≤ aG) (h : spec_l09All.f k af ar aj ab ae = some r) :
  Calls Try.prog 66 #[.agg #[.slice ay af.length az, .int .i64 ar, .slice aA aj.length aC, .slice aJ ab.length aD, .slice aE ae.length aG]] w fun e w' => ∃ bZ : Value, e = .returned (bZ) ∧ Kd.R (Kd.int .i64) 3 w' w.heap.size (fun _ => True) bZ r ∧ Below w.heap.size w w' := by
 have hu28 := Try.underlying28; have hu63 := Try.underlying63; have bm := Aside0.mk aY; have b0 := Aside0.mk aZ; clear aY aZ; have b1 := Aside0.mk a5; have b2 := Aside0.mk a6; clear a5 a6; have bn := Aside0.mk a7; have b3 := Aside0.mk a8; clear a7 a8; have bo := Aside0.mk a9; have b4 := Aside0.mk ba; clear a9 ba; have HB := Aside0.mk (Below.refl w.heap.size w); have H : ((some (([] : List Int) : List Int)).bind fun ah => (if ah.length + af.length < 17592186044416 then ((some (ah ++ af : List Int)).bind fun ag => (if ag.length + ae.length < 17592186044416 then (spec_l09All.l0 k (ag ++ ae) ab (ab.length : Int) 0) else (none))) else (none))) = some r := h; clear h; obtain ⟨ah, al, H⟩ := oy H; have bc := Aside0.mk al; clear al
 by_cases c2 : ah.length + af.length < 17592186044416
 ·rw [if_pos c2] at H; have bO := Aside0.mk c2; clear c2; obtain ⟨ag, an, H⟩ := oy H; have bq := Aside0.mk an; clear an
  by_cases c3 : ag.length + ae.length < 17592186044416
  ·rw [if_pos c3] at H; have bQ := Aside0.mk c3; clear c3; obtain ⟨br, ao⟩ : ∃ y_ : List Int, y_ = (ag ++ ae) := ⟨_, rfl⟩; rw [← ao] at H; have bs := Aside0.mk ao; clear ao; have H' := Aside0.mk H; clear H
   go_enter Try.func66, Try.ntmps66
   try go_wp2_with (first | ((with_reducible refine gate_dst (N := 1) rfl ?_); refine bx 1 #[.slice ay af.length az, .int .i64 ar, .slice aA aj.length aC, .slice aJ ab.length aD, .slice aE ae.length aG] 28 ?_; intro ai hg w4 hbox hb; have aa := am hbox; have b5 := gs0 hg HB; have ad := gs0 hg HB; replace HB := s0 HB hb; clear hb hbox hg))
   replace aa := eB aa; replace HB := eL HB; refine start_ (n := 8) (S := fun w' => w'.cell? ⟨ai, 0, none⟩ = some (.slice ay af.length az) ∧ w'.cell? ⟨ai, 1, none⟩ = some (.int .i64 ar) ∧ w'.cell? ⟨ai, 2, none⟩ = some (.slice aA aj.length aC) ∧ w'.cell? ⟨ai, 3, none⟩ = some (.slice aJ ab.length aD) ∧ w'.cell? ⟨ai, 4, none⟩ = some (.slice aE ae.length aG)) (ds := []) (bv 8 0x0) (by kernel_rfl) rfl rfl (bq5 aa) (fun hHeld => ?_); refine with_tabW spec_l09All.tab1 spec_l09All.bits1 (fun HT_ HW_ => ?_); generalize w4.drew = w5 at aa HB hHeld ⊢; refine py HT_ 1 7 (bv 8 0x2) ?_; refine py HT_ 4 10 (bv 8 0x12) ?_; refine tk HT_ HW_ hHeld 2 8 (bv 8 0x16) ?_; refine tk HT_ HW_ hHeld 5 11 (bv 8 0x36) ?_; refine oh HT_ 0 (some 6) (bv 8 0x37) fun K hK => ?_; refine lt_ (Kd.int .i64) 3 6 ([] : List Int) [] (Reps.none _ _) ?_; intro bR w6 bu hb; (first | rw [← bc.out] at bu | (simp only [Int.reduceToNat] at bu; rw [← bc.out] at bu)); have aQ := rl1 bu HB ad; replace aa := bb aa hb; replace HB := s1 HB ad hb; clear hb bu; refine hK.out _ _ (bq5 aa) (fun hHeld => ?_); clear hK K; refine nx ?_
   refine oh HT_ 3 (some 9) (bv 8 0x3f) fun K hK => ?_; refine Kd.R_append_rows_step (Kd.int .i64) (w0 := w) w.heap.size (by rfl) (.tmp 6) (.tmp 8) 23 3 (.int .i64 0) 8 rfl Try.underlying23 info3 rfl (by decide) (by omega) bR ah af _ _ _ (fun _ => True) (fun _ => False) rfl rfl ?aO ?aR (fun _ _ h => h) (fun _ h => h.elim) ?aF ?aB ?aS ?aL ?_
   (case aR => exact cb bm HB)
   (case aB => exact (be1 HB ad))
   (case aF => exact (fun _ _ => trivial))
   (case aO => exact (ro aQ))
   (case aS => exact (below_size (be1 HB ad)))
   (case aL => have := bO.out; omega)
   intro bS w8 ho hb hg hat; rw [← bq.out] at ho; replace aa := bgr aa hg (Kd.R_ne aQ.out aa.out (by decide)); replace HB := Aside0.mk (hb); have aU := Aside0.mk (ho); clear aQ; clear ho hb hg hat; refine hK.out _ _ (bq5 aa) (fun hHeld => ?_); clear hK K; refine nx ?_
   refine oh HT_ 6 (some 12) (bv 8 0x7f) fun K hK => ?_; refine Kd.R_append_rows_step (Kd.int .i64) (w0 := w) w.heap.size (by rfl) (.tmp 9) (.tmp 11) 23 3 (.int .i64 0) 8 rfl Try.underlying23 info3 rfl (by decide) (by omega) bS ag ae _ _ _ (fun _ => True) (fun _ => False) rfl rfl ?aO ?aR (fun _ _ h => h) (fun _ h => h.elim) ?aF ?aB ?aS ?aL ?_
   (case aR => exact cb bo HB)
   (case aB => exact (be1 HB ad))
   (case aF => exact (fun _ _ => trivial))
   (case aO => exact (ro aU))
   (case aS => exact (below_size (be1 HB ad)))
   (case aL => have := bQ.out; omega)
   intro cd w9 ho hb hg hat; rw [← bs.out] at ho; replace aa := bgr aa hg (Kd.R_ne aU.out aa.out (by decide)); replace HB := Aside0.mk (hb); have bw := Aside0.mk (ho); clear aU; clear ho hb hg hat; refine hK.out _ _ (bq5 aa) (fun hHeld => ?_); clear hK K; refine nx ?_
   refine py HT_ 7 3 (bv 8 0xff) ?_; refine dh HT_ ?_; have aX := bz5 aa
   try go_wp2
   go_loopg [3, 17] k (fun kq v3 ce w' => ∃ (aH : List Int) (ac : Int), ce = .int .i64 ac ∧ Aside0 (spec_l09All.l0 kq aH ab (ab.length : Int) ac = some r) ∧ Aside0 (kq ≤ k) ∧ Aside0 (Kd.R (Kd.int .i64) 3 w' w.heap.size (fun _ => True) v3 aH) ∧ Aside0 (w'.heap[ai]? = some (.cells #[(.slice ay af.length az), .int .i64 ar, (.slice aA aj.length aC), (.slice aJ ab.length aD), (.slice aE ae.length aG)] 28 (0, 0))) ∧ Aside0 (Below w.heap.size w w'))
   case atStart => exact ⟨(br), (0), rs, H', ⟨Nat.le_refl _⟩, ⟨ro bw⟩, ⟨bk aa⟩, ⟨be1 HB ad⟩⟩
   case round =>
    clear H'
    try clear c2; try clear p2; try clear c3; try clear c6; try clear aX
    obtain ⟨aH, ac, rfl, HA, b6, av, aa, HB⟩ := hrel
    cases gk with
    | zero => exact absurd HA.out (by simp [spec_l09All.l0])
    | succ k1 =>
     have H := HA.out; clear HA; simp only [spec_l09All.l0] at H
     by_cases bh : ac < (ab.length : Int)
     ·rw [if_pos bh] at H; have bz : decide (ac < (ab.length : Int)) = true := decide_eq_true bh; clear bh
      by_cases bH : 0 ≤ ac
      ·rw [if_pos bH] at H; have b7 : decide (0 ≤ ac) = true := decide_eq_true bH; clear bH
       by_cases bI : ac < (ab.length : Int)
       ·rw [if_pos bI] at H; have b8 : decide (ac < (ab.length : Int)) = true := decide_eq_true bI; clear bI
        by_cases bJ : aH.length < 17592186044416
        ·rw [if_pos bJ] at H; have bA := Aside0.mk bJ; clear bJ; obtain ⟨bC, ap⟩ : ∃ y_ : List Int, y_ = (aH ++ [(rd_T63 ab ac).f0]) := ⟨_, rfl⟩; rw [← ap] at H; have bD := Aside0.mk ap; clear ap; have H' := Aside0.mk H; clear H; have bf : 0 ≤ (ac : Int) := od; have bg : ac < (ab.length : Int) := od; obtain ⟨bF, bU, aw, ax⟩ := at_T63 bn.out ac bf bg; cases bU; replace aw := hc HB aw; replace ax := hc HB ax; replace bf := eq_true bf; replace bg := eq_true bg
         go_wp2_with (first | ((with_reducible refine gate_dst (N := 5) rfl ?_); refine bx 5 #[.int .i64 0, .int .i64 0] 63 ?_; intro aV hg cg hbox hb; replace av := rb av hb; have aq := am hbox; have b9 := gs1 hg HB ad; have aW := gs1 hg HB ad; replace HB := s1 HB ad hb; have ak := nl hg aa; have aI := ng hg aa; replace aa := bb aa hb; clear hb hbox hg; have ca := aI.out; have cc := ak.out; have bM := bz2 aq) | ((with_reducible refine gate_builtin (b := .append) (xs := #[.tmp 21, .tmp 24]) rfl ?_); at_builtin; refine Kd.R_append (Kd.int .i64) (w0 := w) w.heap.size rfl (.tmp 21) (.tmp 24) 23 3 (.int .i64 0) 8 rfl Try.underlying23 info3 rfl (by decide) (by omega) u3 aH ((rd_T63 ab ac).f0) [.int .i64 ((rd_T63 ab ac).f0)] (fun _ => True) (fun _ => False) rfl (by first | (go_simp; done) | (go_simp; rfl)) ?aP (fun _ hk => hk.elim) ?aF ?aO ?aB ?aS ?aL ?_; (case aP => exact rfl); (case aB => exact (be2 HB ad aW)); (case aF => exact (fun _ _ => trivial)); (case aO => exact (by (with_reducible repeat (first | apply Kd.R_alloc | apply Kd.R_drewN | apply Kd.R_drew)); exact Kd.R_mono (Kd.R_far (p := ⟨aV, 1, none⟩) (Kd.R_far (p := ⟨aV, 0, none⟩) (Kd.R_types av.out aq.out (by decide)) (fun _ hk => hk.2) (.int .i64 ((rd_T63 ab ac).f0))) (fun _ hk => hk.2) (.int .i64 ((rd_T63 ab ac).f1))) (fun _ hk => trivial))); (case aS => exact (below_size (be2 HB ad aW))); (case aL => have := bA.out; omega); intro cf ci ho hb hg hat; rw [← bD.out] at ho; replace aa := Aside0.mk (blk_grown (g := ai) (o := .cells #[.slice ay af.length az, .int .i64 ar, .slice aA aj.length aC, .slice (some bF) ab.length aD, .slice aE ae.length aG] 28 (0, 0)) (bf1 aa ak) hg (Kd.R_ne av.out aa.out (by decide))); replace aq := Aside0.mk (blk_grown (g := aV) (o := .cells #[.int .i64 ((rd_T63 ab ac).f0), .int .i64 ((rd_T63 ab ac).f1)] 63 (0, 0)) (bp aq) hg (Kd.R_ne av.out aq.out (by decide))); replace HB := Aside0.mk (hb); have bG := Aside0.mk (ho); clear av; clear ho hb hg hat))
         go_roundg k1
         case measure => have := b6.out; omega
         case rel => exact ⟨(bC), (wrap64 (ac + 1)), rs, H', ⟨by have := b6.out; omega⟩, ⟨ro bG⟩, ⟨bk aa⟩, ⟨be2 HB ad aW⟩⟩
        rw [if_neg bJ] at H; exact absurd H (by simp)
       rw [if_neg bI] at H; exact absurd H (by simp)
      rw [if_neg bH] at H; exact absurd H (by simp)
     rw [if_neg bh] at H; have bz : decide (ac < (ab.length : Int)) = false := decide_eq_false bh; clear bh; obtain rfl := Option.some.inj H
     go_wp2
     go_ret
     exact ⟨_, er, (ro av), be1 HB ad⟩
  rw [if_neg c3] at H; exact absurd H (by simp)
 rw [if_neg c2] at H; exact absurd H (by simp)

/-! ### spec_l01Num: function 92 -/
def spec_l01Num.f (a0 : Int) : Option (Bool) := if a0 ≥ 0 then (some (decide (a0 ≤ 4294967295))) else (some false)
set_option maxHeartbeats 8000000 in
set_option maxRecDepth 100000 in
theorem spec_l01Num.calls (a0 : Int) (r : Bool) (w : World) (h : spec_l01Num.f a0 = some r) :
  Calls Try.prog 92 #[.int .i64 a0] w fun e w' => e = .returned (.bool r) ∧ Drawn0 w w' := by
 have H : (if a0 ≥ 0 then (some (decide (a0 ≤ 4294967295))) else (some false)) = some r := h; clear h
 by_cases c2 : a0 ≥ 0
 ·rw [if_pos c2] at H; have aa : decide (0 ≤ a0) = true := decide_eq_true c2; clear c2; obtain rfl := Option.some.inj H
  go_enter Try.func92, Try.ntmps92
  go_wp2
  go_ret
  exact ⟨by first | rfl | (simp; done) | (simp [*]; done), by repeat (first | exact Drawn0.refl _ | apply Drawn0.step)⟩
 rw [if_neg c2] at H; have aa : decide (0 ≤ a0) = false := decide_eq_false c2; clear c2; obtain rfl := Option.some.inj H
 go_enter Try.func92, Try.ntmps92
 go_wp2
 go_ret
 exact ⟨by first | rfl | (simp; done) | (simp [*]; done), by repeat (first | exact Drawn0.refl _ | apply Drawn0.step)⟩

/-! ### spec_l06Node: function 93 -/
def spec_l06Node.l0 : Nat → Int → List (S63) → Int → Int → Option (Bool)
 | 0, _, _, _, _ => none
 | k + 1, x1, x7, x8, x9 => if x9 < x8 then (if 0 ≤ x9 then (if x9 < (x7.length : Int) then (if ((rd_T63 x7 x9).f0) = x1 then (some true) else (spec_l06Node.l0 k x1 x7 x8 (wrap64 (x9 + 1)))) else (none)) else (none)) else (some false)
def spec_l06Node.f (k : Nat) (l0 : List (S63)) (a1 : Int) : Option (Bool) := spec_l06Node.l0 k a1 l0 (l0.length : Int) 0
theorem spec_l06Node.mono_l : ∀ k, (∀ y0 y1 y2 y3, LeO (spec_l06Node.l0 k y0 y1 y2 y3) (spec_l06Node.l0 (k + 1) y0 y1 y2 y3))
 | 0 => fun _ _ _ _ r h => by simp [spec_l06Node.l0] at h
 | k + 1 => by
  have ai := spec_l06Node.mono_l k
  ·intro y0 y1 y2 y3; unfold spec_l06Node.l0
   repeat' first | (with_reducible first | apply ai | apply lr | apply ln | apply li | refine lb ?_ fun _ => ?_) | apply ai | apply ln | apply li | refine lb ?_ fun _ => ?_
theorem spec_l06Node.mono : ∀ a0 a1 k, LeO (spec_l06Node.f k a0 a1) (spec_l06Node.f (k + 1) a0 a1) := by
 intro a0 a1 k; have ai := spec_l06Node.mono_l k; unfold spec_l06Node.f
 repeat' first | (with_reducible first | apply ai | apply lr | apply ln | apply li | refine lb ?_ fun _ => ?_) | apply ai | apply ln | apply li | refine lb ?_ fun _ => ?_
set_option maxHeartbeats 8000000 in
set_option maxRecDepth 100000 in
theorem spec_l06Node.calls (k : Nat) (A0 : Option Addr) (c0 : Nat) (l0 : List (S63)) (a1 : Int) (r : Bool) (w : World) (au : Kd.C k63 w A0 l0.length l0) (av : l0.length ≤ c0) (h : spec_l06Node.f k l0 a1 = some r) :
  Calls Try.prog 93 #[.slice A0 l0.length c0, .int .i64 a1] w fun e w' => e = .returned (.bool r) ∧ Below w.heap.size w w' := by
 have hu63 := Try.underlying63; have aw := Aside0.mk au; have aA := Aside0.mk av; clear au av; have HB := Aside0.mk (Below.refl w.heap.size w); have H : (spec_l06Node.l0 k a1 l0 (l0.length : Int) 0) = some r := h; clear h; have H' := Aside0.mk H; clear H
 go_enter Try.func93, Try.ntmps93
 go_wp2
 go_loopg [9] k (fun kq v9 w' => ∃ (aa : Int), v9 = .int .i64 aa ∧ Aside0 (spec_l06Node.l0 kq a1 l0 (l0.length : Int) aa = some r) ∧ Aside0 (kq ≤ k) ∧ Aside0 (Below w.heap.size w w'))
 case atStart => exact ⟨(0), rs, H', ⟨Nat.le_refl _⟩, ⟨be HB⟩⟩
 case round =>
  clear H'
  try clear p2
  obtain ⟨aa, rfl, HA, ax, HB⟩ := hrel
  cases gk with
  | zero => exact absurd HA.out (by simp [spec_l06Node.l0])
  | succ k1 =>
   have H := HA.out; clear HA; simp only [spec_l06Node.l0] at H
   by_cases c3 : aa < (l0.length : Int)
   ·rw [if_pos c3] at H; have ao : decide (aa < (l0.length : Int)) = true := decide_eq_true c3; clear c3
    by_cases c4 : 0 ≤ aa
    ·rw [if_pos c4] at H; have ay : decide (0 ≤ aa) = true := decide_eq_true c4; clear c4
     by_cases c5 : aa < (l0.length : Int)
     ·rw [if_pos c5] at H; have az : decide (aa < (l0.length : Int)) = true := decide_eq_true c5; clear c5
      by_cases c6 : ((rd_T63 l0 aa).f0) = a1
      ·rw [if_pos c6] at H; have ap : (((rd_T63 l0 aa).f0) == a1) = true := beq_iff_eq.mpr c6; have aq : (((rd_T63 l0 aa).f0) != a1) = false := bne_eq_false_iff_eq.mpr c6; clear c6; obtain rfl := Option.some.inj H; have ad : 0 ≤ (aa : Int) := od; have ae : aa < (l0.length : Int) := od; obtain ⟨aj, ah, ab, ac⟩ := at_T63 aw.out aa ad ae; cases ah; replace ab := hc HB ab; replace ac := hc HB ac; replace ad := eq_true ad; replace ae := eq_true ae
       go_wp2_with (first | ((with_reducible refine gate_dst (N := 6) rfl ?_); refine bx 6 #[.int .i64 0, .int .i64 0] 63 ?_; intro ak hg w7 hbox hb; have af := am hbox; have al := gs0 hg HB; have ag := gs0 hg HB; replace HB := s0 HB hb; clear hb hbox hg; have ar := bz2 af))
       go_ret
       exact ⟨er, be1 HB ag⟩
      rw [if_neg c6] at H; have ap : (((rd_T63 l0 aa).f0) == a1) = false := beq_eq_false_iff_ne.mpr c6; have aq : (((rd_T63 l0 aa).f0) != a1) = true := bne_iff_ne.mpr c6; have H' := Aside0.mk H; clear H; have ad : 0 ≤ (aa : Int) := od; have ae : aa < (l0.length : Int) := od; obtain ⟨aj, ah, ab, ac⟩ := at_T63 aw.out aa ad ae; cases ah; replace ab := hc HB ab; replace ac := hc HB ac; replace ad := eq_true ad; replace ae := eq_true ae
      go_wp2_with (first | ((with_reducible refine gate_dst (N := 6) rfl ?_); refine bx 6 #[.int .i64 0, .int .i64 0] 63 ?_; intro ak hg w9 hbox hb; have af := am hbox; have al := gs0 hg HB; have ag := gs0 hg HB; replace HB := s0 HB hb; clear hb hbox hg; have an := bz2 af))
      go_roundg k1
      case measure => have := ax.out; omega
      case rel => exact ⟨(wrap64 (aa + 1)), rs, H', ⟨by have := ax.out; omega⟩, ⟨be1 HB ag⟩⟩
     rw [if_neg c5] at H; exact absurd H (by simp)
    rw [if_neg c4] at H; exact absurd H (by simp)
   rw [if_neg c3] at H; have ao : decide (aa < (l0.length : Int)) = false := decide_eq_false c3; clear c3; obtain rfl := Option.some.inj H
   go_wp2
   go_ret
   exact ⟨er, be HB⟩

end Go.Proofs.Ytgkliacflbenfaa.QFnAges
