-- made by a program of this session (myprint.py)
import Derived.Test.YtmmphfonbeddeaaQFnExactRowPutx0
namespace Go.Proofs.Ytmmphfonbeddeaa.QFnExactRowPut
open Go.RowKit Go.Proofs.YtmmphfonbeddeaaW.PrintWords Go.Proofs.YtmmphfonbeddeaaW.PrintLast Go.Proofs.YtmmphfonbeddeaaW.PrintMore
attribute [local go_sem] max2_int min2_int max_two min_two max_three min_three max_four min_four   -- for this text's walks alone
set_option linter.unusedVariables false
set_option linter.unusedSimpArgs false

/-! ### laws_toItem: function 34 -/
def laws_toItem.f (ae : ByteArray) (af : ByteArray) (ag : Int) : Option (ByteArray × ByteArray × Int) := some (ae, af, ag)
set_option maxHeartbeats 8000000 in
set_option maxRecDepth 100000 in
theorem laws_toItem.calls (ae : ByteArray) (af : ByteArray) (ag : Int) (r1 : ByteArray) (r2 : ByteArray) (r3 : Int) (w : World) (h : laws_toItem.f ae af ag = some (r1, r2, r3)) :
  Calls Try.prog 34 #[.agg #[.string ae, .string af, .int .i64 ag]] w fun e w' => e = .returned (.agg #[.string r1, .string r2, .int .i64 r3]) ∧ Below w.heap.size w w' := by
 have hu52 := Try.underlying52; have hu42 := Try.underlying42; have HB := Aside0.mk (Below.refl w.heap.size w); have H : (some (ae, af, ag)) = some (r1, r2, r3) := h; clear h; simp only [Option.some.injEq, Prod.mk.injEq] at H; obtain ⟨rfl, rfl, rfl⟩ := H
 go_enter Try.func34, Try.ntmps34
 go_wp2_with (first | ((with_reducible refine gate_dst (N := 1) rfl ?_); refine bx 1 #[.string ae, .string af, .int .i64 ag] 52 ?_; intro aw hg w2 hbox hb; have aa := am hbox; have ax := gs0 hg HB; have ab := gs0 hg HB; replace HB := s0 HB hb; clear hb hbox hg) | ((with_reducible refine gate_dst (N := 2) rfl ?_); refine bx 2 #[.string (⟨#[]⟩ : ByteArray), .string (⟨#[]⟩ : ByteArray), .int .i64 0] 42 ?_; intro ao hg w3 hbox hb; have ac := am hbox; have ay := gs1 hg HB ab; have ah := gs1 hg HB ab; replace HB := s1 HB ab hb; have ai := nl hg aa; have aj := ng hg aa; replace aa := bb aa hb; clear hb hbox hg) | ((with_reducible refine gate_dst (N := 3) rfl ?_); refine bx 3 #[.string (⟨#[]⟩ : ByteArray), .string (⟨#[]⟩ : ByteArray), .int .i64 0] 42 ?_; intro az hg w4 hbox hb; have ap := am hbox; have aA := gs2 hg HB ab ah; have aq := gs2 hg HB ab ah; replace HB := s2 HB ab ah hb; have ak := nl hg aa; have al := ng hg aa; replace aa := bb aa hb; have ad := nl hg ac; have an := ng hg ac; replace ac := bb ac hb; clear hb hbox hg; have aB := ai.out; have aC := aj.out; have aD := ak.out; have aE := al.out; have au := bz3 aa; have aF := an.out; have aG := ad.out; have av := bz3 ap; have ar := bz3 ac))
 refine bodyPost_ret (results_cell_row rfl _ _ ao 42 #[.string ae, .string af, .int .i64 ag] (0, 0) _ rfl (bp1 ac ad) Try.underlying42 rfl (by kernel_rfl)) rfl ?_; exact ⟨er, be3 HB ab ah aq⟩

/-! ### laws_toItemS: function 20 -/
def laws_toItemS.l0 : Nat → List (S52) → List (S42) → Int → Option ((List (S42)))
 | 0, _, _, _ => none
 | k + 1, x0, x3, x4 => if x4 < (x0.length : Int) then (if 0 ≤ x4 then ((laws_toItem.f ((rd_T52 x0 x4).f0) ((rd_T52 x0 x4).f1) ((rd_T52 x0 x4).f2)).bind fun ar => (if x4 < (x3.length : Int) then (laws_toItemS.l0 k x0 (x3.set (x4 : Int).toNat (⟨ar.1, ar.2.1, ar.2.2⟩ : S42)) (wrap64 (x4 + 1))) else (none))) else (none)) else (some x3)
def laws_toItemS.f (k : Nat) (l0 : List (S52)) : Option ((List (S42))) := if 0 ≤ (l0.length : Int) then (if ((l0.length : Int) : Int).toNat ≤ 7036874417766 then (laws_toItemS.l0 k l0 (List.replicate ((l0.length : Int) : Int).toNat z42) 0) else (none)) else (none)
theorem laws_toItemS.mono_l : ∀ k, (∀ y0 y1 y2, LeO (laws_toItemS.l0 k y0 y1 y2) (laws_toItemS.l0 (k + 1) y0 y1 y2))
 | 0 => fun _ _ _ r h => by simp [laws_toItemS.l0] at h
 | k + 1 => by
  have aJ := laws_toItemS.mono_l k
  ·intro y0 y1 y2; unfold laws_toItemS.l0
   repeat' first | (with_reducible first | apply aJ | apply lr | apply ln | apply li | refine lb ?_ fun _ => ?_) | apply aJ | apply ln | apply li | refine lb ?_ fun _ => ?_
theorem laws_toItemS.mono : ∀ a0 k, LeO (laws_toItemS.f k a0) (laws_toItemS.f (k + 1) a0) := by
 intro a0 k; have aJ := laws_toItemS.mono_l k; unfold laws_toItemS.f
 repeat' first | (with_reducible first | apply aJ | apply lr | apply ln | apply li | refine lb ?_ fun _ => ?_) | apply aJ | apply ln | apply li | refine lb ?_ fun _ => ?_
set_option maxHeartbeats 8000000 in
set_option maxRecDepth 100000 in
theorem laws_toItemS.calls (k : Nat) (A0 : Option Addr) (c0 : Nat) (l0 : List (S52)) (r : List (S42)) (w : World) (bm : Kd.C k52 w A0 l0.length l0) (bn : l0.length ≤ c0) (h : laws_toItemS.f k l0 = some r) :
  Calls Try.prog 20 #[.slice A0 l0.length c0] w fun e w' => ∃ bo : Value, e = .returned (bo) ∧ Kd.R k42 42 w' w.heap.size (fun _ => True) bo r ∧ Below w.heap.size w w' := by
 have hu52 := Try.underlying52; have hu42 := Try.underlying42; have bu := Aside0.mk bm; have bG := Aside0.mk bn; clear bm bn; have HB := Aside0.mk (Below.refl w.heap.size w); have H : (if 0 ≤ (l0.length : Int) then (if ((l0.length : Int) : Int).toNat ≤ 7036874417766 then (laws_toItemS.l0 k l0 (List.replicate ((l0.length : Int) : Int).toNat z42) 0) else (none)) else (none)) = some r := h; clear h
 by_cases c2 : 0 ≤ (l0.length : Int)
 ·rw [if_pos c2] at H; have a1 := eq_true c2; have a2 : decide (0 ≤ (l0.length : Int)) = true := decide_eq_true c2; clear c2
  by_cases c3 : ((l0.length : Int) : Int).toNat ≤ 7036874417766
  ·rw [if_pos c3] at H; have a3 := eq_true c3; have a4 : decide (((l0.length : Int) : Int).toNat ≤ 7036874417766) = true := decide_eq_true c3; clear c3; obtain ⟨aK, ae⟩ : ∃ y_ : List (S42), y_ = (List.replicate ((l0.length : Int) : Int).toNat z42) := ⟨_, rfl⟩; rw [← ae] at H; have av := Aside0.mk ae; clear ae; have H' := Aside0.mk H; clear H
   go_enter Try.func20, Try.ntmps20
   go_wp2_with (first | ((with_reducible refine gate_dst (N := 7) rfl ?_); refine Kd.R_make k42 _ 42 rfl (N := 7) rfl 26 _ _ rfl (l0.length : Int) rfl rfl Try.underlying26 (.agg #[(.string ⟨#[]⟩), (.string ⟨#[]⟩), (.int .i64 0)]) 40 info42 rfl (by decide) (by omega) z42 (ok := fun _ => True) (okp := fun _ => True) (k42_mkM _ _ _ z42 ) (fun _ hk => hk) trivial (od) (Nat.le_trans (Nat.mul_le_mul_right _ (od : (l0.length : Int).toNat ≤ 7036874417766)) (by omega)) (Below.refl _ _) (Nat.le_refl _) ?_; intro a5 w4 aL hb hg_ hnew_; clear hg_ hnew_; (first | rw [← av.out] at aL | (simp only [Int.reduceToNat] at aL; rw [← av.out] at aL)); have aN := rl0 aL HB; replace HB := s0 HB hb; clear hb aL))
   go_loopg [4] k (fun kq v4 w' => ∃ (ab : List (S42)) (aa : Int), v4 = .int .i64 aa ∧ Aside0 (laws_toItemS.l0 kq l0 ab aa = some r) ∧ Aside0 (kq ≤ k) ∧ Aside0 (Kd.R k42 42 w' w.heap.size (fun _ => True) a5 ab) ∧ Aside0 (Below w.heap.size w w'))
   case atStart => exact ⟨(aK), (0), rs, H', ⟨Nat.le_refl _⟩, ⟨ro aN⟩, ⟨be HB⟩⟩
   case round =>
    clear H'
    try clear c2; try clear a1; try clear a2; try clear p2; try clear c3; try clear a3; try clear a4
    obtain ⟨ab, aa, rfl, HA, bq, ad, HB⟩ := hrel
    cases gk with
    | zero => exact absurd HA.out (by simp [laws_toItemS.l0])
    | succ k1 =>
     have H := HA.out; clear HA; simp only [laws_toItemS.l0] at H
     by_cases c6 : aa < (l0.length : Int)
     ·rw [if_pos c6] at H; have a6 : decide (aa < (l0.length : Int)) = true := decide_eq_true c6; clear c6
      by_cases c7 : 0 ≤ aa
      ·rw [if_pos c7] at H; have bw : decide (0 ≤ aa) = true := decide_eq_true c7; clear c7; obtain ⟨⟨ao, ap, aq⟩, A8, H⟩ := ob H
       try dsimp only at H
       by_cases c9 : aa < (ab.length : Int)
       ·rw [if_pos c9] at H; have bz : decide (aa < (ab.length : Int)) = true := decide_eq_true c9; clear c9; obtain ⟨ay, af⟩ : ∃ y_ : List (S42), y_ = (ab.set (aa : Int).toNat (⟨ao, ap, aq⟩ : S42)) := ⟨_, rfl⟩; rw [← af] at H; have aO := Aside0.mk af; clear af; have H' := Aside0.mk H; clear H; have az : 0 ≤ (aa : Int) := od; have aA : aa < (l0.length : Int) := od; obtain ⟨bs, a7, ah, ai, aj⟩ := at_T52 bu.out aa az aA; cases a7; replace ah := hc HB ah; replace ai := hc HB ai; replace aj := hc HB aj; replace az := eq_true az; replace aA := eq_true aA
        go_wp2_with (first | ((with_reducible refine gate_callee (f := 34) rfl ?_); refine gl 20 Try.func34 #[.agg #[.string ((rd_T52 l0 aa).f0), .string ((rd_T52 l0 aa).f1), .int .i64 ((rd_T52 l0 aa).f2)]] ?_; (with_reducible refine (laws_toItem.calls ((rd_T52 l0 aa).f0) ((rd_T52 l0 aa).f1) ((rd_T52 l0 aa).f2) ao ap aq _ A8.out).mono ?_); rintro e au ⟨rfl, hb⟩; refine ⟨_, rfl, ?_⟩; replace ad := rb ad hb; replace HB := s0 HB hb; (try clear hb); have a8 : 0 ≤ (aa : Int) := od; have a9 : (aa : Int) < ((ab.length : Int) : Int) := od; obtain ⟨ac, aQ, aR, aU, ba, bA, aV⟩ := Kd.R_form ad.out (by omega); (first | cases aR | (injection aR with ea_ en_ ec_; (first | subst ea_ | (injection ea_ with ea_; subst ea_)); subst ec_; clear en_)); have aB := Aside0.mk aU; have bC := Aside0.mk aV; clear aU ba aV; obtain ⟨bD, aW, aX, ak, al⟩ := Kd.R_elem ad.out z42 (aa : Int) a8 a9; obtain rfl := k42_openM aX; have bc : au.cell? ⟨ac, (aa : Int).toNat * 3, none⟩ = some (.string ((rd_T42 ab aa).f0)) := ak 0 _ rfl; have bd : au.cell? ⟨ac, (aa : Int).toNat * 3 + 1, none⟩ = some (.string ((rd_T42 ab aa).f1)) := ak 1 _ rfl; have bf : au.cell? ⟨ac, (aa : Int).toNat * 3 + 2, none⟩ = some (.int .i64 ((rd_T42 ab aa).f2)) := ak 2 _ rfl; have bg : au.frozen? ⟨ac, (aa : Int).toNat * 3, none⟩ = false := al 0; have bh : au.frozen? ⟨ac, (aa : Int).toNat * 3 + 1, none⟩ = false := al 1; have bi : au.frozen? ⟨ac, (aa : Int).toNat * 3 + 2, none⟩ = false := al 2; clear aW ak al aX; replace a8 := eq_true a8; replace a9 := eq_true a9; have aY := Aside0.mk (show Kd.R k42 42 au w.heap.size (fun _ => True) (.slice (some ⟨ac, 0, none⟩) ab.length aQ) ab from (ro ad)); obtain ⟨bF, aw, aZ, ag, an⟩ := Kd.R_elem aY.out z42 (aa : Int) (od) (by have h_ : (aa : Int) < ((ab.length : Int) : Int) := od; first | exact h_ | (have e_ := (Kd.R_reads' ad.out).1; omega) | simpa using h_); obtain rfl := k42_openM aZ; have aC := Kd.R_seg aY.out (aa : Int) (od) (by have h_ : (aa : Int) < ((ab.length : Int) : Int) := od; first | exact h_ | (have e_ := (Kd.R_reads' ad.out).1; omega) | simpa using h_) (seg := [.string ao, .string ap, .int .i64 aq]) (j := 0) aw ag (show 3 ≤ 3 from by decide) (x' := (⟨ao, ap, aq⟩ : S42)) (k42_mkM _ _ _ (⟨ao, ap, aq⟩ : S42) ) (fun _ hk => hk); have aD := ag 0 _ rfl; (try simp only [show (k42).sz = 3 from rfl, Nat.mul_one, Nat.add_zero] at aD); have aE := an 0; (try simp only [show (k42).sz = 3 from rfl, Nat.mul_one, Nat.add_zero] at aE); have aF := ag 1 _ rfl; (try simp only [show (k42).sz = 3 from rfl, Nat.mul_one, Nat.add_zero] at aF); have aG := an 1; (try simp only [show (k42).sz = 3 from rfl, Nat.mul_one, Nat.add_zero] at aG); have aH := ag 2 _ rfl; (try simp only [show (k42).sz = 3 from rfl, Nat.mul_one, Nat.add_zero] at aH); have aI := an 2; (try simp only [show (k42).sz = 3 from rfl, Nat.mul_one, Nat.add_zero] at aI); clear aw ag an aZ) | ((with_reducible refine gate_store (t := 42) (p := 21) rfl ?_); refine store_event (t := 42) (p := 21) (v := ?vo_w13) (w1 := (((au.setCell ⟨ac, (aa : Int).toNat * 3, none⟩ (.string ao)).setCell ⟨ac, (aa : Int).toNat * 3 + 1, none⟩ (.string ap)).setCell ⟨ac, (aa : Int).toNat * 3 + 2, none⟩ (.int .i64 aq))) ?hg ?ho ?hn ?hr ?_; (case ho => rfl); (case hg => rfl); (case hn => rfl); (case hr => first | (go_simp; done) | (go_simp; rfl)); intro bj hw; have hg : au.grownBy bj (some ac) := (by rw [hw]; exact aC.2); have hp_ : Kd.R k42 42 bj w.heap.size (fun _ => True) (.slice (some ⟨ac, 0, none⟩) ab.length aQ) ay := (by rw [hw, aO.out]; exact aC.1); clear aC; replace ad := Aside0.mk (hp_); replace HB := Aside0.mk ((by rw [hw]; exact below_set (below_set (below_set (HB.out) aB.out) aB.out) aB.out : Below w.heap.size w bj)); clear hg hw hp_))
        go_roundg k1
        case measure => have := bq.out; omega
        case rel => exact ⟨(ay), (wrap64 (aa + 1)), rs, H', ⟨by have := bq.out; omega⟩, ⟨ro ad⟩, ⟨be HB⟩⟩
       rw [if_neg c9] at H; exact absurd H (by simp)
      rw [if_neg c7] at H; exact absurd H (by simp)
     rw [if_neg c6] at H; have a6 : decide (aa < (l0.length : Int)) = false := decide_eq_false c6; clear c6; obtain rfl := Option.some.inj H
     go_wp2
     go_ret
     exact ⟨_, er, (ro ad), be HB⟩
  rw [if_neg c3] at H; exact absurd H (by simp)
 rw [if_neg c2] at H; exact absurd H (by simp)

/-! ### laws_toRow: function 6 -/
def laws_toRow.f (k : Nat) (ag : Int) (ah : Int) (ae : List (S52)) : Option (Int × Int × (List (S42))) := (laws_toItemS.f k ae).bind fun aj => (some (ag, ah, aj))
theorem laws_toRow.mono : ∀ a0 a1 a2 k, LeO (laws_toRow.f k a0 a1 a2) (laws_toRow.f (k + 1) a0 a1 a2) := by
 intro a0 a1 a2 k; unfold laws_toRow.f
 repeat' first | (with_reducible first | apply laws_toItemS.mono | apply lr | apply ln | apply li | refine lb ?_ fun _ => ?_) | apply ln | apply li | refine lb ?_ fun _ => ?_
set_option maxHeartbeats 8000000 in
set_option maxRecDepth 100000 in
theorem laws_toRow.calls (k : Nat) (ag : Int) (ah : Int) (au : Option Addr) (av : Nat) (ae : List (S52)) (r1 : Int) (r2 : Int) (r3 : List (S42)) (w : World) (aw : Kd.C k52 w au ae.length ae) (ax : ae.length ≤ av) (h : laws_toRow.f k ag ah ae = some (r1, r2, r3)) :
  Calls Try.prog 6 #[.agg #[.int .i64 ag, .int .i64 ah, .slice au ae.length av]] w fun e w' => ∃ aJ : Value, e = .returned (.agg #[.int .i64 r1, .int .i64 r2, aJ]) ∧ Kd.R k42 42 w' w.heap.size (fun _ => True) aJ r3 ∧ Below w.heap.size w w' := by
 have hu24 := Try.underlying24; have hu28 := Try.underlying28; have aC := Aside0.mk aw; have aD := Aside0.mk ax; clear aw ax; have HB := Aside0.mk (Below.refl w.heap.size w); have H : ((laws_toItemS.f k ae).bind fun aj => (some (ag, ah, aj))) = some (r1, r2, r3) := h; clear h; obtain ⟨aj, A2, H⟩ := ob H; simp only [Option.some.injEq, Prod.mk.injEq] at H; obtain ⟨rfl, rfl, rfl⟩ := H
 go_enter Try.func6, Try.ntmps6
 go_wp2_with (first | ((with_reducible refine gate_dst (N := 1) rfl ?_); refine bx 1 #[.int .i64 ag, .int .i64 ah, .slice au ae.length av] 24 ?_; intro aL hg w3 hbox hb; have aa := am hbox; have aN := gs0 hg HB; have ab := gs0 hg HB; replace HB := s0 HB hb; clear hb hbox hg) | ((with_reducible refine gate_dst (N := 2) rfl ?_); refine bx 2 #[.int .i64 0, .int .i64 0, .slice none 0 0] 28 ?_; intro al hg w4 hbox hb; have ac := am hbox; have aO := gs1 hg HB ab; have af := gs1 hg HB ab; replace HB := s1 HB ab hb; have ao := nl hg aa; have ap := ng hg aa; replace aa := bb aa hb; clear hb hbox hg) | ((with_reducible refine gate_dst (N := 3) rfl ?_); refine bx 3 #[.int .i64 0, .int .i64 0, .slice none 0 0] 28 ?_; intro ay hg w5 hbox hb; have ak := am hbox; have aQ := gs2 hg HB ab af; have an := gs2 hg HB ab af; replace HB := s2 HB ab af hb; have ai := nl hg aa; have aq := ng hg aa; replace aa := bb aa hb; have ad := nl hg ac; have ar := ng hg ac; replace ac := bb ac hb; clear hb hbox hg; have aU := ao.out; have aV := ap.out; have aW := ai.out; have aX := aq.out; have aH := bz3 aa; have aY := ar.out; have aZ := ad.out; have aE := bz3 ak) | ((with_reducible refine gate_callee (f := 20) rfl ?_); refine gl 12 Try.func20 #[.slice au ae.length av] ?_; (with_reducible refine (laws_toItemS.calls k _ _ ae aj _ ?side1 aD.out A2.out).mono ?_); (case side1 => exact Kd.C_below aC.out (be3 HB ab af an)); rintro e a4 ⟨a3, rfl, aR, hb⟩; refine ⟨_, rfl, ?_⟩; have az := rl3 aR HB ab af an; replace aa := bbf aa ai hb; replace ac := bbf ac ad hb; replace ak := Aside0.mk (blk_below (g := ay) (o := .cells #[.int .i64 ag, .int .i64 ah, .slice none 0 0] 28 (0, 0)) (bp ak) hb); replace HB := s3 HB ab af an hb; (try clear hb); (try clear aR); obtain ⟨aA, aB, aI⟩ := Kd.R_slice az.out; subst aI; have aF := bz3 ak; have aG := bz3 ac))
 refine bodyPost_ret (results_cell_row rfl _ _ al 28 #[.int .i64 ag, .int .i64 ah, .slice aA aj.length aB] (0, 0) _ rfl (bp1 ac ad) Try.underlying28 rfl (by kernel_rfl)) rfl ?_; exact ⟨_, er, (rf2n az ac ak), be3 HB ab af an⟩

/-! ### impl_within: function 35 -/
def impl_within.f (a0 : Int) (a1 : Int) (a2 : Int) : Option (Bool) := if a0 ≥ a1 then (some (decide (a0 ≤ a2))) else (some false)
set_option maxHeartbeats 8000000 in
set_option maxRecDepth 100000 in
theorem impl_within.calls (a0 : Int) (a1 : Int) (a2 : Int) (r : Bool) (w : World) (h : impl_within.f a0 a1 a2 = some r) :
  Calls Try.prog 35 #[.int .i64 a0, .int .i64 a1, .int .i64 a2] w fun e w' => e = .returned (.bool r) ∧ Drawn0 w w' := by
 have H : (if a0 ≥ a1 then (some (decide (a0 ≤ a2))) else (some false)) = some r := h; clear h
 by_cases c4 : a0 ≥ a1
 ·rw [if_pos c4] at H; have aa : decide (a1 ≤ a0) = true := decide_eq_true c4; clear c4; obtain rfl := Option.some.inj H
  go_enter Try.func35, Try.ntmps35
  go_wp2
  go_ret
  exact ⟨by first | rfl | (simp; done) | (simp [*]; done), by repeat (first | exact Drawn0.refl _ | apply Drawn0.step)⟩
 rw [if_neg c4] at H; have aa : decide (a1 ≤ a0) = false := decide_eq_false c4; clear c4; obtain rfl := Option.some.inj H
 go_enter Try.func35, Try.ntmps35
 go_wp2
 go_ret
 exact ⟨by first | rfl | (simp; done) | (simp [*]; done), by repeat (first | exact Drawn0.refl _ | apply Drawn0.step)⟩

/-! ### impl_isPlain: function 37 -/
def impl_isPlain.l0 : Nat → ByteArray → Int → Option (Bool)
 | 0, _, _ => none
 | k + 1, x0, x3 => if x3 < (x0.size : Int) then (if 0 ≤ x3 then (if (bt x0 x3) = 32 then (some false) else (if (bt x0 x3) = 10 then (some false) else (impl_isPlain.l0 k x0 (wrap64 (x3 + 1))))) else (none)) else (some true)
def impl_isPlain.f (k : Nat) (a0 : ByteArray) : Option (Bool) := impl_isPlain.l0 k a0 0
theorem impl_isPlain.mono_l : ∀ k, (∀ y0 y1, LeO (impl_isPlain.l0 k y0 y1) (impl_isPlain.l0 (k + 1) y0 y1))
 | 0 => fun _ _ r h => by simp [impl_isPlain.l0] at h
 | k + 1 => by
  have ab := impl_isPlain.mono_l k
  ·intro y0 y1; unfold impl_isPlain.l0
   repeat' first | (with_reducible first | apply ab | apply lr | apply ln | apply li | refine lb ?_ fun _ => ?_) | apply ab | apply ln | apply li | refine lb ?_ fun _ => ?_
theorem impl_isPlain.mono : ∀ a0 k, LeO (impl_isPlain.f k a0) (impl_isPlain.f (k + 1) a0) := by
 intro a0 k; have ab := impl_isPlain.mono_l k; unfold impl_isPlain.f
 repeat' first | (with_reducible first | apply ab | apply lr | apply ln | apply li | refine lb ?_ fun _ => ?_) | apply ab | apply ln | apply li | refine lb ?_ fun _ => ?_
set_option maxHeartbeats 8000000 in
set_option maxRecDepth 100000 in
theorem impl_isPlain.calls (k : Nat) (a0 : ByteArray) (r : Bool) (w : World) (h : impl_isPlain.f k a0 = some r) :
  Calls Try.prog 37 #[.string a0] w fun e w' => e = .returned (.bool r) ∧ Drawn0 w w' := by
 have H : (impl_isPlain.l0 k a0 0) = some r := h; clear h; have H' := Aside0.mk H; clear H
 go_enter Try.func37, Try.ntmps37
 go_wp2
 go_loopg [3] k (fun kq v3 w' => ∃ (aa : Int), v3 = .int .i64 aa ∧ Aside0 (impl_isPlain.l0 kq a0 aa = some r) ∧ Aside0 (kq ≤ k) ∧ Drawn0 w w')
 case atStart => exact ⟨(0), rs, H', ⟨Nat.le_refl _⟩, by repeat (first | exact Drawn0.refl _ | apply Drawn0.step)⟩
 case round =>
  clear H'; obtain ⟨aa, rfl, HA, ah, ⟨m1, rfl⟩⟩ := hrel
  cases gk with
  | zero => exact absurd HA.out (by simp [impl_isPlain.l0])
  | succ k1 =>
   have H := HA.out; clear HA; simp only [impl_isPlain.l0] at H
   by_cases c2 : aa < (a0.size : Int)
   ·rw [if_pos c2] at H; have ac : decide (aa < (a0.size : Int)) = true := decide_eq_true c2; clear c2
    by_cases c3 : 0 ≤ aa
    ·rw [if_pos c3] at H; have aj : decide (0 ≤ aa) = true := decide_eq_true c3; clear c3
     by_cases c5 : (bt a0 aa) = 32
     ·rw [if_pos c5] at H; have ad : ((bt a0 aa) == 32) = true := beq_iff_eq.mpr c5; have ae : ((bt a0 aa) != 32) = false := bne_eq_false_iff_eq.mpr c5; clear c5; obtain rfl := Option.some.inj H; have p4 : 0 ≤ (aa : Int) := od; have q4 : aa < (a0.size : Int) := od; have ai := bt_at a0 aa; replace p4 := eq_true p4; replace q4 := eq_true q4
      go_wp2
      go_ret
      exact ⟨by first | rfl | (simp; done) | (simp [*]; done), by repeat (first | exact Drawn0.refl _ | apply Drawn0.step)⟩
     rw [if_neg c5] at H; have ad : ((bt a0 aa) == 32) = false := beq_eq_false_iff_ne.mpr c5; have ae : ((bt a0 aa) != 32) = true := bne_iff_ne.mpr c5
     by_cases c7 : (bt a0 aa) = 10
     ·rw [if_pos c7] at H; have af : ((bt a0 aa) == 10) = true := beq_iff_eq.mpr c7; have ag : ((bt a0 aa) != 10) = false := bne_eq_false_iff_eq.mpr c7; clear c7; obtain rfl := Option.some.inj H; have p4 : 0 ≤ (aa : Int) := od; have q4 : aa < (a0.size : Int) := od; have ai := bt_at a0 aa; replace p4 := eq_true p4; replace q4 := eq_true q4; have p6 : 0 ≤ (aa : Int) := od; have q6 : aa < (a0.size : Int) := od; have ak := bt_at a0 aa; replace p6 := eq_true p6; replace q6 := eq_true q6
      go_wp2
      go_ret
      exact ⟨by first | rfl | (simp; done) | (simp [*]; done), by repeat (first | exact Drawn0.refl _ | apply Drawn0.step)⟩
     rw [if_neg c7] at H; have af : ((bt a0 aa) == 10) = false := beq_eq_false_iff_ne.mpr c7; have ag : ((bt a0 aa) != 10) = true := bne_iff_ne.mpr c7; have H' := Aside0.mk H; clear H; have p4 : 0 ≤ (aa : Int) := od; have q4 : aa < (a0.size : Int) := od; have ai := bt_at a0 aa; replace p4 := eq_true p4; replace q4 := eq_true q4; have p6 : 0 ≤ (aa : Int) := od; have q6 : aa < (a0.size : Int) := od; have ak := bt_at a0 aa; replace p6 := eq_true p6; replace q6 := eq_true q6
     go_wp2
     go_roundg k1
     case measure => have := ah.out; omega
     case rel => exact ⟨(wrap64 (aa + 1)), rs, H', ⟨by have := ah.out; omega⟩, by repeat (first | exact Drawn0.refl _ | apply Drawn0.step)⟩
    rw [if_neg c3] at H; exact absurd H (by simp)
   rw [if_neg c2] at H; have ac : decide (aa < (a0.size : Int)) = false := decide_eq_false c2; clear c2; obtain rfl := Option.some.inj H
   go_wp2
   go_ret
   exact ⟨by first | rfl | (simp; done) | (simp [*]; done), by repeat (first | exact Drawn0.refl _ | apply Drawn0.step)⟩

/-! ### impl_ItemOk: function 22 -/
def impl_ItemOk.f (k : Nat) (aa : ByteArray) (ab : ByteArray) (ae : Int) : Option (Bool) := (impl_within.f (aa.size : Int) 1 20).bind fun ai => (if ai = true then (if (ab.size : Int) ≤ 40 then ((impl_isPlain.f k aa).bind fun aj => (if aj = true then ((impl_isPlain.f k ab).bind fun ak => (if ak = true then ((impl_within.f ae 0 3).bind fun ah => (some ah)) else (some false))) else (some false))) else (some false)) else (some false))
theorem impl_ItemOk.mono : ∀ a0 a1 a2 k, LeO (impl_ItemOk.f k a0 a1 a2) (impl_ItemOk.f (k + 1) a0 a1 a2) := by
 intro a0 a1 a2 k; unfold impl_ItemOk.f
 repeat' first | (with_reducible first | apply impl_isPlain.mono | apply lr | apply ln | apply li | refine lb ?_ fun _ => ?_) | apply ln | apply li | refine lb ?_ fun _ => ?_
set_option maxHeartbeats 8000000 in
set_option maxRecDepth 100000 in
theorem impl_ItemOk.calls (k : Nat) (aa : ByteArray) (ab : ByteArray) (ae : Int) (r : Bool) (w : World) (h : impl_ItemOk.f k aa ab ae = some r) :
  Calls Try.prog 22 #[.agg #[.string aa, .string ab, .int .i64 ae]] w fun e w' => e = .returned (.bool r) ∧ Below w.heap.size w w' := by
 have hu42 := Try.underlying42; have HB := Aside0.mk (Below.refl w.heap.size w); have H : ((impl_within.f (aa.size : Int) 1 20).bind fun ai => (if ai = true then (if (ab.size : Int) ≤ 40 then ((impl_isPlain.f k aa).bind fun aj => (if aj = true then ((impl_isPlain.f k ab).bind fun ak => (if ak = true then ((impl_within.f ae 0 3).bind fun ah => (some ah)) else (some false))) else (some false))) else (some false)) else (some false))) = some r := h; clear h; obtain ⟨ai, A2, H⟩ := ob H
 try dsimp only at H
 by_cases c3 : ai = true
 ·subst c3; rw [if_pos rfl] at H
  by_cases c4 : (ab.size : Int) ≤ 40
  ·rw [if_pos c4] at H; have ar : decide ((ab.size : Int) ≤ 40) = true := decide_eq_true c4; have au : decide (ab.size ≤ 40) = true := decide_eq_true (by omega); clear c4; obtain ⟨aj, A5, H⟩ := ob H
   try dsimp only at H
   by_cases c6 : aj = true
   ·subst c6; rw [if_pos rfl] at H; obtain ⟨ak, A7, H⟩ := ob H
    try dsimp only at H
    by_cases c8 : ak = true
    ·subst c8; rw [if_pos rfl] at H; obtain ⟨ah, A9, H⟩ := ob H; obtain rfl := Option.some.inj H
     go_enter Try.func22, Try.ntmps22
     go_wp2_with (first | ((with_reducible refine gate_dst (N := 1) rfl ?_); (try (refine gate_guard (by rfl) ?_; dsimp only)); refine bx 1 #[.string aa, .string ab, .int .i64 ae] 42 ?_; intro af hg az hbox hb; have ac := am hbox; have ag := gs0 hg HB; have ad := gs0 hg HB; replace HB := s0 HB hb; clear hb hbox hg; have al := bz3 ac) | ((with_reducible refine gate_callee (f := 35) rfl ?_); refine gl 6 Try.func35 #[.int .i64 (aa.size : Int), .int .i64 1, .int .i64 20] ?_; (with_reducible refine (impl_within.calls (aa.size : Int) 1 20 true _ A2.out).mono ?_); rintro e w' ⟨rfl, ⟨nd, rfl⟩⟩; refine ⟨_, rfl, ?_⟩) | (go_at_call 37; (with_reducible refine (impl_isPlain.calls k aa true _ A5.out).mono ?_); rintro e w' ⟨rfl, ⟨nd, rfl⟩⟩) | (go_at_call 37; (with_reducible refine (impl_isPlain.calls k ab true _ A7.out).mono ?_); rintro e w' ⟨rfl, ⟨nd, rfl⟩⟩) | (go_at_call 35; (with_reducible refine (impl_within.calls ae 0 3 ah _ A9.out).mono ?_); rintro e w' ⟨rfl, ⟨nd, rfl⟩⟩))
     go_ret
     exact ⟨er, be1 HB ad⟩
    replace c8 := Bool.eq_false_iff.mpr c8; subst c8; rw [if_neg nf] at H; obtain rfl := Option.some.inj H
    go_enter Try.func22, Try.ntmps22
    go_wp2_with (first | ((with_reducible refine gate_dst (N := 1) rfl ?_); (try (refine gate_guard (by rfl) ?_; dsimp only)); refine bx 1 #[.string aa, .string ab, .int .i64 ae] 42 ?_; intro af hg aA hbox hb; have ac := am hbox; have ag := gs0 hg HB; have ad := gs0 hg HB; replace HB := s0 HB hb; clear hb hbox hg; have an := bz3 ac) | ((with_reducible refine gate_callee (f := 35) rfl ?_); refine gl 6 Try.func35 #[.int .i64 (aa.size : Int), .int .i64 1, .int .i64 20] ?_; (with_reducible refine (impl_within.calls (aa.size : Int) 1 20 true _ A2.out).mono ?_); rintro e w' ⟨rfl, ⟨nd, rfl⟩⟩; refine ⟨_, rfl, ?_⟩) | (go_at_call 37; (with_reducible refine (impl_isPlain.calls k aa true _ A5.out).mono ?_); rintro e w' ⟨rfl, ⟨nd, rfl⟩⟩) | (go_at_call 37; (with_reducible refine (impl_isPlain.calls k ab false _ A7.out).mono ?_); rintro e w' ⟨rfl, ⟨nd, rfl⟩⟩))
    go_ret
    exact ⟨er, be1 HB ad⟩
   replace c6 := Bool.eq_false_iff.mpr c6; subst c6; rw [if_neg nf] at H; obtain rfl := Option.some.inj H
   go_enter Try.func22, Try.ntmps22
   go_wp2_with (first | ((with_reducible refine gate_dst (N := 1) rfl ?_); (try (refine gate_guard (by rfl) ?_; dsimp only)); refine bx 1 #[.string aa, .string ab, .int .i64 ae] 42 ?_; intro af hg aB hbox hb; have ac := am hbox; have ag := gs0 hg HB; have ad := gs0 hg HB; replace HB := s0 HB hb; clear hb hbox hg; have ao := bz3 ac) | ((with_reducible refine gate_callee (f := 35) rfl ?_); refine gl 6 Try.func35 #[.int .i64 (aa.size : Int), .int .i64 1, .int .i64 20] ?_; (with_reducible refine (impl_within.calls (aa.size : Int) 1 20 true _ A2.out).mono ?_); rintro e w' ⟨rfl, ⟨nd, rfl⟩⟩; refine ⟨_, rfl, ?_⟩) | (go_at_call 37; (with_reducible refine (impl_isPlain.calls k aa false _ A5.out).mono ?_); rintro e w' ⟨rfl, ⟨nd, rfl⟩⟩))
   go_ret
   exact ⟨er, be1 HB ad⟩
  rw [if_neg c4] at H; have ar : decide ((ab.size : Int) ≤ 40) = false := decide_eq_false c4; have au : decide (ab.size ≤ 40) = false := decide_eq_false (by omega); clear c4; obtain rfl := Option.some.inj H
  go_enter Try.func22, Try.ntmps22
  go_wp2_with (first | ((with_reducible refine gate_dst (N := 1) rfl ?_); (try (refine gate_guard (by rfl) ?_; dsimp only)); refine bx 1 #[.string aa, .string ab, .int .i64 ae] 42 ?_; intro af hg aC hbox hb; have ac := am hbox; have ag := gs0 hg HB; have ad := gs0 hg HB; replace HB := s0 HB hb; clear hb hbox hg; have ap := bz3 ac) | ((with_reducible refine gate_callee (f := 35) rfl ?_); refine gl 6 Try.func35 #[.int .i64 (aa.size : Int), .int .i64 1, .int .i64 20] ?_; (with_reducible refine (impl_within.calls (aa.size : Int) 1 20 true _ A2.out).mono ?_); rintro e w' ⟨rfl, ⟨nd, rfl⟩⟩; refine ⟨_, rfl, ?_⟩))
  go_ret
  exact ⟨er, be1 HB ad⟩
 replace c3 := Bool.eq_false_iff.mpr c3; subst c3; rw [if_neg nf] at H; obtain rfl := Option.some.inj H
 go_enter Try.func22, Try.ntmps22
 go_wp2_with (first | ((with_reducible refine gate_dst (N := 1) rfl ?_); (try (refine gate_guard (by rfl) ?_; dsimp only)); refine bx 1 #[.string aa, .string ab, .int .i64 ae] 42 ?_; intro af hg aD hbox hb; have ac := am hbox; have ag := gs0 hg HB; have ad := gs0 hg HB; replace HB := s0 HB hb; clear hb hbox hg; have aq := bz3 ac) | ((with_reducible refine gate_callee (f := 35) rfl ?_); refine gl 6 Try.func35 #[.int .i64 (aa.size : Int), .int .i64 1, .int .i64 20] ?_; (with_reducible refine (impl_within.calls (aa.size : Int) 1 20 false _ A2.out).mono ?_); rintro e w' ⟨rfl, ⟨nd, rfl⟩⟩; refine ⟨_, rfl, ?_⟩))
 go_ret
 exact ⟨er, be1 HB ad⟩

/-! ### impl_itemAt: function 24 -/
def impl_itemAt.l0 : Nat → ByteArray → List (S42) → Int → Int → Option (Int)
 | 0, _, _, _, _ => none
 | k + 1, x1, x7, x8, x9 => if x9 < x8 then (if 0 ≤ x9 then (if x9 < (x7.length : Int) then (if ((rd_T42 x7 x9).f0).toList = x1.toList then (some x9) else (impl_itemAt.l0 k x1 x7 x8 (wrap64 (x9 + 1)))) else (none)) else (none)) else (some (-1))
def impl_itemAt.f (k : Nat) (l0 : List (S42)) (a1 : ByteArray) : Option (Int) := impl_itemAt.l0 k a1 l0 (l0.length : Int) 0
theorem impl_itemAt.mono_l : ∀ k, (∀ y0 y1 y2 y3, LeO (impl_itemAt.l0 k y0 y1 y2 y3) (impl_itemAt.l0 (k + 1) y0 y1 y2 y3))
 | 0 => fun _ _ _ _ r h => by simp [impl_itemAt.l0] at h
 | k + 1 => by
  have ag := impl_itemAt.mono_l k
  ·intro y0 y1 y2 y3; unfold impl_itemAt.l0
   repeat' first | (with_reducible first | apply ag | apply lr | apply ln | apply li | refine lb ?_ fun _ => ?_) | apply ag | apply ln | apply li | refine lb ?_ fun _ => ?_
theorem impl_itemAt.mono : ∀ a0 a1 k, LeO (impl_itemAt.f k a0 a1) (impl_itemAt.f (k + 1) a0 a1) := by
 intro a0 a1 k; have ag := impl_itemAt.mono_l k; unfold impl_itemAt.f
 repeat' first | (with_reducible first | apply ag | apply lr | apply ln | apply li | refine lb ?_ fun _ => ?_) | apply ag | apply ln | apply li | refine lb ?_ fun _ => ?_
theorem impl_itemAt_is (x : S42) (key : ByteArray) (B : Nat) (W : World) (b : Bool) (hB : B < W.heap.size) (hcell : W.cell? ⟨B, 0, none⟩ = some (.string key)) (hb : (x.f0.toList == key.toList) = b) :
  Calls Try.prog 40 #[.agg #[.string x.f0, .string x.f1, .int .i64 x.f2], .pointer (some ⟨B, 0, none⟩)] W fun e w' => e = .returned (.bool b) ∧ Below W.heap.size W w' := by
 have hne : B ≠ W.heap.size := by omega
 go_enter Try.func40, Try.ntmps40
 go_wp2
 all_goals (go_ret; exact ⟨by simp_all, (Below.refl _ _).alloc (Nat.le_refl _) _⟩)
set_option maxHeartbeats 4000000 in
set_option maxRecDepth 100000 in
theorem impl_itemAt_idx (k : Nat) (A0 : Option Addr) (c0 : Nat) (l0 : List (S42)) (a1 : ByteArray) (r : Int) (B : Nat) (w : World) (hB : B < w.heap.size) (hcell : w.cell? ⟨B, 0, none⟩ = some (.string a1)) (ah : Kd.C k42 w A0 l0.length l0) (h : impl_itemAt.l0 k a1 l0 (l0.length : Int) 0 = some r) :
  Calls Try.prog 39 #[.slice A0 l0.length c0, .func (.func 40) #[] #[.pointer (some ⟨B, 0, none⟩)]] w fun e w' => e = .returned (.int .i64 r) ∧ Below w.heap.size w w' := by
 have hu42 := Try.underlying42; have an := Aside0.mk ah; have HCL := Aside0.mk hcell; have HBB := Aside0.mk hB; clear ah hcell hB; have HB := Aside0.mk (Below.refl w.heap.size w); have H' := Aside0.mk h; clear h
 go_enter Try.func39, Try.ntmps39
 go_wp2
 go_loopg [5, 8] k (fun kq _ v8 wr => ∃ (x8 : Int), v8 = .int .i64 x8 ∧ Aside0 (impl_itemAt.l0 kq a1 l0 (l0.length : Int) x8 = some r) ∧ Aside0 (kq ≤ k) ∧ Aside0 (Below w.heap.size w wr))
 case atStart => exact ⟨0, rfl, H', ⟨Nat.le_refl _⟩, HB⟩
 case round =>
  clear H' HB; obtain ⟨aa, rfl, HA, ak, HB⟩ := hrel
  cases gk with
  | zero => exact absurd HA.out (by simp [impl_itemAt.l0])
  | succ k1 =>
   have H := HA.out; clear HA; simp only [impl_itemAt.l0] at H
   by_cases c3 : aa < (l0.length : Int)
   ·rw [if_pos c3] at H; have ai : decide (aa < (l0.length : Int)) = true := decide_eq_true c3
    by_cases c4 : 0 ≤ aa
    ·rw [if_pos c4, if_pos c3] at H; have ao : decide (0 ≤ aa) = true := decide_eq_true c4; have ae := c4; have af := c3; clear c3 c4; obtain ⟨al, aj, ab, ac, ad⟩ := at_T42 an.out aa ae af; cases aj; replace ab := hc HB ab; replace ac := hc HB ac; replace ad := hc HB ad; have hBr : B < wr.heap.size := Nat.lt_of_lt_of_le HBB.out HB.out.size; have hcl : wr.cell? ⟨B, 0, none⟩ = some (.string a1) := (HB.out.cell (p := ⟨B, 0, none⟩) HBB.out).trans HCL.out; replace ae := eq_true ae; replace af := eq_true af
     by_cases c6 : ((rd_T42 l0 aa).f0).toList = a1.toList
     ·rw [if_pos c6] at H; have hcall := impl_itemAt_is (rd_T42 l0 aa) a1 B wr true hBr hcl (beq_iff_eq.mpr c6); clear c6 hBr hcl; obtain rfl := Option.some.inj H; clear H
      go_wp2_with (go_at_call 40; refine hcall.mono ?_; rintro e w' ⟨rfl, hb'⟩)
      go_ret
      exact ⟨rfl, HB.out.trans (hb'.mono HB.out.size)⟩
     rw [if_neg c6] at H; have hcall := impl_itemAt_is (rd_T42 l0 aa) a1 B wr false hBr hcl (beq_eq_false_iff_ne.mpr c6); clear c6 hBr hcl; have H' := Aside0.mk H; clear H
     go_wp2_with (go_at_call 40; refine hcall.mono ?_; rintro e w' ⟨rfl, hb'⟩)
     go_roundg k1
     case measure => have := ak.out; omega
     case rel => exact ⟨(wrap64 (aa + 1)), rs, H', ⟨by have := ak.out; omega⟩, ⟨HB.out.trans (hb'.mono HB.out.size)⟩⟩
    rw [if_neg c4] at H; exact absurd H (by simp)
   rw [if_neg c3] at H; have ai : decide (aa < (l0.length : Int)) = false := decide_eq_false c3; clear c3; obtain rfl := Option.some.inj H
   go_wp2
   go_ret
   exact ⟨rfl, HB.out⟩
set_option maxHeartbeats 8000000 in
set_option maxRecDepth 100000 in
theorem impl_itemAt.calls (k : Nat) (A0 : Option Addr) (c0 : Nat) (l0 : List (S42)) (a1 : ByteArray) (r : Int) (w : World) (ah : Kd.C k42 w A0 l0.length l0) (ap : l0.length ≤ c0) (h : impl_itemAt.f k l0 a1 = some r) :
  Calls Try.prog 24 #[.slice A0 l0.length c0, .string a1] w fun e w' => e = .returned (.int .i64 r) ∧ Below w.heap.size w w' := by
 have H : impl_itemAt.l0 k a1 l0 (l0.length : Int) 0 = some r := h; have hcon := impl_itemAt_idx k A0 c0 l0 a1 r w.heap.size (w.alloc (.cells #[.string a1] 9)) (by simp) (by simp) (Kd.C_alloc ah _) H; clear ah ap H h
 go_enter Try.func24, Try.ntmps24
 go_wp2_with (go_at_call 39; refine hcon.mono ?_; rintro e w' ⟨rfl, hb'⟩)
 go_ret
 exact ⟨rfl, ((Below.refl _ w).alloc (Nat.le_refl _) _).trans (hb'.mono (by simp))⟩


/-! ### impl_areItems: function 36 -/
def impl_areItems.l0 : Nat → List (S42) → List (S42) → Int → Int → Option (Bool)
 | 0, _, _, _, _ => none
 | k + 1, x0, x5, x6, x7 => if x7 < x6 then (if 0 ≤ x7 then (if x7 < (x5.length : Int) then ((impl_ItemOk.f k ((rd_T42 x5 x7).f0) ((rd_T42 x5 x7).f1) ((rd_T42 x5 x7).f2)).bind fun ao => (if ao = true then ((impl_itemAt.f k x0 ((rd_T42 x5 x7).f0)).bind fun ai => (if ai = x7 then (impl_areItems.l0 k x0 x5 x6 (wrap64 (x7 + 1))) else (some false))) else (some false))) else (none)) else (none)) else (some true)
def impl_areItems.f (k : Nat) (l0 : List (S42)) : Option (Bool) := impl_areItems.l0 k l0 l0 (l0.length : Int) 0
theorem impl_areItems.mono_l : ∀ k, (∀ y0 y1 y2 y3, LeO (impl_areItems.l0 k y0 y1 y2 y3) (impl_areItems.l0 (k + 1) y0 y1 y2 y3))
 | 0 => fun _ _ _ _ r h => by simp [impl_areItems.l0] at h
 | k + 1 => by
  have ap := impl_areItems.mono_l k
  ·intro y0 y1 y2 y3; unfold impl_areItems.l0
   repeat' first | (with_reducible first | apply ap | apply impl_ItemOk.mono | apply impl_itemAt.mono | apply lr | apply ln | apply li | refine lb ?_ fun _ => ?_) | apply ap | apply ln | apply li | refine lb ?_ fun _ => ?_
theorem impl_areItems.mono : ∀ a0 k, LeO (impl_areItems.f k a0) (impl_areItems.f (k + 1) a0) := by
 intro a0 k; have ap := impl_areItems.mono_l k; unfold impl_areItems.f
 repeat' first | (with_reducible first | apply ap | apply impl_ItemOk.mono | apply impl_itemAt.mono | apply lr | apply ln | apply li | refine lb ?_ fun _ => ?_) | apply ap | apply ln | apply li | refine lb ?_ fun _ => ?_
set_option maxHeartbeats 8000000 in
set_option maxRecDepth 100000 in
theorem impl_areItems.calls (k : Nat) (A0 : Option Addr) (c0 : Nat) (l0 : List (S42)) (r : Bool) (w : World) (aB : Kd.C k42 w A0 l0.length l0) (aC : l0.length ≤ c0) (h : impl_areItems.f k l0 = some r) :
  Calls Try.prog 36 #[.slice A0 l0.length c0] w fun e w' => e = .returned (.bool r) ∧ Below w.heap.size w w' := by
 have hu42 := Try.underlying42; have aq := Aside0.mk aB; have aD := Aside0.mk aC; clear aB aC; have HB := Aside0.mk (Below.refl w.heap.size w); have H : (impl_areItems.l0 k l0 l0 (l0.length : Int) 0) = some r := h; clear h; have H' := Aside0.mk H; clear H
 go_enter Try.func36, Try.ntmps36
 go_wp2
 go_loopg [7] k (fun kq v7 w' => ∃ (aa : Int), v7 = .int .i64 aa ∧ Aside0 (impl_areItems.l0 kq l0 l0 (l0.length : Int) aa = some r) ∧ Aside0 (kq ≤ k) ∧ Aside0 (Below w.heap.size w w'))
 case atStart => exact ⟨(0), rs, H', ⟨Nat.le_refl _⟩, ⟨be HB⟩⟩
 case round =>
  clear H'; obtain ⟨aa, rfl, HA, aE, HB⟩ := hrel
  cases gk with
  | zero => exact absurd HA.out (by simp [impl_areItems.l0])
  | succ k1 =>
   have H := HA.out; clear HA; simp only [impl_areItems.l0] at H
   by_cases c2 : aa < (l0.length : Int)
   ·rw [if_pos c2] at H; have ay : decide (aa < (l0.length : Int)) = true := decide_eq_true c2; clear c2
    by_cases c3 : 0 ≤ aa
    ·rw [if_pos c3] at H; have aH : decide (0 ≤ aa) = true := decide_eq_true c3; clear c3
     by_cases c4 : aa < (l0.length : Int)
     ·rw [if_pos c4] at H; have aI : decide (aa < (l0.length : Int)) = true := decide_eq_true c4; clear c4; obtain ⟨ao, A5, H⟩ := ob H
      try dsimp only at H
      by_cases c6 : ao = true
      ·subst c6; rw [if_pos rfl] at H; obtain ⟨ai, A7, H⟩ := ob H
       try dsimp only at H
       by_cases c8 : ai = aa
       ·rw [if_pos c8] at H; have az : (ai == aa) = true := beq_iff_eq.mpr c8; have aA : (ai != aa) = false := bne_eq_false_iff_eq.mpr c8; clear c8; have H' := Aside0.mk H; clear H; have ag : 0 ≤ (aa : Int) := od; have ah : aa < (l0.length : Int) := od; obtain ⟨al, ak, ac, ad, ae⟩ := at_T42 aq.out aa ag ah; cases ak; replace ac := hc HB ac; replace ad := hc HB ad; replace ae := hc HB ae; replace ag := eq_true ag; replace ah := eq_true ah
        go_wp2_with (first | ((with_reducible refine gate_dst (N := 4) rfl ?_); refine bx 4 #[.string (⟨#[]⟩ : ByteArray), .string (⟨#[]⟩ : ByteArray), .int .i64 0] 42 ?_; intro aj hg w9 hbox hb; have ab := am hbox; have an := gs0 hg HB; have af := gs0 hg HB; replace HB := s0 HB hb; clear hb hbox hg; have ar := bz3 ab) | ((with_reducible refine gate_callee (f := 22) rfl ?_); refine gl 13 Try.func22 #[.agg #[.string ((rd_T42 l0 aa).f0), .string ((rd_T42 l0 aa).f1), .int .i64 ((rd_T42 l0 aa).f2)]] ?_; (with_reducible refine (impl_ItemOk.calls k1 ((rd_T42 l0 aa).f0) ((rd_T42 l0 aa).f1) ((rd_T42 l0 aa).f2) true _ A5.out).mono ?_); rintro e aJ ⟨rfl, hb⟩; refine ⟨_, rfl, ?_⟩; replace ab := Aside0.mk (blk_below (g := aj) (o := .cells #[.string ((rd_T42 l0 aa).f0), .string ((rd_T42 l0 aa).f1), .int .i64 ((rd_T42 l0 aa).f2)] 42 (0, 0)) (bp ab) hb); replace HB := s1 HB af hb; (try clear hb); have au := bz3 ab) | (go_at_call 24; (with_reducible refine (impl_itemAt.calls k1 _ _ l0 ((rd_T42 l0 aa).f0) ai _ (cb aq HB) ?side2 A7.out).mono ?_); (case side2 => exact aD.out); rintro e aK ⟨rfl, hb⟩; replace ab := bb ab hb; replace HB := s1 HB af hb; (try clear hb)))
        go_roundg k1
        case measure => have := aE.out; omega
        case rel => exact ⟨(wrap64 (aa + 1)), rs, H', ⟨by have := aE.out; omega⟩, ⟨be1 HB af⟩⟩
       rw [if_neg c8] at H; have az : (ai == aa) = false := beq_eq_false_iff_ne.mpr c8; have aA : (ai != aa) = true := bne_iff_ne.mpr c8; obtain rfl := Option.some.inj H; have ag : 0 ≤ (aa : Int) := od; have ah : aa < (l0.length : Int) := od; obtain ⟨al, ak, ac, ad, ae⟩ := at_T42 aq.out aa ag ah; cases ak; replace ac := hc HB ac; replace ad := hc HB ad; replace ae := hc HB ae; replace ag := eq_true ag; replace ah := eq_true ah
       go_wp2_with (first | ((with_reducible refine gate_dst (N := 4) rfl ?_); refine bx 4 #[.string (⟨#[]⟩ : ByteArray), .string (⟨#[]⟩ : ByteArray), .int .i64 0] 42 ?_; intro aj hg aL hbox hb; have ab := am hbox; have an := gs0 hg HB; have af := gs0 hg HB; replace HB := s0 HB hb; clear hb hbox hg; have av := bz3 ab) | ((with_reducible refine gate_callee (f := 22) rfl ?_); refine gl 13 Try.func22 #[.agg #[.string ((rd_T42 l0 aa).f0), .string ((rd_T42 l0 aa).f1), .int .i64 ((rd_T42 l0 aa).f2)]] ?_; (with_reducible refine (impl_ItemOk.calls k1 ((rd_T42 l0 aa).f0) ((rd_T42 l0 aa).f1) ((rd_T42 l0 aa).f2) true _ A5.out).mono ?_); rintro e aN ⟨rfl, hb⟩; refine ⟨_, rfl, ?_⟩; replace ab := Aside0.mk (blk_below (g := aj) (o := .cells #[.string ((rd_T42 l0 aa).f0), .string ((rd_T42 l0 aa).f1), .int .i64 ((rd_T42 l0 aa).f2)] 42 (0, 0)) (bp ab) hb); replace HB := s1 HB af hb; (try clear hb); have aw := bz3 ab) | (go_at_call 24; (with_reducible refine (impl_itemAt.calls k1 _ _ l0 ((rd_T42 l0 aa).f0) ai _ (cb aq HB) ?side2 A7.out).mono ?_); (case side2 => exact aD.out); rintro e aO ⟨rfl, hb⟩; replace ab := bb ab hb; replace HB := s1 HB af hb; (try clear hb)))
       go_ret
       exact ⟨er, be1 HB af⟩
      replace c6 := Bool.eq_false_iff.mpr c6; subst c6; rw [if_neg nf] at H; obtain rfl := Option.some.inj H; have ag : 0 ≤ (aa : Int) := od; have ah : aa < (l0.length : Int) := od; obtain ⟨al, ak, ac, ad, ae⟩ := at_T42 aq.out aa ag ah; cases ak; replace ac := hc HB ac; replace ad := hc HB ad; replace ae := hc HB ae; replace ag := eq_true ag; replace ah := eq_true ah
      go_wp2_with (first | ((with_reducible refine gate_dst (N := 4) rfl ?_); refine bx 4 #[.string (⟨#[]⟩ : ByteArray), .string (⟨#[]⟩ : ByteArray), .int .i64 0] 42 ?_; intro aj hg aQ hbox hb; have ab := am hbox; have an := gs0 hg HB; have af := gs0 hg HB; replace HB := s0 HB hb; clear hb hbox hg; have ax := bz3 ab) | ((with_reducible refine gate_callee (f := 22) rfl ?_); refine gl 13 Try.func22 #[.agg #[.string ((rd_T42 l0 aa).f0), .string ((rd_T42 l0 aa).f1), .int .i64 ((rd_T42 l0 aa).f2)]] ?_; (with_reducible refine (impl_ItemOk.calls k1 ((rd_T42 l0 aa).f0) ((rd_T42 l0 aa).f1) ((rd_T42 l0 aa).f2) false _ A5.out).mono ?_); rintro e aR ⟨rfl, hb⟩; refine ⟨_, rfl, ?_⟩; replace ab := Aside0.mk (blk_below (g := aj) (o := .cells #[.string ((rd_T42 l0 aa).f0), .string ((rd_T42 l0 aa).f1), .int .i64 ((rd_T42 l0 aa).f2)] 42 (0, 0)) (bp ab) hb); replace HB := s1 HB af hb; (try clear hb)))
      go_ret
      exact ⟨er, be1 HB af⟩
     rw [if_neg c4] at H; exact absurd H (by simp)
    rw [if_neg c3] at H; exact absurd H (by simp)
   rw [if_neg c2] at H; have ay : decide (aa < (l0.length : Int)) = false := decide_eq_false c2; clear c2; obtain rfl := Option.some.inj H
   go_wp2
   go_ret
   exact ⟨er, be HB⟩

end Go.Proofs.Ytmmphfonbeddeaa.QFnExactRowPut
