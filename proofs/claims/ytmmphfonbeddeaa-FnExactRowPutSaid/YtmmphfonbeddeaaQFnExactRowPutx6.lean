-- made by a program of this session (myprint.py)
import Derived.Test.YtmmphfonbeddeaaDw
import Derived.Test.YtmmphfonbeddeaaOw
import Derived.Test.YtmmphfonbeddeaaQFnExactRowPutx0
import Derived.Test.YtmmphfonbeddeaaQFnExactRowPutx5
namespace Go.Proofs.Ytmmphfonbeddeaa.QFnExactRowPut
open Go.RowKit Go.Proofs.YtmmphfonbeddeaaW.PrintWords Go.Proofs.YtmmphfonbeddeaaW.PrintLast Go.Proofs.YtmmphfonbeddeaaW.PrintMore
attribute [local go_sem] max2_int min2_int max_two min_two max_three min_three max_four min_four   -- for this text's walks alone
set_option linter.unusedVariables false
set_option linter.unusedSimpArgs false

/-! ### impl_RowOk: function 21 -/
mutual
def impl_RowOk.j0 : Nat → Int → Int → Int → List (S42) → Option (Bool)
 | 0, _, _, _, _ => none
 | k + 1, x3, ao, ai, af => impl_RowOk.l0 k x3 af (af.length : Int) 0 ao ai af
def impl_RowOk.l0 : Nat → Int → List (S42) → Int → Int → Int → Int → List (S42) → Option (Bool)
 | 0, _, _, _, _, _, _, _ => none
 | k + 1, x3, bh, bn, aQ, ao, ai, af => if aQ < bn then (if 0 ≤ aQ then (if aQ < (bh.length : Int) then ((impl_within.f ((rd_T42 bh aQ).f2) 0 x3).bind fun aF => (if aF = true then (impl_RowOk.l0 k x3 bh bn (wrap64 (aQ + 1)) ao ai af) else (some false))) else (none)) else (none)) else ((impl_within.f ao 1 3).bind fun aG => (if aG = true then ((impl_within.f ai 1 60).bind fun aH => (if aH = true then (if (af.length : Int) ≤ ai then ((impl_areItems.f k af).bind fun aB => (some aB)) else (some false)) else (some false))) else (some false)))
end
def impl_RowOk.f (k : Nat) (ad : Int) (ag : Int) (ab : List (S42)) : Option (Bool) := if ad = 3 then (impl_RowOk.j0 k 1 ad ag ab) else (impl_RowOk.j0 k 0 ad ag ab)
theorem impl_RowOk.mono_l : ∀ k, (∀ y0 y1 y2 y3, LeO (impl_RowOk.j0 k y0 y1 y2 y3) (impl_RowOk.j0 (k + 1) y0 y1 y2 y3)) ∧ (∀ y0 y1 y2 y3 y4 y5 y6, LeO (impl_RowOk.l0 k y0 y1 y2 y3 y4 y5 y6) (impl_RowOk.l0 (k + 1) y0 y1 y2 y3 y4 y5 y6))
 | 0 => ⟨fun _ _ _ _ r h => by simp [impl_RowOk.j0] at h, fun _ _ _ _ _ _ _ r h => by simp [impl_RowOk.l0] at h⟩
 | k + 1 => by
  obtain ⟨aI, aJ⟩ := impl_RowOk.mono_l k; refine ⟨?_, ?_⟩
  ·intro y0 y1 y2 y3; unfold impl_RowOk.j0
   repeat' first | (with_reducible first | apply aI | apply aJ | apply impl_areItems.mono | apply lr | apply ln | apply li | refine lb ?_ fun _ => ?_) | apply aI | apply aJ | apply ln | apply li | refine lb ?_ fun _ => ?_
  intro y0 y1 y2 y3 y4 y5 y6; unfold impl_RowOk.l0
  repeat' first | (with_reducible first | apply aI | apply aJ | apply impl_areItems.mono | apply lr | apply ln | apply li | refine lb ?_ fun _ => ?_) | apply aI | apply aJ | apply ln | apply li | refine lb ?_ fun _ => ?_
theorem impl_RowOk.mono : ∀ a0 a1 a2 k, LeO (impl_RowOk.f k a0 a1 a2) (impl_RowOk.f (k + 1) a0 a1 a2) := by
 intro a0 a1 a2 k; obtain ⟨aI, aJ⟩ := impl_RowOk.mono_l k; unfold impl_RowOk.f
 repeat' first | (with_reducible first | apply aI | apply aJ | apply impl_areItems.mono | apply lr | apply ln | apply li | refine lb ?_ fun _ => ?_) | apply aI | apply aJ | apply ln | apply li | refine lb ?_ fun _ => ?_
set_option maxHeartbeats 8000000 in
set_option maxRecDepth 100000 in
theorem impl_RowOk.calls (k : Nat) (ad : Int) (ag : Int) (av : Option Addr) (aw : Nat) (ab : List (S42)) (r : Bool) (w : World) (aC : Kd.C k42 w av ab.length ab) (aD : ab.length ≤ aw) (h : impl_RowOk.f k ad ag ab = some r) :
  Calls Try.prog 21 #[.agg #[.int .i64 ad, .int .i64 ag, .slice av ab.length aw]] w fun e w' => e = .returned (.bool r) ∧ Below w.heap.size w w' := by
 have hu28 := Try.underlying28; have hu42 := Try.underlying42; have ax := Aside0.mk aC; have aR := Aside0.mk aD; clear aC aD; have HB := Aside0.mk (Below.refl w.heap.size w); have H : (if ad = 3 then (impl_RowOk.j0 k 1 ad ag ab) else (impl_RowOk.j0 k 0 ad ag ab)) = some r := h; clear h; have bi := Aside0.mk H; clear H
 go_enter Try.func21, Try.ntmps21
 go_upto_if 8 with (first | ((with_reducible refine gate_dst (N := 1) rfl ?_); (try (refine gate_guard (by rfl) ?_; dsimp only)); refine bx 1 #[.int .i64 ad, .int .i64 ag, .slice av ab.length aw] 28 ?_; intro aE hg w3 hbox hb; have aa := am hbox; have bo := gs0 hg HB; have ae := gs0 hg HB; replace HB := s0 HB hb; clear hb hbox hg; have ay := bz3 aa))
 (try simp only [Act.put, List.setIfInBounds_toArray, List.set_cons_zero, List.set_cons_succ])
 go_cut [3] (fun v3 wc => ∃ (kq : Nat) (ap : Int), v3 = .int .i64 ap ∧ Aside0 (impl_RowOk.j0 kq ap ad ag ab = some r) ∧ Aside0 (kq ≤ k) ∧ Aside0 (wc.heap[aE]? = some (.cells #[.int .i64 ad, .int .i64 ag, (.slice av ab.length aw)] 28 (0, 0))) ∧ Aside0 (Below w.heap.size w wc))
 case first =>
  have H := bi.out; clear bi
  by_cases c5 : ad = 3
  ·rw [if_pos c5] at H; have aq : (ad == 3) = true := beq_iff_eq.mpr c5; have aK : (ad != 3) = false := bne_eq_false_iff_eq.mpr c5; clear c5; (first | rw [aq] | (simp only [i64_w, i32_w]; rw [aq]) | skip); have H' := Aside0.mk H; clear H
   go_wp2
   go_meet
   case rel => exact ⟨_, (1), rs, H', ⟨by first | omega | exact Nat.le_refl _⟩, ⟨bk aa⟩, ⟨be1 HB ae⟩⟩
  rw [if_neg c5] at H; have aq : (ad == 3) = false := beq_eq_false_iff_ne.mpr c5; have aK : (ad != 3) = true := bne_iff_ne.mpr c5; (first | rw [aq] | (simp only [i64_w, i32_w]; rw [aq]) | skip); have H' := Aside0.mk H; clear H
  go_wp2
  go_meet
  case rel => exact ⟨_, (0), rs, H', ⟨by first | omega | exact Nat.le_refl _⟩, ⟨bk aa⟩, ⟨be1 HB ae⟩⟩
 case rest =>
  clear bi
  try clear c2; try clear p2; try clear c5; try clear aq; try clear aK; try clear ay
  obtain ⟨kq, ap, rfl, HA, bq, aa, HB⟩ := hcut
  cases kq with
  | zero => exact absurd HA.out (by simp [impl_RowOk.j0])
  | succ br =>
   have H := HA.out; clear HA; simp only [impl_RowOk.j0] at H; have H' := Aside0.mk H; clear H; have aL := bz3 aa
   go_wp2
   go_loopg [12] br (fun kq bD w' => ∃ (ac : Int), bD = .int .i64 ac ∧ Aside0 (impl_RowOk.l0 kq ap ab (ab.length : Int) ac ad ag ab = some r) ∧ Aside0 (kq ≤ br) ∧ Aside0 (w'.heap[aE]? = some (.cells #[.int .i64 ad, .int .i64 ag, (.slice av ab.length aw)] 28 (0, 0))) ∧ Aside0 (Below w.heap.size w w'))
   case atStart => exact ⟨(0), rs, H', ⟨Nat.le_refl _⟩, ⟨bk aa⟩, ⟨be1 HB ae⟩⟩
   case round =>
    clear H'
    try clear c2; try clear p2; try clear c5; try clear aq; try clear aK; try clear ay; try clear aL; try clear p2
    obtain ⟨ac, rfl, HA, bs, aa, HB⟩ := hrel
    cases gk with
    | zero => exact absurd HA.out (by simp [impl_RowOk.l0])
    | succ k2 =>
     have H := HA.out; clear HA; simp only [impl_RowOk.l0] at H
     by_cases c7 : ac < (ab.length : Int)
     ·rw [if_pos c7] at H; have bj : decide (ac < (ab.length : Int)) = true := decide_eq_true c7; clear c7
      by_cases c8 : 0 ≤ ac
      ·rw [if_pos c8] at H; have bF : decide (0 ≤ ac) = true := decide_eq_true c8; clear c8
       by_cases c9 : ac < (ab.length : Int)
       ·rw [if_pos c9] at H; have bG : decide (ac < (ab.length : Int)) = true := decide_eq_true c9; clear c9; obtain ⟨aF, bu, H⟩ := ob H
        try dsimp only at H
        by_cases a5 : aF = true
        ·subst a5; rw [if_pos rfl] at H; have H' := Aside0.mk H; clear H; have ar : 0 ≤ (ac : Int) := od; have au : ac < (ab.length : Int) := od; obtain ⟨aV, aN, aj, ak, al⟩ := at_T42 ax.out ac ar au; cases aN; replace aj := hc HB aj; replace ak := hc HB ak; replace al := hc HB al; replace ar := eq_true ar; replace au := eq_true au
         go_wp2_with (first | ((with_reducible refine gate_dst (N := 5) rfl ?_); (try (refine gate_guard (by rfl) ?_; dsimp only)); refine bx 5 #[.string (⟨#[]⟩ : ByteArray), .string (⟨#[]⟩ : ByteArray), .int .i64 0] 42 ?_; intro aW hg bI hbox hb; have az := am hbox; have aX := gs1 hg HB ae; have aA := gs1 hg HB ae; replace HB := s1 HB ae hb; have ah := nl hg aa; have an := ng hg aa; replace aa := bb aa hb; clear hb hbox hg; have bw := an.out; have bz := ah.out; have a6 := bz3 az) | ((with_reducible refine gate_callee (f := 35) rfl ?_); refine gl 19 Try.func35 #[.int .i64 ((rd_T42 ab ac).f2), .int .i64 0, .int .i64 ap] ?_; (with_reducible refine (impl_within.calls ((rd_T42 ab ac).f2) 0 ap true _ bu.out).mono ?_); rintro e w' ⟨rfl, ⟨nd, rfl⟩⟩; refine ⟨_, rfl, ?_⟩))
         go_roundg k2
         case measure => have := bq.out; have := bs.out; omega
         case rel => exact ⟨(wrap64 (ac + 1)), rs, H', ⟨by have := bq.out; have := bs.out; omega⟩, ⟨(bp1 aa ah)⟩, ⟨be2 HB ae aA⟩⟩
        replace a5 := Bool.eq_false_iff.mpr a5; subst a5; rw [if_neg nf] at H; obtain rfl := Option.some.inj H; have ar : 0 ≤ (ac : Int) := od; have au : ac < (ab.length : Int) := od; obtain ⟨aV, aN, aj, ak, al⟩ := at_T42 ax.out ac ar au; cases aN; replace aj := hc HB aj; replace ak := hc HB ak; replace al := hc HB al; replace ar := eq_true ar; replace au := eq_true au
        go_wp2_with (first | ((with_reducible refine gate_dst (N := 5) rfl ?_); (try (refine gate_guard (by rfl) ?_; dsimp only)); refine bx 5 #[.string (⟨#[]⟩ : ByteArray), .string (⟨#[]⟩ : ByteArray), .int .i64 0] 42 ?_; intro aW hg bJ hbox hb; have az := am hbox; have aX := gs1 hg HB ae; have aA := gs1 hg HB ae; replace HB := s1 HB ae hb; have ah := nl hg aa; have an := ng hg aa; replace aa := bb aa hb; clear hb hbox hg; have bA := an.out; have bC := ah.out; have a7 := bz3 az) | ((with_reducible refine gate_callee (f := 35) rfl ?_); refine gl 19 Try.func35 #[.int .i64 ((rd_T42 ab ac).f2), .int .i64 0, .int .i64 ap] ?_; (with_reducible refine (impl_within.calls ((rd_T42 ab ac).f2) 0 ap false _ bu.out).mono ?_); rintro e w' ⟨rfl, ⟨nd, rfl⟩⟩; refine ⟨_, rfl, ?_⟩))
        go_ret
        exact ⟨er, be2 HB ae aA⟩
       rw [if_neg c9] at H; exact absurd H (by simp)
      rw [if_neg c8] at H; exact absurd H (by simp)
     rw [if_neg c7] at H; have bj : decide (ac < (ab.length : Int)) = false := decide_eq_false c7; clear c7; obtain ⟨aG, a8, H⟩ := ob H
     try dsimp only at H
     by_cases a9 : aG = true
     ·subst a9; rw [if_pos rfl] at H; obtain ⟨aH, bm, H⟩ := ob H
      try dsimp only at H
      by_cases ba : aH = true
      ·subst ba; rw [if_pos rfl] at H
       by_cases aO : (ab.length : Int) ≤ ag
       ·rw [if_pos aO] at H; have a3 : decide ((ab.length : Int) ≤ ag) = true := decide_eq_true aO; clear aO; obtain ⟨aB, bH, H⟩ := ob H; obtain rfl := Option.some.inj H; have bc := bz3 aa
        go_wp2_with (first | ((with_reducible refine gate_callee (f := 35) rfl ?_); refine gl 24 Try.func35 #[.int .i64 ad, .int .i64 1, .int .i64 3] ?_; (with_reducible refine (impl_within.calls ad 1 3 true _ a8.out).mono ?_); rintro e w' ⟨rfl, ⟨nd, rfl⟩⟩; refine ⟨_, rfl, ?_⟩) | (go_at_call 35; (with_reducible refine (impl_within.calls ag 1 60 true _ bm.out).mono ?_); rintro e w' ⟨rfl, ⟨nd, rfl⟩⟩) | (go_at_call 36; (with_reducible refine (impl_areItems.calls k2 _ _ ab aB _ ?side1 aR.out bH.out).mono ?_); (case side1 => repeat (first | exact (Kd.C_below ax.out (be1 HB ae)) | (with_reducible refine Kd.C_alloc ?_ _) | (with_reducible refine Kd.C_drewN ?_ _) | (with_reducible refine Kd.C_drew ?_))); rintro e bM ⟨rfl, hb⟩; replace aa := bb aa hb; replace HB := s1 HB ae hb; (try clear hb)))
        go_ret
        exact ⟨er, be1 HB ae⟩
       rw [if_neg aO] at H; have a3 : decide ((ab.length : Int) ≤ ag) = false := decide_eq_false aO; clear aO; obtain rfl := Option.some.inj H; have bd := bz3 aa
       go_wp2_with (first | ((with_reducible refine gate_callee (f := 35) rfl ?_); refine gl 24 Try.func35 #[.int .i64 ad, .int .i64 1, .int .i64 3] ?_; (with_reducible refine (impl_within.calls ad 1 3 true _ a8.out).mono ?_); rintro e w' ⟨rfl, ⟨nd, rfl⟩⟩; refine ⟨_, rfl, ?_⟩) | (go_at_call 35; (with_reducible refine (impl_within.calls ag 1 60 true _ bm.out).mono ?_); rintro e w' ⟨rfl, ⟨nd, rfl⟩⟩))
       go_ret
       exact ⟨er, be1 HB ae⟩
      replace ba := Bool.eq_false_iff.mpr ba; subst ba; rw [if_neg nf] at H; obtain rfl := Option.some.inj H; have bf := bz3 aa
      go_wp2_with (first | ((with_reducible refine gate_callee (f := 35) rfl ?_); refine gl 24 Try.func35 #[.int .i64 ad, .int .i64 1, .int .i64 3] ?_; (with_reducible refine (impl_within.calls ad 1 3 true _ a8.out).mono ?_); rintro e w' ⟨rfl, ⟨nd, rfl⟩⟩; refine ⟨_, rfl, ?_⟩) | (go_at_call 35; (with_reducible refine (impl_within.calls ag 1 60 false _ bm.out).mono ?_); rintro e w' ⟨rfl, ⟨nd, rfl⟩⟩))
      go_ret
      exact ⟨er, be1 HB ae⟩
     replace a9 := Bool.eq_false_iff.mpr a9; subst a9; rw [if_neg nf] at H; obtain rfl := Option.some.inj H; have bg := bz3 aa
     go_wp2_with (first | ((with_reducible refine gate_callee (f := 35) rfl ?_); refine gl 24 Try.func35 #[.int .i64 ad, .int .i64 1, .int .i64 3] ?_; (with_reducible refine (impl_within.calls ad 1 3 false _ a8.out).mono ?_); rintro e w' ⟨rfl, ⟨nd, rfl⟩⟩; refine ⟨_, rfl, ?_⟩))
     go_ret
     exact ⟨er, be1 HB ae⟩

/-! ### impl_copyItems: function 38 -/
def impl_copyItems.f (l0 : List (S42)) : Option ((List (S42))) := (some (([] : List (S42)) : List (S42))).bind fun aa => (if aa.length + l0.length < 3518437208883 then (some (aa ++ l0)) else (none))
set_option maxHeartbeats 8000000 in
set_option maxRecDepth 100000 in
theorem impl_copyItems.calls (A0 : Option Addr) (c0 : Nat) (l0 : List (S42)) (r : List (S42)) (w : World) (ak : Kd.C k42 w A0 l0.length l0) (al : l0.length ≤ c0) (h : impl_copyItems.f l0 = some r) :
  Calls Try.prog 38 #[.slice A0 l0.length c0] w fun e w' => ∃ an : Value, e = .returned (an) ∧ Kd.R k42 42 w' w.heap.size (fun _ => True) an r ∧ Below w.heap.size w w' := by
 have ao := Aside0.mk ak; have aq := Aside0.mk al; clear ak al; have HB := Aside0.mk (Below.refl w.heap.size w); have H : ((some (([] : List (S42)) : List (S42))).bind fun aa => (if aa.length + l0.length < 3518437208883 then (some (aa ++ l0)) else (none))) = some r := h; clear h; obtain ⟨aa, ab, H⟩ := oy H; have af := Aside0.mk ab; clear ab
 by_cases c2 : aa.length + l0.length < 3518437208883
 ·rw [if_pos c2] at H; have ai := Aside0.mk c2; clear c2; obtain ⟨aj, ac⟩ : ∃ y_ : List (S42), y_ = (aa ++ l0) := ⟨_, rfl⟩; rw [← ac] at H; have ag := Aside0.mk ac; clear ac; obtain rfl := Option.some.inj H
  go_enter Try.func38, Try.ntmps38
  have ad := Aside0.mk (show Kd.R k42 42 w w.heap.size (fun _ => True) (.slice none 0 0) aa from by rw [af.out]; exact Kd.R_nil _ _ _ _ _)
  go_wp2_with (first | ((with_reducible refine gate_builtin (b := .append) (xs := #[.const (.slice none 0 0), .tmp 3]) rfl ?_); at_builtin; refine Kd.R_append_rows k42 (w0 := w) w.heap.size rfl (.const (.slice none 0 0)) (.tmp 3) 26 42 (.agg #[(.string ⟨#[]⟩), (.string ⟨#[]⟩), (.int .i64 0)]) 40 rfl Try.underlying26 info42 rfl (by decide) (by omega) (.slice none 0 0) aa l0 _ _ _ (fun _ => True) (fun _ => False) rfl rfl ?aO ?aR (fun _ _ h => h) (fun _ h => h.elim) ?aF ?aB ?aS ?aL ?_; (case aR => exact cb ao HB); (case aB => exact (be HB)); (case aF => exact (fun _ _ => trivial)); (case aO => exact (ro ad)); (case aS => exact (below_size (be HB))); (case aL => have := ai.out; omega); intro ap w5 ho hb hg hat; rw [← ag.out] at ho; replace HB := Aside0.mk (hb); have ah := Aside0.mk (ho); clear ad; clear ho hb hg hat))
  go_ret
  exact ⟨_, er, (ro ah), be HB⟩
 rw [if_neg c2] at H; exact absurd H (by simp)

/-! ### impl_copyRow: function 23 -/
def impl_copyRow.f (ah : Int) (ai : Int) (af : List (S42)) : Option (Int × Int × (List (S42))) := (impl_copyItems.f af).bind fun aj => (some (ah, ai, aj))
def impl_copyRow.T1 : Bool × List (List Nat × List Nat) := (true, [([], []), ([0], [0]), ([], []), ([2], [2]), ([], []), ([4], [4]), ([5], [5]), ([1, 3, 6], [1, 3, 6]), ([7, 6, 0, 1, 2, 3, 4, 5, 6, 7], [7])])
def impl_copyRow.B1 : List Nat := [0, 1, 0, 4, 0, 16, 48, 127, 255]
theorem impl_copyRow.tab1 : rtab .any (opsOf Try.f23 1) = impl_copyRow.T1 := by kernel_rfl
theorem impl_copyRow.bits1 : waitsOk impl_copyRow.T1.2 impl_copyRow.B1 = true := by kernel_rfl
set_option maxHeartbeats 8000000 in
set_option maxRecDepth 100000 in
theorem impl_copyRow.calls (ah : Int) (ai : Int) (ak : Option Addr) (al : Nat) (af : List (S42)) (r1 : Int) (r2 : Int) (r3 : List (S42)) (w : World) (ap : Kd.C k42 w ak af.length af) (aq : af.length ≤ al) (h : impl_copyRow.f ah ai af = some (r1, r2, r3)) :
  Calls Try.prog 23 #[.agg #[.int .i64 ah, .int .i64 ai, .slice ak af.length al]] w fun e w' => ∃ aF : Value, e = .returned (.agg #[.int .i64 r1, .int .i64 r2, aF]) ∧ Kd.R k42 42 w' w.heap.size (fun _ => True) aF r3 ∧ Below w.heap.size w w' := by
 have hu28 := Try.underlying28; have au := Aside0.mk ap; have av := Aside0.mk aq; clear ap aq; have HB := Aside0.mk (Below.refl w.heap.size w); have H : ((impl_copyItems.f af).bind fun aj => (some (ah, ai, aj))) = some (r1, r2, r3) := h; clear h; obtain ⟨aj, A2, H⟩ := ob H; simp only [Option.some.injEq, Prod.mk.injEq] at H; obtain ⟨rfl, rfl, rfl⟩ := H
 go_enter Try.func23, Try.ntmps23
 try go_wp2_with (first | ((with_reducible refine gate_dst (N := 1) rfl ?_); refine bx 1 #[.int .i64 ah, .int .i64 ai, .slice ak af.length al] 28 ?_; intro an hg w3 hbox hb; have ab := am hbox; have aH := gs0 hg HB; have ag := gs0 hg HB; replace HB := s0 HB hb; clear hb hbox hg) | ((with_reducible refine gate_dst (N := 2) rfl ?_); refine bx 2 #[.int .i64 0, .int .i64 0, .slice none 0 0] 28 ?_; intro ad hg w4 hbox hb; have ac := am hbox; have aI := gs1 hg HB ag; have ao := gs1 hg HB ag; replace HB := s1 HB ag hb; have aa := nl hg ab; have ae := ng hg ab; replace ab := bb ab hb; clear hb hbox hg))
 replace ab := eB ab; replace ac := eB ac; replace HB := eL HB; refine start_ (n := 9) (S := fun w' => w'.cell? ⟨an, 0, none⟩ = some (.int .i64 ah) ∧ w'.cell? ⟨an, 1, none⟩ = some (.int .i64 ai) ∧ w'.cell? ⟨an, 2, none⟩ = some (.slice ak af.length al)) (ds := []) (bv 9 0x0) (by kernel_rfl) rfl rfl (bq3 ab) (fun hHeld => ?_); refine with_tabW impl_copyRow.tab1 impl_copyRow.bits1 (fun HT_ HW_ => ?_); generalize w4.drew = w5 at ab ac HB hHeld ⊢; refine py HT_ 0 3 (bv 9 0x1) ?_; refine py HT_ 2 5 (bv 9 0x5) ?_; refine py HT_ 4 7 (bv 9 0x15) ?_; refine tk HT_ HW_ hHeld 1 4 (bv 9 0x17) ?_; refine tk HT_ HW_ hHeld 3 6 (bv 9 0x1f) ?_; refine tk HT_ HW_ hHeld 5 8 (bv 9 0x3f) ?_; refine oh HT_ 6 (some 9) (bv 9 0x7f) fun K hK => ?_; refine gz Try.func38 #[.slice ak af.length al] ?_
 with_reducible refine (impl_copyItems.calls _ _ af aj _ ?side1 ?side2 A2.out).mono ?_
 (case side1 => exact cb au HB)
 (case side2 => exact av.out)
 rintro e w6 ⟨aR, rfl, aJ, hb⟩; refine ⟨_, rfl, ?_⟩; have ar := rl2 aJ HB ag ao; replace ab := bb ab hb; replace ac := bb ac hb; replace HB := s2 HB ag ao hb; (try clear hb); (try clear a2); (try clear hk); (try clear hi); (try clear aJ); obtain ⟨aU, aV, aL⟩ := Kd.R_slice ar.out; (first | subst aL | (injection aL with aN aW aO; have aX := aN.symm; have aY := aO.symm; clear aN aW aO; subst aX; subst aY)); refine hK.out _ _ (bq3 ab) (fun hHeld => ?_); clear hK K; refine nx ?_
 refine py HT_ 7 10 (bv 9 0xff) ?_; refine oh HT_ 8 none (bv 9 0x1ff) fun K hK => ?_; have a3 : w6.cell? ⟨ad, 0, none⟩ = some (.int .i64 0) := bc0 ac; have aZ := blk_frozen ac.out 0; have aB := aa.out; have aC := ae.out; have a4 : w6.cell? ⟨ad, 1, none⟩ = some (.int .i64 0) := bc1 ac; have a0 := blk_frozen ac.out 1; have aD := aa.out; have aE := ae.out; have a1 : w6.cell? ⟨ad, 2, none⟩ = some (.slice none 0 0) := bc2 ac; have aQ := blk_frozen ac.out 2; have az := aa.out; have aA := ae.out; refine sk ?_
 refine hK.out _ _ ⟨(cq aa hHeld.1), (cq aa hHeld.2.1), (cq aa hHeld.2.2)⟩ (fun hHeld => ?_); clear hK K; refine dh HT_ ?_
 try go_wp2
 refine bodyPost_ret (results_cell_row rfl _ _ ad 28 #[.int .i64 ah, .int .i64 ai, .slice aU aj.length aV] (0, 0) _ rfl (bp ac) Try.underlying28 rfl (by kernel_rfl)) rfl ?_; exact ⟨_, er, (rfn ar ac), be2 HB ag ao⟩

/-! ### impl_Item: function 41 -/
def impl_Item.f (l0 : List S42) (a1 : Int) (a2 : Int) : Option (List S42) := if 0 ≤ a1 ∧ a1 < (l0.length : Int) ∧ a2 = a1 + 1 then some (l0.eraseIdx a1.toNat) else none
def enc42 (x : S42) : List Value := [.string x.f0, .string x.f1, .int .i64 x.f2]
theorem inner42 {R : S42 → List Value → Prop} (hR : ∀ x c, R x c → c = enc42 x) : ∀ (l : List S42) (inner : List Value), Reps R 3 l inner → inner = l.flatMap enc42
 | [], inner, h => List.length_eq_zero_iff.1 (by rw [h.1]; rfl)
 | x :: l, inner, h => by
  have h0 := hR _ _ (h.2 0 x rfl); have hl := h.1; rw [List.length_cons] at hl
  have ih := inner42 hR l (inner.drop 3) ⟨by rw [List.length_drop]; omega, fun j p hj => by
   have := h.2 (j + 1) p (by simpa using hj); rw [List.drop_drop, show 3 + j * 3 = (j + 1) * 3 by omega]; exact this⟩
  rw [Nat.zero_mul, List.drop_zero] at h0; rw [List.flatMap_cons, ← ih, ← h0, List.take_append_drop]
theorem drop42 : ∀ (l : List S42) (j : Nat) (p : S42), l[j]? = some p → ((l.flatMap enc42).drop (j * 3)).take 3 = enc42 p
 | [], j, p, h => by simp at h
 | x :: l, 0, p, h => by
  simp only [List.getElem?_cons_zero, Option.some.injEq] at h; subst h; rw [List.flatMap_cons, Nat.zero_mul, List.drop_zero]; exact List.take_left' rfl
 | x :: l, j + 1, p, h => by
  rw [List.flatMap_cons, Nat.succ_mul]; exact drop42 l j p (by simpa using h)
theorem len42 : ∀ l : List S42, (l.flatMap enc42).length = l.length * 3
 | [] => rfl
 | x :: l => by rw [List.flatMap_cons, List.length_append, len42 l, List.length_cons]; show 3 + l.length * 3 = _; omega
theorem erase42 : ∀ (l : List S42) (k : Nat), (l.eraseIdx k).flatMap enc42 = (l.flatMap enc42).take (k * 3) ++ (l.flatMap enc42).drop ((k + 1) * 3)
 | [], k => by simp
 | x :: l, 0 => by rw [Nat.zero_mul, List.take_zero, List.nil_append]; rfl
 | x :: l, k + 1 => by
  rw [List.eraseIdx_cons_succ, List.flatMap_cons, List.flatMap_cons, erase42 l k, Nat.succ_mul (k + 1) 3, Nat.succ_mul k 3]; rfl
theorem one42 (l : List S42) : ∀ u ∈ l.flatMap enc42, u.oneCell' = true := by
 intro u hu; obtain ⟨x, _, hx⟩ := List.mem_flatMap.1 hu; simp only [enc42, List.mem_cons, List.not_mem_nil, or_false] at hx
 rcases hx with rfl | rfl | rfl <;> rfl
theorem opened42 {w : World} {base : Nat} {ok : Nat → Prop} {v : Value} {l : List S42} (h : Kd.R k42 42 w base ok v l) (hn : 0 < l.length) :
  ∃ g cap cur, v = .slice (some ⟨g, 0, none⟩) l.length cap ∧ base ≤ g ∧ w.heap[g]? = some (.cells cur 42 (0, 0)) ∧ l.length ≤ cap ∧ cap ≤ maxLen ∧ cur.size = cap * 3 ∧ cur.toList.take (l.length * 3) = l.flatMap enc42 ∧ ok g := by
 obtain ⟨h0, inner, ⟨hl, ho⟩, hr⟩ := h; have hi := inner42 (fun x c hx => k42_openM hx) l inner hr
 rcases ho with ⟨_, h2⟩ | ⟨g, cap, cur, rfl, hg, hh, ac, ab, hs, ht⟩
 ·omega
 ·exact ⟨g, cap, cur, rfl, hg, hh, ac, ab, hs, by rw [← hi, ← ht]; rfl, h0 g (by simp [Value.ownBlock])⟩
theorem made42 {w : World} {base : Nat} {ok : Nat → Prop} {l : List S42} {g cap : Nat} {cur : Array Value} (hok : ok g) (hb : base ≤ g) (hh : w.heap[g]? = some (.cells cur 42 (0, 0))) (ac : l.length ≤ cap) (ab : cap ≤ maxLen) (hs : cur.size = cap * 3) (ht : cur.toList.take (l.length * 3) = l.flatMap enc42) :
  Kd.R k42 42 w base ok (.slice (some ⟨g, 0, none⟩) l.length cap) l := by
 refine ⟨fun k hk => ?_, l.flatMap enc42, ⟨len42 l, .inr ⟨g, cap, cur, rfl, hb, hh, ac, ab, hs, ht⟩⟩, len42 l, fun j p hj => ?_⟩
 ·have : g = k := by simpa [Value.ownBlock] using hk
  exact this ▸ hok
 have e := drop42 l j p hj
 show k42.M _ _ _ p (((l.flatMap enc42).drop (j * 3)).take 3)
 rw [e]; exact k42_mkM _ _ _ p
set_option maxHeartbeats 8000000 in
set_option maxRecDepth 100000 in
theorem impl_Item.calls (ad : Nat → Prop) (aa : Value) (l0 : List (S42)) (a1 : Int) (a2 : Int) (r : List (S42)) (w0 w : World) (hB : Below w0.heap.size w0 w) (ag : Kd.R k42 42 w w0.heap.size ad aa l0) (h : impl_Item.f l0 a1 a2 = some r) :
  Calls Try.prog 41 #[aa, .int .i64 a1, .int .i64 a2] w fun e w' => ∃ af : Value, e = .returned (af) ∧ Kd.R k42 42 w' w0.heap.size (fun k_ => (ad k_ ∨ w.heap.size ≤ k_)) af r ∧ Below w0.heap.size w0 w' ∧ Kept w w' (fun k_ => ad k_) := by
 have h' : (if 0 ≤ a1 ∧ a1 < (l0.length : Int) ∧ a2 = a1 + 1 then some (l0.eraseIdx a1.toNat) else none) = some r := h; clear h
 by_cases c : 0 ≤ a1 ∧ a1 < (l0.length : Int) ∧ a2 = a1 + 1
 case neg => rw [if_neg c] at h'; cases h'
 rw [if_pos c] at h'; obtain ⟨c1, c2, rfl⟩ := c; obtain rfl := Option.some.inj h'; clear h'; obtain ⟨i, rfl⟩ : ∃ i : Nat, a1 = (i : Int) := ⟨a1.toNat, by omega⟩; have hi : i < l0.length := by omega
 obtain ⟨g, cap, cur, rfl, hg, hh, ac, ab, hs, ht, hok⟩ := opened42 ag (by omega); have hm : cap ≤ 9223372036854775807 := ab; have hlen := len42 l0; refine (Dw.del g l0.length cap i (l0.flatMap enc42) w hlen hi ac hm (fun j u hu => ?_) (fun j => blk_frozen hh j) (one42 l0)).mono ?_
 ·rw [blk_cell hh, ← Array.getElem?_toList]
  have hj : j < l0.length * 3 := by
   have := (List.getElem?_eq_some_iff.1 hu).1
   omega
  rw [← List.getElem?_take_of_lt hj, ht]; exact hu
 rintro e w' ⟨rfl, rfl⟩; have hD : ((l0.flatMap enc42).drop ((i + 1) * 3)).length = l0.length * 3 - (i + 1) * 3 := by rw [List.length_drop, hlen]
 obtain ⟨ae, ah, an, ai⟩ := Ow.heap_setCells g 42 ((l0.flatMap enc42).drop ((i + 1) * 3)) (i * 3) w.drew cur hh (by rw [hD]; omega); obtain ⟨aj, ak, ao, al⟩ := Ow.heap_setCells g 42 Dw.zl ((l0.length - 1) * 3) _ ae ah (by show _ + 3 ≤ _; omega); have he : (l0.eraseIdx i).length = l0.length - 1 := List.length_eraseIdx_of_lt hi; rw [show l0.length - 1 = (l0.eraseIdx i).length from he.symm]; refine ⟨_, rfl, ?_, Ow.below_setCells hg _ _ _ (Ow.below_setCells hg _ _ _ hB.drew), Ow.kept_setCells (W := (w.drew.setCells g (i * 3) ((l0.flatMap enc42).drop ((i + 1) * 3)))) hok _ _ _ (Ow.kept_setCells (W := w.drew) hok _ _ _ (Kept.drew (Kept.refl w _)))⟩; rw [he]; rw [← he]; refine made42 (.inl hok) hg (by rw [he]; exact ak) (by omega) ab (by omega) ?_; rw [he, al, ai, erase42]; have hct : cur.toList.take (i * 3) = (l0.flatMap enc42).take (i * 3) := by rw [← ht, List.take_take, Nat.min_eq_left (by omega)]
 rw [hct]; have hT : ((l0.flatMap enc42).take (i * 3)).length = i * 3 := by rw [List.length_take, hlen]; omega
 have h1 : ((l0.flatMap enc42).take (i * 3) ++ (l0.flatMap enc42).drop ((i + 1) * 3)).length = (l0.length - 1) * 3 := by rw [List.length_append, hT, hD]; omega
 rw [List.take_left' h1 (l₂ := List.drop (i * 3 + ((l0.flatMap enc42).drop ((i + 1) * 3)).length) cur.toList), List.append_assoc, List.take_left' h1]


