-- made by a program of this session (myprint.py)
import Derived.Test.YtgnjhondoidfdaaQFnExactLinearx0
namespace Go.Proofs.Ytgnjhondoidfdaa.QFnExactLinear
open Go.RowKit Go.Proofs.YtgnjhondoidfdaaW.PrintWords Go.Proofs.YtgnjhondoidfdaaW.PrintLast Go.Proofs.YtgnjhondoidfdaaW.PrintMore
attribute [local go_sem] max2_int min2_int max_two min_two max_three min_three max_four min_four   -- for this text's walks alone
set_option linter.unusedVariables false
set_option linter.unusedSimpArgs false

/-! ### spec_l03Has: function 36 -/
def spec_l03Has.l0 : Nat → Int → List Int → Int → Int → Option (Bool)
 | 0, _, _, _, _ => none
 | k + 1, x1, x7, x8, x9 => if x9 < x8 then (if 0 ≤ x9 then (if x9 < (x7.length : Int) then (if (rd x7 x9) = x1 then (some true) else (spec_l03Has.l0 k x1 x7 x8 (wrap64 (x9 + 1)))) else (none)) else (none)) else (some false)
def spec_l03Has.f (k : Nat) (l0 : List Int) (a1 : Int) : Option (Bool) := spec_l03Has.l0 k a1 l0 (l0.length : Int) 0
theorem spec_l03Has.mono_l : ∀ k, (∀ y0 y1 y2 y3, LeO (spec_l03Has.l0 k y0 y1 y2 y3) (spec_l03Has.l0 (k + 1) y0 y1 y2 y3))
 | 0 => fun _ _ _ _ r h => by simp [spec_l03Has.l0] at h
 | k + 1 => by
  have af := spec_l03Has.mono_l k
  ·intro y0 y1 y2 y3; unfold spec_l03Has.l0
   repeat' first | (with_reducible first | apply af | apply lr | apply ln | apply li | refine lb ?_ fun _ => ?_) | apply af | apply ln | apply li | refine lb ?_ fun _ => ?_
theorem spec_l03Has.mono : ∀ a0 a1 k, LeO (spec_l03Has.f k a0 a1) (spec_l03Has.f (k + 1) a0 a1) := by
 intro a0 a1 k; have af := spec_l03Has.mono_l k; unfold spec_l03Has.f
 repeat' first | (with_reducible first | apply af | apply lr | apply ln | apply li | refine lb ?_ fun _ => ?_) | apply af | apply ln | apply li | refine lb ?_ fun _ => ?_
set_option maxHeartbeats 8000000 in
set_option maxRecDepth 100000 in
theorem spec_l03Has.calls (k : Nat) (A0 : Option Addr) (c0 : Nat) (l0 : List Int) (a1 : Int) (r : Bool) (w : World) (ak : Kd.C (Kd.int .i64) w A0 l0.length l0) (al : l0.length ≤ c0) (h : spec_l03Has.f k l0 a1 = some r) :
  Calls Try.prog 36 #[.slice A0 l0.length c0, .int .i64 a1] w fun e w' => e = .returned (.bool r) ∧ Drawn0 w w' := by
 have an := Aside0.mk ak; have ar := Aside0.mk al; clear ak al; have H : (spec_l03Has.l0 k a1 l0 (l0.length : Int) 0) = some r := h; clear h; have H' := Aside0.mk H; clear H
 go_enter Try.func36, Try.ntmps36
 go_wp2
 go_loopg [9] k (fun kq v9 w' => ∃ (aa : Int), v9 = .int .i64 aa ∧ Aside0 (spec_l03Has.l0 kq a1 l0 (l0.length : Int) aa = some r) ∧ Aside0 (kq ≤ k) ∧ Drawn0 w w')
 case atStart => exact ⟨(0), rs, H', ⟨Nat.le_refl _⟩, by repeat (first | exact Drawn0.refl _ | apply Drawn0.step)⟩
 case round =>
  clear H'
  try clear p2
  obtain ⟨aa, rfl, HA, ao, ⟨m1, rfl⟩⟩ := hrel
  cases gk with
  | zero => exact absurd HA.out (by simp [spec_l03Has.l0])
  | succ k1 =>
   have H := HA.out; clear HA; simp only [spec_l03Has.l0] at H
   by_cases c3 : aa < (l0.length : Int)
   ·rw [if_pos c3] at H; have ah : decide (aa < (l0.length : Int)) = true := decide_eq_true c3; clear c3
    by_cases c4 : 0 ≤ aa
    ·rw [if_pos c4] at H; have ap : decide (0 ≤ aa) = true := decide_eq_true c4; clear c4
     by_cases c5 : aa < (l0.length : Int)
     ·rw [if_pos c5] at H; have aq : decide (aa < (l0.length : Int)) = true := decide_eq_true c5; clear c5
      by_cases c6 : (rd l0 aa) = a1
      ·rw [if_pos c6] at H; have ai : ((rd l0 aa) == a1) = true := beq_iff_eq.mpr c6; have aj : ((rd l0 aa) != a1) = false := bne_eq_false_iff_eq.mpr c6; clear c6; obtain rfl := Option.some.inj H; have ab : 0 ≤ (aa : Int) := od; have ac : aa < (l0.length : Int) := od; obtain ⟨ag, ae, ad⟩ := Kd.at_int an.out aa ab ac; cases ae; replace ab := eq_true ab; replace ac := eq_true ac
       go_wp2
       go_ret
       exact ⟨by first | rfl | (simp; done) | (simp [*]; done), by repeat (first | exact Drawn0.refl _ | apply Drawn0.step)⟩
      rw [if_neg c6] at H; have ai : ((rd l0 aa) == a1) = false := beq_eq_false_iff_ne.mpr c6; have aj : ((rd l0 aa) != a1) = true := bne_iff_ne.mpr c6; have H' := Aside0.mk H; clear H; have ab : 0 ≤ (aa : Int) := od; have ac : aa < (l0.length : Int) := od; obtain ⟨ag, ae, ad⟩ := Kd.at_int an.out aa ab ac; cases ae; replace ab := eq_true ab; replace ac := eq_true ac
      go_wp2
      go_roundg k1
      case measure => have := ao.out; omega
      case rel => exact ⟨(wrap64 (aa + 1)), rs, H', ⟨by have := ao.out; omega⟩, by repeat (first | exact Drawn0.refl _ | apply Drawn0.step)⟩
     rw [if_neg c5] at H; exact absurd H (by simp)
    rw [if_neg c4] at H; exact absurd H (by simp)
   rw [if_neg c3] at H; have ah : decide (aa < (l0.length : Int)) = false := decide_eq_false c3; clear c3; obtain rfl := Option.some.inj H
   go_wp2
   go_ret
   exact ⟨by first | rfl | (simp; done) | (simp [*]; done), by repeat (first | exact Drawn0.refl _ | apply Drawn0.step)⟩

/-! ### spec_l08With: function 37 -/
def spec_l08With.l0 : Nat → Int → List Int → Bool → List Int → Int → Int → Option (List Int)
 | 0, _, _, _, _, _, _ => none
 | k + 1, x1, x5, x6, au, a5, ar => if ar < a5 then (if 0 ≤ ar then (if ar < (au.length : Int) then (if x6 = true then (if x5.length < 17592186044416 then (spec_l08With.l0 k x1 (x5 ++ [rd au ar]) x6 au a5 (wrap64 (ar + 1))) else (none)) else (if x1 < (rd au ar) then (if x5.length < 17592186044416 then ((some (x5 ++ [x1] : List Int)).bind fun ah => (if ah.length < 17592186044416 then (spec_l08With.l0 k x1 (ah ++ [rd au ar]) true au a5 (wrap64 (ar + 1))) else (none))) else (none)) else (if x5.length < 17592186044416 then (spec_l08With.l0 k x1 (x5 ++ [rd au ar]) x6 au a5 (wrap64 (ar + 1))) else (none)))) else (none)) else (none)) else (if x6 = true then (some x5) else (if x5.length < 17592186044416 then (some (x5 ++ [x1])) else (none)))
def spec_l08With.f (k : Nat) (l0 : List Int) (a1 : Int) : Option (List Int) := spec_l08With.l0 k a1 (([] : List Int)) false l0 (l0.length : Int) 0
theorem spec_l08With.mono_l : ∀ k, (∀ y0 y1 y2 y3 y4 y5, LeO (spec_l08With.l0 k y0 y1 y2 y3 y4 y5) (spec_l08With.l0 (k + 1) y0 y1 y2 y3 y4 y5))
 | 0 => fun _ _ _ _ _ _ r h => by simp [spec_l08With.l0] at h
 | k + 1 => by
  have aA := spec_l08With.mono_l k
  ·intro y0 y1 y2 y3 y4 y5; unfold spec_l08With.l0
   repeat' first | (with_reducible first | apply aA | apply lr | apply ln | apply li | refine lb ?_ fun _ => ?_) | apply aA | apply ln | apply li | refine lb ?_ fun _ => ?_
theorem spec_l08With.mono : ∀ a0 a1 k, LeO (spec_l08With.f k a0 a1) (spec_l08With.f (k + 1) a0 a1) := by
 intro a0 a1 k; have aA := spec_l08With.mono_l k; unfold spec_l08With.f
 repeat' first | (with_reducible first | apply aA | apply lr | apply ln | apply li | refine lb ?_ fun _ => ?_) | apply aA | apply ln | apply li | refine lb ?_ fun _ => ?_
set_option maxHeartbeats 8000000 in
set_option maxRecDepth 100000 in
theorem spec_l08With.calls (k : Nat) (A0 : Option Addr) (c0 : Nat) (l0 : List Int) (a1 : Int) (r : List Int) (w : World) (bi : Kd.C (Kd.int .i64) w A0 l0.length l0) (bj : l0.length ≤ c0) (h : spec_l08With.f k l0 a1 = some r) :
  Calls Try.prog 37 #[.slice A0 l0.length c0, .int .i64 a1] w fun e w' => ∃ bm : Value, e = .returned (bm) ∧ Kd.R (Kd.int .i64) 3 w' w.heap.size (fun _ => True) bm r ∧ Below w.heap.size w w' := by
 have bc := Aside0.mk bi; have bA := Aside0.mk bj; clear bi bj; have HB := Aside0.mk (Below.refl w.heap.size w); have H : (spec_l08With.l0 k a1 (([] : List Int)) false l0 (l0.length : Int) 0) = some r := h; clear h; obtain ⟨aC, ai⟩ : ∃ y_ : List Int, y_ = (([] : List Int)) := ⟨_, rfl⟩; rw [← ai] at H; have av := Aside0.mk ai; clear ai; have H' := Aside0.mk H; clear H
 go_enter Try.func37, Try.ntmps37
 go_wp2_with (first | ((with_reducible refine gate_dst (N := 9) rfl ?_); refine Kd.R_lit (Kd.int .i64) _ 3 ?hg (N := 9) ?hd (xs := ([] : List Int)) (inner := []) (ok := fun _ => True) (okp := fun _ => True) ?hr ?hp (fun _ hk => hk) trivial (Below.refl _ _) (Nat.le_refl _) (by simp) ?_; (case hd => rfl); (case hg => rfl); (case hr => first | (go_simp; done) | (go_simp; rfl)); (case hp => exact (Reps.none _ _)); intro bn w3 aD hb hg_ hnew_; clear hg_ hnew_; (first | rw [← av.out] at aD | (simp only [Int.reduceToNat] at aD; rw [← av.out] at aD)); have aE := rl0 aD HB; replace HB := s0 HB hb; clear hb aD))
 go_loopg [5, 6, 12] k (fun kq v5 v6 bo w' => ∃ (ac : List Int) (ap : Bool) (aa : Int), v6 = .bool ap ∧ bo = .int .i64 aa ∧ Aside0 (spec_l08With.l0 kq a1 ac ap l0 (l0.length : Int) aa = some r) ∧ Aside0 (kq ≤ k) ∧ Aside0 (Kd.R (Kd.int .i64) 3 w' w.heap.size (fun _ => True) v5 ac) ∧ Aside0 (Below w.heap.size w w'))
 case atStart => exact ⟨(aC), (false), (0), rs, rs, H', ⟨Nat.le_refl _⟩, ⟨ro aE⟩, ⟨be HB⟩⟩
 case round =>
  clear H'
  try clear p2; try clear c3
  obtain ⟨ac, ap, aa, rfl, rfl, HA, ay, ag, HB⟩ := hrel
  cases gk with
  | zero => exact absurd HA.out (by simp [spec_l08With.l0])
  | succ k1 =>
   have H := HA.out; clear HA; simp only [spec_l08With.l0] at H
   by_cases c5 : aa < (l0.length : Int)
   ·rw [if_pos c5] at H; have bd : decide (aa < (l0.length : Int)) = true := decide_eq_true c5; clear c5
    by_cases c6 : 0 ≤ aa
    ·rw [if_pos c6] at H; have bq : decide (0 ≤ aa) = true := decide_eq_true c6; clear c6
     by_cases c7 : aa < (l0.length : Int)
     ·rw [if_pos c7] at H; have br : decide (aa < (l0.length : Int)) = true := decide_eq_true c7; clear c7
      by_cases c8 : ap = true
      ·subst c8; rw [if_pos rfl] at H
       by_cases c9 : ac.length < 17592186044416
       ·rw [if_pos c9] at H; have bf := Aside0.mk c9; clear c9; obtain ⟨aG, aj⟩ : ∃ y_ : List Int, y_ = (ac ++ [rd l0 aa]) := ⟨_, rfl⟩; rw [← aj] at H; have aH := Aside0.mk aj; clear aj; have H' := Aside0.mk H; clear H; have ae : 0 ≤ (aa : Int) := od; have af : aa < (l0.length : Int) := od; obtain ⟨aw, aq, ab⟩ := Kd.at_int bc.out aa ae af; cases aq; replace ab := hc HB ab; replace ae := eq_true ae; replace af := eq_true af
        go_wp2_with (first | ((with_reducible refine gate_builtin (b := .append) (xs := #[.tmp 27, .tmp 29]) rfl ?_); at_builtin; refine Kd.R_append (Kd.int .i64) (w0 := w) w.heap.size rfl (.tmp 27) (.tmp 29) 22 3 (.int .i64 0) 8 rfl Try.underlying22 info3 rfl (by decide) (by omega) u5 ac (rd l0 aa) [.int .i64 (rd l0 aa)] (fun _ => True) (fun _ => False) rfl rfl ?aP (fun _ hk => hk.elim) ?aF ?aO ?aB ?aS ?aL ?_; (case aP => exact rfl); (case aB => exact (be HB)); (case aF => exact (fun _ _ => trivial)); (case aO => exact (ro ag)); (case aS => exact (below_size (be HB))); (case aL => have := bf.out; omega); intro bs bC ho hb hg hat; rw [← aH.out] at ho; replace HB := Aside0.mk (hb); have aI := Aside0.mk (ho); clear ag; clear ho hb hg hat))
        go_roundg k1
        case measure => have := ay.out; omega
        case rel => exact ⟨(aG), (true), (wrap64 (aa + 1)), rs, rs, H', ⟨by have := ay.out; omega⟩, ⟨ro aI⟩, ⟨be HB⟩⟩
       rw [if_neg c9] at H; exact absurd H (by simp)
      replace c8 := Bool.eq_false_iff.mpr c8; subst c8; rw [if_neg nf] at H
      by_cases az : a1 < (rd l0 aa)
      ·rw [if_pos az] at H; have aJ : decide (a1 < (rd l0 aa)) = true := decide_eq_true az; clear az
       by_cases a6 : ac.length < 17592186044416
       ·rw [if_pos a6] at H; have aK := Aside0.mk a6; clear a6; obtain ⟨ah, ak, H⟩ := oy H; have aN := Aside0.mk ak; clear ak
        by_cases a7 : ah.length < 17592186044416
        ·rw [if_pos a7] at H; have aQ := Aside0.mk a7; clear a7; obtain ⟨aR, al⟩ : ∃ y_ : List Int, y_ = (ah ++ [rd l0 aa]) := ⟨_, rfl⟩; rw [← al] at H; have aU := Aside0.mk al; clear al; have H' := Aside0.mk H; clear H; have ae : 0 ≤ (aa : Int) := od; have af : aa < (l0.length : Int) := od; obtain ⟨aw, aq, ab⟩ := Kd.at_int bc.out aa ae af; cases aq; replace ab := hc HB ab; replace ae := eq_true ae; replace af := eq_true af
         go_wp2_with (first | ((with_reducible refine gate_builtin (b := .append) (xs := #[.tmp 23, .tmp 25]) rfl ?_); at_builtin; refine Kd.R_append (Kd.int .i64) (w0 := w) w.heap.size rfl (.tmp 23) (.tmp 25) 22 3 (.int .i64 0) 8 rfl Try.underlying22 info3 rfl (by decide) (by omega) u5 ac a1 [.int .i64 a1] (fun _ => True) (fun _ => False) rfl rfl ?aP (fun _ hk => hk.elim) ?aF ?aO ?aB ?aS ?aL ?_; (case aP => exact rfl); (case aB => exact (be HB)); (case aF => exact (fun _ _ => trivial)); (case aO => exact (ro ag)); (case aS => exact (below_size (be HB))); (case aL => have := aK.out; omega); intro bg bD ho hb hg hat; rw [← aN.out] at ho; replace HB := Aside0.mk (hb); have ax := Aside0.mk (ho); clear ag; clear ho hb hg hat) | ((with_reducible refine gate_builtin (b := .append) (xs := #[.tmp 27, .tmp 29]) rfl ?_); at_builtin; refine Kd.R_append (Kd.int .i64) (w0 := w) w.heap.size rfl (.tmp 27) (.tmp 29) 22 3 (.int .i64 0) 8 rfl Try.underlying22 info3 rfl (by decide) (by omega) bg ah (rd l0 aa) [.int .i64 (rd l0 aa)] (fun _ => True) (fun _ => False) rfl rfl ?aP (fun _ hk => hk.elim) ?aF ?aO ?aB ?aS ?aL ?_; (case aP => exact rfl); (case aB => exact (be HB)); (case aF => exact (fun _ _ => trivial)); (case aO => exact (ro ax)); (case aS => exact (below_size (be HB))); (case aL => have := aQ.out; omega); intro bu bF ho hb hg hat; rw [← aU.out] at ho; replace HB := Aside0.mk (hb); have aV := Aside0.mk (ho); clear ax; clear ho hb hg hat))
         go_roundg k1
         case measure => have := ay.out; omega
         case rel => exact ⟨(aR), (true), (wrap64 (aa + 1)), rs, rs, H', ⟨by have := ay.out; omega⟩, ⟨ro aV⟩, ⟨be HB⟩⟩
        rw [if_neg a7] at H; exact absurd H (by simp)
       rw [if_neg a6] at H; exact absurd H (by simp)
      rw [if_neg az] at H; have aJ : decide (a1 < (rd l0 aa)) = false := decide_eq_false az; clear az
      by_cases a8 : ac.length < 17592186044416
      ·rw [if_pos a8] at H; have aW := Aside0.mk a8; clear a8; obtain ⟨aX, an⟩ : ∃ y_ : List Int, y_ = (ac ++ [rd l0 aa]) := ⟨_, rfl⟩; rw [← an] at H; have aY := Aside0.mk an; clear an; have H' := Aside0.mk H; clear H; have ae : 0 ≤ (aa : Int) := od; have af : aa < (l0.length : Int) := od; obtain ⟨aw, aq, ab⟩ := Kd.at_int bc.out aa ae af; cases aq; replace ab := hc HB ab; replace ae := eq_true ae; replace af := eq_true af
       go_wp2_with (first | ((with_reducible refine gate_builtin (b := .append) (xs := #[.tmp 27, .tmp 29]) rfl ?_); at_builtin; refine Kd.R_append (Kd.int .i64) (w0 := w) w.heap.size rfl (.tmp 27) (.tmp 29) 22 3 (.int .i64 0) 8 rfl Try.underlying22 info3 rfl (by decide) (by omega) u5 ac (rd l0 aa) [.int .i64 (rd l0 aa)] (fun _ => True) (fun _ => False) rfl rfl ?aP (fun _ hk => hk.elim) ?aF ?aO ?aB ?aS ?aL ?_; (case aP => exact rfl); (case aB => exact (be HB)); (case aF => exact (fun _ _ => trivial)); (case aO => exact (ro ag)); (case aS => exact (below_size (be HB))); (case aL => have := aW.out; omega); intro bw bG ho hb hg hat; rw [← aY.out] at ho; replace HB := Aside0.mk (hb); have aZ := Aside0.mk (ho); clear ag; clear ho hb hg hat))
       go_roundg k1
       case measure => have := ay.out; omega
       case rel => exact ⟨(aX), (false), (wrap64 (aa + 1)), rs, rs, H', ⟨by have := ay.out; omega⟩, ⟨ro aZ⟩, ⟨be HB⟩⟩
      rw [if_neg a8] at H; exact absurd H (by simp)
     rw [if_neg c7] at H; exact absurd H (by simp)
    rw [if_neg c6] at H; exact absurd H (by simp)
   rw [if_neg c5] at H; have bd : decide (aa < (l0.length : Int)) = false := decide_eq_false c5; clear c5
   by_cases a9 : ap = true
   ·subst a9; rw [if_pos rfl] at H; obtain rfl := Option.some.inj H
    go_wp2
    go_ret
    exact ⟨_, er, (ro ag), be HB⟩
   replace a9 := Bool.eq_false_iff.mpr a9; subst a9; rw [if_neg nf] at H
   by_cases ba : ac.length < 17592186044416
   ·rw [if_pos ba] at H; have a2 := Aside0.mk ba; clear ba; obtain ⟨bh, ao⟩ : ∃ y_ : List Int, y_ = (ac ++ [a1]) := ⟨_, rfl⟩; rw [← ao] at H; have a3 := Aside0.mk ao; clear ao; obtain rfl := Option.some.inj H
    go_wp2_with (first | ((with_reducible refine gate_builtin (b := .append) (xs := #[.tmp 34, .tmp 36]) rfl ?_); at_builtin; refine Kd.R_append (Kd.int .i64) (w0 := w) w.heap.size rfl (.tmp 34) (.tmp 36) 22 3 (.int .i64 0) 8 rfl Try.underlying22 info3 rfl (by decide) (by omega) u5 ac a1 [.int .i64 a1] (fun _ => True) (fun _ => False) rfl rfl ?aP (fun _ hk => hk.elim) ?aF ?aO ?aB ?aS ?aL ?_; (case aP => exact rfl); (case aB => exact (be HB)); (case aF => exact (fun _ _ => trivial)); (case aO => exact (ro ag)); (case aS => exact (below_size (be HB))); (case aL => have := a2.out; omega); intro bz bH ho hb hg hat; rw [← a3.out] at ho; replace HB := Aside0.mk (hb); have a4 := Aside0.mk (ho); clear ag; clear ho hb hg hat))
    go_ret
    exact ⟨_, er, (ro a4), be HB⟩
   rw [if_neg ba] at H; exact absurd H (by simp)

/-! ### spec_l08But: function 38 -/
def spec_l08But.l0 : Nat → Int → List Int → List Int → Int → Int → Option (List Int)
 | 0, _, _, _, _, _ => none
 | k + 1, x1, x5, x9, ay, aj => if aj < ay then (if 0 ≤ aj then (if aj < (x9.length : Int) then (if (rd x9 aj) = x1 then (spec_l08But.l0 k x1 x5 x9 ay (wrap64 (aj + 1))) else (if x5.length < 17592186044416 then (spec_l08But.l0 k x1 (x5 ++ [rd x9 aj]) x9 ay (wrap64 (aj + 1))) else (none))) else (none)) else (none)) else (some x5)
def spec_l08But.f (k : Nat) (l0 : List Int) (a1 : Int) : Option (List Int) := spec_l08But.l0 k a1 (([] : List Int)) l0 (l0.length : Int) 0
theorem spec_l08But.mono_l : ∀ k, (∀ y0 y1 y2 y3 y4, LeO (spec_l08But.l0 k y0 y1 y2 y3 y4) (spec_l08But.l0 (k + 1) y0 y1 y2 y3 y4))
 | 0 => fun _ _ _ _ _ r h => by simp [spec_l08But.l0] at h
 | k + 1 => by
  have an := spec_l08But.mono_l k
  ·intro y0 y1 y2 y3 y4; unfold spec_l08But.l0
   repeat' first | (with_reducible first | apply an | apply lr | apply ln | apply li | refine lb ?_ fun _ => ?_) | apply an | apply ln | apply li | refine lb ?_ fun _ => ?_
theorem spec_l08But.mono : ∀ a0 a1 k, LeO (spec_l08But.f k a0 a1) (spec_l08But.f (k + 1) a0 a1) := by
 intro a0 a1 k; have an := spec_l08But.mono_l k; unfold spec_l08But.f
 repeat' first | (with_reducible first | apply an | apply lr | apply ln | apply li | refine lb ?_ fun _ => ?_) | apply an | apply ln | apply li | refine lb ?_ fun _ => ?_
set_option maxHeartbeats 8000000 in
set_option maxRecDepth 100000 in
theorem spec_l08But.calls (k : Nat) (A0 : Option Addr) (c0 : Nat) (l0 : List Int) (a1 : Int) (r : List Int) (w : World) (aE : Kd.C (Kd.int .i64) w A0 l0.length l0) (aG : l0.length ≤ c0) (h : spec_l08But.f k l0 a1 = some r) :
  Calls Try.prog 38 #[.slice A0 l0.length c0, .int .i64 a1] w fun e w' => ∃ aH : Value, e = .returned (aH) ∧ Kd.R (Kd.int .i64) 3 w' w.heap.size (fun _ => True) aH r ∧ Below w.heap.size w w' := by
 have aI := Aside0.mk aE; have aU := Aside0.mk aG; clear aE aG; have HB := Aside0.mk (Below.refl w.heap.size w); have H : (spec_l08But.l0 k a1 (([] : List Int)) l0 (l0.length : Int) 0) = some r := h; clear h; obtain ⟨ao, ac⟩ : ∃ y_ : List Int, y_ = (([] : List Int)) := ⟨_, rfl⟩; rw [← ac] at H; have ai := Aside0.mk ac; clear ac; have H' := Aside0.mk H; clear H
 go_enter Try.func38, Try.ntmps38
 go_wp2_with (first | ((with_reducible refine gate_dst (N := 8) rfl ?_); refine Kd.R_lit (Kd.int .i64) _ 3 ?hg (N := 8) ?hd (xs := ([] : List Int)) (inner := []) (ok := fun _ => True) (okp := fun _ => True) ?hr ?hp (fun _ hk => hk) trivial (Below.refl _ _) (Nat.le_refl _) (by simp) ?_; (case hd => rfl); (case hg => rfl); (case hr => first | (go_simp; done) | (go_simp; rfl)); (case hp => exact (Reps.none _ _)); intro aJ w3 ap hb hg_ hnew_; clear hg_ hnew_; (first | rw [← ai.out] at ap | (simp only [Int.reduceToNat] at ap; rw [← ai.out] at ap)); have aq := rl0 ap HB; replace HB := s0 HB hb; clear hb ap))
 go_loopg [5, 11] k (fun kq v5 aK w' => ∃ (ae : List Int) (aa : Int), aK = .int .i64 aa ∧ Aside0 (spec_l08But.l0 kq a1 ae l0 (l0.length : Int) aa = some r) ∧ Aside0 (kq ≤ k) ∧ Aside0 (Kd.R (Kd.int .i64) 3 w' w.heap.size (fun _ => True) v5 ae) ∧ Aside0 (Below w.heap.size w w'))
 case atStart => exact ⟨(ao), (0), rs, H', ⟨Nat.le_refl _⟩, ⟨ro aq⟩, ⟨be HB⟩⟩
 case round =>
  clear H'
  try clear p2; try clear c3
  obtain ⟨ae, aa, rfl, HA, ax, ah, HB⟩ := hrel
  cases gk with
  | zero => exact absurd HA.out (by simp [spec_l08But.l0])
  | succ k1 =>
   have H := HA.out; clear HA; simp only [spec_l08But.l0] at H
   by_cases c5 : aa < (l0.length : Int)
   ·rw [if_pos c5] at H; have az : decide (aa < (l0.length : Int)) = true := decide_eq_true c5; clear c5
    by_cases c6 : 0 ≤ aa
    ·rw [if_pos c6] at H; have aN : decide (0 ≤ aa) = true := decide_eq_true c6; clear c6
     by_cases c7 : aa < (l0.length : Int)
     ·rw [if_pos c7] at H; have aQ : decide (aa < (l0.length : Int)) = true := decide_eq_true c7; clear c7
      by_cases c8 : (rd l0 aa) = a1
      ·rw [if_pos c8] at H; have aA : ((rd l0 aa) == a1) = true := beq_iff_eq.mpr c8; have aC : ((rd l0 aa) != a1) = false := bne_eq_false_iff_eq.mpr c8; clear c8; have H' := Aside0.mk H; clear H; have af : 0 ≤ (aa : Int) := od; have ag : aa < (l0.length : Int) := od; obtain ⟨ar, al, ab⟩ := Kd.at_int aI.out aa af ag; cases al; replace ab := hc HB ab; replace af := eq_true af; replace ag := eq_true ag
       go_wp2
       go_roundg k1
       case measure => have := ax.out; omega
       case rel => exact ⟨(ae), (wrap64 (aa + 1)), rs, H', ⟨by have := ax.out; omega⟩, ⟨ro ah⟩, ⟨be HB⟩⟩
      rw [if_neg c8] at H; have aA : ((rd l0 aa) == a1) = false := beq_eq_false_iff_ne.mpr c8; have aC : ((rd l0 aa) != a1) = true := bne_iff_ne.mpr c8
      by_cases c9 : ae.length < 17592186044416
      ·rw [if_pos c9] at H; have aD := Aside0.mk c9; clear c9; obtain ⟨au, ad⟩ : ∃ y_ : List Int, y_ = (ae ++ [rd l0 aa]) := ⟨_, rfl⟩; rw [← ad] at H; have av := Aside0.mk ad; clear ad; have H' := Aside0.mk H; clear H; have af : 0 ≤ (aa : Int) := od; have ag : aa < (l0.length : Int) := od; obtain ⟨ar, al, ab⟩ := Kd.at_int aI.out aa af ag; cases al; replace ab := hc HB ab; replace af := eq_true af; replace ag := eq_true ag
       go_wp2_with (first | ((with_reducible refine gate_builtin (b := .append) (xs := #[.tmp 18, .tmp 20]) rfl ?_); at_builtin; refine Kd.R_append (Kd.int .i64) (w0 := w) w.heap.size rfl (.tmp 18) (.tmp 20) 22 3 (.int .i64 0) 8 rfl Try.underlying22 info3 rfl (by decide) (by omega) u5 ae (rd l0 aa) [.int .i64 (rd l0 aa)] (fun _ => True) (fun _ => False) rfl rfl ?aP (fun _ hk => hk.elim) ?aF ?aO ?aB ?aS ?aL ?_; (case aP => exact rfl); (case aB => exact (be HB)); (case aF => exact (fun _ _ => trivial)); (case aO => exact (ro ah)); (case aS => exact (below_size (be HB))); (case aL => have := aD.out; omega); intro aR aV ho hb hg hat; rw [← av.out] at ho; replace HB := Aside0.mk (hb); have aw := Aside0.mk (ho); clear ah; clear ho hb hg hat))
       go_roundg k1
       case measure => have := ax.out; omega
       case rel => exact ⟨(au), (wrap64 (aa + 1)), rs, H', ⟨by have := ax.out; omega⟩, ⟨ro aw⟩, ⟨be HB⟩⟩
      rw [if_neg c9] at H; exact absurd H (by simp)
     rw [if_neg c7] at H; exact absurd H (by simp)
    rw [if_neg c6] at H; exact absurd H (by simp)
   rw [if_neg c5] at H; have az : decide (aa < (l0.length : Int)) = false := decide_eq_false c5; clear c5; obtain rfl := Option.some.inj H
   go_wp2
   go_ret
   exact ⟨_, er, (ro ah), be HB⟩

end Go.Proofs.Ytgnjhondoidfdaa.QFnExactLinear
