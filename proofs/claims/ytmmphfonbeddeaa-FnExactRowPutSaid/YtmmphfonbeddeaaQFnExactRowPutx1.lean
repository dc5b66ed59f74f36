-- made by a program of this session (myprint.py)
import Derived.Test.YtmmphfonbeddeaaQFnExactRowPutx0
namespace Go.Proofs.Ytmmphfonbeddeaa.QFnExactRowPut
open Go.RowKit Go.Proofs.YtmmphfonbeddeaaW.PrintWords Go.Proofs.YtmmphfonbeddeaaW.PrintLast Go.Proofs.YtmmphfonbeddeaaW.PrintMore
attribute [local go_sem] max2_int min2_int max_two min_two max_three min_three max_four min_four   -- for this text's walks alone
set_option linter.unusedVariables false
set_option linter.unusedSimpArgs false

/-! ### laws_szItem: function 30 -/
def laws_szItem.f (aa : ByteArray) (ab : ByteArray) (ae : Int) (a1 : Int) : Option (Int) := if (wrap64 (a1 - (aa.size : Int))) < 0 then (some (-1)) else (if (wrap64 ((wrap64 (a1 - (aa.size : Int))) - (ab.size : Int))) < 0 then (some (-1)) else (some (wrap64 ((wrap64 (a1 - (aa.size : Int))) - (ab.size : Int)))))
set_option maxHeartbeats 8000000 in
set_option maxRecDepth 100000 in
theorem laws_szItem.calls (aa : ByteArray) (ab : ByteArray) (ae : Int) (a1 : Int) (r : Int) (w : World) (h : laws_szItem.f aa ab ae a1 = some r) :
  Calls Try.prog 30 #[.agg #[.string aa, .string ab, .int .i64 ae], .int .i64 a1] w fun e w' => e = .returned (.int .i64 r) ∧ Below w.heap.size w w' := by
 have hu52 := Try.underlying52; have HB := Aside0.mk (Below.refl w.heap.size w); have H : (if (wrap64 (a1 - (aa.size : Int))) < 0 then (some (-1)) else (if (wrap64 ((wrap64 (a1 - (aa.size : Int))) - (ab.size : Int))) < 0 then (some (-1)) else (some (wrap64 ((wrap64 (a1 - (aa.size : Int))) - (ab.size : Int)))))) = some r := h; clear h
 by_cases c3 : (wrap64 (a1 - (aa.size : Int))) < 0
 ·rw [if_pos c3] at H; have ai : decide ((wrap64 (a1 - (aa.size : Int))) < 0) = true := decide_eq_true c3; clear c3; obtain rfl := Option.some.inj H
  go_enter Try.func30, Try.ntmps30
  go_wp2_with (first | ((with_reducible refine gate_dst (N := 2) rfl ?_); refine bx 2 #[.string aa, .string ab, .int .i64 ae] 52 ?_; intro af hg w4 hbox hb; have ac := am hbox; have ag := gs0 hg HB; have ad := gs0 hg HB; replace HB := s0 HB hb; clear hb hbox hg; have aj := bz3 ac))
  go_ret
  exact ⟨er, be1 HB ad⟩
 rw [if_neg c3] at H; have ai : decide ((wrap64 (a1 - (aa.size : Int))) < 0) = false := decide_eq_false c3; clear c3
 by_cases c6 : (wrap64 ((wrap64 (a1 - (aa.size : Int))) - (ab.size : Int))) < 0
 ·rw [if_pos c6] at H; have ak : decide ((wrap64 ((wrap64 (a1 - (aa.size : Int))) - (ab.size : Int))) < 0) = true := decide_eq_true c6; clear c6; obtain rfl := Option.some.inj H
  go_enter Try.func30, Try.ntmps30
  go_wp2_with (first | ((with_reducible refine gate_dst (N := 2) rfl ?_); refine bx 2 #[.string aa, .string ab, .int .i64 ae] 52 ?_; intro af hg w7 hbox hb; have ac := am hbox; have ag := gs0 hg HB; have ad := gs0 hg HB; replace HB := s0 HB hb; clear hb hbox hg; have al := bz3 ac))
  go_ret
  exact ⟨er, be1 HB ad⟩
 rw [if_neg c6] at H; have ak : decide ((wrap64 ((wrap64 (a1 - (aa.size : Int))) - (ab.size : Int))) < 0) = false := decide_eq_false c6; clear c6; obtain rfl := Option.some.inj H
 go_enter Try.func30, Try.ntmps30
 go_wp2_with (first | ((with_reducible refine gate_dst (N := 2) rfl ?_); refine bx 2 #[.string aa, .string ab, .int .i64 ae] 52 ?_; intro af hg w9 hbox hb; have ac := am hbox; have ag := gs0 hg HB; have ad := gs0 hg HB; replace HB := s0 HB hb; clear hb hbox hg; have ah := bz3 ac))
 go_ret
 exact ⟨er, be1 HB ad⟩

/-! ### laws_szItemS: function 14 -/
def laws_szItemS.l0 : Nat → List (S52) → Int → Int → Option (Int)
 | 0, _, _, _ => none
 | k + 1, x0, x1, x5 => if x5 < (x0.length : Int) then (if 0 ≤ x5 then ((laws_szItem.f ((rd_T52 x0 x5).f0) ((rd_T52 x0 x5).f1) ((rd_T52 x0 x5).f2) x1).bind fun ae => (if ae < 0 then (some (-1)) else (laws_szItemS.l0 k x0 ae (wrap64 (x5 + 1))))) else (none)) else (some x1)
def laws_szItemS.f (k : Nat) (l0 : List (S52)) (a1 : Int) : Option (Int) := if (wrap64 (a1 - (l0.length : Int))) < 0 then (some (-1)) else (laws_szItemS.l0 k l0 (wrap64 (a1 - (l0.length : Int))) 0)
theorem laws_szItemS.mono_l : ∀ k, (∀ y0 y1 y2, LeO (laws_szItemS.l0 k y0 y1 y2) (laws_szItemS.l0 (k + 1) y0 y1 y2))
 | 0 => fun _ _ _ r h => by simp [laws_szItemS.l0] at h
 | k + 1 => by
  have aj := laws_szItemS.mono_l k
  ·intro y0 y1 y2; unfold laws_szItemS.l0
   repeat' first | (with_reducible first | apply aj | apply lr | apply ln | apply li | refine lb ?_ fun _ => ?_) | apply aj | apply ln | apply li | refine lb ?_ fun _ => ?_
theorem laws_szItemS.mono : ∀ a0 a1 k, LeO (laws_szItemS.f k a0 a1) (laws_szItemS.f (k + 1) a0 a1) := by
 intro a0 a1 k; have aj := laws_szItemS.mono_l k; unfold laws_szItemS.f
 repeat' first | (with_reducible first | apply aj | apply lr | apply ln | apply li | refine lb ?_ fun _ => ?_) | apply aj | apply ln | apply li | refine lb ?_ fun _ => ?_
set_option maxHeartbeats 8000000 in
set_option maxRecDepth 100000 in
theorem laws_szItemS.calls (k : Nat) (A0 : Option Addr) (c0 : Nat) (l0 : List (S52)) (a1 : Int) (r : Int) (w : World) (ap : Kd.C k52 w A0 l0.length l0) (aq : l0.length ≤ c0) (h : laws_szItemS.f k l0 a1 = some r) :
  Calls Try.prog 14 #[.slice A0 l0.length c0, .int .i64 a1] w fun e w' => e = .returned (.int .i64 r) ∧ Below w.heap.size w w' := by
 have hu52 := Try.underlying52; have ar := Aside0.mk ap; have ax := Aside0.mk aq; clear ap aq; have HB := Aside0.mk (Below.refl w.heap.size w); have H : (if (wrap64 (a1 - (l0.length : Int))) < 0 then (some (-1)) else (laws_szItemS.l0 k l0 (wrap64 (a1 - (l0.length : Int))) 0)) = some r := h; clear h
 by_cases c3 : (wrap64 (a1 - (l0.length : Int))) < 0
 ·rw [if_pos c3] at H; have ak : decide ((wrap64 (a1 - (l0.length : Int))) < 0) = true := decide_eq_true c3; clear c3; obtain rfl := Option.some.inj H
  go_enter Try.func14, Try.ntmps14
  go_wp2
  go_ret
  exact ⟨er, be HB⟩
 rw [if_neg c3] at H; have ak : decide ((wrap64 (a1 - (l0.length : Int))) < 0) = false := decide_eq_false c3; clear c3; have H' := Aside0.mk H; clear H
 go_enter Try.func14, Try.ntmps14
 go_wp2
 go_loopg [1, 5] k (fun kq v1 v5 w' => ∃ (af : Int) (aa : Int), v1 = .int .i64 af ∧ v5 = .int .i64 aa ∧ Aside0 (laws_szItemS.l0 kq l0 af aa = some r) ∧ Aside0 (kq ≤ k) ∧ Aside0 (Below w.heap.size w w'))
 case atStart => exact ⟨(wrap64 (a1 - (l0.length : Int))), (0), rs, rs, H', ⟨Nat.le_refl _⟩, ⟨be HB⟩⟩
 case round =>
  clear H'
  try clear c1; try clear p2; try clear c3; try clear ak
  obtain ⟨af, aa, rfl, rfl, HA, au, HB⟩ := hrel
  cases gk with
  | zero => exact absurd HA.out (by simp [laws_szItemS.l0])
  | succ k1 =>
   have H := HA.out; clear HA; simp only [laws_szItemS.l0] at H
   by_cases c4 : aa < (l0.length : Int)
   ·rw [if_pos c4] at H; have an : decide (aa < (l0.length : Int)) = true := decide_eq_true c4; clear c4
    by_cases c5 : 0 ≤ aa
    ·rw [if_pos c5] at H; have aw : decide (0 ≤ aa) = true := decide_eq_true c5; clear c5; obtain ⟨ae, A6, H⟩ := ob H
     try dsimp only at H
     by_cases c7 : ae < 0
     ·rw [if_pos c7] at H; have ao : decide (ae < 0) = true := decide_eq_true c7; clear c7; obtain rfl := Option.some.inj H; have ag : 0 ≤ (aa : Int) := od; have ah : aa < (l0.length : Int) := od; obtain ⟨al, ai, ab, ac, ad⟩ := at_T52 ar.out aa ag ah; cases ai; replace ab := hc HB ab; replace ac := hc HB ac; replace ad := hc HB ad; replace ag := eq_true ag; replace ah := eq_true ah
      go_wp2_with (first | ((with_reducible refine gate_callee (f := 30) rfl ?_); refine gl 23 Try.func30 #[.agg #[.string ((rd_T52 l0 aa).f0), .string ((rd_T52 l0 aa).f1), .int .i64 ((rd_T52 l0 aa).f2)], .int .i64 af] ?_; (with_reducible refine (laws_szItem.calls ((rd_T52 l0 aa).f0) ((rd_T52 l0 aa).f1) ((rd_T52 l0 aa).f2) af ae _ A6.out).mono ?_); rintro e w8 ⟨rfl, hb⟩; refine ⟨_, rfl, ?_⟩; replace HB := s0 HB hb; (try clear hb)))
      go_ret
      exact ⟨er, be HB⟩
     rw [if_neg c7] at H; have ao : decide (ae < 0) = false := decide_eq_false c7; clear c7; have H' := Aside0.mk H; clear H; have ag : 0 ≤ (aa : Int) := od; have ah : aa < (l0.length : Int) := od; obtain ⟨al, ai, ab, ac, ad⟩ := at_T52 ar.out aa ag ah; cases ai; replace ab := hc HB ab; replace ac := hc HB ac; replace ad := hc HB ad; replace ag := eq_true ag; replace ah := eq_true ah
     go_wp2_with (first | ((with_reducible refine gate_callee (f := 30) rfl ?_); refine gl 23 Try.func30 #[.agg #[.string ((rd_T52 l0 aa).f0), .string ((rd_T52 l0 aa).f1), .int .i64 ((rd_T52 l0 aa).f2)], .int .i64 af] ?_; (with_reducible refine (laws_szItem.calls ((rd_T52 l0 aa).f0) ((rd_T52 l0 aa).f1) ((rd_T52 l0 aa).f2) af ae _ A6.out).mono ?_); rintro e w9 ⟨rfl, hb⟩; refine ⟨_, rfl, ?_⟩; replace HB := s0 HB hb; (try clear hb)))
     go_roundg k1
     case measure => have := au.out; omega
     case rel => exact ⟨(ae), (wrap64 (aa + 1)), rs, rs, H', ⟨by have := au.out; omega⟩, ⟨be HB⟩⟩
    rw [if_neg c5] at H; exact absurd H (by simp)
   rw [if_neg c4] at H; have an : decide (aa < (l0.length : Int)) = false := decide_eq_false c4; clear c4; obtain rfl := Option.some.inj H
   go_wp2
   go_ret
   exact ⟨er, be HB⟩

/-! ### laws_szRow: function 4 -/
def laws_szRow.f (k : Nat) (ag : Int) (ah : Int) (aa : List (S52)) (a1 : Int) : Option (Int) := (laws_szItemS.f k aa a1).bind fun ab => (if ab < 0 then (some (-1)) else (some ab))
theorem laws_szRow.mono : ∀ a0 a1 a2 a3 k, LeO (laws_szRow.f k a0 a1 a2 a3) (laws_szRow.f (k + 1) a0 a1 a2 a3) := by
 intro a0 a1 a2 a3 k; unfold laws_szRow.f
 repeat' first | (with_reducible first | apply laws_szItemS.mono | apply lr | apply ln | apply li | refine lb ?_ fun _ => ?_) | apply ln | apply li | refine lb ?_ fun _ => ?_
set_option maxHeartbeats 8000000 in
set_option maxRecDepth 100000 in
theorem laws_szRow.calls (k : Nat) (ag : Int) (ah : Int) (ae : Option Addr) (af : Nat) (aa : List (S52)) (a1 : Int) (r : Int) (w : World) (ai : Kd.C k52 w ae aa.length aa) (aj : aa.length ≤ af) (h : laws_szRow.f k ag ah aa a1 = some r) :
  Calls Try.prog 4 #[.agg #[.int .i64 ag, .int .i64 ah, .slice ae aa.length af], .int .i64 a1] w fun e w' => e = .returned (.int .i64 r) ∧ Below w.heap.size w w' := by
 have hu24 := Try.underlying24; have ak := Aside0.mk ai; have al := Aside0.mk aj; clear ai aj; have HB := Aside0.mk (Below.refl w.heap.size w); have H : ((laws_szItemS.f k aa a1).bind fun ab => (if ab < 0 then (some (-1)) else (some ab))) = some r := h; clear h; obtain ⟨ab, A3, H⟩ := ob H
 try dsimp only at H
 by_cases c4 : ab < 0
 ·rw [if_pos c4] at H; have ap : decide (ab < 0) = true := decide_eq_true c4; clear c4; obtain rfl := Option.some.inj H
  go_enter Try.func4, Try.ntmps4
  go_wp2_with (first | ((with_reducible refine gate_dst (N := 2) rfl ?_); refine bx 2 #[.int .i64 ag, .int .i64 ah, .slice ae aa.length af] 24 ?_; intro an hg w5 hbox hb; have ac := am hbox; have ao := gs0 hg HB; have ad := gs0 hg HB; replace HB := s0 HB hb; clear hb hbox hg; have aq := bz3 ac) | ((with_reducible refine gate_callee (f := 14) rfl ?_); refine gl 8 Try.func14 #[.slice ae aa.length af, .int .i64 a1] ?_; (with_reducible refine (laws_szItemS.calls k _ _ aa a1 ab _ (cb ak HB) al.out A3.out).mono ?_); rintro e w7 ⟨rfl, hb⟩; refine ⟨_, rfl, ?_⟩; replace ac := bb ac hb; replace HB := s1 HB ad hb; (try clear hb)))
  go_ret
  exact ⟨er, be1 HB ad⟩
 rw [if_neg c4] at H; have ap : decide (ab < 0) = false := decide_eq_false c4; clear c4; obtain rfl := Option.some.inj H
 go_enter Try.func4, Try.ntmps4
 go_wp2_with (first | ((with_reducible refine gate_dst (N := 2) rfl ?_); refine bx 2 #[.int .i64 ag, .int .i64 ah, .slice ae aa.length af] 24 ?_; intro an hg w8 hbox hb; have ac := am hbox; have ao := gs0 hg HB; have ad := gs0 hg HB; replace HB := s0 HB hb; clear hb hbox hg; have ar := bz3 ac) | ((with_reducible refine gate_callee (f := 14) rfl ?_); refine gl 8 Try.func14 #[.slice ae aa.length af, .int .i64 a1] ?_; (with_reducible refine (laws_szItemS.calls k _ _ aa a1 ab _ (cb ak HB) al.out A3.out).mono ?_); rintro e av ⟨rfl, hb⟩; refine ⟨_, rfl, ?_⟩; replace ac := bb ac hb; replace HB := s1 HB ad hb; (try clear hb)))
 go_ret
 exact ⟨er, be1 HB ad⟩

/-! ### spec_l01In: function 31 -/
def spec_l01In.f (a0 : Int) (a1 : Int) (a2 : Int) : Option (Bool) := if a0 ≥ a1 then (some (decide (a0 ≤ a2))) else (some false)
set_option maxHeartbeats 8000000 in
set_option maxRecDepth 100000 in
theorem spec_l01In.calls (a0 : Int) (a1 : Int) (a2 : Int) (r : Bool) (w : World) (h : spec_l01In.f a0 a1 a2 = some r) :
  Calls Try.prog 31 #[.int .i64 a0, .int .i64 a1, .int .i64 a2] w fun e w' => e = .returned (.bool r) ∧ Drawn0 w w' := by
 have H : (if a0 ≥ a1 then (some (decide (a0 ≤ a2))) else (some false)) = some r := h; clear h
 by_cases c4 : a0 ≥ a1
 ·rw [if_pos c4] at H; have aa : decide (a1 ≤ a0) = true := decide_eq_true c4; clear c4; obtain rfl := Option.some.inj H
  go_enter Try.func31, Try.ntmps31
  go_wp2
  go_ret
  exact ⟨by first | rfl | (simp; done) | (simp [*]; done), by repeat (first | exact Drawn0.refl _ | apply Drawn0.step)⟩
 rw [if_neg c4] at H; have aa : decide (a1 ≤ a0) = false := decide_eq_false c4; clear c4; obtain rfl := Option.some.inj H
 go_enter Try.func31, Try.ntmps31
 go_wp2
 go_ret
 exact ⟨by first | rfl | (simp; done) | (simp [*]; done), by repeat (first | exact Drawn0.refl _ | apply Drawn0.step)⟩

/-! ### spec_l10Clean: function 32 -/
def spec_l10Clean.l0 : Nat → ByteArray → Int → Option (Bool)
 | 0, _, _ => none
 | k + 1, x0, x3 => if x3 < (x0.size : Int) then (if 0 ≤ x3 then (if (bt x0 x3) = 32 then (some false) else (if (bt x0 x3) = 10 then (some false) else (spec_l10Clean.l0 k x0 (wrap64 (x3 + 1))))) else (none)) else (some true)
def spec_l10Clean.f (k : Nat) (a0 : ByteArray) : Option (Bool) := spec_l10Clean.l0 k a0 0
theorem spec_l10Clean.mono_l : ∀ k, (∀ y0 y1, LeO (spec_l10Clean.l0 k y0 y1) (spec_l10Clean.l0 (k + 1) y0 y1))
 | 0 => fun _ _ r h => by simp [spec_l10Clean.l0] at h
 | k + 1 => by
  have ab := spec_l10Clean.mono_l k
  ·intro y0 y1; unfold spec_l10Clean.l0
   repeat' first | (with_reducible first | apply ab | apply lr | apply ln | apply li | refine lb ?_ fun _ => ?_) | apply ab | apply ln | apply li | refine lb ?_ fun _ => ?_
theorem spec_l10Clean.mono : ∀ a0 k, LeO (spec_l10Clean.f k a0) (spec_l10Clean.f (k + 1) a0) := by
 intro a0 k; have ab := spec_l10Clean.mono_l k; unfold spec_l10Clean.f
 repeat' first | (with_reducible first | apply ab | apply lr | apply ln | apply li | refine lb ?_ fun _ => ?_) | apply ab | apply ln | apply li | refine lb ?_ fun _ => ?_
set_option maxHeartbeats 8000000 in
set_option maxRecDepth 100000 in
theorem spec_l10Clean.calls (k : Nat) (a0 : ByteArray) (r : Bool) (w : World) (h : spec_l10Clean.f k a0 = some r) :
  Calls Try.prog 32 #[.string a0] w fun e w' => e = .returned (.bool r) ∧ Drawn0 w w' := by
 have H : (spec_l10Clean.l0 k a0 0) = some r := h; clear h; have H' := Aside0.mk H; clear H
 go_enter Try.func32, Try.ntmps32
 go_wp2
 go_loopg [3] k (fun kq v3 w' => ∃ (aa : Int), v3 = .int .i64 aa ∧ Aside0 (spec_l10Clean.l0 kq a0 aa = some r) ∧ Aside0 (kq ≤ k) ∧ Drawn0 w w')
 case atStart => exact ⟨(0), rs, H', ⟨Nat.le_refl _⟩, by repeat (first | exact Drawn0.refl _ | apply Drawn0.step)⟩
 case round =>
  clear H'; obtain ⟨aa, rfl, HA, ah, ⟨m1, rfl⟩⟩ := hrel
  cases gk with
  | zero => exact absurd HA.out (by simp [spec_l10Clean.l0])
  | succ k1 =>
   have H := HA.out; clear HA; simp only [spec_l10Clean.l0] at H
   by_cases c2 : aa < (a0.size : Int)
   ·rw [if_pos c2] at H; have ac : decide (aa < (a0.size : Int)) = true := decide_eq_true c2; clear c2
    by_cases c3 : 0 ≤ aa
    ·rw [if_pos c3] at H; have aj : decide (0 ≤ aa) = true := decide_eq_true c3; clear c3
     by_cases c5 : (bt a0 aa) = 32
     ·rw [if_pos c5] at H; have ad : ((bt a0 aa) == 32) = true := beq_iff_eq.mpr c5; have ae : ((bt a0 aa) != 32) = false := bne_eq_false_iff_eq.mpr c5; clear c5; obtain rfl := Option.some.inj H; have p4 : 0 ≤ (aa : Int) := od; have q4 : aa < (a0.size : Int) := od; have ai := bt_at a0 aa; replace p4 := eq_true p4; replace q4 := eq_true q4
      go_wp2
      go_ret
      exact ⟨by first | rfl | (simp; done) | (simp [*]; done), by repeat (first | exact Drawn0.refl _ | apply Drawn0.step)⟩
     rw [if_neg c5] at H; have ad : ((bt a0 aa) == 32) = false := beq_eq_false_iff_ne.mpr c5; have ae : ((bt a0 aa) != 32) = true := bne_iff_ne.mpr c5
     by_cases c7 : (bt a0 aa) = 10
     ·rw [if_pos c7] at H; have af : ((bt a0 aa) == 10) = true := beq_iff_eq.mpr c7; have ag : ((bt a0 aa) != 10) = false := bne_eq_false_iff_eq.mpr c7; clear c7; obtain rfl := Option.some.inj H; have p4 : 0 ≤ (aa : Int) := od; have q4 : aa < (a0.size : Int) := od; have ai := bt_at a0 aa; replace p4 := eq_true p4; replace q4 := eq_true q4; have p6 : 0 ≤ (aa : Int) := od; have q6 : aa < (a0.size : Int) := od; have ak := bt_at a0 aa; replace p6 := eq_true p6; replace q6 := eq_true q6
      go_wp2
      go_ret
      exact ⟨by first | rfl | (simp; done) | (simp [*]; done), by repeat (first | exact Drawn0.refl _ | apply Drawn0.step)⟩
     rw [if_neg c7] at H; have af : ((bt a0 aa) == 10) = false := beq_eq_false_iff_ne.mpr c7; have ag : ((bt a0 aa) != 10) = true := bne_iff_ne.mpr c7; have H' := Aside0.mk H; clear H; have p4 : 0 ≤ (aa : Int) := od; have q4 : aa < (a0.size : Int) := od; have ai := bt_at a0 aa; replace p4 := eq_true p4; replace q4 := eq_true q4; have p6 : 0 ≤ (aa : Int) := od; have q6 : aa < (a0.size : Int) := od; have ak := bt_at a0 aa; replace p6 := eq_true p6; replace q6 := eq_true q6
     go_wp2
     go_roundg k1
     case measure => have := ah.out; omega
     case rel => exact ⟨(wrap64 (aa + 1)), rs, H', ⟨by have := ah.out; omega⟩, by repeat (first | exact Drawn0.refl _ | apply Drawn0.step)⟩
    rw [if_neg c3] at H; exact absurd H (by simp)
   rw [if_neg c2] at H; have ac : decide (aa < (a0.size : Int)) = false := decide_eq_false c2; clear c2; obtain rfl := Option.some.inj H
   go_wp2
   go_ret
   exact ⟨by first | rfl | (simp; done) | (simp [*]; done), by repeat (first | exact Drawn0.refl _ | apply Drawn0.step)⟩

/-! ### spec_ItemOk: function 16 -/
def spec_ItemOk.f (k : Nat) (aa : ByteArray) (ab : ByteArray) (ae : Int) : Option (Bool) := if (aa.size : Int) ≥ 1 then (if (aa.size : Int) ≤ 20 then ((spec_l10Clean.f k aa).bind fun ai => (if ai = true then (if (ab.size : Int) ≤ 40 then ((spec_l10Clean.f k ab).bind fun aj => (if aj = true then ((spec_l01In.f ae 0 3).bind fun ah => (some ah)) else (some false))) else (some false)) else (some false))) else (some false)) else (some false)
theorem spec_ItemOk.mono : ∀ a0 a1 a2 k, LeO (spec_ItemOk.f k a0 a1 a2) (spec_ItemOk.f (k + 1) a0 a1 a2) := by
 intro a0 a1 a2 k; unfold spec_ItemOk.f
 repeat' first | (with_reducible first | apply spec_l10Clean.mono | apply lr | apply ln | apply li | refine lb ?_ fun _ => ?_) | apply ln | apply li | refine lb ?_ fun _ => ?_
set_option maxHeartbeats 8000000 in
set_option maxRecDepth 100000 in
theorem spec_ItemOk.calls (k : Nat) (aa : ByteArray) (ab : ByteArray) (ae : Int) (r : Bool) (w : World) (h : spec_ItemOk.f k aa ab ae = some r) :
  Calls Try.prog 16 #[.agg #[.string aa, .string ab, .int .i64 ae]] w fun e w' => e = .returned (.bool r) ∧ Below w.heap.size w w' := by
 have hu42 := Try.underlying42; have HB := Aside0.mk (Below.refl w.heap.size w); have H : (if (aa.size : Int) ≥ 1 then (if (aa.size : Int) ≤ 20 then ((spec_l10Clean.f k aa).bind fun ai => (if ai = true then (if (ab.size : Int) ≤ 40 then ((spec_l10Clean.f k ab).bind fun aj => (if aj = true then ((spec_l01In.f ae 0 3).bind fun ah => (some ah)) else (some false))) else (some false)) else (some false))) else (some false)) else (some false)) = some r := h; clear h
 by_cases c2 : (aa.size : Int) ≥ 1
 ·rw [if_pos c2] at H; have ar : decide (1 ≤ (aa.size : Int)) = true := decide_eq_true c2; have au : decide (1 ≤ aa.size) = true := decide_eq_true (by omega); clear c2
  by_cases c3 : (aa.size : Int) ≤ 20
  ·rw [if_pos c3] at H; have av : decide ((aa.size : Int) ≤ 20) = true := decide_eq_true c3; have aw : decide (aa.size ≤ 20) = true := decide_eq_true (by omega); clear c3; obtain ⟨ai, A4, H⟩ := ob H
   try dsimp only at H
   by_cases c5 : ai = true
   ·subst c5; rw [if_pos rfl] at H
    by_cases c6 : (ab.size : Int) ≤ 40
    ·rw [if_pos c6] at H; have ax : decide ((ab.size : Int) ≤ 40) = true := decide_eq_true c6; have ay : decide (ab.size ≤ 40) = true := decide_eq_true (by omega); clear c6; obtain ⟨aj, A7, H⟩ := ob H
     try dsimp only at H
     by_cases c8 : aj = true
     ·subst c8; rw [if_pos rfl] at H; obtain ⟨ah, A9, H⟩ := ob H; obtain rfl := Option.some.inj H
      go_enter Try.func16, Try.ntmps16
      go_wp2_with (first | ((with_reducible refine gate_dst (N := 1) rfl ?_); (try (refine gate_guard (by rfl) ?_; dsimp only)); refine bx 1 #[.string aa, .string ab, .int .i64 ae] 42 ?_; intro af hg aC hbox hb; have ac := am hbox; have ag := gs0 hg HB; have ad := gs0 hg HB; replace HB := s0 HB hb; clear hb hbox hg; have ak := bz3 ac) | (go_at_call 32; (with_reducible refine (spec_l10Clean.calls k aa true _ A4.out).mono ?_); rintro e w' ⟨rfl, ⟨nd, rfl⟩⟩) | (go_at_call 32; (with_reducible refine (spec_l10Clean.calls k ab true _ A7.out).mono ?_); rintro e w' ⟨rfl, ⟨nd, rfl⟩⟩) | (go_at_call 31; (with_reducible refine (spec_l01In.calls ae 0 3 ah _ A9.out).mono ?_); rintro e w' ⟨rfl, ⟨nd, rfl⟩⟩))
      go_ret
      exact ⟨er, be1 HB ad⟩
     replace c8 := Bool.eq_false_iff.mpr c8; subst c8; rw [if_neg nf] at H; obtain rfl := Option.some.inj H
     go_enter Try.func16, Try.ntmps16
     go_wp2_with (first | ((with_reducible refine gate_dst (N := 1) rfl ?_); (try (refine gate_guard (by rfl) ?_; dsimp only)); refine bx 1 #[.string aa, .string ab, .int .i64 ae] 42 ?_; intro af hg aD hbox hb; have ac := am hbox; have ag := gs0 hg HB; have ad := gs0 hg HB; replace HB := s0 HB hb; clear hb hbox hg; have al := bz3 ac) | (go_at_call 32; (with_reducible refine (spec_l10Clean.calls k aa true _ A4.out).mono ?_); rintro e w' ⟨rfl, ⟨nd, rfl⟩⟩) | (go_at_call 32; (with_reducible refine (spec_l10Clean.calls k ab false _ A7.out).mono ?_); rintro e w' ⟨rfl, ⟨nd, rfl⟩⟩))
     go_ret
     exact ⟨er, be1 HB ad⟩
    rw [if_neg c6] at H; have ax : decide ((ab.size : Int) ≤ 40) = false := decide_eq_false c6; have ay : decide (ab.size ≤ 40) = false := decide_eq_false (by omega); clear c6; obtain rfl := Option.some.inj H
    go_enter Try.func16, Try.ntmps16
    go_wp2_with (first | ((with_reducible refine gate_dst (N := 1) rfl ?_); (try (refine gate_guard (by rfl) ?_; dsimp only)); refine bx 1 #[.string aa, .string ab, .int .i64 ae] 42 ?_; intro af hg aE hbox hb; have ac := am hbox; have ag := gs0 hg HB; have ad := gs0 hg HB; replace HB := s0 HB hb; clear hb hbox hg; have an := bz3 ac) | (go_at_call 32; (with_reducible refine (spec_l10Clean.calls k aa true _ A4.out).mono ?_); rintro e w' ⟨rfl, ⟨nd, rfl⟩⟩))
    go_ret
    exact ⟨er, be1 HB ad⟩
   replace c5 := Bool.eq_false_iff.mpr c5; subst c5; rw [if_neg nf] at H; obtain rfl := Option.some.inj H
   go_enter Try.func16, Try.ntmps16
   go_wp2_with (first | ((with_reducible refine gate_dst (N := 1) rfl ?_); (try (refine gate_guard (by rfl) ?_; dsimp only)); refine bx 1 #[.string aa, .string ab, .int .i64 ae] 42 ?_; intro af hg aF hbox hb; have ac := am hbox; have ag := gs0 hg HB; have ad := gs0 hg HB; replace HB := s0 HB hb; clear hb hbox hg; have ao := bz3 ac) | (go_at_call 32; (with_reducible refine (spec_l10Clean.calls k aa false _ A4.out).mono ?_); rintro e w' ⟨rfl, ⟨nd, rfl⟩⟩))
   go_ret
   exact ⟨er, be1 HB ad⟩
  rw [if_neg c3] at H; have av : decide ((aa.size : Int) ≤ 20) = false := decide_eq_false c3; have aw : decide (aa.size ≤ 20) = false := decide_eq_false (by omega); clear c3; obtain rfl := Option.some.inj H
  go_enter Try.func16, Try.ntmps16
  go_wp2_with (first | ((with_reducible refine gate_dst (N := 1) rfl ?_); (try (refine gate_guard (by rfl) ?_; dsimp only)); refine bx 1 #[.string aa, .string ab, .int .i64 ae] 42 ?_; intro af hg aG hbox hb; have ac := am hbox; have ag := gs0 hg HB; have ad := gs0 hg HB; replace HB := s0 HB hb; clear hb hbox hg; have ap := bz3 ac))
  go_ret
  exact ⟨er, be1 HB ad⟩
 rw [if_neg c2] at H; have ar : decide (1 ≤ (aa.size : Int)) = false := decide_eq_false c2; have au : decide (1 ≤ aa.size) = false := decide_eq_false (by omega); clear c2; obtain rfl := Option.some.inj H
 go_enter Try.func16, Try.ntmps16
 go_wp2_with (first | ((with_reducible refine gate_dst (N := 1) rfl ?_); (try (refine gate_guard (by rfl) ?_; dsimp only)); refine bx 1 #[.string aa, .string ab, .int .i64 ae] 42 ?_; intro af hg aH hbox hb; have ac := am hbox; have ag := gs0 hg HB; have ad := gs0 hg HB; replace HB := s0 HB hb; clear hb hbox hg; have aq := bz3 ac))
 go_ret
 exact ⟨er, be1 HB ad⟩

/-! ### spec_l10At: function 18 -/
def spec_l10At.l0 : Nat → ByteArray → List (S42) → Int → Int → Option (Int)
 | 0, _, _, _, _ => none
 | k + 1, x1, x7, x8, x9 => if x9 < x8 then (if 0 ≤ x9 then (if x9 < (x7.length : Int) then (if ((rd_T42 x7 x9).f0).toList = x1.toList then (some x9) else (spec_l10At.l0 k x1 x7 x8 (wrap64 (x9 + 1)))) else (none)) else (none)) else (some (-1))
def spec_l10At.f (k : Nat) (l0 : List (S42)) (a1 : ByteArray) : Option (Int) := spec_l10At.l0 k a1 l0 (l0.length : Int) 0
theorem spec_l10At.mono_l : ∀ k, (∀ y0 y1 y2 y3, LeO (spec_l10At.l0 k y0 y1 y2 y3) (spec_l10At.l0 (k + 1) y0 y1 y2 y3))
 | 0 => fun _ _ _ _ r h => by simp [spec_l10At.l0] at h
 | k + 1 => by
  have aj := spec_l10At.mono_l k
  ·intro y0 y1 y2 y3; unfold spec_l10At.l0
   repeat' first | (with_reducible first | apply aj | apply lr | apply ln | apply li | refine lb ?_ fun _ => ?_) | apply aj | apply ln | apply li | refine lb ?_ fun _ => ?_
theorem spec_l10At.mono : ∀ a0 a1 k, LeO (spec_l10At.f k a0 a1) (spec_l10At.f (k + 1) a0 a1) := by
 intro a0 a1 k; have aj := spec_l10At.mono_l k; unfold spec_l10At.f
 repeat' first | (with_reducible first | apply aj | apply lr | apply ln | apply li | refine lb ?_ fun _ => ?_) | apply aj | apply ln | apply li | refine lb ?_ fun _ => ?_
set_option maxHeartbeats 8000000 in
set_option maxRecDepth 100000 in
theorem spec_l10At.calls (k : Nat) (A0 : Option Addr) (c0 : Nat) (l0 : List (S42)) (a1 : ByteArray) (r : Int) (w : World) (av : Kd.C k42 w A0 l0.length l0) (aw : l0.length ≤ c0) (h : spec_l10At.f k l0 a1 = some r) :
  Calls Try.prog 18 #[.slice A0 l0.length c0, .string a1] w fun e w' => e = .returned (.int .i64 r) ∧ Below w.heap.size w w' := by
 have hu42 := Try.underlying42; have ax := Aside0.mk av; have aB := Aside0.mk aw; clear av aw; have HB := Aside0.mk (Below.refl w.heap.size w); have H : (spec_l10At.l0 k a1 l0 (l0.length : Int) 0) = some r := h; clear h; have H' := Aside0.mk H; clear H
 go_enter Try.func18, Try.ntmps18
 go_wp2
 go_loopg [9] k (fun kq v9 w' => ∃ (aa : Int), v9 = .int .i64 aa ∧ Aside0 (spec_l10At.l0 kq a1 l0 (l0.length : Int) aa = some r) ∧ Aside0 (kq ≤ k) ∧ Aside0 (Below w.heap.size w w'))
 case atStart => exact ⟨(0), rs, H', ⟨Nat.le_refl _⟩, ⟨be HB⟩⟩
 case round =>
  clear H'
  try clear c1; try clear p2
  obtain ⟨aa, rfl, HA, ay, HB⟩ := hrel
  cases gk with
  | zero => exact absurd HA.out (by simp [spec_l10At.l0])
  | succ k1 =>
   have H := HA.out; clear HA; simp only [spec_l10At.l0] at H
   by_cases c3 : aa < (l0.length : Int)
   ·rw [if_pos c3] at H; have ap : decide (aa < (l0.length : Int)) = true := decide_eq_true c3; clear c3
    by_cases c4 : 0 ≤ aa
    ·rw [if_pos c4] at H; have az : decide (0 ≤ aa) = true := decide_eq_true c4; clear c4
     by_cases c5 : aa < (l0.length : Int)
     ·rw [if_pos c5] at H; have aA : decide (aa < (l0.length : Int)) = true := decide_eq_true c5; clear c5
      by_cases c6 : ((rd_T42 l0 aa).f0).toList = a1.toList
      ·rw [if_pos c6] at H; have aq : (((rd_T42 l0 aa).f0).toList == a1.toList) = true := beq_iff_eq.mpr c6; have ar : (((rd_T42 l0 aa).f0).toList != a1.toList) = false := bne_eq_false_iff_eq.mpr c6; clear c6; obtain rfl := Option.some.inj H; have ae : 0 ≤ (aa : Int) := od; have af : aa < (l0.length : Int) := od; obtain ⟨ak, ai, ab, ac, ad⟩ := at_T42 ax.out aa ae af; cases ai; replace ab := hc HB ab; replace ac := hc HB ac; replace ad := hc HB ad; replace ae := eq_true ae; replace af := eq_true af
       go_wp2_with (first | ((with_reducible refine gate_dst (N := 6) rfl ?_); refine bx 6 #[.string (⟨#[]⟩ : ByteArray), .string (⟨#[]⟩ : ByteArray), .int .i64 0] 42 ?_; intro al hg w7 hbox hb; have ag := am hbox; have an := gs0 hg HB; have ah := gs0 hg HB; replace HB := s0 HB hb; clear hb hbox hg; have au := bz3 ag))
       go_ret
       exact ⟨er, be1 HB ah⟩
      rw [if_neg c6] at H; have aq : (((rd_T42 l0 aa).f0).toList == a1.toList) = false := beq_eq_false_iff_ne.mpr c6; have ar : (((rd_T42 l0 aa).f0).toList != a1.toList) = true := bne_iff_ne.mpr c6; have H' := Aside0.mk H; clear H; have ae : 0 ≤ (aa : Int) := od; have af : aa < (l0.length : Int) := od; obtain ⟨ak, ai, ab, ac, ad⟩ := at_T42 ax.out aa ae af; cases ai; replace ab := hc HB ab; replace ac := hc HB ac; replace ad := hc HB ad; replace ae := eq_true ae; replace af := eq_true af
      go_wp2_with (first | ((with_reducible refine gate_dst (N := 6) rfl ?_); refine bx 6 #[.string (⟨#[]⟩ : ByteArray), .string (⟨#[]⟩ : ByteArray), .int .i64 0] 42 ?_; intro al hg w9 hbox hb; have ag := am hbox; have an := gs0 hg HB; have ah := gs0 hg HB; replace HB := s0 HB hb; clear hb hbox hg; have ao := bz3 ag))
      go_roundg k1
      case measure => have := ay.out; omega
      case rel => exact ⟨(wrap64 (aa + 1)), rs, H', ⟨by have := ay.out; omega⟩, ⟨be1 HB ah⟩⟩
     rw [if_neg c5] at H; exact absurd H (by simp)
    rw [if_neg c4] at H; exact absurd H (by simp)
   rw [if_neg c3] at H; have ap : decide (aa < (l0.length : Int)) = false := decide_eq_false c3; clear c3; obtain rfl := Option.some.inj H
   go_wp2
   go_ret
   exact ⟨er, be HB⟩

end Go.Proofs.Ytmmphfonbeddeaa.QFnExactRowPut
