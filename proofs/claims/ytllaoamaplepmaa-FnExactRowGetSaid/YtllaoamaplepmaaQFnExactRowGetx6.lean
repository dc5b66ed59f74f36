-- made by a program of this session (myprint.py)
import Derived.Test.YtllaoamaplepmaaQFnExactRowGetx0
import Derived.Test.YtllaoamaplepmaaQFnExactRowGetx5
namespace Go.Proofs.Ytllaoamaplepmaa.QFnExactRowGet
open Go.RowKit Go.Proofs.YtllaoamaplepmaaW.PrintWords Go.Proofs.YtllaoamaplepmaaW.PrintLast Go.Proofs.YtllaoamaplepmaaW.PrintMore
attribute [local go_sem] max2_int min2_int max_two min_two max_three min_three max_four min_four   -- for this text's walks alone
set_option linter.unusedVariables false
set_option linter.unusedSimpArgs false

/-! ### impl_itemAt: function 90 -/
def impl_itemAt.l0 : Nat → ByteArray → List (S84) → Int → Int → Option (Int)
 | 0, _, _, _, _ => none
 | k + 1, x1, x7, x8, x9 => if x9 < x8 then (if 0 ≤ x9 then (if x9 < (x7.length : Int) then (if ((rd_T84 x7 x9).f0).toList = x1.toList then (some x9) else (impl_itemAt.l0 k x1 x7 x8 (wrap64 (x9 + 1)))) else (none)) else (none)) else (some (-1))
def impl_itemAt.f (k : Nat) (l0 : List (S84)) (a1 : ByteArray) : Option (Int) := impl_itemAt.l0 k a1 l0 (l0.length : Int) 0
theorem impl_itemAt.mono_l : ∀ k, (∀ y0 y1 y2 y3, LeO (impl_itemAt.l0 k y0 y1 y2 y3) (impl_itemAt.l0 (k + 1) y0 y1 y2 y3))
 | 0 => fun _ _ _ _ r h => by simp [impl_itemAt.l0] at h
 | k + 1 => by
  have ih0 := impl_itemAt.mono_l k
  ·intro y0 y1 y2 y3
   unfold impl_itemAt.l0
   repeat' first
   | (with_reducible exact ih0 _ _ _ _)
   | (with_reducible exact LeO.refl _)
   | (with_reducible exact LeO.none _)
   | (with_reducible refine LeO.ite ?_ ?_)
   | (with_reducible refine LeO.bind ?_ (fun _ => ?_))
   | exact ih0 _ _ _ _
   | exact LeO.none _
   | refine LeO.ite ?_ ?_
   | refine LeO.bind ?_ (fun _ => ?_)
theorem impl_itemAt.mono : ∀ a0 a1 k, LeO (impl_itemAt.f k a0 a1) (impl_itemAt.f (k + 1) a0 a1) := by
 intro a0 a1 k
 have ih0 := impl_itemAt.mono_l k
 unfold impl_itemAt.f
 repeat' first
   | (with_reducible exact ih0 _ _ _ _)
   | (with_reducible exact LeO.refl _)
   | (with_reducible exact LeO.none _)
   | (with_reducible refine LeO.ite ?_ ?_)
   | (with_reducible refine LeO.bind ?_ (fun _ => ?_))
   | exact ih0 _ _ _ _
   | exact LeO.none _
   | refine LeO.ite ?_ ?_
   | refine LeO.bind ?_ (fun _ => ?_)
theorem impl_itemAt_is (x : S84) (key : ByteArray) (B : Nat) (W : World) (b : Bool) (hB : B < W.heap.size) (hcell : W.cell? ⟨B, 0, none⟩ = some (.string key)) (hb : (x.f0.toList == key.toList) = b) :
  Calls Try.prog 107 #[.agg #[.string x.f0, .string x.f1, .int .i64 x.f2], .pointer (some ⟨B, 0, none⟩)] W fun e w' => e = .returned (.bool b) ∧ Below W.heap.size W w' := by
 have hne : B ≠ W.heap.size := by omega
 go_enter Try.func107, Try.ntmps107
 go_wp2
 all_goals (go_ret; exact ⟨by simp_all, (Below.refl _ _).alloc (Nat.le_refl _) _⟩)
set_option maxHeartbeats 4000000 in
set_option maxRecDepth 100000 in
theorem impl_itemAt_idx (k : Nat) (A0 : Option Addr) (c0 : Nat) (l0 : List (S84)) (a1 : ByteArray) (r : Int) (B : Nat) (w : World) (hB : B < w.heap.size) (hcell : w.cell? ⟨B, 0, none⟩ = some (.string a1)) (hr0 : Kd.C k84 w A0 l0.length l0) (h : impl_itemAt.l0 k a1 l0 (l0.length : Int) 0 = some r) :
  Calls Try.prog 106 #[.slice A0 l0.length c0, .func (.func 107) #[] #[.pointer (some ⟨B, 0, none⟩)]] w fun e w' => e = .returned (.int .i64 r) ∧ Below w.heap.size w w' := by
 have hu84 := Try.underlying84
 have HR0 := Aside0.mk hr0
 have HCL := Aside0.mk hcell
 have HBB := Aside0.mk hB
 clear hr0 hcell hB
 have HB := Aside0.mk (Below.refl w.heap.size w)
 have H' := Aside0.mk h
 clear h
 go_enter Try.func106, Try.ntmps106
 go_wp2
 go_loopg [5, 8] k (fun kq _ v8 wr => ∃ (x8 : Int), v8 = .int .i64 x8 ∧ Aside0 (impl_itemAt.l0 kq a1 l0 (l0.length : Int) x8 = some r) ∧ Aside0 (kq ≤ k) ∧ Aside0 (Below w.heap.size w wr))
 case atStart => exact ⟨0, rfl, H', ⟨Nat.le_refl _⟩, HB⟩
 case round =>
  clear H' HB
  obtain ⟨x9_1, rfl, HA, HK1, HB⟩ := hrel
  cases gk with
  | zero => exact absurd HA.out (by simp [impl_itemAt.l0])
  | succ k1 =>
   have H := HA.out
   clear HA
   simp only [impl_itemAt.l0] at H
   by_cases c3 : x9_1 < (l0.length : Int)
   ·rw [if_pos c3] at H
    have c3b0 : decide (x9_1 < (l0.length : Int)) = true := decide_eq_true c3
    by_cases c4 : 0 ≤ x9_1
    ·rw [if_pos c4, if_pos c3] at H
     have c4b0 : decide (0 ≤ x9_1) = true := decide_eq_true c4
     have p207 := c4
     have q207 := c3
     clear c3 c4
     obtain ⟨ad207, e207, hx207_0, hx207_1, hx207_2⟩ := at_T84 HR0.out x9_1 p207 q207
     cases e207
     replace hx207_0 := hc HB hx207_0
     replace hx207_1 := hc HB hx207_1
     replace hx207_2 := hc HB hx207_2
     have hBr : B < wr.heap.size := Nat.lt_of_lt_of_le HBB.out HB.out.size
     have hcl : wr.cell? ⟨B, 0, none⟩ = some (.string a1) := (HB.out.cell (p := ⟨B, 0, none⟩) HBB.out).trans HCL.out
     replace p207 := eq_true p207
     replace q207 := eq_true q207
     by_cases c6 : ((rd_T84 l0 x9_1).f0).toList = a1.toList
     ·rw [if_pos c6] at H
      have hcall := impl_itemAt_is (rd_T84 l0 x9_1) a1 B wr true hBr hcl (beq_iff_eq.mpr c6)
      clear c6 hBr hcl
      obtain rfl := Option.some.inj H
      clear H
      go_wp2_with (go_at_call 107; refine hcall.mono ?_; rintro e w' ⟨rfl, hb'⟩)
      go_ret
      exact ⟨rfl, HB.out.trans (hb'.mono HB.out.size)⟩
     rw [if_neg c6] at H
     have hcall := impl_itemAt_is (rd_T84 l0 x9_1) a1 B wr false hBr hcl (beq_eq_false_iff_ne.mpr c6)
     clear c6 hBr hcl
     have H' := Aside0.mk H
     clear H
     go_wp2_with (go_at_call 107; refine hcall.mono ?_; rintro e w' ⟨rfl, hb'⟩)
     go_roundg k1
     case measure => have := HK1.out; omega
     case rel => exact ⟨(wrap64 (x9_1 + 1)), rs, H', ⟨by have := HK1.out; omega⟩, ⟨HB.out.trans (hb'.mono HB.out.size)⟩⟩
    rw [if_neg c4] at H
    exact absurd H (by simp)
   rw [if_neg c3] at H
   have c3b0 : decide (x9_1 < (l0.length : Int)) = false := decide_eq_false c3
   clear c3
   obtain rfl := Option.some.inj H
   go_wp2
   go_ret
   exact ⟨rfl, HB.out⟩
set_option maxHeartbeats 8000000 in
set_option maxRecDepth 100000 in
theorem impl_itemAt.calls (k : Nat) (A0 : Option Addr) (c0 : Nat) (l0 : List (S84)) (a1 : ByteArray) (r : Int) (w : World) (hr0 : Kd.C k84 w A0 l0.length l0) (hc0 : l0.length ≤ c0) (h : impl_itemAt.f k l0 a1 = some r) :
  Calls Try.prog 90 #[.slice A0 l0.length c0, .string a1] w fun e w' => e = .returned (.int .i64 r) ∧ Below w.heap.size w w' := by
 have H : impl_itemAt.l0 k a1 l0 (l0.length : Int) 0 = some r := h
 have hcon := impl_itemAt_idx k A0 c0 l0 a1 r w.heap.size (w.alloc (.cells #[.string a1] 9)) (by simp) (by simp) (Kd.C_alloc hr0 _) H
 clear hr0 hc0 H h
 go_enter Try.func90, Try.ntmps90
 go_wp2_with (go_at_call 106; refine hcon.mono ?_; rintro e w' ⟨rfl, hb'⟩)
 go_ret
 exact ⟨rfl, ((Below.refl _ w).alloc (Nat.le_refl _) _).trans (hb'.mono (by simp))⟩


/-! ### impl_isPlain: function 109 -/
def impl_isPlain.l0 : Nat → ByteArray → Int → Option (Bool)
 | 0, _, _ => none
 | k + 1, x0, x3 => if x3 < (x0.size : Int) then (if 0 ≤ x3 then (if (bt x0 x3) = 32 then (some false) else (if (bt x0 x3) = 10 then (some false) else (impl_isPlain.l0 k x0 (wrap64 (x3 + 1))))) else (none)) else (some true)
def impl_isPlain.f (k : Nat) (a0 : ByteArray) : Option (Bool) := impl_isPlain.l0 k a0 0
theorem impl_isPlain.mono_l : ∀ k, (∀ y0 y1, LeO (impl_isPlain.l0 k y0 y1) (impl_isPlain.l0 (k + 1) y0 y1))
 | 0 => fun _ _ r h => by simp [impl_isPlain.l0] at h
 | k + 1 => by
  have ih0 := impl_isPlain.mono_l k
  ·intro y0 y1
   unfold impl_isPlain.l0
   repeat' first
   | (with_reducible exact ih0 _ _)
   | (with_reducible exact LeO.refl _)
   | (with_reducible exact LeO.none _)
   | (with_reducible refine LeO.ite ?_ ?_)
   | (with_reducible refine LeO.bind ?_ (fun _ => ?_))
   | exact ih0 _ _
   | exact LeO.none _
   | refine LeO.ite ?_ ?_
   | refine LeO.bind ?_ (fun _ => ?_)
theorem impl_isPlain.mono : ∀ a0 k, LeO (impl_isPlain.f k a0) (impl_isPlain.f (k + 1) a0) := by
 intro a0 k
 have ih0 := impl_isPlain.mono_l k
 unfold impl_isPlain.f
 repeat' first
   | (with_reducible exact ih0 _ _)
   | (with_reducible exact LeO.refl _)
   | (with_reducible exact LeO.none _)
   | (with_reducible refine LeO.ite ?_ ?_)
   | (with_reducible refine LeO.bind ?_ (fun _ => ?_))
   | exact ih0 _ _
   | exact LeO.none _
   | refine LeO.ite ?_ ?_
   | refine LeO.bind ?_ (fun _ => ?_)
set_option maxHeartbeats 8000000 in
set_option maxRecDepth 100000 in
theorem impl_isPlain.calls (k : Nat) (a0 : ByteArray) (r : Bool) (w : World) (h : impl_isPlain.f k a0 = some r) :
  Calls Try.prog 109 #[.string a0] w fun e w' => e = .returned (.bool r) ∧ Drawn0 w w' := by
 have H : (impl_isPlain.l0 k a0 0) = some r := h
 clear h
 have H' := Aside0.mk H
 clear H
 go_enter Try.func109, Try.ntmps109
 go_wp2
 go_loopg [3] k (fun kq v3 w' => ∃ (x3_1 : Int), v3 = .int .i64 x3_1 ∧ Aside0 (impl_isPlain.l0 kq a0 x3_1 = some r) ∧ Aside0 (kq ≤ k) ∧ Drawn0 w w')
 case atStart => exact ⟨(0), rs, H', ⟨Nat.le_refl _⟩, by repeat (first | exact Drawn0.refl _ | apply Drawn0.step)⟩
 case round =>
  clear H'
  try clear c1
  obtain ⟨x3_1, rfl, HA, HK1, ⟨m1, rfl⟩⟩ := hrel
  cases gk with
  | zero => exact absurd HA.out (by simp [impl_isPlain.l0])
  | succ k1 =>
   have H := HA.out
   clear HA
   simp only [impl_isPlain.l0] at H
   by_cases c2 : x3_1 < (a0.size : Int)
   ·rw [if_pos c2] at H
    have c2b0 : decide (x3_1 < (a0.size : Int)) = true := decide_eq_true c2
    clear c2
    by_cases c3 : 0 ≤ x3_1
    ·rw [if_pos c3] at H
     have c3b0 : decide (0 ≤ x3_1) = true := decide_eq_true c3
     clear c3
     by_cases c5 : (bt a0 x3_1) = 32
     ·rw [if_pos c5] at H
      have c5b0 : ((bt a0 x3_1) == 32) = true := beq_iff_eq.mpr c5
      have c5b1 : ((bt a0 x3_1) != 32) = false := bne_eq_false_iff_eq.mpr c5
      clear c5
      obtain rfl := Option.some.inj H
      have p4 : 0 ≤ (x3_1 : Int) := od
      have q4 : x3_1 < (a0.size : Int) := od
      have hx4 := bt_at a0 x3_1
      replace p4 := eq_true p4
      replace q4 := eq_true q4
      go_wp2
      go_ret
      exact ⟨by first | rfl | (simp; done) | (simp [*]; done), by repeat (first | exact Drawn0.refl _ | apply Drawn0.step)⟩
     rw [if_neg c5] at H
     have c5b0 : ((bt a0 x3_1) == 32) = false := beq_eq_false_iff_ne.mpr c5
     have c5b1 : ((bt a0 x3_1) != 32) = true := bne_iff_ne.mpr c5
     by_cases c7 : (bt a0 x3_1) = 10
     ·rw [if_pos c7] at H
      have c7b0 : ((bt a0 x3_1) == 10) = true := beq_iff_eq.mpr c7
      have c7b1 : ((bt a0 x3_1) != 10) = false := bne_eq_false_iff_eq.mpr c7
      clear c7
      obtain rfl := Option.some.inj H
      have p4 : 0 ≤ (x3_1 : Int) := od
      have q4 : x3_1 < (a0.size : Int) := od
      have hx4 := bt_at a0 x3_1
      replace p4 := eq_true p4
      replace q4 := eq_true q4
      have p6 : 0 ≤ (x3_1 : Int) := od
      have q6 : x3_1 < (a0.size : Int) := od
      have hx6 := bt_at a0 x3_1
      replace p6 := eq_true p6
      replace q6 := eq_true q6
      go_wp2
      go_ret
      exact ⟨by first | rfl | (simp; done) | (simp [*]; done), by repeat (first | exact Drawn0.refl _ | apply Drawn0.step)⟩
     rw [if_neg c7] at H
     have c7b0 : ((bt a0 x3_1) == 10) = false := beq_eq_false_iff_ne.mpr c7
     have c7b1 : ((bt a0 x3_1) != 10) = true := bne_iff_ne.mpr c7
     have H' := Aside0.mk H
     clear H
     have p4 : 0 ≤ (x3_1 : Int) := od
     have q4 : x3_1 < (a0.size : Int) := od
     have hx4 := bt_at a0 x3_1
     replace p4 := eq_true p4
     replace q4 := eq_true q4
     have p6 : 0 ≤ (x3_1 : Int) := od
     have q6 : x3_1 < (a0.size : Int) := od
     have hx6 := bt_at a0 x3_1
     replace p6 := eq_true p6
     replace q6 := eq_true q6
     go_wp2
     go_roundg k1
     case measure => have := HK1.out; omega
     case rel => exact ⟨(wrap64 (x3_1 + 1)), rs, H', ⟨by have := HK1.out; omega⟩, by repeat (first | exact Drawn0.refl _ | apply Drawn0.step)⟩
    rw [if_neg c3] at H
    exact absurd H (by simp)
   rw [if_neg c2] at H
   have c2b0 : decide (x3_1 < (a0.size : Int)) = false := decide_eq_false c2
   clear c2
   obtain rfl := Option.some.inj H
   go_wp2
   go_ret
   exact ⟨by first | rfl | (simp; done) | (simp [*]; done), by repeat (first | exact Drawn0.refl _ | apply Drawn0.step)⟩

/-! ### impl_ItemOk: function 92 -/
def impl_ItemOk.f (k : Nat) (a0_0 : ByteArray) (a0_1 : ByteArray) (a0_2 : Int) : Option (Bool) := (impl_within.f (a0_0.size : Int) 1 20).bind fun t210 => (if t210 = true then (if (a0_1.size : Int) ≤ 40 then ((impl_isPlain.f k a0_0).bind fun t211 => (if t211 = true then ((impl_isPlain.f k a0_1).bind fun t212 => (if t212 = true then ((impl_within.f a0_2 0 3).bind fun t213 => (some t213)) else (some false))) else (some false))) else (some false)) else (some false))
theorem impl_ItemOk.mono : ∀ a0 a1 a2 k, LeO (impl_ItemOk.f k a0 a1 a2) (impl_ItemOk.f (k + 1) a0 a1 a2) := by
 intro a0 a1 a2 k
 unfold impl_ItemOk.f
 repeat' first
   | (with_reducible exact impl_isPlain.mono _ _)
   | (with_reducible exact LeO.refl _)
   | (with_reducible exact LeO.none _)
   | (with_reducible refine LeO.ite ?_ ?_)
   | (with_reducible refine LeO.bind ?_ (fun _ => ?_))
   | exact impl_isPlain.mono _ _
   | exact LeO.none _
   | refine LeO.ite ?_ ?_
   | refine LeO.bind ?_ (fun _ => ?_)
set_option maxHeartbeats 8000000 in
set_option maxRecDepth 100000 in
theorem impl_ItemOk.calls (k : Nat) (a0_0 : ByteArray) (a0_1 : ByteArray) (a0_2 : Int) (r : Bool) (w : World) (h : impl_ItemOk.f k a0_0 a0_1 a0_2 = some r) :
  Calls Try.prog 92 #[.agg #[.string a0_0, .string a0_1, .int .i64 a0_2]] w fun e w' => e = .returned (.bool r) ∧ Below w.heap.size w w' := by
 have hu84 := Try.underlying84
 have HB := Aside0.mk (Below.refl w.heap.size w)
 have H : ((impl_within.f (a0_0.size : Int) 1 20).bind fun t210 => (if t210 = true then (if (a0_1.size : Int) ≤ 40 then ((impl_isPlain.f k a0_0).bind fun t211 => (if t211 = true then ((impl_isPlain.f k a0_1).bind fun t212 => (if t212 = true then ((impl_within.f a0_2 0 3).bind fun t213 => (some t213)) else (some false))) else (some false))) else (some false)) else (some false))) = some r := h
 clear h
 replace H := Option.bind_eq_some_iff.mp H
 obtain ⟨t210, A20, H⟩ := H
 try dsimp only at H
 have A2 := Aside0.mk A20
 clear A20
 by_cases c3 : t210 = true
 ·subst c3
  rw [if_pos rfl] at H
  by_cases c4 : (a0_1.size : Int) ≤ 40
  ·rw [if_pos c4] at H
   have c4b0 : decide ((a0_1.size : Int) ≤ 40) = true := decide_eq_true c4
   have c4b1 : decide (a0_1.size ≤ 40) = true := decide_eq_true (by omega)
   clear c4
   replace H := Option.bind_eq_some_iff.mp H
   obtain ⟨t211, A50, H⟩ := H
   try dsimp only at H
   have A5 := Aside0.mk A50
   clear A50
   by_cases c6 : t211 = true
   ·subst c6
    rw [if_pos rfl] at H
    replace H := Option.bind_eq_some_iff.mp H
    obtain ⟨t212, A70, H⟩ := H
    try dsimp only at H
    have A7 := Aside0.mk A70
    clear A70
    by_cases c8 : t212 = true
    ·subst c8
     rw [if_pos rfl] at H
     replace H := Option.bind_eq_some_iff.mp H
     obtain ⟨t213, A90, H⟩ := H
     replace H : (some t213) = some r := H
     have A9 := Aside0.mk A90
     clear A90
     obtain rfl := Option.some.inj H
     go_enter Try.func92, Try.ntmps92
     go_wp2_with (first | ((with_reducible refine gate_dst (N := 1) rfl ?_); (try (refine gate_guard (by rfl) ?_; dsimp only)); refine bx 1 #[.string a0_0, .string a0_1, .int .i64 a0_2] 84 ?_; intro gb209 hg w10 hbox hb; have BK209 := am hbox; have GW209 := gs0 hg HB; have GE209 := gs0 hg HB; replace HB := s0 HB hb; clear hb hbox hg; have hcz11_0 := bz3 BK209) | ((with_reducible refine gate_callee (f := 62) rfl ?_); refine gl 6 Try.func62 #[.int .i64 (a0_0.size : Int), .int .i64 1, .int .i64 20] ?_; (with_reducible refine (impl_within.calls (a0_0.size : Int) 1 20 true _ A2.out).mono ?_); rintro e w' ⟨rfl, ⟨nd, rfl⟩⟩; refine ⟨_, rfl, ?_⟩) | (go_at_call 109; (with_reducible refine (impl_isPlain.calls k a0_0 true _ A5.out).mono ?_); rintro e w' ⟨rfl, ⟨nd, rfl⟩⟩) | (go_at_call 109; (with_reducible refine (impl_isPlain.calls k a0_1 true _ A7.out).mono ?_); rintro e w' ⟨rfl, ⟨nd, rfl⟩⟩) | (go_at_call 62; (with_reducible refine (impl_within.calls a0_2 0 3 t213 _ A9.out).mono ?_); rintro e w' ⟨rfl, ⟨nd, rfl⟩⟩))
     go_ret
     exact ⟨er, be1 HB GE209⟩
    replace c8 := Bool.eq_false_iff.mpr c8
    subst c8
    rw [if_neg (show ¬ (false = true) by decide)] at H
    obtain rfl := Option.some.inj H
    go_enter Try.func92, Try.ntmps92
    go_wp2_with (first | ((with_reducible refine gate_dst (N := 1) rfl ?_); (try (refine gate_guard (by rfl) ?_; dsimp only)); refine bx 1 #[.string a0_0, .string a0_1, .int .i64 a0_2] 84 ?_; intro gb209 hg w12 hbox hb; have BK209 := am hbox; have GW209 := gs0 hg HB; have GE209 := gs0 hg HB; replace HB := s0 HB hb; clear hb hbox hg; have hcz13_0 := bz3 BK209) | ((with_reducible refine gate_callee (f := 62) rfl ?_); refine gl 6 Try.func62 #[.int .i64 (a0_0.size : Int), .int .i64 1, .int .i64 20] ?_; (with_reducible refine (impl_within.calls (a0_0.size : Int) 1 20 true _ A2.out).mono ?_); rintro e w' ⟨rfl, ⟨nd, rfl⟩⟩; refine ⟨_, rfl, ?_⟩) | (go_at_call 109; (with_reducible refine (impl_isPlain.calls k a0_0 true _ A5.out).mono ?_); rintro e w' ⟨rfl, ⟨nd, rfl⟩⟩) | (go_at_call 109; (with_reducible refine (impl_isPlain.calls k a0_1 false _ A7.out).mono ?_); rintro e w' ⟨rfl, ⟨nd, rfl⟩⟩))
    go_ret
    exact ⟨er, be1 HB GE209⟩
   replace c6 := Bool.eq_false_iff.mpr c6
   subst c6
   rw [if_neg (show ¬ (false = true) by decide)] at H
   obtain rfl := Option.some.inj H
   go_enter Try.func92, Try.ntmps92
   go_wp2_with (first | ((with_reducible refine gate_dst (N := 1) rfl ?_); (try (refine gate_guard (by rfl) ?_; dsimp only)); refine bx 1 #[.string a0_0, .string a0_1, .int .i64 a0_2] 84 ?_; intro gb209 hg w14 hbox hb; have BK209 := am hbox; have GW209 := gs0 hg HB; have GE209 := gs0 hg HB; replace HB := s0 HB hb; clear hb hbox hg; have hcz15_0 := bz3 BK209) | ((with_reducible refine gate_callee (f := 62) rfl ?_); refine gl 6 Try.func62 #[.int .i64 (a0_0.size : Int), .int .i64 1, .int .i64 20] ?_; (with_reducible refine (impl_within.calls (a0_0.size : Int) 1 20 true _ A2.out).mono ?_); rintro e w' ⟨rfl, ⟨nd, rfl⟩⟩; refine ⟨_, rfl, ?_⟩) | (go_at_call 109; (with_reducible refine (impl_isPlain.calls k a0_0 false _ A5.out).mono ?_); rintro e w' ⟨rfl, ⟨nd, rfl⟩⟩))
   go_ret
   exact ⟨er, be1 HB GE209⟩
  rw [if_neg c4] at H
  have c4b0 : decide ((a0_1.size : Int) ≤ 40) = false := decide_eq_false c4
  have c4b1 : decide (a0_1.size ≤ 40) = false := decide_eq_false (by omega)
  clear c4
  obtain rfl := Option.some.inj H
  go_enter Try.func92, Try.ntmps92
  go_wp2_with (first | ((with_reducible refine gate_dst (N := 1) rfl ?_); (try (refine gate_guard (by rfl) ?_; dsimp only)); refine bx 1 #[.string a0_0, .string a0_1, .int .i64 a0_2] 84 ?_; intro gb209 hg w16 hbox hb; have BK209 := am hbox; have GW209 := gs0 hg HB; have GE209 := gs0 hg HB; replace HB := s0 HB hb; clear hb hbox hg; have hcz17_0 := bz3 BK209) | ((with_reducible refine gate_callee (f := 62) rfl ?_); refine gl 6 Try.func62 #[.int .i64 (a0_0.size : Int), .int .i64 1, .int .i64 20] ?_; (with_reducible refine (impl_within.calls (a0_0.size : Int) 1 20 true _ A2.out).mono ?_); rintro e w' ⟨rfl, ⟨nd, rfl⟩⟩; refine ⟨_, rfl, ?_⟩))
  go_ret
  exact ⟨er, be1 HB GE209⟩
 replace c3 := Bool.eq_false_iff.mpr c3
 subst c3
 rw [if_neg (show ¬ (false = true) by decide)] at H
 obtain rfl := Option.some.inj H
 go_enter Try.func92, Try.ntmps92
 go_wp2_with (first | ((with_reducible refine gate_dst (N := 1) rfl ?_); (try (refine gate_guard (by rfl) ?_; dsimp only)); refine bx 1 #[.string a0_0, .string a0_1, .int .i64 a0_2] 84 ?_; intro gb209 hg w18 hbox hb; have BK209 := am hbox; have GW209 := gs0 hg HB; have GE209 := gs0 hg HB; replace HB := s0 HB hb; clear hb hbox hg; have hcz19_0 := bz3 BK209) | ((with_reducible refine gate_callee (f := 62) rfl ?_); refine gl 6 Try.func62 #[.int .i64 (a0_0.size : Int), .int .i64 1, .int .i64 20] ?_; (with_reducible refine (impl_within.calls (a0_0.size : Int) 1 20 false _ A2.out).mono ?_); rintro e w' ⟨rfl, ⟨nd, rfl⟩⟩; refine ⟨_, rfl, ?_⟩))
 go_ret
 exact ⟨er, be1 HB GE209⟩

/-! ### impl_areItems: function 83 -/
def impl_areItems.l0 : Nat → List (S84) → List (S84) → Int → Int → Option (Bool)
 | 0, _, _, _, _ => none
 | k + 1, x0, x5, x6, x7 => if x7 < x6 then (if 0 ≤ x7 then (if x7 < (x5.length : Int) then ((impl_ItemOk.f k ((rd_T84 x5 x7).f0) ((rd_T84 x5 x7).f1) ((rd_T84 x5 x7).f2)).bind fun t216 => (if t216 = true then ((impl_itemAt.f k x0 ((rd_T84 x5 x7).f0)).bind fun t217 => (if t217 = x7 then (impl_areItems.l0 k x0 x5 x6 (wrap64 (x7 + 1))) else (some false))) else (some false))) else (none)) else (none)) else (some true)
def impl_areItems.f (k : Nat) (l0 : List (S84)) : Option (Bool) := impl_areItems.l0 k l0 l0 (l0.length : Int) 0
theorem impl_areItems.mono_l : ∀ k, (∀ y0 y1 y2 y3, LeO (impl_areItems.l0 k y0 y1 y2 y3) (impl_areItems.l0 (k + 1) y0 y1 y2 y3))
 | 0 => fun _ _ _ _ r h => by simp [impl_areItems.l0] at h
 | k + 1 => by
  have ih0 := impl_areItems.mono_l k
  ·intro y0 y1 y2 y3
   unfold impl_areItems.l0
   repeat' first
   | (with_reducible exact ih0 _ _ _ _)
   | (with_reducible exact impl_ItemOk.mono _ _ _ _)
   | (with_reducible exact impl_itemAt.mono _ _ _)
   | (with_reducible exact LeO.refl _)
   | (with_reducible exact LeO.none _)
   | (with_reducible refine LeO.ite ?_ ?_)
   | (with_reducible refine LeO.bind ?_ (fun _ => ?_))
   | exact ih0 _ _ _ _
   | exact impl_ItemOk.mono _ _ _ _
   | exact impl_itemAt.mono _ _ _
   | exact LeO.none _
   | refine LeO.ite ?_ ?_
   | refine LeO.bind ?_ (fun _ => ?_)
theorem impl_areItems.mono : ∀ a0 k, LeO (impl_areItems.f k a0) (impl_areItems.f (k + 1) a0) := by
 intro a0 k
 have ih0 := impl_areItems.mono_l k
 unfold impl_areItems.f
 repeat' first
   | (with_reducible exact ih0 _ _ _ _)
   | (with_reducible exact impl_ItemOk.mono _ _ _ _)
   | (with_reducible exact impl_itemAt.mono _ _ _)
   | (with_reducible exact LeO.refl _)
   | (with_reducible exact LeO.none _)
   | (with_reducible refine LeO.ite ?_ ?_)
   | (with_reducible refine LeO.bind ?_ (fun _ => ?_))
   | exact ih0 _ _ _ _
   | exact impl_ItemOk.mono _ _ _ _
   | exact impl_itemAt.mono _ _ _
   | exact LeO.none _
   | refine LeO.ite ?_ ?_
   | refine LeO.bind ?_ (fun _ => ?_)
set_option maxHeartbeats 8000000 in
set_option maxRecDepth 100000 in
theorem impl_areItems.calls (k : Nat) (A0 : Option Addr) (c0 : Nat) (l0 : List (S84)) (r : Bool) (w : World) (hr0 : Kd.C k84 w A0 l0.length l0) (hc0 : l0.length ≤ c0) (h : impl_areItems.f k l0 = some r) :
  Calls Try.prog 83 #[.slice A0 l0.length c0] w fun e w' => e = .returned (.bool r) ∧ Below w.heap.size w w' := by
 have hu84 := Try.underlying84
 have HR0 := Aside0.mk hr0
 have HC0 := Aside0.mk hc0
 clear hr0 hc0
 have HB := Aside0.mk (Below.refl w.heap.size w)
 have H : (impl_areItems.l0 k l0 l0 (l0.length : Int) 0) = some r := h
 clear h
 have H' := Aside0.mk H
 clear H
 go_enter Try.func83, Try.ntmps83
 go_wp2
 go_loopg [7] k (fun kq v7 w' => ∃ (x7_1 : Int), v7 = .int .i64 x7_1 ∧ Aside0 (impl_areItems.l0 kq l0 l0 (l0.length : Int) x7_1 = some r) ∧ Aside0 (kq ≤ k) ∧ Aside0 (Below w.heap.size w w'))
 case atStart => exact ⟨(0), rs, H', ⟨Nat.le_refl _⟩, ⟨be HB⟩⟩
 case round =>
  clear H'
  obtain ⟨x7_1, rfl, HA, HK1, HB⟩ := hrel
  cases gk with
  | zero => exact absurd HA.out (by simp [impl_areItems.l0])
  | succ k1 =>
   have H := HA.out
   clear HA
   simp only [impl_areItems.l0] at H
   by_cases c2 : x7_1 < (l0.length : Int)
   ·rw [if_pos c2] at H
    have c2b0 : decide (x7_1 < (l0.length : Int)) = true := decide_eq_true c2
    clear c2
    by_cases c3 : 0 ≤ x7_1
    ·rw [if_pos c3] at H
     have c3b0 : decide (0 ≤ x7_1) = true := decide_eq_true c3
     clear c3
     by_cases c4 : x7_1 < (l0.length : Int)
     ·rw [if_pos c4] at H
      have c4b0 : decide (x7_1 < (l0.length : Int)) = true := decide_eq_true c4
      clear c4
      replace H := Option.bind_eq_some_iff.mp H
      obtain ⟨t216, A50, H⟩ := H
      try dsimp only at H
      have A5 := Aside0.mk A50
      clear A50
      by_cases c6 : t216 = true
      ·subst c6
       rw [if_pos rfl] at H
       replace H := Option.bind_eq_some_iff.mp H
       obtain ⟨t217, A70, H⟩ := H
       try dsimp only at H
       have A7 := Aside0.mk A70
       clear A70
       by_cases c8 : t217 = x7_1
       ·rw [if_pos c8] at H
        have c8b0 : (t217 == x7_1) = true := beq_iff_eq.mpr c8
        have c8b1 : (t217 != x7_1) = false := bne_eq_false_iff_eq.mpr c8
        clear c8
        have H' := Aside0.mk H
        clear H
        have p214 : 0 ≤ (x7_1 : Int) := od
        have q214 : x7_1 < (l0.length : Int) := od
        obtain ⟨ad214, e214, hx214_0, hx214_1, hx214_2⟩ := at_T84 HR0.out x7_1 p214 q214
        cases e214
        replace hx214_0 := hc HB hx214_0
        replace hx214_1 := hc HB hx214_1
        replace hx214_2 := hc HB hx214_2
        replace p214 := eq_true p214
        replace q214 := eq_true q214
        go_wp2_with (first | ((with_reducible refine gate_dst (N := 4) rfl ?_); refine bx 4 #[.string (⟨#[]⟩ : ByteArray), .string (⟨#[]⟩ : ByteArray), .int .i64 0] 84 ?_; intro gb215 hg w9 hbox hb; have BK215 := am hbox; have GW215 := gs0 hg HB; have GE215 := gs0 hg HB; replace HB := s0 HB hb; clear hb hbox hg; have hcz10_0 := bz3 BK215) | ((with_reducible refine gate_callee (f := 92) rfl ?_); refine gl 13 Try.func92 #[.agg #[.string ((rd_T84 l0 x7_1).f0), .string ((rd_T84 l0 x7_1).f1), .int .i64 ((rd_T84 l0 x7_1).f2)]] ?_; (with_reducible refine (impl_ItemOk.calls k1 ((rd_T84 l0 x7_1).f0) ((rd_T84 l0 x7_1).f1) ((rd_T84 l0 x7_1).f2) true _ A5.out).mono ?_); rintro e w11 ⟨rfl, hb⟩; refine ⟨_, rfl, ?_⟩; replace BK215 := Aside0.mk (blk_below (g := gb215) (o := .cells #[.string ((rd_T84 l0 x7_1).f0), .string ((rd_T84 l0 x7_1).f1), .int .i64 ((rd_T84 l0 x7_1).f2)] 84 (0, 0)) (by (with_reducible repeat (first | refine blk_drewN ?_ _ | refine blk_drew ?_ | refine blk_alloc ?_ _)); refine blk_put (cs := #[.string ((rd_T84 l0 x7_1).f0), .string ((rd_T84 l0 x7_1).f1), .int .i64 0]) ?_ 2 _ rfl; (with_reducible repeat (first | refine blk_drewN ?_ _ | refine blk_drew ?_ | refine blk_alloc ?_ _)); refine blk_put (cs := #[.string ((rd_T84 l0 x7_1).f0), .string (⟨#[]⟩ : ByteArray), .int .i64 0]) ?_ 1 _ rfl; (with_reducible repeat (first | refine blk_drewN ?_ _ | refine blk_drew ?_ | refine blk_alloc ?_ _)); refine blk_put (cs := #[.string (⟨#[]⟩ : ByteArray), .string (⟨#[]⟩ : ByteArray), .int .i64 0]) ?_ 0 _ rfl; (with_reducible repeat (first | refine blk_drewN ?_ _ | refine blk_drew ?_ | refine blk_alloc ?_ _)); exact BK215.out) hb); replace HB := Aside0.mk (below_step (be1 HB GE215) hb); (try clear hb); have hcz12_0 := bz3 BK215) | (go_at_call 90; (with_reducible refine (impl_itemAt.calls k1 _ _ l0 ((rd_T84 l0 x7_1).f0) t217 _ (cb HR0 HB) ?side2 A7.out).mono ?_); (case side2 => exact HC0.out); rintro e w13 ⟨rfl, hb⟩; replace BK215 := bb BK215 hb; replace HB := Aside0.mk (below_step (be1 HB GE215) hb); (try clear hb)))
        go_roundg k1
        case measure => have := HK1.out; omega
        case rel => exact ⟨(wrap64 (x7_1 + 1)), rs, H', ⟨by have := HK1.out; omega⟩, ⟨be1 HB GE215⟩⟩
       rw [if_neg c8] at H
       have c8b0 : (t217 == x7_1) = false := beq_eq_false_iff_ne.mpr c8
       have c8b1 : (t217 != x7_1) = true := bne_iff_ne.mpr c8
       obtain rfl := Option.some.inj H
       have p214 : 0 ≤ (x7_1 : Int) := od
       have q214 : x7_1 < (l0.length : Int) := od
       obtain ⟨ad214, e214, hx214_0, hx214_1, hx214_2⟩ := at_T84 HR0.out x7_1 p214 q214
       cases e214
       replace hx214_0 := hc HB hx214_0
       replace hx214_1 := hc HB hx214_1
       replace hx214_2 := hc HB hx214_2
       replace p214 := eq_true p214
       replace q214 := eq_true q214
       go_wp2_with (first | ((with_reducible refine gate_dst (N := 4) rfl ?_); refine bx 4 #[.string (⟨#[]⟩ : ByteArray), .string (⟨#[]⟩ : ByteArray), .int .i64 0] 84 ?_; intro gb215 hg w14 hbox hb; have BK215 := am hbox; have GW215 := gs0 hg HB; have GE215 := gs0 hg HB; replace HB := s0 HB hb; clear hb hbox hg; have hcz15_0 := bz3 BK215) | ((with_reducible refine gate_callee (f := 92) rfl ?_); refine gl 13 Try.func92 #[.agg #[.string ((rd_T84 l0 x7_1).f0), .string ((rd_T84 l0 x7_1).f1), .int .i64 ((rd_T84 l0 x7_1).f2)]] ?_; (with_reducible refine (impl_ItemOk.calls k1 ((rd_T84 l0 x7_1).f0) ((rd_T84 l0 x7_1).f1) ((rd_T84 l0 x7_1).f2) true _ A5.out).mono ?_); rintro e w16 ⟨rfl, hb⟩; refine ⟨_, rfl, ?_⟩; replace BK215 := Aside0.mk (blk_below (g := gb215) (o := .cells #[.string ((rd_T84 l0 x7_1).f0), .string ((rd_T84 l0 x7_1).f1), .int .i64 ((rd_T84 l0 x7_1).f2)] 84 (0, 0)) (by (with_reducible repeat (first | refine blk_drewN ?_ _ | refine blk_drew ?_ | refine blk_alloc ?_ _)); refine blk_put (cs := #[.string ((rd_T84 l0 x7_1).f0), .string ((rd_T84 l0 x7_1).f1), .int .i64 0]) ?_ 2 _ rfl; (with_reducible repeat (first | refine blk_drewN ?_ _ | refine blk_drew ?_ | refine blk_alloc ?_ _)); refine blk_put (cs := #[.string ((rd_T84 l0 x7_1).f0), .string (⟨#[]⟩ : ByteArray), .int .i64 0]) ?_ 1 _ rfl; (with_reducible repeat (first | refine blk_drewN ?_ _ | refine blk_drew ?_ | refine blk_alloc ?_ _)); refine blk_put (cs := #[.string (⟨#[]⟩ : ByteArray), .string (⟨#[]⟩ : ByteArray), .int .i64 0]) ?_ 0 _ rfl; (with_reducible repeat (first | refine blk_drewN ?_ _ | refine blk_drew ?_ | refine blk_alloc ?_ _)); exact BK215.out) hb); replace HB := Aside0.mk (below_step (be1 HB GE215) hb); (try clear hb); have hcz17_0 := bz3 BK215) | (go_at_call 90; (with_reducible refine (impl_itemAt.calls k1 _ _ l0 ((rd_T84 l0 x7_1).f0) t217 _ (cb HR0 HB) ?side2 A7.out).mono ?_); (case side2 => exact HC0.out); rintro e w18 ⟨rfl, hb⟩; replace BK215 := bb BK215 hb; replace HB := Aside0.mk (below_step (be1 HB GE215) hb); (try clear hb)))
       go_ret
       exact ⟨er, be1 HB GE215⟩
      replace c6 := Bool.eq_false_iff.mpr c6
      subst c6
      rw [if_neg (show ¬ (false = true) by decide)] at H
      obtain rfl := Option.some.inj H
      have p214 : 0 ≤ (x7_1 : Int) := od
      have q214 : x7_1 < (l0.length : Int) := od
      obtain ⟨ad214, e214, hx214_0, hx214_1, hx214_2⟩ := at_T84 HR0.out x7_1 p214 q214
      cases e214
      replace hx214_0 := hc HB hx214_0
      replace hx214_1 := hc HB hx214_1
      replace hx214_2 := hc HB hx214_2
      replace p214 := eq_true p214
      replace q214 := eq_true q214
      go_wp2_with (first | ((with_reducible refine gate_dst (N := 4) rfl ?_); refine bx 4 #[.string (⟨#[]⟩ : ByteArray), .string (⟨#[]⟩ : ByteArray), .int .i64 0] 84 ?_; intro gb215 hg w19 hbox hb; have BK215 := am hbox; have GW215 := gs0 hg HB; have GE215 := gs0 hg HB; replace HB := s0 HB hb; clear hb hbox hg; have hcz20_0 := bz3 BK215) | ((with_reducible refine gate_callee (f := 92) rfl ?_); refine gl 13 Try.func92 #[.agg #[.string ((rd_T84 l0 x7_1).f0), .string ((rd_T84 l0 x7_1).f1), .int .i64 ((rd_T84 l0 x7_1).f2)]] ?_; (with_reducible refine (impl_ItemOk.calls k1 ((rd_T84 l0 x7_1).f0) ((rd_T84 l0 x7_1).f1) ((rd_T84 l0 x7_1).f2) false _ A5.out).mono ?_); rintro e w21 ⟨rfl, hb⟩; refine ⟨_, rfl, ?_⟩; replace BK215 := Aside0.mk (blk_below (g := gb215) (o := .cells #[.string ((rd_T84 l0 x7_1).f0), .string ((rd_T84 l0 x7_1).f1), .int .i64 ((rd_T84 l0 x7_1).f2)] 84 (0, 0)) (by (with_reducible repeat (first | refine blk_drewN ?_ _ | refine blk_drew ?_ | refine blk_alloc ?_ _)); refine blk_put (cs := #[.string ((rd_T84 l0 x7_1).f0), .string ((rd_T84 l0 x7_1).f1), .int .i64 0]) ?_ 2 _ rfl; (with_reducible repeat (first | refine blk_drewN ?_ _ | refine blk_drew ?_ | refine blk_alloc ?_ _)); refine blk_put (cs := #[.string ((rd_T84 l0 x7_1).f0), .string (⟨#[]⟩ : ByteArray), .int .i64 0]) ?_ 1 _ rfl; (with_reducible repeat (first | refine blk_drewN ?_ _ | refine blk_drew ?_ | refine blk_alloc ?_ _)); refine blk_put (cs := #[.string (⟨#[]⟩ : ByteArray), .string (⟨#[]⟩ : ByteArray), .int .i64 0]) ?_ 0 _ rfl; (with_reducible repeat (first | refine blk_drewN ?_ _ | refine blk_drew ?_ | refine blk_alloc ?_ _)); exact BK215.out) hb); replace HB := Aside0.mk (below_step (be1 HB GE215) hb); (try clear hb)))
      go_ret
      exact ⟨er, be1 HB GE215⟩
     rw [if_neg c4] at H
     exact absurd H (by simp)
    rw [if_neg c3] at H
    exact absurd H (by simp)
   rw [if_neg c2] at H
   have c2b0 : decide (x7_1 < (l0.length : Int)) = false := decide_eq_false c2
   clear c2
   obtain rfl := Option.some.inj H
   go_wp2
   go_ret
   exact ⟨er, be HB⟩

/-! ### impl_RowOk: function 44 -/
mutual
def impl_RowOk.j0 : Nat → Int → Int → Int → List (S84) → Option (Bool)
 | 0, _, _, _, _ => none
 | k + 1, x3, x219000, x219001, x219002 => impl_RowOk.l0 k x3 x219002 (x219002.length : Int) 0 x219000 x219001 x219002
def impl_RowOk.l0 : Nat → Int → List (S84) → Int → Int → Int → Int → List (S84) → Option (Bool)
 | 0, _, _, _, _, _, _, _ => none
 | k + 1, x3, x10, x11, x12, x219000, x219001, x219002 => if x12 < x11 then (if 0 ≤ x12 then (if x12 < (x10.length : Int) then ((impl_within.f ((rd_T84 x10 x12).f2) 0 x3).bind fun t221 => (if t221 = true then (impl_RowOk.l0 k x3 x10 x11 (wrap64 (x12 + 1)) x219000 x219001 x219002) else (some false))) else (none)) else (none)) else ((impl_within.f x219000 1 3).bind fun t222 => (if t222 = true then ((impl_within.f x219001 1 60).bind fun t223 => (if t223 = true then (if (x219002.length : Int) ≤ x219001 then ((impl_areItems.f k x219002).bind fun t224 => (some t224)) else (some false)) else (some false))) else (some false)))
end
def impl_RowOk.f (k : Nat) (a0_0 : Int) (a0_1 : Int) (l0_2 : List (S84)) : Option (Bool) := if a0_0 = 3 then (impl_RowOk.j0 k 1 a0_0 a0_1 l0_2) else (impl_RowOk.j0 k 0 a0_0 a0_1 l0_2)
theorem impl_RowOk.mono_l : ∀ k, (∀ y0 y1 y2 y3, LeO (impl_RowOk.j0 k y0 y1 y2 y3) (impl_RowOk.j0 (k + 1) y0 y1 y2 y3)) ∧ (∀ y0 y1 y2 y3 y4 y5 y6, LeO (impl_RowOk.l0 k y0 y1 y2 y3 y4 y5 y6) (impl_RowOk.l0 (k + 1) y0 y1 y2 y3 y4 y5 y6))
 | 0 => ⟨fun _ _ _ _ r h => by simp [impl_RowOk.j0] at h, fun _ _ _ _ _ _ _ r h => by simp [impl_RowOk.l0] at h⟩
 | k + 1 => by
  obtain ⟨ih0, ih1⟩ := impl_RowOk.mono_l k
  refine ⟨?_, ?_⟩
  ·intro y0 y1 y2 y3
   unfold impl_RowOk.j0
   repeat' first
   | (with_reducible exact ih0 _ _ _ _)
   | (with_reducible exact ih1 _ _ _ _ _ _ _)
   | (with_reducible exact impl_areItems.mono _ _)
   | (with_reducible exact LeO.refl _)
   | (with_reducible exact LeO.none _)
   | (with_reducible refine LeO.ite ?_ ?_)
   | (with_reducible refine LeO.bind ?_ (fun _ => ?_))
   | exact ih0 _ _ _ _
   | exact ih1 _ _ _ _ _ _ _
   | exact impl_areItems.mono _ _
   | exact LeO.none _
   | refine LeO.ite ?_ ?_
   | refine LeO.bind ?_ (fun _ => ?_)
  intro y0 y1 y2 y3 y4 y5 y6
  unfold impl_RowOk.l0
  repeat' first
  | (with_reducible exact ih0 _ _ _ _)
  | (with_reducible exact ih1 _ _ _ _ _ _ _)
  | (with_reducible exact impl_areItems.mono _ _)
  | (with_reducible exact LeO.refl _)
  | (with_reducible exact LeO.none _)
  | (with_reducible refine LeO.ite ?_ ?_)
  | (with_reducible refine LeO.bind ?_ (fun _ => ?_))
  | exact ih0 _ _ _ _
  | exact ih1 _ _ _ _ _ _ _
  | exact impl_areItems.mono _ _
  | exact LeO.none _
  | refine LeO.ite ?_ ?_
  | refine LeO.bind ?_ (fun _ => ?_)
theorem impl_RowOk.mono : ∀ a0 a1 a2 k, LeO (impl_RowOk.f k a0 a1 a2) (impl_RowOk.f (k + 1) a0 a1 a2) := by
 intro a0 a1 a2 k
 obtain ⟨ih0, ih1⟩ := impl_RowOk.mono_l k
 unfold impl_RowOk.f
 repeat' first
   | (with_reducible exact ih0 _ _ _ _)
   | (with_reducible exact ih1 _ _ _ _ _ _ _)
   | (with_reducible exact impl_areItems.mono _ _)
   | (with_reducible exact LeO.refl _)
   | (with_reducible exact LeO.none _)
   | (with_reducible refine LeO.ite ?_ ?_)
   | (with_reducible refine LeO.bind ?_ (fun _ => ?_))
   | exact ih0 _ _ _ _
   | exact ih1 _ _ _ _ _ _ _
   | exact impl_areItems.mono _ _
   | exact LeO.none _
   | refine LeO.ite ?_ ?_
   | refine LeO.bind ?_ (fun _ => ?_)
set_option maxHeartbeats 8000000 in
set_option maxRecDepth 100000 in
theorem impl_RowOk.calls (k : Nat) (a0_0 : Int) (a0_1 : Int) (A0_2 : Option Addr) (c0_2 : Nat) (l0_2 : List (S84)) (r : Bool) (w : World) (hr0_2 : Kd.C k84 w A0_2 l0_2.length l0_2) (hc0_2 : l0_2.length ≤ c0_2) (h : impl_RowOk.f k a0_0 a0_1 l0_2 = some r) :
  Calls Try.prog 44 #[.agg #[.int .i64 a0_0, .int .i64 a0_1, .slice A0_2 l0_2.length c0_2]] w fun e w' => e = .returned (.bool r) ∧ Below w.heap.size w w' := by
 have hu53 := Try.underlying53
 have hu84 := Try.underlying84
 have HR0_2 := Aside0.mk hr0_2
 have HC0_2 := Aside0.mk hc0_2
 clear hr0_2 hc0_2
 have HB := Aside0.mk (Below.refl w.heap.size w)
 have H : (if a0_0 = 3 then (impl_RowOk.j0 k 1 a0_0 a0_1 l0_2) else (impl_RowOk.j0 k 0 a0_0 a0_1 l0_2)) = some r := h
 clear h
 have HC2 := Aside0.mk H
 clear H
 go_enter Try.func44, Try.ntmps44
 go_upto_if 8 with (first | ((with_reducible refine gate_dst (N := 1) rfl ?_); (try (refine gate_guard (by rfl) ?_; dsimp only)); refine bx 1 #[.int .i64 a0_0, .int .i64 a0_1, .slice A0_2 l0_2.length c0_2] 53 ?_; intro gb218 hg w3 hbox hb; have BK218 := am hbox; have GW218 := gs0 hg HB; have GE218 := gs0 hg HB; replace HB := s0 HB hb; clear hb hbox hg; have hcz4_0 := bz3 BK218))
 (try simp only [Act.put, List.setIfInBounds_toArray, List.set_cons_zero, List.set_cons_succ])
 go_cut [3] (fun v3 wc => ∃ (kq : Nat) (x3_1 : Int), v3 = .int .i64 x3_1 ∧ Aside0 (impl_RowOk.j0 kq x3_1 a0_0 a0_1 l0_2 = some r) ∧ Aside0 (kq ≤ k) ∧ Aside0 (wc.heap[gb218]? = some (.cells #[.int .i64 a0_0, .int .i64 a0_1, (.slice A0_2 l0_2.length c0_2)] 53 (0, 0))) ∧ Aside0 (Below w.heap.size w wc))
 case first =>
  have H := HC2.out
  clear HC2
  by_cases c5 : a0_0 = 3
  ·rw [if_pos c5] at H
   have c5b0 : (a0_0 == 3) = true := beq_iff_eq.mpr c5
   have c5b1 : (a0_0 != 3) = false := bne_eq_false_iff_eq.mpr c5
   clear c5
   (first | rw [c5b0] | (simp only [i64_w, i32_w]; rw [c5b0]) | skip)
   have H' := Aside0.mk H
   clear H
   go_wp2
   go_meet
   case rel => exact ⟨_, (1), rs, H', ⟨by first | omega | exact Nat.le_refl _⟩, ⟨bk BK218⟩, ⟨be1 HB GE218⟩⟩
  rw [if_neg c5] at H
  have c5b0 : (a0_0 == 3) = false := beq_eq_false_iff_ne.mpr c5
  have c5b1 : (a0_0 != 3) = true := bne_iff_ne.mpr c5
  (first | rw [c5b0] | (simp only [i64_w, i32_w]; rw [c5b0]) | skip)
  have H' := Aside0.mk H
  clear H
  go_wp2
  go_meet
  case rel => exact ⟨_, (0), rs, H', ⟨by first | omega | exact Nat.le_refl _⟩, ⟨bk BK218⟩, ⟨be1 HB GE218⟩⟩
 case rest =>
  clear HC2
  try clear p2; try clear c4; try clear c5; try clear c5b0; try clear c5b1; try clear hcz4_0
  obtain ⟨kq, x3_1, rfl, HA, HJ1, BK218, HB⟩ := hcut
  cases kq with
  | zero => exact absurd HA.out (by simp [impl_RowOk.j0])
  | succ kj1 =>
   have H := HA.out
   clear HA
   simp only [impl_RowOk.j0] at H
   have H' := Aside0.mk H
   clear H
   have hcz6_0 := bz3 BK218
   go_wp2
   go_loopg [12] kj1 (fun kq v12 w' => ∃ (x12_2 : Int), v12 = .int .i64 x12_2 ∧ Aside0 (impl_RowOk.l0 kq x3_1 l0_2 (l0_2.length : Int) x12_2 a0_0 a0_1 l0_2 = some r) ∧ Aside0 (kq ≤ kj1) ∧ Aside0 (w'.heap[gb218]? = some (.cells #[.int .i64 a0_0, .int .i64 a0_1, (.slice A0_2 l0_2.length c0_2)] 53 (0, 0))) ∧ Aside0 (Below w.heap.size w w'))
   case atStart => exact ⟨(0), rs, H', ⟨Nat.le_refl _⟩, ⟨bk BK218⟩, ⟨be1 HB GE218⟩⟩
   case round =>
    clear H'
    try clear p2; try clear c4; try clear c5; try clear c5b0; try clear c5b1; try clear hcz4_0; try clear hcz6_0; try clear p2
    obtain ⟨x12_2, rfl, HA, HK2, BK218, HB⟩ := hrel
    cases gk with
    | zero => exact absurd HA.out (by simp [impl_RowOk.l0])
    | succ k2 =>
     have H := HA.out
     clear HA
     simp only [impl_RowOk.l0] at H
     by_cases c7 : x12_2 < (l0_2.length : Int)
     ·rw [if_pos c7] at H
      have c7b0 : decide (x12_2 < (l0_2.length : Int)) = true := decide_eq_true c7
      clear c7
      by_cases c8 : 0 ≤ x12_2
      ·rw [if_pos c8] at H
       have c8b0 : decide (0 ≤ x12_2) = true := decide_eq_true c8
       clear c8
       by_cases c9 : x12_2 < (l0_2.length : Int)
       ·rw [if_pos c9] at H
        have c9b0 : decide (x12_2 < (l0_2.length : Int)) = true := decide_eq_true c9
        clear c9
        replace H := Option.bind_eq_some_iff.mp H
        obtain ⟨t221, A100, H⟩ := H
        try dsimp only at H
        have A10 := Aside0.mk A100
        clear A100
        by_cases c11 : t221 = true
        ·subst c11
         rw [if_pos rfl] at H
         have H' := Aside0.mk H
         clear H
         have p219 : 0 ≤ (x12_2 : Int) := od
         have q219 : x12_2 < (l0_2.length : Int) := od
         obtain ⟨ad219, e219, hx219_0, hx219_1, hx219_2⟩ := at_T84 HR0_2.out x12_2 p219 q219
         cases e219
         replace hx219_0 := hc HB hx219_0
         replace hx219_1 := hc HB hx219_1
         replace hx219_2 := hc HB hx219_2
         replace p219 := eq_true p219
         replace q219 := eq_true q219
         go_wp2_with (first | ((with_reducible refine gate_dst (N := 5) rfl ?_); (try (refine gate_guard (by rfl) ?_; dsimp only)); refine bx 5 #[.string (⟨#[]⟩ : ByteArray), .string (⟨#[]⟩ : ByteArray), .int .i64 0] 84 ?_; intro gb220 hg w12 hbox hb; have BK220 := am hbox; have GW220 := gs1 hg HB GE218; have GE220 := gs1 hg HB GE218; replace HB := Aside0.mk (below_step (be1 HB GE218) hb); have NB218_220 := Aside0.mk ((by rw [hg]; exact Nat.ne_of_lt (bl BK218) : gb218 ≠ gb220)); have NB220_218 := Aside0.mk ((by rw [hg]; exact Nat.ne_of_gt (bl BK218) : gb220 ≠ gb218)); replace BK218 := bb BK218 hb; clear hb hbox hg; have hnb13 := NB220_218.out; have hnc13 := NB218_220.out; have hcz14_0 := bz3 BK220) | ((with_reducible refine gate_callee (f := 62) rfl ?_); refine gl 19 Try.func62 #[.int .i64 ((rd_T84 l0_2 x12_2).f2), .int .i64 0, .int .i64 x3_1] ?_; (with_reducible refine (impl_within.calls ((rd_T84 l0_2 x12_2).f2) 0 x3_1 true _ A10.out).mono ?_); rintro e w' ⟨rfl, ⟨nd, rfl⟩⟩; refine ⟨_, rfl, ?_⟩))
         go_roundg k2
         case measure => have := HJ1.out; have := HK2.out; omega
         case rel => exact ⟨(wrap64 (x12_2 + 1)), rs, H', ⟨by have := HJ1.out; have := HK2.out; omega⟩, ⟨by (with_reducible repeat (first | refine blk_drewN ?_ _ | refine blk_drew ?_ | refine blk_alloc ?_ _)); refine blk_far ?_ NB218_220.out _; (with_reducible repeat (first | refine blk_drewN ?_ _ | refine blk_drew ?_ | refine blk_alloc ?_ _)); refine blk_far ?_ NB218_220.out _; (with_reducible repeat (first | refine blk_drewN ?_ _ | refine blk_drew ?_ | refine blk_alloc ?_ _)); refine blk_far ?_ NB218_220.out _; (with_reducible repeat (first | refine blk_drewN ?_ _ | refine blk_drew ?_ | refine blk_alloc ?_ _)); exact BK218.out⟩, ⟨be2 HB GE218 GE220⟩⟩
        replace c11 := Bool.eq_false_iff.mpr c11
        subst c11
        rw [if_neg (show ¬ (false = true) by decide)] at H
        obtain rfl := Option.some.inj H
        have p219 : 0 ≤ (x12_2 : Int) := od
        have q219 : x12_2 < (l0_2.length : Int) := od
        obtain ⟨ad219, e219, hx219_0, hx219_1, hx219_2⟩ := at_T84 HR0_2.out x12_2 p219 q219
        cases e219
        replace hx219_0 := hc HB hx219_0
        replace hx219_1 := hc HB hx219_1
        replace hx219_2 := hc HB hx219_2
        replace p219 := eq_true p219
        replace q219 := eq_true q219
        go_wp2_with (first | ((with_reducible refine gate_dst (N := 5) rfl ?_); (try (refine gate_guard (by rfl) ?_; dsimp only)); refine bx 5 #[.string (⟨#[]⟩ : ByteArray), .string (⟨#[]⟩ : ByteArray), .int .i64 0] 84 ?_; intro gb220 hg w15 hbox hb; have BK220 := am hbox; have GW220 := gs1 hg HB GE218; have GE220 := gs1 hg HB GE218; replace HB := Aside0.mk (below_step (be1 HB GE218) hb); have NB218_220 := Aside0.mk ((by rw [hg]; exact Nat.ne_of_lt (bl BK218) : gb218 ≠ gb220)); have NB220_218 := Aside0.mk ((by rw [hg]; exact Nat.ne_of_gt (bl BK218) : gb220 ≠ gb218)); replace BK218 := bb BK218 hb; clear hb hbox hg; have hnb16 := NB220_218.out; have hnc16 := NB218_220.out; have hcz17_0 := bz3 BK220) | ((with_reducible refine gate_callee (f := 62) rfl ?_); refine gl 19 Try.func62 #[.int .i64 ((rd_T84 l0_2 x12_2).f2), .int .i64 0, .int .i64 x3_1] ?_; (with_reducible refine (impl_within.calls ((rd_T84 l0_2 x12_2).f2) 0 x3_1 false _ A10.out).mono ?_); rintro e w' ⟨rfl, ⟨nd, rfl⟩⟩; refine ⟨_, rfl, ?_⟩))
        go_ret
        exact ⟨er, be2 HB GE218 GE220⟩
       rw [if_neg c9] at H
       exact absurd H (by simp)
      rw [if_neg c8] at H
      exact absurd H (by simp)
     rw [if_neg c7] at H
     have c7b0 : decide (x12_2 < (l0_2.length : Int)) = false := decide_eq_false c7
     clear c7
     replace H := Option.bind_eq_some_iff.mp H
     obtain ⟨t222, A180, H⟩ := H
     try dsimp only at H
     have A18 := Aside0.mk A180
     clear A180
     by_cases c19 : t222 = true
     ·subst c19
      rw [if_pos rfl] at H
      replace H := Option.bind_eq_some_iff.mp H
      obtain ⟨t223, A200, H⟩ := H
      try dsimp only at H
      have A20 := Aside0.mk A200
      clear A200
      by_cases c21 : t223 = true
      ·subst c21
       rw [if_pos rfl] at H
       by_cases c22 : (l0_2.length : Int) ≤ a0_1
       ·rw [if_pos c22] at H
        have c22b0 : decide ((l0_2.length : Int) ≤ a0_1) = true := decide_eq_true c22
        clear c22
        replace H := Option.bind_eq_some_iff.mp H
        obtain ⟨t224, A230, H⟩ := H
        replace H : (some t224) = some r := H
        have A23 := Aside0.mk A230
        clear A230
        obtain rfl := Option.some.inj H
        have hcz24_0 := bz3 BK218
        go_wp2_with (first | ((with_reducible refine gate_callee (f := 62) rfl ?_); refine gl 24 Try.func62 #[.int .i64 a0_0, .int .i64 1, .int .i64 3] ?_; (with_reducible refine (impl_within.calls a0_0 1 3 true _ A18.out).mono ?_); rintro e w' ⟨rfl, ⟨nd, rfl⟩⟩; refine ⟨_, rfl, ?_⟩) | (go_at_call 62; (with_reducible refine (impl_within.calls a0_1 1 60 true _ A20.out).mono ?_); rintro e w' ⟨rfl, ⟨nd, rfl⟩⟩) | (go_at_call 83; (with_reducible refine (impl_areItems.calls k2 _ _ l0_2 t224 _ ?side1 HC0_2.out A23.out).mono ?_); (case side1 => repeat (first | exact (Kd.C_below HR0_2.out (be1 HB GE218)) | (with_reducible refine Kd.C_alloc ?_ _) | (with_reducible refine Kd.C_drewN ?_ _) | (with_reducible refine Kd.C_drew ?_))); rintro e w25 ⟨rfl, hb⟩; replace BK218 := bb BK218 hb; replace HB := Aside0.mk (below_step (be1 HB GE218) hb); (try clear hb)))
        go_ret
        exact ⟨er, be1 HB GE218⟩
       rw [if_neg c22] at H
       have c22b0 : decide ((l0_2.length : Int) ≤ a0_1) = false := decide_eq_false c22
       clear c22
       obtain rfl := Option.some.inj H
       have hcz26_0 := bz3 BK218
       go_wp2_with (first | ((with_reducible refine gate_callee (f := 62) rfl ?_); refine gl 24 Try.func62 #[.int .i64 a0_0, .int .i64 1, .int .i64 3] ?_; (with_reducible refine (impl_within.calls a0_0 1 3 true _ A18.out).mono ?_); rintro e w' ⟨rfl, ⟨nd, rfl⟩⟩; refine ⟨_, rfl, ?_⟩) | (go_at_call 62; (with_reducible refine (impl_within.calls a0_1 1 60 true _ A20.out).mono ?_); rintro e w' ⟨rfl, ⟨nd, rfl⟩⟩))
       go_ret
       exact ⟨er, be1 HB GE218⟩
      replace c21 := Bool.eq_false_iff.mpr c21
      subst c21
      rw [if_neg (show ¬ (false = true) by decide)] at H
      obtain rfl := Option.some.inj H
      have hcz27_0 := bz3 BK218
      go_wp2_with (first | ((with_reducible refine gate_callee (f := 62) rfl ?_); refine gl 24 Try.func62 #[.int .i64 a0_0, .int .i64 1, .int .i64 3] ?_; (with_reducible refine (impl_within.calls a0_0 1 3 true _ A18.out).mono ?_); rintro e w' ⟨rfl, ⟨nd, rfl⟩⟩; refine ⟨_, rfl, ?_⟩) | (go_at_call 62; (with_reducible refine (impl_within.calls a0_1 1 60 false _ A20.out).mono ?_); rintro e w' ⟨rfl, ⟨nd, rfl⟩⟩))
      go_ret
      exact ⟨er, be1 HB GE218⟩
     replace c19 := Bool.eq_false_iff.mpr c19
     subst c19
     rw [if_neg (show ¬ (false = true) by decide)] at H
     obtain rfl := Option.some.inj H
     have hcz28_0 := bz3 BK218
     go_wp2_with (first | ((with_reducible refine gate_callee (f := 62) rfl ?_); refine gl 24 Try.func62 #[.int .i64 a0_0, .int .i64 1, .int .i64 3] ?_; (with_reducible refine (impl_within.calls a0_0 1 3 false _ A18.out).mono ?_); rintro e w' ⟨rfl, ⟨nd, rfl⟩⟩; refine ⟨_, rfl, ?_⟩))
     go_ret
     exact ⟨er, be1 HB GE218⟩

/-! ### impl_copyItems: function 105 -/
def impl_copyItems.f (l0 : List (S84)) : Option ((List (S84))) := (some (([] : List (S84)) : List (S84))).bind fun y225 => (if y225.length + l0.length < 3518437208883 then (some (y225 ++ l0)) else (none))
set_option maxHeartbeats 8000000 in
set_option maxRecDepth 100000 in
theorem impl_copyItems.calls (A0 : Option Addr) (c0 : Nat) (l0 : List (S84)) (r : List (S84)) (w : World) (hr0 : Kd.C k84 w A0 l0.length l0) (hc0 : l0.length ≤ c0) (h : impl_copyItems.f l0 = some r) :
  Calls Try.prog 105 #[.slice A0 l0.length c0] w fun e w' => ∃ v0_ : Value, e = .returned (v0_) ∧ Kd.R k84 84 w' w.heap.size (fun _ => True) v0_ r ∧ Below w.heap.size w w' := by
 have HR0 := Aside0.mk hr0
 have HC0 := Aside0.mk hc0
 clear hr0 hc0
 have HB := Aside0.mk (Below.refl w.heap.size w)
 have H : ((some (([] : List (S84)) : List (S84))).bind fun y225 => (if y225.length + l0.length < 3518437208883 then (some (y225 ++ l0)) else (none))) = some r := h
 clear h
 obtain ⟨y225, hy225⟩ : ∃ y_ : List (S84), y_ = (([] : List (S84))) := ⟨_, rfl⟩
 replace H : (if y225.length + l0.length < 3518437208883 then (some (y225 ++ l0)) else (none)) = some r := by first | (rw [hy225]; with_reducible exact H) | (have H2_ := (Option.bind_some _ _).symm.trans H; rw [hy225]; with_reducible exact H2_) | (have H2_ := (Option.bind_some _ _).symm.trans H; with_reducible exact H2_) | with_reducible exact H | (rw [hy225]; exact H) | exact H
 have Ny225 := Aside0.mk hy225
 clear hy225
 by_cases c2 : y225.length + l0.length < 3518437208883
 ·rw [if_pos c2] at H
  have LMc2 := Aside0.mk c2
  clear c2
  obtain ⟨y228, hy228⟩ : ∃ y_ : List (S84), y_ = (y225 ++ l0) := ⟨_, rfl⟩
  replace H : (some y228) = some r := by first | (rw [hy228]; with_reducible exact H) | (have H2_ := (Option.bind_some _ _).symm.trans H; rw [hy228]; with_reducible exact H2_) | (have H2_ := (Option.bind_some _ _).symm.trans H; with_reducible exact H2_) | with_reducible exact H | (rw [hy228]; exact H) | exact H
  have Ny228 := Aside0.mk hy228
  clear hy228
  obtain rfl := Option.some.inj H
  go_enter Try.func105, Try.ntmps105
  have HO227 := Aside0.mk (show Kd.R k84 84 w w.heap.size (fun _ => True) (.slice none 0 0) y225 from by rw [Ny225.out]; exact Kd.R_nil _ _ _ _ _)
  go_wp2_with (first | ((with_reducible refine gate_builtin (b := .append) (xs := #[.const (.slice none 0 0), .tmp 3]) rfl ?_); at_builtin; refine Kd.R_append_rows k84 (w0 := w) w.heap.size rfl (.const (.slice none 0 0)) (.tmp 3) 51 84 (.agg #[(.string ⟨#[]⟩), (.string ⟨#[]⟩), (.int .i64 0)]) 40 rfl Try.underlying51 info84 rfl (by decide) (by omega) (.slice none 0 0) y225 l0 _ _ _ (fun _ => True) (fun _ => False) rfl rfl ?aO ?aR (fun _ _ h => h) (fun _ h => h.elim) ?aF ?aB ?aS ?aL ?_; (case aR => repeat (first | exact (Kd.C_below HR0.out HB.out) | (with_reducible refine Kd.C_alloc ?_ _) | (with_reducible refine Kd.C_drewN ?_ _) | (with_reducible refine Kd.C_drew ?_))); (case aB => exact (be HB)); (case aF => exact (fun _ _ => trivial)); (case aO => exact (ro HO227)); (case aS => exact (below_size (be HB))); (case aL => have := LMc2.out; omega); intro v229 w5 ho hb hg hat; rw [← Ny228.out] at ho; replace HB := Aside0.mk (hb); have HO230 := Aside0.mk (ho); clear HO227; clear ho hb hg hat))
  go_ret
  exact ⟨_, er, by (with_reducible repeat (first | apply Kd.R_alloc | apply Kd.R_drewN | apply Kd.R_drew)); exact HO230.out, be HB⟩
 rw [if_neg c2] at H
 exact absurd H (by simp)

end Go.Proofs.Ytllaoamaplepmaa.QFnExactRowGet
