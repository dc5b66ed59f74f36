-- made by a program of this session (myprint.py)
import Derived.Test.YtfjhkediaholmaaQFnExactPutx0
import Derived.Test.YtfjhkediaholmaaQFnExactPutx2
namespace Go.Proofs.Ytfjhkediaholmaa.QFnExactPut
open Go.RowKit Go.Proofs.YtfjhkediaholmaaW.PrintWords Go.Proofs.YtfjhkediaholmaaW.PrintLast Go.Proofs.YtfjhkediaholmaaW.PrintMore
attribute [local go_sem] max2_int min2_int max_two min_two max_three min_three max_four min_four   -- for this text's walks alone
set_option linter.unusedVariables false
set_option linter.unusedSimpArgs false

/-! ### laws_eqStringS: function 43 -/
def laws_eqStringS.l0 : Nat → List ByteArray → List ByteArray → Int → Option (Bool)
 | 0, _, _, _ => none
 | k + 1, x0, x1, x5 => if x5 < (x0.length : Int) then (if 0 ≤ x5 then (if x5 < (x1.length : Int) then (if (rdOf ByteArray.empty x0 x5).toList = (rdOf ByteArray.empty x1 x5).toList then (laws_eqStringS.l0 k x0 x1 (wrap64 (x5 + 1))) else (some false)) else (none)) else (none)) else (some true)
def laws_eqStringS.f (k : Nat) (l0 : List ByteArray) (l1 : List ByteArray) : Option (Bool) := if (l0.length : Int) = (l1.length : Int) then (laws_eqStringS.l0 k l0 l1 0) else (some false)
theorem laws_eqStringS.mono_l : ∀ k, (∀ y0 y1 y2, LeO (laws_eqStringS.l0 k y0 y1 y2) (laws_eqStringS.l0 (k + 1) y0 y1 y2))
 | 0 => fun _ _ _ r h => by simp [laws_eqStringS.l0] at h
 | k + 1 => by
  have aj := laws_eqStringS.mono_l k
  ·intro y0 y1 y2; unfold laws_eqStringS.l0
   repeat' first | (with_reducible first | apply aj | apply lr | apply ln | apply li | refine lb ?_ fun _ => ?_) | apply aj | apply ln | apply li | refine lb ?_ fun _ => ?_
theorem laws_eqStringS.mono : ∀ a0 a1 k, LeO (laws_eqStringS.f k a0 a1) (laws_eqStringS.f (k + 1) a0 a1) := by
 intro a0 a1 k; have aj := laws_eqStringS.mono_l k; unfold laws_eqStringS.f
 repeat' first | (with_reducible first | apply aj | apply lr | apply ln | apply li | refine lb ?_ fun _ => ?_) | apply aj | apply ln | apply li | refine lb ?_ fun _ => ?_
set_option maxHeartbeats 8000000 in
set_option maxRecDepth 100000 in
theorem laws_eqStringS.calls (k : Nat) (A0 : Option Addr) (c0 : Nat) (l0 : List ByteArray) (A1 : Option Addr) (c1 : Nat) (l1 : List ByteArray) (r : Bool) (w : World) (av : Kd.C Kd.string w A0 l0.length l0) (aw : l0.length ≤ c0) (ax : Kd.C Kd.string w A1 l1.length l1) (ay : l1.length ≤ c1) (h : laws_eqStringS.f k l0 l1 = some r) :
  Calls Try.prog 43 #[.slice A0 l0.length c0, .slice A1 l1.length c1] w fun e w' => e = .returned (.bool r) ∧ Drawn0 w w' := by
 have az := Aside0.mk av; have aE := Aside0.mk aw; clear av aw; have aA := Aside0.mk ax; have aF := Aside0.mk ay; clear ax ay; have H : (if (l0.length : Int) = (l1.length : Int) then (laws_eqStringS.l0 k l0 l1 0) else (some false)) = some r := h; clear h
 by_cases c3 : (l0.length : Int) = (l1.length : Int)
 ·rw [if_pos c3] at H; have ak : ((l0.length : Int) == (l1.length : Int)) = true := beq_iff_eq.mpr c3; have al : ((l0.length : Int) != (l1.length : Int)) = false := bne_eq_false_iff_eq.mpr c3; have an : (l0.length == l1.length) = true := by first | simpa using c3 | (simp at c3 ⊢; omega)
  clear c3; have H' := Aside0.mk H; clear H
  go_enter Try.func43, Try.ntmps43
  go_wp2
  repeat (go_quiet (fail); try go_wp2)
  go_loopg [5] k (fun kq v5 w' => ∃ (aa : Int), v5 = .int .i64 aa ∧ Aside0 (laws_eqStringS.l0 kq l0 l1 aa = some r) ∧ Aside0 (kq ≤ k) ∧ Drawn0 w w')
  case atStart => exact ⟨(0), rs, H', ⟨Nat.le_refl _⟩, by repeat (first | exact Drawn0.refl _ | apply Drawn0.step)⟩
  case round =>
   clear H'
   try clear c1; try clear p2; try clear c3; try clear ak; try clear al; try clear an
   obtain ⟨aa, rfl, HA, aB, ⟨m1, rfl⟩⟩ := hrel
   cases gk with
   | zero => exact absurd HA.out (by simp [laws_eqStringS.l0])
   | succ k1 =>
    have H := HA.out; clear HA; simp only [laws_eqStringS.l0] at H
    by_cases c4 : aa < (l0.length : Int)
    ·rw [if_pos c4] at H; have aq : decide (aa < (l0.length : Int)) = true := decide_eq_true c4; clear c4
     by_cases c5 : 0 ≤ aa
     ·rw [if_pos c5] at H; have aC : decide (0 ≤ aa) = true := decide_eq_true c5; clear c5
      by_cases c6 : aa < (l1.length : Int)
      ·rw [if_pos c6] at H; have aD : decide (aa < (l1.length : Int)) = true := decide_eq_true c6; clear c6
       by_cases c7 : (rdOf ByteArray.empty l0 aa).toList = (rdOf ByteArray.empty l1 aa).toList
       ·rw [if_pos c7] at H; have ar : ((rdOf ByteArray.empty l0 aa).toList == (rdOf ByteArray.empty l1 aa).toList) = true := beq_iff_eq.mpr c7; have au : ((rdOf ByteArray.empty l0 aa).toList != (rdOf ByteArray.empty l1 aa).toList) = false := bne_eq_false_iff_eq.mpr c7; clear c7; have H' := Aside0.mk H; clear H; have ab : 0 ≤ (aa : Int) := od; have ac : aa < (l0.length : Int) := od; obtain ⟨ao, ah, af⟩ := Kd.at_string az.out aa ab ac; cases ah; replace ab := eq_true ab; replace ac := eq_true ac; have ad : 0 ≤ (aa : Int) := od; have ae : aa < (l1.length : Int) := od; obtain ⟨ap, ai, ag⟩ := Kd.at_string aA.out aa ad ae; cases ai; replace ad := eq_true ad; replace ae := eq_true ae
        go_wp2
        repeat (go_quiet (fail); try go_wp2)
        go_roundg k1
        case measure => have := aB.out; omega
        case rel => exact ⟨(wrap64 (aa + 1)), rs, H', ⟨by have := aB.out; omega⟩, by repeat (first | exact Drawn0.refl _ | apply Drawn0.step)⟩
       rw [if_neg c7] at H; have ar : ((rdOf ByteArray.empty l0 aa).toList == (rdOf ByteArray.empty l1 aa).toList) = false := beq_eq_false_iff_ne.mpr c7; have au : ((rdOf ByteArray.empty l0 aa).toList != (rdOf ByteArray.empty l1 aa).toList) = true := bne_iff_ne.mpr c7; obtain rfl := Option.some.inj H; have ab : 0 ≤ (aa : Int) := od; have ac : aa < (l0.length : Int) := od; obtain ⟨ao, ah, af⟩ := Kd.at_string az.out aa ab ac; cases ah; replace ab := eq_true ab; replace ac := eq_true ac; have ad : 0 ≤ (aa : Int) := od; have ae : aa < (l1.length : Int) := od; obtain ⟨ap, ai, ag⟩ := Kd.at_string aA.out aa ad ae; cases ai; replace ad := eq_true ad; replace ae := eq_true ae
       go_wp2
       repeat (go_quiet (fail); try go_wp2)
       go_ret
       exact ⟨by first | rfl | (simp; done) | (simp [*]; done), by repeat (first | exact Drawn0.refl _ | apply Drawn0.step)⟩
      rw [if_neg c6] at H; exact absurd H (by simp)
     rw [if_neg c5] at H; exact absurd H (by simp)
    rw [if_neg c4] at H; have aq : decide (aa < (l0.length : Int)) = false := decide_eq_false c4; clear c4; obtain rfl := Option.some.inj H
    go_wp2
    repeat (go_quiet (fail); try go_wp2)
    go_ret
    exact ⟨by first | rfl | (simp; done) | (simp [*]; done), by repeat (first | exact Drawn0.refl _ | apply Drawn0.step)⟩
 rw [if_neg c3] at H; have ak : ((l0.length : Int) == (l1.length : Int)) = false := beq_eq_false_iff_ne.mpr c3; have al : ((l0.length : Int) != (l1.length : Int)) = true := bne_iff_ne.mpr c3; have an : (l0.length == l1.length) = false := by first | simpa using c3 | (simp at c3 ⊢; omega)
 obtain rfl := Option.some.inj H
 go_enter Try.func43, Try.ntmps43
 go_wp2
 repeat (go_quiet (fail); try go_wp2)
 go_ret
 exact ⟨by first | rfl | (simp; done) | (simp [*]; done), by repeat (first | exact Drawn0.refl _ | apply Drawn0.step)⟩

/-! ### laws_markStringS: function 44 -/
def laws_markStringS.l0 : Nat → List ByteArray → Int → Int → Option (Int × List ByteArray)
 | 0, _, _, _ => none
 | k + 1, x0, x1, x5 => if x5 < (x0.length : Int) then ((laws_markText.f k x1).bind fun ag => (if 0 ≤ x5 then (laws_markStringS.l0 k (x0.set (x5 : Int).toNat ag) (wrap64 (x1 + 1)) (wrap64 (x5 + 1))) else (none))) else (some (x1, x0))
def laws_markStringS.f (k : Nat) (l0 : List ByteArray) (a1 : Int) : Option (Int × List ByteArray) := laws_markStringS.l0 k l0 a1 0
theorem laws_markStringS.mono_l : ∀ k, (∀ y0 y1 y2, LeO (laws_markStringS.l0 k y0 y1 y2) (laws_markStringS.l0 (k + 1) y0 y1 y2))
 | 0 => fun _ _ _ r h => by simp [laws_markStringS.l0] at h
 | k + 1 => by
  have aj := laws_markStringS.mono_l k
  ·intro y0 y1 y2; unfold laws_markStringS.l0
   repeat' first | (with_reducible first | apply aj | apply laws_markText.mono | apply lr | apply ln | apply li | refine lb ?_ fun _ => ?_) | apply aj | apply ln | apply li | refine lb ?_ fun _ => ?_
theorem laws_markStringS.mono : ∀ a0 a1 k, LeO (laws_markStringS.f k a0 a1) (laws_markStringS.f (k + 1) a0 a1) := by
 intro a0 a1 k; have aj := laws_markStringS.mono_l k; unfold laws_markStringS.f
 repeat' first | (with_reducible first | apply aj | apply laws_markText.mono | apply lr | apply ln | apply li | refine lb ?_ fun _ => ?_) | apply aj | apply ln | apply li | refine lb ?_ fun _ => ?_
set_option maxHeartbeats 8000000 in
set_option maxRecDepth 100000 in
theorem laws_markStringS.calls (k : Nat) (ah : Nat → Prop) (ac : Value) (l0 : List ByteArray) (a1 : Int) (r1 : Int) (r2 : List ByteArray) (w0 w : World) (hB : Below w0.heap.size w0 w) (aC : Kd.R Kd.string 9 w w0.heap.size ah ac l0) (h : laws_markStringS.f k l0 a1 = some (r1, r2)) :
  Calls Try.prog 44 #[ac, .int .i64 a1] w fun e w' => e = .returned (.int .i64 r1) ∧ Kd.R Kd.string 9 w' w0.heap.size (fun k_ => (ah k_ ∨ w.heap.size ≤ k_)) ac r2 ∧ Below w0.heap.size w0 w' ∧ Kept w w' (fun k_ => ah k_) := by
 have aD := Aside0.mk (show Kd.R Kd.string 9 w w0.heap.size (fun k_ => (ah k_ ∨ w.heap.size ≤ k_)) ac l0 from Kd.R_mono aC (fun k_ hk => (.inl hk))); have HK := Aside0.mk (Kept.refl w (fun k_ => ah k_)); have aO := Aside0.mk hB.size; have HB := Aside0.mk hB; clear hB; have H : (laws_markStringS.l0 k l0 a1 0) = some (r1, r2) := h; clear h; have H' := Aside0.mk H; clear H
 go_enter Try.func44, Try.ntmps44
 go_wp2
 go_loopg [1, 5] k (fun kq v1 v5 w' => ∃ (ad : List ByteArray) (ae : Int) (aa : Int), v1 = .int .i64 ae ∧ v5 = .int .i64 aa ∧ Aside0 (laws_markStringS.l0 kq ad ae aa = some (r1, r2)) ∧ Aside0 (kq ≤ k) ∧ Aside0 (Kd.R Kd.string 9 w' w0.heap.size (fun k_ => (ah k_ ∨ w.heap.size ≤ k_)) ac ad) ∧ Aside0 (Kept w w' (fun k_ => ah k_)) ∧ Aside0 (Below w0.heap.size w0 w'))
 case atStart => exact ⟨(l0), (a1), (0), rs, rs, H', ⟨Nat.le_refl _⟩, ⟨ro aD⟩, ⟨(kp HK)⟩, ⟨be HB⟩⟩
 case round =>
  clear H'
  try clear p2
  obtain ⟨ad, ae, aa, rfl, rfl, HA, au, ab, HK, HB⟩ := hrel
  cases gk with
  | zero => exact absurd HA.out (by simp [laws_markStringS.l0])
  | succ k1 =>
   have H := HA.out; clear HA; simp only [laws_markStringS.l0] at H
   by_cases c3 : aa < (ad.length : Int)
   ·rw [if_pos c3] at H; have an : decide (aa < (ad.length : Int)) = true := decide_eq_true c3; clear c3; obtain ⟨ag, A4, H⟩ := ob H
    by_cases c5 : 0 ≤ aa
    ·rw [if_pos c5] at H; have aE : decide (0 ≤ aa) = true := decide_eq_true c5; clear c5; obtain ⟨ai, af⟩ : ∃ y_ : List ByteArray, y_ = (ad.set (aa : Int).toNat ag) := ⟨_, rfl⟩; rw [← af] at H; have ak := Aside0.mk af; clear af; have H' := Aside0.mk H; clear H; obtain ⟨aQ, aF, aG⟩ := Kd.R_slice ab.out; subst aG
     go_wp2_with (first | ((with_reducible refine gate_callee (f := 100) rfl ?_); refine gl 15 Try.func100 #[.int .i64 ae] ?_; (with_reducible refine (laws_markText.calls k1 ae ag _ A4.out).mono ?_); rintro e w8 ⟨rfl, hb⟩; refine ⟨_, rfl, ?_⟩; replace ab := rb ab hb; replace HK := kbp HK hb; replace HB := s0 HB hb; (try clear hb); have p6 : 0 ≤ (aa : Int) := od; have q6 : (aa : Int) < ((ad.length : Int) : Int) := od; obtain ⟨al, aR, aw, ax, aH, aU, ay⟩ := Kd.R_form ab.out (by omega); (first | cases aw | (injection aw with ea_ en_ ec_; (first | subst ea_ | (injection ea_ with ea_; subst ea_)); subst ec_; clear en_)); have aI := Aside0.mk ax; have aV := Aside0.mk ay; clear ax aH ay; have az := Aside0.mk (show (ah al ∨ w.heap.size ≤ al) from (ab.out.1 _ rfl)); obtain ⟨aA, aB⟩ := Kd.R_celln (⟨#[]⟩ : ByteArray) ab.out (aa : Int) p6 q6; replace p6 := eq_true p6; replace q6 := eq_true q6; obtain ⟨aJ, aK⟩ := Kd.R_celln (⟨#[]⟩ : ByteArray) ab.out (aa : Int) (od) (od); have ap := Kd.R_putg ab.out (aa : Int) ag) | ((with_reducible refine gate_store (t := 9) (p := 16) rfl ?_); refine store_event (t := 9) (p := 16) (v := ?vo_w10) (w1 := (w8.setCell ⟨al, (aa : Int).toNat, none⟩ (.string ag))) ?hg ?ho ?hn ?hr ?_; (case ho => rfl); (case hg => rfl); (case hn => rfl); (case hr => first | (go_simp; done) | (go_simp; rfl)); intro aq hw; have hg : w8.grownBy aq (some al) := (by rw [hw]; exact ap.2); have hp_ : Kd.R Kd.string 9 aq w0.heap.size (fun k_ => (ah k_ ∨ w.heap.size ≤ k_)) (.slice (some ⟨al, 0, none⟩) ad.length aF) ai := (by rw [hw, ak.out]; exact ap.1); clear ap; replace HB := Aside0.mk ((by rw [hw]; exact below_set (HB.out) aI.out : Below w0.heap.size w0 aq)); replace HK := Aside0.mk (Kept.of_grown (S := (fun k_ => ah k_)) hg (kp HK) (fun k_ e_ => (ab.out.1 k_ e_))); replace ab := Aside0.mk (hp_); clear hg hw hp_))
     go_roundg k1
     case measure => have := au.out; omega
     case rel => exact ⟨(ai), (wrap64 (ae + 1)), (wrap64 (aa + 1)), rs, rs, H', ⟨by have := au.out; omega⟩, ⟨ro ab⟩, ⟨(kp HK)⟩, ⟨be HB⟩⟩
    rw [if_neg c5] at H; exact absurd H (by simp)
   rw [if_neg c3] at H; have an : decide (aa < (ad.length : Int)) = false := decide_eq_false c3; clear c3; simp only [Option.some.injEq, Prod.mk.injEq] at H; obtain ⟨rfl, rfl⟩ := H; obtain ⟨aL, aN, ar⟩ := Kd.R_slice ab.out; subst ar
   go_wp2
   go_ret
   exact ⟨er, (ro ab), be HB, (kp HK)⟩

/-! ### laws_heldStringS: function 45 -/
def laws_heldStringS.l0 : Nat → List ByteArray → Int → Int → Option (Int)
 | 0, _, _, _ => none
 | k + 1, x0, x1, x5 => if x5 < (x0.length : Int) then (if 0 ≤ x5 then ((laws_markText.f k x1).bind fun ad => (if (rdOf ByteArray.empty x0 x5).toList = ad.toList then (laws_heldStringS.l0 k x0 (wrap64 (x1 + 1)) (wrap64 (x5 + 1))) else (some (-1)))) else (none)) else (some x1)
def laws_heldStringS.f (k : Nat) (l0 : List ByteArray) (a1 : Int) : Option (Int) := laws_heldStringS.l0 k l0 a1 0
theorem laws_heldStringS.mono_l : ∀ k, (∀ y0 y1 y2, LeO (laws_heldStringS.l0 k y0 y1 y2) (laws_heldStringS.l0 (k + 1) y0 y1 y2))
 | 0 => fun _ _ _ r h => by simp [laws_heldStringS.l0] at h
 | k + 1 => by
  have ak := laws_heldStringS.mono_l k
  ·intro y0 y1 y2; unfold laws_heldStringS.l0
   repeat' first | (with_reducible first | apply ak | apply laws_markText.mono | apply lr | apply ln | apply li | refine lb ?_ fun _ => ?_) | apply ak | apply ln | apply li | refine lb ?_ fun _ => ?_
theorem laws_heldStringS.mono : ∀ a0 a1 k, LeO (laws_heldStringS.f k a0 a1) (laws_heldStringS.f (k + 1) a0 a1) := by
 intro a0 a1 k; have ak := laws_heldStringS.mono_l k; unfold laws_heldStringS.f
 repeat' first | (with_reducible first | apply ak | apply laws_markText.mono | apply lr | apply ln | apply li | refine lb ?_ fun _ => ?_) | apply ak | apply ln | apply li | refine lb ?_ fun _ => ?_
set_option maxHeartbeats 8000000 in
set_option maxRecDepth 100000 in
theorem laws_heldStringS.calls (k : Nat) (A0 : Option Addr) (c0 : Nat) (l0 : List ByteArray) (a1 : Int) (r : Int) (w : World) (ap : Kd.C Kd.string w A0 l0.length l0) (aq : l0.length ≤ c0) (h : laws_heldStringS.f k l0 a1 = some r) :
  Calls Try.prog 45 #[.slice A0 l0.length c0, .int .i64 a1] w fun e w' => e = .returned (.int .i64 r) ∧ Below w.heap.size w w' := by
 have ar := Aside0.mk ap; have ay := Aside0.mk aq; clear ap aq; have HB := Aside0.mk (Below.refl w.heap.size w); have H : (laws_heldStringS.l0 k l0 a1 0) = some r := h; clear h; have H' := Aside0.mk H; clear H
 go_enter Try.func45, Try.ntmps45
 go_wp2
 go_loopg [1, 5] k (fun kq v1 v5 w' => ∃ (ae : Int) (ab : Int), v1 = .int .i64 ae ∧ v5 = .int .i64 ab ∧ Aside0 (laws_heldStringS.l0 kq l0 ae ab = some r) ∧ Aside0 (kq ≤ k) ∧ Aside0 (Below w.heap.size w w'))
 case atStart => exact ⟨(a1), (0), rs, rs, H', ⟨Nat.le_refl _⟩, ⟨be HB⟩⟩
 case round =>
  clear H'
  try clear p2
  obtain ⟨ae, ab, rfl, rfl, HA, au, HB⟩ := hrel
  cases gk with
  | zero => exact absurd HA.out (by simp [laws_heldStringS.l0])
  | succ k1 =>
   have H := HA.out; clear HA; simp only [laws_heldStringS.l0] at H
   by_cases c3 : ab < (l0.length : Int)
   ·rw [if_pos c3] at H; have al : decide (ab < (l0.length : Int)) = true := decide_eq_true c3; clear c3
    by_cases c4 : 0 ≤ ab
    ·rw [if_pos c4] at H; have aw : decide (0 ≤ ab) = true := decide_eq_true c4; clear c4; obtain ⟨ad, A5, H⟩ := ob H
     try dsimp only at H
     by_cases c6 : (rdOf ByteArray.empty l0 ab).toList = ad.toList
     ·rw [if_pos c6] at H; have an : ((rdOf ByteArray.empty l0 ab).toList == ad.toList) = true := beq_iff_eq.mpr c6; have ao : ((rdOf ByteArray.empty l0 ab).toList != ad.toList) = false := bne_eq_false_iff_eq.mpr c6; clear c6; have H' := Aside0.mk H; clear H
      try go_wp2
      replace HB := eL HB; have af : 0 ≤ (ab : Int) := od; have ag : ab < (l0.length : Int) := od; obtain ⟨ai, aj, aa⟩ := Kd.at_string ar.out ab af ag; have ac := aa; cases aj; replace aa := hc HB aa; replace af := eq_true af; replace ag := eq_true ag; refine start_ (n := 7) (S := fun w' => w'.cell? (ai.add (ab).toNat) = some (.string (rdOf ByteArray.empty l0 ab))) (ds := []) (bv 7 0x0) (by kernel_rfl) rfl rfl ((hc HB ac)) (fun hHeld => ?_); (first | ((conv in (World.drew (World.drewN wr _)) => skip); generalize hqw_ : World.drew (World.drewN wr _) = w7 at hHeld ⊢; replace HB := Aside0.mk (Go.Proofs.Ytfjhkediaholmaa.Mo.below_to hqw_ HB.out); replace aa := Go.Proofs.Ytfjhkediaholmaa.Mo.cell_to hqw_ aa; clear hqw_) | generalize wr.drew = w7 at HB aa hHeld ⊢); refine pure_ (i := 0) (N := some 12) (v := ?_) (a' := ?_) (bv 7 0x1) rfl rfl (by kernel_rfl) (fun _ _ _ h => h) (Or.inl ⟨by rfl, ?_⟩) ?_ ?_
      rotate_left
      ·intro w'
       go_simp
       with_reducible rfl
      rotate_left
      ·simp only [aP]; rfl
      refine pure_ (i := 1) (N := some 13) (v := ?_) (a' := ?_) (bv 7 0x3) rfl rfl (by kernel_rfl) (fun _ _ _ h => h) (Or.inl ⟨by rfl, ?_⟩) ?_ ?_
      rotate_left
      ·intro w'
       go_simp
       with_reducible rfl
      rotate_left
      ·simp only [aP]; rfl
      refine pure_ (i := 2) (N := some 14) (v := ?_) (a' := ?_) (bv 7 0x7) rfl rfl (by kernel_rfl) (fun _ _ _ h => h) (Or.inl ⟨by rfl, ?_⟩) ?_ ?_
      rotate_left
      ·intro w'
       go_simp
       with_reducible rfl
      rotate_left
      ·simp only [aP]; rfl
      refine pure_ (i := 4) (N := some 16) (v := ?_) (a' := ?_) (bv 7 0x17) rfl rfl (by kernel_rfl) (fun _ _ _ h => h) (Or.inl ⟨by rfl, ?_⟩) ?_ ?_
      rotate_left
      ·intro w'
       go_simp
       with_reducible rfl
      rotate_left
      ·simp only [aP]; rfl
      refine take_ (i := 3) (N := some 15) (v := ?_) (a' := ?_) (bv 7 0x1f) rfl rfl (by kernel_rfl) (fun _ _ _ h => h) (Or.inl ⟨by rfl, ?_⟩) hHeld ?_ ?_
      rotate_left
      ·intro w' s0
       go_simp
       with_reducible rfl
      rotate_left
      ·simp only [aP]; rfl
      refine one_ (i := 5) (N := some 17) (bv 7 0x3f) rfl rfl (by kernel_rfl) (by decide) (fun K hK => ?_); refine goes_ Try.func100 (by kernel_rfl) rfl #[.int .i64 ae] (by rfl) rfl rfl ml ?_
      with_reducible refine (laws_markText.calls k1 ae ad _ A5.out).mono ?_
      rintro e w8 ⟨rfl, hb⟩; refine ⟨_, rfl, ?_⟩; replace HB := s0 HB hb; (try clear hb); (try clear ax); (try clear hk); (try clear hi); refine hK.out _ _ ((hc HB ac)) (fun hHeld => ?_); clear hK K; refine norm_ (a' := ?_) ?_ ?_
      rotate_left
      ·show Act.put _ (some 17) _ = _
       simp only [aP]; rfl
      refine pure_ (i := 6) (N := some 18) (v := ?_) (a' := ?_) (bv 7 0x7f) rfl rfl (by kernel_rfl) (fun _ _ _ h => h) (Or.inl ⟨by rfl, ?_⟩) ?_ ?_
      rotate_left
      ·intro w'
       go_simp
       with_reducible rfl
      rotate_left
      ·simp only [aP]; rfl
      refine done_ (by kernel_rfl) ?_
      try go_wp2
      go_roundg k1
      case measure => have := au.out; omega
      case rel => exact ⟨(wrap64 (ae + 1)), (wrap64 (ab + 1)), rs, rs, H', ⟨by have := au.out; omega⟩, ⟨be HB⟩⟩
     rw [if_neg c6] at H; have an : ((rdOf ByteArray.empty l0 ab).toList == ad.toList) = false := beq_eq_false_iff_ne.mpr c6; have ao : ((rdOf ByteArray.empty l0 ab).toList != ad.toList) = true := bne_iff_ne.mpr c6; obtain rfl := Option.some.inj H
     try go_wp2
     replace HB := eL HB; have af : 0 ≤ (ab : Int) := od; have ag : ab < (l0.length : Int) := od; obtain ⟨ai, aj, aa⟩ := Kd.at_string ar.out ab af ag; have ac := aa; cases aj; replace aa := hc HB aa; replace af := eq_true af; replace ag := eq_true ag; refine start_ (n := 7) (S := fun w' => w'.cell? (ai.add (ab).toNat) = some (.string (rdOf ByteArray.empty l0 ab))) (ds := []) (bv 7 0x0) (by kernel_rfl) rfl rfl ((hc HB ac)) (fun hHeld => ?_); (first | ((conv in (World.drew (World.drewN wr _)) => skip); generalize hqw_ : World.drew (World.drewN wr _) = w9 at hHeld ⊢; replace HB := Aside0.mk (Go.Proofs.Ytfjhkediaholmaa.Mo.below_to hqw_ HB.out); replace aa := Go.Proofs.Ytfjhkediaholmaa.Mo.cell_to hqw_ aa; clear hqw_) | generalize wr.drew = w9 at HB aa hHeld ⊢); refine pure_ (i := 0) (N := some 12) (v := ?_) (a' := ?_) (bv 7 0x1) rfl rfl (by kernel_rfl) (fun _ _ _ h => h) (Or.inl ⟨by rfl, ?_⟩) ?_ ?_
     rotate_left
     ·intro w'
      go_simp
      with_reducible rfl
     rotate_left
     ·simp only [aP]; rfl
     refine pure_ (i := 1) (N := some 13) (v := ?_) (a' := ?_) (bv 7 0x3) rfl rfl (by kernel_rfl) (fun _ _ _ h => h) (Or.inl ⟨by rfl, ?_⟩) ?_ ?_
     rotate_left
     ·intro w'
      go_simp
      with_reducible rfl
     rotate_left
     ·simp only [aP]; rfl
     refine pure_ (i := 2) (N := some 14) (v := ?_) (a' := ?_) (bv 7 0x7) rfl rfl (by kernel_rfl) (fun _ _ _ h => h) (Or.inl ⟨by rfl, ?_⟩) ?_ ?_
     rotate_left
     ·intro w'
      go_simp
      with_reducible rfl
     rotate_left
     ·simp only [aP]; rfl
     refine pure_ (i := 4) (N := some 16) (v := ?_) (a' := ?_) (bv 7 0x17) rfl rfl (by kernel_rfl) (fun _ _ _ h => h) (Or.inl ⟨by rfl, ?_⟩) ?_ ?_
     rotate_left
     ·intro w'
      go_simp
      with_reducible rfl
     rotate_left
     ·simp only [aP]; rfl
     refine take_ (i := 3) (N := some 15) (v := ?_) (a' := ?_) (bv 7 0x1f) rfl rfl (by kernel_rfl) (fun _ _ _ h => h) (Or.inl ⟨by rfl, ?_⟩) hHeld ?_ ?_
     rotate_left
     ·intro w' s0
      go_simp
      with_reducible rfl
     rotate_left
     ·simp only [aP]; rfl
     refine one_ (i := 5) (N := some 17) (bv 7 0x3f) rfl rfl (by kernel_rfl) (by decide) (fun K hK => ?_); refine goes_ Try.func100 (by kernel_rfl) rfl #[.int .i64 ae] (by rfl) rfl rfl ml ?_
     with_reducible refine (laws_markText.calls k1 ae ad _ A5.out).mono ?_
     rintro e az ⟨rfl, hb⟩; refine ⟨_, rfl, ?_⟩; replace HB := s0 HB hb; (try clear hb); (try clear ax); (try clear hk); (try clear hi); refine hK.out _ _ ((hc HB ac)) (fun hHeld => ?_); clear hK K; refine norm_ (a' := ?_) ?_ ?_
     rotate_left
     ·show Act.put _ (some 17) _ = _
      simp only [aP]; rfl
     refine pure_ (i := 6) (N := some 18) (v := ?_) (a' := ?_) (bv 7 0x7f) rfl rfl (by kernel_rfl) (fun _ _ _ h => h) (Or.inl ⟨by rfl, ?_⟩) ?_ ?_
     rotate_left
     ·intro w'
      go_simp
      with_reducible rfl
     rotate_left
     ·simp only [aP]; rfl
     refine done_ (by kernel_rfl) ?_
     try go_wp2
     go_ret
     exact ⟨er, be HB⟩
    rw [if_neg c4] at H; exact absurd H (by simp)
   rw [if_neg c3] at H; have al : decide (ab < (l0.length : Int)) = false := decide_eq_false c3; clear c3; obtain rfl := Option.some.inj H
   go_wp2
   go_ret
   exact ⟨er, be HB⟩

end Go.Proofs.Ytfjhkediaholmaa.QFnExactPut
