-- made by a program of this session (myprint.py)
import Derived.Test.YtmmphfonbeddeaaQFnExactRowPutx0
import Derived.Test.YtmmphfonbeddeaaQFnExactRowPutx9
namespace Go.Proofs.Ytmmphfonbeddeaa.QFnExactRowPut
open Go.RowKit Go.Proofs.YtmmphfonbeddeaaW.PrintWords Go.Proofs.YtmmphfonbeddeaaW.PrintLast Go.Proofs.YtmmphfonbeddeaaW.PrintMore
attribute [local go_sem] max2_int min2_int max_two min_two max_three min_three max_four min_four   -- for this text's walks alone
set_option linter.unusedVariables false
set_option linter.unusedSimpArgs false

/-! ### laws_markStringS: function 11 -/
def laws_markStringS.l0 : Nat → List ByteArray → Int → Int → Option (Int × List ByteArray)
 | 0, _, _, _ => none
 | k + 1, x0, x1, x5 => if x5 < (x0.length : Int) then ((laws_markText.f k x1).bind fun ag => (if 0 ≤ x5 then (laws_markStringS.l0 k (x0.set (x5 : Int).toNat ag) (wrap64 (x1 + 1)) (wrap64 (x5 + 1))) else (none))) else (some (x1, x0))
def laws_markStringS.f (k : Nat) (l0 : List ByteArray) (a1 : Int) : Option (Int × List ByteArray) := laws_markStringS.l0 k l0 a1 0
theorem laws_markStringS.mono_l : ∀ k, (∀ y0 y1 y2, LeO (laws_markStringS.l0 k y0 y1 y2) (laws_markStringS.l0 (k + 1) y0 y1 y2))
 | 0 => fun _ _ _ r h => by simp [laws_markStringS.l0] at h
 | k + 1 => by
  have aj := laws_markStringS.mono_l k
  ·intro y0 y1 y2; unfold laws_markStringS.l0
   repeat' first | (with_reducible first | apply aj | apply laws_markText.mono | apply lr | apply ln | apply li | refine lb ?_ fun _ => ?_) | apply aj | apply ln | apply li | refine lb ?_ fun _ => ?_
theorem laws_markStringS.mono : ∀ a0 a1 k, LeO (laws_markStringS.f k a0 a1) (laws_markStringS.f (k + 1) a0 a1) := by
 intro a0 a1 k; have aj := laws_markStringS.mono_l k; unfold laws_markStringS.f
 repeat' first | (with_reducible first | apply aj | apply laws_markText.mono | apply lr | apply ln | apply li | refine lb ?_ fun _ => ?_) | apply aj | apply ln | apply li | refine lb ?_ fun _ => ?_
set_option maxHeartbeats 8000000 in
set_option maxRecDepth 100000 in
theorem laws_markStringS.calls (k : Nat) (ah : Nat → Prop) (ac : Value) (l0 : List ByteArray) (a1 : Int) (r1 : Int) (r2 : List ByteArray) (w0 w : World) (hB : Below w0.heap.size w0 w) (aC : Kd.R Kd.string 9 w w0.heap.size ah ac l0) (h : laws_markStringS.f k l0 a1 = some (r1, r2)) :
  Calls Try.prog 11 #[ac, .int .i64 a1] w fun e w' => e = .returned (.int .i64 r1) ∧ Kd.R Kd.string 9 w' w0.heap.size (fun k_ => (ah k_ ∨ w.heap.size ≤ k_)) ac r2 ∧ Below w0.heap.size w0 w' ∧ Kept w w' (fun k_ => ah k_) := by
 have aD := Aside0.mk (show Kd.R Kd.string 9 w w0.heap.size (fun k_ => (ah k_ ∨ w.heap.size ≤ k_)) ac l0 from Kd.R_mono aC (fun k_ hk => (.inl hk))); have HK := Aside0.mk (Kept.refl w (fun k_ => ah k_)); have aO := Aside0.mk hB.size; have HB := Aside0.mk hB; clear hB; have H : (laws_markStringS.l0 k l0 a1 0) = some (r1, r2) := h; clear h; have H' := Aside0.mk H; clear H
 go_enter Try.func11, Try.ntmps11
 go_wp2
 go_loopg [1, 5] k (fun kq v1 v5 w' => ∃ (ad : List ByteArray) (ae : Int) (aa : Int), v1 = .int .i64 ae ∧ v5 = .int .i64 aa ∧ Aside0 (laws_markStringS.l0 kq ad ae aa = some (r1, r2)) ∧ Aside0 (kq ≤ k) ∧ Aside0 (Kd.R Kd.string 9 w' w0.heap.size (fun k_ => (ah k_ ∨ w.heap.size ≤ k_)) ac ad) ∧ Aside0 (Kept w w' (fun k_ => ah k_)) ∧ Aside0 (Below w0.heap.size w0 w'))
 case atStart => exact ⟨(l0), (a1), (0), rs, rs, H', ⟨Nat.le_refl _⟩, ⟨ro aD⟩, ⟨(kp HK)⟩, ⟨be HB⟩⟩
 case round =>
  clear H'
  try clear c1; try clear p2
  obtain ⟨ad, ae, aa, rfl, rfl, HA, au, ab, HK, HB⟩ := hrel
  cases gk with
  | zero => exact absurd HA.out (by simp [laws_markStringS.l0])
  | succ k1 =>
   have H := HA.out; clear HA; simp only [laws_markStringS.l0] at H
   by_cases c3 : aa < (ad.length : Int)
   ·rw [if_pos c3] at H; have an : decide (aa < (ad.length : Int)) = true := decide_eq_true c3; clear c3; obtain ⟨ag, A4, H⟩ := ob H
    by_cases c5 : 0 ≤ aa
    ·rw [if_pos c5] at H; have aE : decide (0 ≤ aa) = true := decide_eq_true c5; clear c5; obtain ⟨ai, af⟩ : ∃ y_ : List ByteArray, y_ = (ad.set (aa : Int).toNat ag) := ⟨_, rfl⟩; rw [← af] at H; have ak := Aside0.mk af; clear af; have H' := Aside0.mk H; clear H; obtain ⟨aQ, aF, aG⟩ := Kd.R_slice ab.out; subst aG
     go_wp2_with (first | ((with_reducible refine gate_callee (f := 28) rfl ?_); refine gl 15 Try.func28 #[.int .i64 ae] ?_; (with_reducible refine (laws_markText.calls k1 ae ag _ A4.out).mono ?_); rintro e w8 ⟨rfl, hb⟩; refine ⟨_, rfl, ?_⟩; replace ab := rb ab hb; replace HK := kbp HK hb; replace HB := s0 HB hb; (try clear hb); have p6 : 0 ≤ (aa : Int) := od; have q6 : (aa : Int) < ((ad.length : Int) : Int) := od; obtain ⟨al, aR, aw, ax, aH, aU, ay⟩ := Kd.R_form ab.out (by omega); (first | cases aw | (injection aw with ea_ en_ ec_; (first | subst ea_ | (injection ea_ with ea_; subst ea_)); subst ec_; clear en_)); have aI := Aside0.mk ax; have aV := Aside0.mk ay; clear ax aH ay; have az := Aside0.mk (show (ah al ∨ w.heap.size ≤ al) from (ab.out.1 _ rfl)); obtain ⟨aA, aB⟩ := Kd.R_celln (⟨#[]⟩ : ByteArray) ab.out (aa : Int) p6 q6; replace p6 := eq_true p6; replace q6 := eq_true q6; obtain ⟨aJ, aK⟩ := Kd.R_celln (⟨#[]⟩ : ByteArray) ab.out (aa : Int) (od) (od); have ap := Kd.R_putg ab.out (aa : Int) ag) | ((with_reducible refine gate_store (t := 9) (p := 16) rfl ?_); refine store_event (t := 9) (p := 16) (v := ?vo_w10) (w1 := (w8.setCell ⟨al, (aa : Int).toNat, none⟩ (.string ag))) ?hg ?ho ?hn ?hr ?_; (case ho => rfl); (case hg => rfl); (case hn => rfl); (case hr => first | (go_simp; done) | (go_simp; rfl)); intro aq hw; have hg : w8.grownBy aq (some al) := (by rw [hw]; exact ap.2); have hp_ : Kd.R Kd.string 9 aq w0.heap.size (fun k_ => (ah k_ ∨ w.heap.size ≤ k_)) (.slice (some ⟨al, 0, none⟩) ad.length aF) ai := (by rw [hw, ak.out]; exact ap.1); clear ap; replace HB := Aside0.mk ((by rw [hw]; exact below_set (HB.out) aI.out : Below w0.heap.size w0 aq)); replace HK := Aside0.mk (Kept.of_grown (S := (fun k_ => ah k_)) hg (kp HK) (fun k_ e_ => (ab.out.1 k_ e_))); replace ab := Aside0.mk (hp_); clear hg hw hp_))
     go_roundg k1
     case measure => have := au.out; omega
     case rel => exact ⟨(ai), (wrap64 (ae + 1)), (wrap64 (aa + 1)), rs, rs, H', ⟨by have := au.out; omega⟩, ⟨ro ab⟩, ⟨(kp HK)⟩, ⟨be HB⟩⟩
    rw [if_neg c5] at H; exact absurd H (by simp)
   rw [if_neg c3] at H; have an : decide (aa < (ad.length : Int)) = false := decide_eq_false c3; clear c3; simp only [Option.some.injEq, Prod.mk.injEq] at H; obtain ⟨rfl, rfl⟩ := H; obtain ⟨aL, aN, ar⟩ := Kd.R_slice ab.out; subst ar
   go_wp2
   go_ret
   exact ⟨er, (ro ab), be HB, (kp HK)⟩

end Go.Proofs.Ytmmphfonbeddeaa.QFnExactRowPut
