-- made by a program of this session (myprint.py)
import Derived.Test.YtmmphfonbeddeaaQFnExactRowPutx0
import Derived.Test.YtmmphfonbeddeaaQFnExactRowPutx9
namespace Go.Proofs.Ytmmphfonbeddeaa.QFnExactRowPut
open Go.RowKit Go.Proofs.YtmmphfonbeddeaaW.PrintWords Go.Proofs.YtmmphfonbeddeaaW.PrintLast Go.Proofs.YtmmphfonbeddeaaW.PrintMore
attribute [local go_sem] max2_int min2_int max_two min_two max_three min_three max_four min_four   -- for this text's walks alone
set_option linter.unusedVariables false
set_option linter.unusedSimpArgs false

/-! ### laws_heldStringS: function 13 -/
def laws_heldStringS.l0 : Nat → List ByteArray → Int → Int → Option (Int)
 | 0, _, _, _ => none
 | k + 1, x0, x1, x5 => if x5 < (x0.length : Int) then (if 0 ≤ x5 then ((laws_markText.f k x1).bind fun ad => (if (rdOf ByteArray.empty x0 x5).toList = ad.toList then (laws_heldStringS.l0 k x0 (wrap64 (x1 + 1)) (wrap64 (x5 + 1))) else (some (-1)))) else (none)) else (some x1)
def laws_heldStringS.f (k : Nat) (l0 : List ByteArray) (a1 : Int) : Option (Int) := laws_heldStringS.l0 k l0 a1 0
theorem laws_heldStringS.mono_l : ∀ k, (∀ y0 y1 y2, LeO (laws_heldStringS.l0 k y0 y1 y2) (laws_heldStringS.l0 (k + 1) y0 y1 y2))
 | 0 => fun _ _ _ r h => by simp [laws_heldStringS.l0] at h
 | k + 1 => by
  have ak := laws_heldStringS.mono_l k
  ·intro y0 y1 y2; unfold laws_heldStringS.l0
   repeat' first | (with_reducible first | apply ak | apply laws_markText.mono | apply lr | apply ln | apply li | refine lb ?_ fun _ => ?_) | apply ak | apply ln | apply li | refine lb ?_ fun _ => ?_
theorem laws_heldStringS.mono : ∀ a0 a1 k, LeO (laws_heldStringS.f k a0 a1) (laws_heldStringS.f (k + 1) a0 a1) := by
 intro a0 a1 k; have ak := laws_heldStringS.mono_l k; unfold laws_heldStringS.f
 repeat' first | (with_reducible first | apply ak | apply laws_markText.mono | apply lr | apply ln | apply li | refine lb ?_ fun _ => ?_) | apply ak | apply ln | apply li | refine lb ?_ fun _ => ?_
set_option maxHeartbeats 8000000 in
set_option maxRecDepth 100000 in
theorem laws_heldStringS.calls (k : Nat) (A0 : Option Addr) (c0 : Nat) (l0 : List ByteArray) (a1 : Int) (r : Int) (w : World) (ap : Kd.C Kd.string w A0 l0.length l0) (aq : l0.length ≤ c0) (h : laws_heldStringS.f k l0 a1 = some r) :
  Calls Try.prog 13 #[.slice A0 l0.length c0, .int .i64 a1] w fun e w' => e = .returned (.int .i64 r) ∧ Below w.heap.size w w' := by
 have ar := Aside0.mk ap; have ay := Aside0.mk aq; clear ap aq; have HB := Aside0.mk (Below.refl w.heap.size w); have H : (laws_heldStringS.l0 k l0 a1 0) = some r := h; clear h; have H' := Aside0.mk H; clear H
 go_enter Try.func13, Try.ntmps13
 go_wp2
 go_loopg [1, 5] k (fun kq v1 v5 w' => ∃ (ae : Int) (ab : Int), v1 = .int .i64 ae ∧ v5 = .int .i64 ab ∧ Aside0 (laws_heldStringS.l0 kq l0 ae ab = some r) ∧ Aside0 (kq ≤ k) ∧ Aside0 (Below w.heap.size w w'))
 case atStart => exact ⟨(a1), (0), rs, rs, H', ⟨Nat.le_refl _⟩, ⟨be HB⟩⟩
 case round =>
  clear H'
  try clear c1; try clear p2
  obtain ⟨ae, ab, rfl, rfl, HA, au, HB⟩ := hrel
  cases gk with
  | zero => exact absurd HA.out (by simp [laws_heldStringS.l0])
  | succ k1 =>
   have H := HA.out; clear HA; simp only [laws_heldStringS.l0] at H
   by_cases c3 : ab < (l0.length : Int)
   ·rw [if_pos c3] at H; have al : decide (ab < (l0.length : Int)) = true := decide_eq_true c3; clear c3
    by_cases c4 : 0 ≤ ab
    ·rw [if_pos c4] at H; have aw : decide (0 ≤ ab) = true := decide_eq_true c4; clear c4; obtain ⟨ad, A5, H⟩ := ob H
     try dsimp only at H
     by_cases c6 : (rdOf ByteArray.empty l0 ab).toList = ad.toList
     ·rw [if_pos c6] at H; have an : ((rdOf ByteArray.empty l0 ab).toList == ad.toList) = true := beq_iff_eq.mpr c6; have ao : ((rdOf ByteArray.empty l0 ab).toList != ad.toList) = false := bne_eq_false_iff_eq.mpr c6; clear c6; have H' := Aside0.mk H; clear H
      try go_wp2
      replace HB := eL HB; have af : 0 ≤ (ab : Int) := od; have ag : ab < (l0.length : Int) := od; obtain ⟨ai, aj, aa⟩ := Kd.at_string ar.out ab af ag; have ac := aa; cases aj; replace aa := hc HB aa; replace af := eq_true af; replace ag := eq_true ag; refine start_ (n := 7) (S := fun w' => w'.cell? (ai.add (ab).toNat) = some (.string (rdOf ByteArray.empty l0 ab))) (ds := []) (bv 7 0x0) (by kernel_rfl) rfl rfl ((hc HB ac)) (fun hHeld => ?_); (first | ((conv in (World.drew (World.drewN wr _)) => skip); generalize hqw_ : World.drew (World.drewN wr _) = w7 at hHeld ⊢; replace HB := Aside0.mk (Go.Proofs.Ytmmphfonbeddeaa.Mo.below_to hqw_ HB.out); replace aa := Go.Proofs.Ytmmphfonbeddeaa.Mo.cell_to hqw_ aa; clear hqw_) | generalize wr.drew = w7 at HB aa hHeld ⊢); refine pz 0 12 (bv 7 0x1) ?_
      refine pz 1 13 (bv 7 0x3) ?_
      refine pz 2 14 (bv 7 0x7) ?_
      refine pz 4 16 (bv 7 0x17) ?_
      refine tz hHeld 3 15 (bv 7 0x1f) ?_
      refine oz 5 (some 17) (bv 7 0x3f) fun K hK => ?_; refine gz Try.func28 #[.int .i64 ae] ?_
      with_reducible refine (laws_markText.calls k1 ae ad _ A5.out).mono ?_
      rintro e w8 ⟨rfl, hb⟩; refine ⟨_, rfl, ?_⟩; replace HB := s0 HB hb; (try clear hb); (try clear ax); (try clear hk); (try clear hi); refine hK.out _ _ ((hc HB ac)) (fun hHeld => ?_); clear hK K; refine nx ?_
      refine pz 6 18 (bv 7 0x7f) ?_
      refine dz ?_
      try go_wp2
      go_roundg k1
      case measure => have := au.out; omega
      case rel => exact ⟨(wrap64 (ae + 1)), (wrap64 (ab + 1)), rs, rs, H', ⟨by have := au.out; omega⟩, ⟨be HB⟩⟩
     rw [if_neg c6] at H; have an : ((rdOf ByteArray.empty l0 ab).toList == ad.toList) = false := beq_eq_false_iff_ne.mpr c6; have ao : ((rdOf ByteArray.empty l0 ab).toList != ad.toList) = true := bne_iff_ne.mpr c6; obtain rfl := Option.some.inj H
     try go_wp2
     replace HB := eL HB; have af : 0 ≤ (ab : Int) := od; have ag : ab < (l0.length : Int) := od; obtain ⟨ai, aj, aa⟩ := Kd.at_string ar.out ab af ag; have ac := aa; cases aj; replace aa := hc HB aa; replace af := eq_true af; replace ag := eq_true ag; refine start_ (n := 7) (S := fun w' => w'.cell? (ai.add (ab).toNat) = some (.string (rdOf ByteArray.empty l0 ab))) (ds := []) (bv 7 0x0) (by kernel_rfl) rfl rfl ((hc HB ac)) (fun hHeld => ?_); (first | ((conv in (World.drew (World.drewN wr _)) => skip); generalize hqw_ : World.drew (World.drewN wr _) = w9 at hHeld ⊢; replace HB := Aside0.mk (Go.Proofs.Ytmmphfonbeddeaa.Mo.below_to hqw_ HB.out); replace aa := Go.Proofs.Ytmmphfonbeddeaa.Mo.cell_to hqw_ aa; clear hqw_) | generalize wr.drew = w9 at HB aa hHeld ⊢); refine pz 0 12 (bv 7 0x1) ?_
     refine pz 1 13 (bv 7 0x3) ?_
     refine pz 2 14 (bv 7 0x7) ?_
     refine pz 4 16 (bv 7 0x17) ?_
     refine tz hHeld 3 15 (bv 7 0x1f) ?_
     refine oz 5 (some 17) (bv 7 0x3f) fun K hK => ?_; refine gz Try.func28 #[.int .i64 ae] ?_
     with_reducible refine (laws_markText.calls k1 ae ad _ A5.out).mono ?_
     rintro e az ⟨rfl, hb⟩; refine ⟨_, rfl, ?_⟩; replace HB := s0 HB hb; (try clear hb); (try clear ax); (try clear hk); (try clear hi); refine hK.out _ _ ((hc HB ac)) (fun hHeld => ?_); clear hK K; refine nx ?_
     refine pz 6 18 (bv 7 0x7f) ?_
     refine dz ?_
     try go_wp2
     go_ret
     exact ⟨er, be HB⟩
    rw [if_neg c4] at H; exact absurd H (by simp)
   rw [if_neg c3] at H; have al : decide (ab < (l0.length : Int)) = false := decide_eq_false c3; clear c3; obtain rfl := Option.some.inj H
   go_wp2
   go_ret
   exact ⟨er, be HB⟩

end Go.Proofs.Ytmmphfonbeddeaa.QFnExactRowPut
